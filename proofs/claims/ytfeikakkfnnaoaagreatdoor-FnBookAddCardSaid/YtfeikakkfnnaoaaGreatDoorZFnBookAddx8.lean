/- Part of the proof of the law FnBookAdd: what it uses of the texts that this session and the kit's print wrote. -/
import Derived.Test.YtfeikakkfnnaoaaGreatDoorZFnBookAddx7
namespace Go.Proofs.YtfeikakkfnnaoaaGreatDoor.QA
open Go.RowKit Go.Proofs.YtfeikakkfnnaoaaGreatDoorW.PrintWords Go.Proofs.YtfeikakkfnnaoaaGreatDoorW.PrintLast Go.Proofs.YtfeikakkfnnaoaaGreatDoorW.PrintMore
attribute [local go_sem] max2_int min2_int max_two min_two max_three min_three max_four min_four
set_option linter.unusedVariables false
set_option linter.unusedSimpArgs false
set_option maxHeartbeats 8000000
set_option maxRecDepth 100000
mutual
def impl_costs.l0 : Nat → ByteArray → ByteArray → List (List Int) → Int → Option ((List (List Int)))
 | 0, _, _, _, _ => none
 | k + 1, x0, x1, x5, x6 => if x6 ≥ 0 then (if 0 ≤ (wrap64 ((x1.size : Int) + 1)) then (if (wrap64 ((x1.size : Int) + 1) : Int).toNat ≤ 35184372088832 then (if 0 ≤ x6 then (if x6 < (x5.length : Int) then (impl_costs.l1 k x0 x1 (x5.set (x6 : Int).toNat (List.replicate (wrap64 ((x1.size : Int) + 1) : Int).toNat 0)) x6 (x1.size : Int)) else (none)) else (none)) else (none)) else (none)) else (some x5)
def impl_costs.l1 : Nat → ByteArray → ByteArray → List (List Int) → Int → Int → Option ((List (List Int)))
 | 0, _, _, _, _, _ => none
 | k + 1, x0, x1, x5, x6, x7 => if x7 ≥ 0 then (if x6 = (x0.size : Int) then (if 0 ≤ x6 then (if x6 < (x5.length : Int) then (if 0 ≤ x7 then (if x7 < ((rd_L3 x5 x6).length : Int) then (impl_costs.l1 k x0 x1 (x5.set (x6 : Int).toNat ((rd_L3 x5 x6).set (x7 : Int).toNat (wrap64 ((x1.size : Int) - x7)))) x6 (wrap64 (x7 - 1))) else (none)) else (none)) else (none)) else (none)) else (if x7 = (x1.size : Int) then (if 0 ≤ x6 then (if x6 < (x5.length : Int) then (if 0 ≤ x7 then (if x7 < ((rd_L3 x5 x6).length : Int) then (impl_costs.l1 k x0 x1 (x5.set (x6 : Int).toNat ((rd_L3 x5 x6).set (x7 : Int).toNat (wrap64 ((x0.size : Int) - x6)))) x6 (wrap64 (x7 - 1))) else (none)) else (none)) else (none)) else (none)) else (if 0 ≤ (wrap64 (x6 + 1)) then (if (wrap64 (x6 + 1)) < (x5.length : Int) then (if 0 ≤ (wrap64 (x7 + 1)) then (if (wrap64 (x7 + 1)) < ((rd_L3 x5 (wrap64 (x6 + 1))).length : Int) then (if 0 ≤ x6 then (if x6 < (x0.size : Int) then (if 0 ≤ x7 then (if x7 < (x1.size : Int) then (if (bt x0 x6) = (bt x1 x7) then (if x6 < (x5.length : Int) then (if x7 < ((rd_L3 x5 (wrap64 (x6 + 1))).length : Int) then (if (wrap64 (x7 + 1)) < ((rd_L3 x5 x6).length : Int) then (if x7 < ((rd_L3 x5 x6).length : Int) then (impl_costs.l1 k x0 x1 (x5.set (x6 : Int).toNat ((rd_L3 x5 x6).set (x7 : Int).toNat (mn (mn (rd (rd_L3 x5 (wrap64 (x6 + 1))) (wrap64 (x7 + 1))) (wrap64 ((rd (rd_L3 x5 (wrap64 (x6 + 1))) x7) + 1))) (wrap64 ((rd (rd_L3 x5 x6) (wrap64 (x7 + 1))) + 1))))) x6 (wrap64 (x7 - 1))) else (none)) else (none)) else (none)) else (none)) else (if x6 < (x5.length : Int) then (if x7 < ((rd_L3 x5 (wrap64 (x6 + 1))).length : Int) then (if (wrap64 (x7 + 1)) < ((rd_L3 x5 x6).length : Int) then (if x7 < ((rd_L3 x5 x6).length : Int) then (impl_costs.l1 k x0 x1 (x5.set (x6 : Int).toNat ((rd_L3 x5 x6).set (x7 : Int).toNat (mn (mn (wrap64 ((rd (rd_L3 x5 (wrap64 (x6 + 1))) (wrap64 (x7 + 1))) + 1)) (wrap64 ((rd (rd_L3 x5 (wrap64 (x6 + 1))) x7) + 1))) (wrap64 ((rd (rd_L3 x5 x6) (wrap64 (x7 + 1))) + 1))))) x6 (wrap64 (x7 - 1))) else (none)) else (none)) else (none)) else (none))) else (none)) else (none)) else (none)) else (none)) else (none)) else (none)) else (none)) else (none)))) else (impl_costs.l0 k x0 x1 x5 (wrap64 (x6 - 1)))
end
def impl_costs.f (k : Nat) (a0 : ByteArray) (a1 : ByteArray) : Option ((List (List Int))) := if 0 ≤ (wrap64 ((a0.size : Int) + 1)) then (if (wrap64 ((a0.size : Int) + 1) : Int).toNat ≤ 11728124029610 then (impl_costs.l0 k a0 a1 (List.replicate (wrap64 ((a0.size : Int) + 1) : Int).toNat []) (a0.size : Int)) else (none)) else (none)
def impl_costs.T12 : Bool × List (List Nat × List Nat) := (true, [([], []), ([], []), ([0, 1], [0, 1]), ([2], [2]), ([], []), ([], []), ([], []), ([], []), ([7], [7]), ([6, 8], [6, 8]), ([9], [9]), ([], []), ([10, 11], [10, 11]), ([12], [12]), ([13], [13]), ([], []), ([], []), ([15, 16], [15, 16]), ([17], [17]), ([], []), ([19], [19]), ([18, 20], [18, 20]), ([21], [21]), ([22], [22]), ([5, 14, 23], [5, 14, 23]), ([3, 4, 0, 1, 2, 3, 4, 5, 6, 7, 8, 9, 10, 11, 12, 13, 14, 15, 16, 17, 18, 19, 20, 21, 22, 23, 24], [3, 4]), ([25, 24, 0, 1, 2, 3, 4, 5, 6, 7, 8, 9, 10, 11, 12, 13, 14, 15, 16, 17, 18, 19, 20, 21, 22, 23, 24], [24, 25])])
def impl_costs.B12 : List Nat := [0, 0, 3, 7, 0, 0, 0, 0, 128, 448, 960, 0, 4032, 8128, 16320, 0, 0, 98304, 229376, 0, 524288, 2064384, 4161536, 8355840, 16777184, 33554431, 67108863]
theorem impl_costs.tab12 : rtab .any (opsOf Tryz.f150 12) = impl_costs.T12 := by kernel_rfl
theorem impl_costs.bits12 : waitsOk impl_costs.T12.2 impl_costs.B12 = true := by kernel_rfl
theorem impl_costs.calls (k : Nat) (a0 : ByteArray) (a1 : ByteArray) (r : List (List Int)) (w : World) (h : impl_costs.f k a0 a1 = some r) :
  Calls Tryz.prog 150 #[.string a0, .string a1] w fun e w' => ∃ v0_ : Value, e = .returned (v0_) ∧ Kd.S (Kd.slice 3 (Kd.int .i64)) 35 w' w.heap.size (fun _ => True) v0_ r ∧ Below w.heap.size w w' := by
 (have HB := Aside0.mk (Below.refl w.heap.size w)); (have H : (if 0 ≤ (wrap64 ((a0.size : Int) + 1)) then (if (wrap64 ((a0.size : Int) + 1) : Int).toNat ≤ 11728124029610 then (impl_costs.l0 k a0 a1 (List.replicate (wrap64 ((a0.size : Int) + 1) : Int).toNat []) (a0.size : Int)) else (none)) else (none)) = some r := h); clear h; (obtain ⟨ji3, hji3⟩ : ∃ j_ : Int, (wrap64 ((a0.size : Int) + 1)) = j_ := ⟨_, rfl⟩); (replace H : (if 0 ≤ (ji3) then (if (ji3 : Int).toNat ≤ 11728124029610 then (impl_costs.l0 k a0 a1 (List.replicate (ji3 : Int).toNat []) (a0.size : Int)) else (none)) else (none)) = some r := by first | (rw [hji3] at H; exact H) | (simp only [hji3] at H ⊢; exact H)); (have hji3w : (IntKind.i64.wrap ((a0.size : Int) + 1)) = ji3 := (i64_w _).trans hji3); (obtain ⟨c4b0, c4b1, H⟩ := qT2 H); (obtain ⟨c5b0, c5b1, H⟩ := qT2 H); (obtain ⟨y145, hy145⟩ : ∃ y_ : List (List Int), y_ = (List.replicate (ji3 : Int).toNat []) := ⟨_, rfl⟩); (replace H : (impl_costs.l0 k a0 a1 y145 (a0.size : Int)) = some r := qY hy145 H); (have Ny145 := Aside0.mk hy145); clear hy145; (have H' := Aside0.mk H); clear H
 go_enter Tryz.func150, Tryz.ntmps150
 go_wp2_with (first | ((with_reducible refine gate_dst (N := 12) rfl ?_); refine Kd.S_make (Kd.slice 3 (Kd.int .i64)) _ 35 rfl (N := 12) rfl 155 _ _ rfl ji3 rfl rfl Tryz.underlying155 (.slice none 0 0) 24 info35 rfl (by decide) (by omega) [] (ok := fun _ => True) (okp := fun _ => True) ⟨_, rfl, Kd.R_nil _ _ _ _ _⟩ (fun _ hk => hk) trivial (qO) (Nat.le_trans (Nat.mul_le_mul_right _ (qO : ji3.toNat ≤ 11728124029610)) (by omega)) (Below.refl _ _) (Nat.le_refl _) ?_; intro v146 w6 ho7 hb hg_ hnew_; clear hg_ hnew_; (first | rw [← Ny145.out] at ho7 | (simp only [Int.reduceToNat] at ho7; rw [← Ny145.out] at ho7)); have HO147 := Aside0.mk (Kd.S_lower ho7 (below_size (qS0 HB))); replace HB := Aside0.mk (below_step (qS0 HB) hb); clear hb ho7))
 go_loopg [6] k (fun kq v6 w' => ∃ (x5_1 : List (List Int)) (x6_1 : Int), v6 = .int .i64 x6_1 ∧ Aside0 (impl_costs.l0 kq a0 a1 x5_1 x6_1 = some r) ∧ Aside0 (kq ≤ k) ∧ Aside0 (Kd.S (Kd.slice 3 (Kd.int .i64)) 35 w' w.heap.size (fun _ => True) v146 x5_1) ∧ Aside0 (Below w.heap.size w w'))
 case atStart => exact ⟨(y145), ((a0.size : Int)), qV, H', ⟨Nat.le_refl _⟩, ⟨by (with_reducible repeat (first | apply Kd.S_alloc | apply Kd.S_drewN | apply Kd.S_drew)); exact HO147.out⟩, ⟨qS0 HB⟩⟩
 case round =>
  clear H'; (try clear c4b0); (try clear c4b1); (try clear c5b0); (try clear c5b1); (obtain ⟨x5_1, x6_1, rfl, HA, HK1, HO_5, HB⟩ := hrel)
  cases gk with
  | zero => exact absurd HA.out (by simp [impl_costs.l0])
  | succ k1 =>
   (have H := HA.out); clear HA; (simp only [impl_costs.l0] at H)
   rcases qI H with ⟨(c8b0 : decide (0 ≤ x6_1) = true), H⟩ | ⟨(c8b0 : decide (0 ≤ x6_1) = false), H⟩
   ·obtain ⟨ji9, hji9⟩ : ∃ j_ : Int, (wrap64 ((a1.size : Int) + 1)) = j_ := ⟨_, rfl⟩
    (replace H : (if 0 ≤ (ji9) then (if (ji9 : Int).toNat ≤ 35184372088832 then (if 0 ≤ x6_1 then (if x6_1 < (x5_1.length : Int) then (impl_costs.l1 k1 a0 a1 (x5_1.set (x6_1 : Int).toNat (List.replicate (ji9 : Int).toNat 0)) x6_1 (a1.size : Int)) else (none)) else (none)) else (none)) else (none)) = some r := by first | (rw [hji9] at H; exact H) | (simp only [hji9] at H ⊢; exact H)); (have hji9w : (IntKind.i64.wrap ((a1.size : Int) + 1)) = ji9 := (i64_w _).trans hji9); (obtain ⟨c10b0, c10b1, H⟩ := qT2 H); (obtain ⟨c11b0, c11b1, H⟩ := qT2 H); (obtain ⟨y148, hy148⟩ : ∃ y_ : List Int, y_ = (List.replicate (ji9 : Int).toNat 0) := ⟨_, rfl⟩); (replace H : (if 0 ≤ x6_1 then (if x6_1 < (x5_1.length : Int) then (impl_costs.l1 k1 a0 a1 (x5_1.set (x6_1 : Int).toNat y148) x6_1 (a1.size : Int)) else (none)) else (none)) = some r := qY hy148 H); (have Ny148 := Aside0.mk hy148); clear hy148; (obtain ⟨c12b0, H⟩ := qT H); (obtain ⟨c13b0, H⟩ := qT H); (obtain ⟨y151, hy151⟩ : ∃ y_ : List (List Int), y_ = (x5_1.set (x6_1 : Int).toNat y148) := ⟨_, rfl⟩); (replace H : (impl_costs.l1 k1 a0 a1 y151 x6_1 (a1.size : Int)) = some r := qY hy151 H); (have Ny151 := Aside0.mk hy151); clear hy151; (have H' := Aside0.mk H); clear H
    go_wp2_with (first | ((with_reducible refine gate_dst (N := 24) rfl ?_); refine Kd.R_make (Kd.int .i64) _ 3 rfl (N := 24) rfl 35 _ _ rfl ji9 rfl rfl Tryz.underlying35 (.int .i64 0) 8 info3 rfl (by decide) (by omega) 0 (ok := fun _ => True) (okp := fun _ => True) rfl (fun _ hk => hk) trivial (qO) (Nat.le_trans (Nat.mul_le_mul_right _ (qO : ji9.toNat ≤ 35184372088832)) (by omega)) (Below.refl _ _) (Nat.le_refl _) ?_; intro v149 w15 ho16 hb hg_ hnew_; clear hg_ hnew_; (first | rw [← Ny148.out] at ho16 | (simp only [Int.reduceToNat] at ho16; rw [← Ny148.out] at ho16)); replace HO_5 := Aside0.mk (Kd.S_elder' (by (with_reducible repeat (first | apply Kd.S_alloc | apply Kd.S_drewN | apply Kd.S_drew)); exact HO_5.out) (Kd.R_base ho16) hb); have HO150 := Aside0.mk (Kd.R_lower ho16 (below_size (qS0 HB))); replace HB := Aside0.mk (below_step (qS0 HB) hb); clear hb ho16; have p14 : 0 ≤ (x6_1 : Int) := qO; have q14 : (x6_1 : Int) < ((x5_1.length : Int) : Int) := qO; obtain ⟨go14, co14, eo14, gb14, gl14, cl14, HG14⟩ := Kd.S_form HO_5.out (by omega); (first | cases eo14 | (injection eo14 with ea_ en_ ec_; (first | subst ea_ | (injection ea_ with ea_; subst ea_)); subst ec_; clear en_)); have GB14 := Aside0.mk gb14; have GG14 := Aside0.mk HG14; clear gb14 gl14 HG14; obtain ⟨_, ce14, hcl14, hM14, hcc14, hfr14, _, _⟩ := Kd.S_elem HO_5.out [] (x6_1 : Int) p14 q14; obtain ⟨ve14_0, rfl, ge14_0⟩ := hM14; have hx14_0 := hcc14 0 _ rfl; have hf14_0 := hfr14 0; (try simp only [show ((Kd.slice 3 (Kd.int .i64))).sz = 1 from rfl, Nat.mul_one, Nat.add_zero] at hx14_0); (try simp only [show ((Kd.slice 3 (Kd.int .i64))).sz = 1 from rfl, Nat.mul_one, Nat.add_zero] at hf14_0); clear hcl14 hcc14 hfr14; (try clear hM14); replace p14 := eq_true p14; replace q14 := eq_true q14; have n_ := Aside0.mk (Kd.S_mono (ok' := (fun k_ => some k_ ≠ (v149 : Value).ownBlock)) HO_5.out (fun k_ hk => hk.2)); clear HO_5; have HO_5 := n_; clear n_; have HX17 := Aside0.mk (show Kd.S (Kd.slice 3 (Kd.int .i64)) 35 w15 w.heap.size (fun k_ => ((fun _ => True)) k_ ∧ ¬ ((fun k_ => some k_ = (v149 : Value).ownBlock)) k_) (.slice (some ⟨go14, 0, none⟩) x5_1.length co14) x5_1 from (by (with_reducible repeat (first | apply Kd.S_alloc | apply Kd.S_drewN | apply Kd.S_drew)); exact Kd.S_mono HO_5.out (fun k_ hk => ⟨trivial, fun e_ => hk e_⟩))); obtain ⟨oki17, ce17, hcl17, hM17, hcc17, hfr17, hoki17, hH17⟩ := Kd.S_elem HX17.out [] (x6_1 : Int) (qO) (by have h_ : (x6_1 : Int) < ((x5_1.length : Int) : Int) := qO; first | exact h_ | (have e_ := (Kd.S_reads' HO_5.out).1; omega) | simpa using h_); obtain ⟨ve17_0, rfl, ge17_0⟩ := hM17; have HP17 := Kd.S_seg hH17 (qO) (by have h_ : (x6_1 : Int) < ((x5_1.length : Int) : Int) := qO; first | exact h_ | (have e_ := (Kd.S_reads' HO_5.out).1; omega) | simpa using h_) (seg := [v149]) (j := 0) (show 1 ≤ 1 from by decide) (x' := y148) (Kd.M_row (Kd.R_mono (Kd.R_tight rfl (Kd.R_mono (ok' := fun k_ => ((fun _ => True)) k_ ∧ k_ ≠ go14) (Kd.R_apart' (HO150.out) (Kd.S_typed HO_5.out) (by decide)) (fun k_ hk => ⟨trivial, fun e_ => (hk.2) (by rw [e_]; rfl)⟩))) (fun _ h_ => Or.inr (h_)))) (fun _ hk => hk) (fun k_ hk_ => ((Kd.R_mono (ok' := fun k_ => ((fun _ => True)) k_ ∧ k_ ≠ go14) (Kd.R_apart' (HO150.out) (Kd.S_typed HO_5.out) (by decide)) (fun k_ hk => ⟨trivial, fun e_ => (hk.2) (by rw [e_]; rfl)⟩))).1 k_ hk_.symm); have hx17_0 := hcc17 0 _ rfl; (try simp only [show ((Kd.slice 3 (Kd.int .i64))).sz = 1 from rfl, Nat.mul_one, Nat.add_zero] at hx17_0); have hf17_0 := hfr17 0; (try simp only [show ((Kd.slice 3 (Kd.int .i64))).sz = 1 from rfl, Nat.mul_one, Nat.add_zero] at hf17_0); clear hcl17 hcc17 hfr17 hoki17 hH17; (try clear hM17); (try simp only [show ((Kd.slice 3 (Kd.int .i64))).sz = 1 from rfl, Nat.mul_one, Nat.add_zero] at HP17)) | ((with_reducible refine gate_store (t := 35) (p := 25) rfl ?_); refine store_event (t := 35) (p := 25) (v := ?vo_w18) (w1 := (w15.setCell ⟨go14, (x6_1 : Int).toNat, none⟩ (v149))) ?hg ?ho ?hn ?hr ?_; (case ho => rfl); (case hg => rfl); (case hn => rfl); (case hr => first | (go_simp; done) | (go_simp; rfl) | (obtain ⟨A_, c_, e_⟩ := Kd.R_slice HO150.out; subst e_; first | (go_simp; done) | (go_simp; rfl))); intro w18 hw; have hg : w15.grownBy w18 (some go14) := (by rw [hw]; exact HP17.2); have hp_ : Kd.S (Kd.slice 3 (Kd.int .i64)) 35 w18 w.heap.size (fun _ => True) (.slice (some ⟨go14, 0, none⟩) x5_1.length co14) y151 := (by rw [hw, Ny151.out]; exact HP17.1); clear HP17; replace HO_5 := Aside0.mk (hp_); replace HB := Aside0.mk ((by rw [hw]; exact below_set (HB.out) GB14.out : Below w.heap.size w w18)); clear HO150; clear hg hw hp_))
    go_loopg [7] k1 (fun kq v7 w' => ∃ (x5_2 : List (List Int)) (x7_2 : Int), v7 = .int .i64 x7_2 ∧ Aside0 (impl_costs.l1 kq a0 a1 x5_2 x6_1 x7_2 = some r) ∧ Aside0 (kq ≤ k1) ∧ Aside0 (Kd.S (Kd.slice 3 (Kd.int .i64)) 35 w' w.heap.size (fun _ => True) (.slice (some ⟨go14, 0, none⟩) x5_1.length co14) x5_2) ∧ Aside0 (Below w.heap.size w w'))
    case atStart => exact ⟨(y151), ((a1.size : Int)), qV, H', ⟨Nat.le_refl _⟩, ⟨by (with_reducible repeat (first | apply Kd.S_alloc | apply Kd.S_drewN | apply Kd.S_drew)); exact HO_5.out⟩, ⟨qS0 HB⟩⟩
    case round =>
     clear H'; (try clear hx1); (try clear c8b0); (try clear c10b0); (try clear c10b1); (try clear c11b0); (try clear c11b1); (try clear c12b0); (try clear c13b0); (try clear p14); (try clear q14); (try clear hx14); (try clear hf14); (try clear hx17); (try clear hf17); (try clear hx14_0); (try clear hx17_0); (obtain ⟨x5_2, x7_2, rfl, HA, HK2, HO_5, HB⟩ := hrel); (have hl5_2 := (Kd.S_reads' HO_5.out).1); (rw [hl5_2] at HO_5); (try simp only [hl5_2])
     cases gk with
     | zero => exact absurd HA.out (by simp [impl_costs.l1])
     | succ k2 =>
      (have H := HA.out); clear HA; (simp only [impl_costs.l1] at H)
      rcases qI H with ⟨(c19b0 : decide (0 ≤ x7_2) = true), H⟩ | ⟨(c19b0 : decide (0 ≤ x7_2) = false), H⟩
      ·rcases qJ H with ⟨c20, H⟩ | ⟨c20, H⟩
       ·have c20b0 : (x6_1 == (a0.size : Int)) = true := beq_iff_eq.mpr c20
        (have c20b1 : (x6_1 != (a0.size : Int)) = false := bne_eq_false_iff_eq.mpr c20); clear c20; (obtain ⟨c21b0, H⟩ := qT H); (obtain ⟨c22b0, H⟩ := qT H); (obtain ⟨c23b0, H⟩ := qT H); (obtain ⟨c24b0, H⟩ := qT H); (obtain ⟨y153, hy153⟩ : ∃ y_ : List Int, y_ = ((rd_L3 x5_2 x6_1).set (x7_2 : Int).toNat (wrap64 ((a1.size : Int) - x7_2))) := ⟨_, rfl⟩); (replace H : (impl_costs.l1 k2 a0 a1 (x5_2.set (x6_1 : Int).toNat y153) x6_1 (wrap64 (x7_2 - 1))) = some r := qY hy153 H); (have Ny153 := Aside0.mk hy153); clear hy153; (obtain ⟨y155, hy155⟩ : ∃ y_ : List (List Int), y_ = (x5_2.set (x6_1 : Int).toNat y153) := ⟨_, rfl⟩); (replace H : (impl_costs.l1 k2 a0 a1 y155 x6_1 (wrap64 (x7_2 - 1))) = some r := qY hy155 H); (have Ny155 := Aside0.mk hy155); clear hy155; (have H' := Aside0.mk H); clear H; (have p152 : 0 ≤ (x6_1 : Int) := qO); (have q152 : x6_1 < (x5_2.length : Int) := qO); (obtain ⟨ad152, A152_0, c152_0, e152, hx152_0, hl152_0, hi152_0⟩ := at_L3 (Kd.S_reads' HO_5.out).2.2 x6_1 p152 q152); (obtain rfl : (⟨go14, 0, none⟩ : Addr) = ad152 := (by injection e152)); (obtain ⟨ce152, hce152, hMe152, hcc152⟩ := Kd.S_get HO_5.out [] x6_1 p152 (by first | exact q152 | exact qO | (have e_ := (Kd.S_reads' HO_5.out).1; omega))); (obtain ⟨ve152_0, rfl, ge152_0⟩ := hMe152); (have hv152_0 := hcc152 0 _ rfl); (rw [Nat.add_zero, show ((Kd.slice 3 (Kd.int .i64))).sz = 1 from rfl, Nat.mul_one] at hv152_0); (replace hv152_0 := Option.some.inj (hv152_0.symm.trans hx152_0)); (rw [hv152_0] at ge152_0); (have HL152_0 := Aside0.mk (show Kd.R (Kd.int .i64) 3 _ _ _ _ (rd_L3 x5_2 x6_1) from ge152_0)); clear hv152_0 ge152_0; (have HX152_0 := Aside0.mk hx152_0); clear hcc152 hce152
        (first | simp only [add_plain] at hx152_0 | simp only [add_at] at hx152_0 | simp only [Addr.add, Nat.zero_add] at hx152_0 | skip)
        (have HR152_0 := Aside0.mk hi152_0); (have HC152_0 := Aside0.mk hl152_0); clear hi152_0 hl152_0; (replace p152 := eq_true p152); (replace q152 := eq_true q152); (have p25 : 0 ≤ (x7_2 : Int) := qO); (have q25 : (x7_2 : Int) < (((rd_L3 x5_2 x6_1).length : Int) : Int) := qO); (obtain ⟨go25, co25, eo25, gb25, gl25, cl25, HG25⟩ := Kd.R_form HL152_0.out (by omega))
        (first | cases eo25 | (injection eo25 with ea_ en_ ec_; (first | subst ea_ | (injection ea_ with ea_; subst ea_)); subst ec_; clear en_))
        (have GB25 := Aside0.mk gb25); (have GG25 := Aside0.mk HG25); clear gb25 gl25 HG25; (obtain ⟨hx25_0, hf25_0⟩ := Kd.R_celln 0 HL152_0.out (x7_2 : Int) p25 q25); (replace p25 := eq_true p25); (replace q25 := eq_true q25); (have hq26 : (x6_1 : Int) < (x5_2.length : Int) := (by have h_ : (x6_1 : Int) < ((x5_2.length : Int) : Int) := qO; first | exact h_ | (have e_ := (Kd.S_reads' HO_5.out).1; omega) | simpa only [List.length_set, List.length_set] using h_)); (obtain ⟨oki26, ce26, hcl26, hM26, hcc26, hok26, hbk26⟩ := Kd.S_borrow HO_5.out [] (x6_1 : Int) (qO) hq26); (obtain ⟨ve26_0, rfl, ge26_0⟩ := hM26); (have hv26 := hcc26 0 _ rfl); (rw [Nat.add_zero, show ((Kd.slice 3 (Kd.int .i64))).sz = 1 from rfl, Nat.mul_one] at hv26); (replace hv26 := Option.some.inj (hv26.symm.trans HX152_0.out)); (subst hv26); clear hcc26 hcl26; (replace ge26_0 := (show Kd.R (Kd.int .i64) 3 _ _ _ _ (rd_L3 x5_2 x6_1) from ge26_0)); (have HP26 := Kd.R_putg ge26_0 (x7_2 : Int) (wrap64 ((a1.size : Int) - x7_2)))
        go_wp2_with (first | ((with_reducible refine gate_store (t := 3) (p := 90) rfl ?_); refine store_event (t := 3) (p := 90) (v := ?vo_w27) (w1 := (wr.setCell ⟨go25, (x7_2 : Int).toNat, none⟩ (.int .i64 (wrap64 ((a1.size : Int) - x7_2))))) ?hg ?ho ?hn ?hr ?_; (case ho => rfl); (case hg => rfl); (case hn => rfl); (case hr => first | (go_simp; done) | (go_simp; rfl)); intro w27 hw; have hg : wr.grownBy w27 (some go25) := (by rw [hw]; exact HP26.2); have hz_ : Kd.R (Kd.int .i64) 3 w27 w.heap.size oki26 (.slice (some ⟨go25, 0, none⟩) (rd_L3 x5_2 x6_1).length c152_0) y153 := (by rw [hw, Ny153.out]; exact HP26.1); have hp_ : Kd.S (Kd.slice 3 (Kd.int .i64)) 35 w27 w.heap.size (fun _ => True) (.slice (some ⟨go14, 0, none⟩) x5_2.length co14) y155 := (by rw [Ny155.out]; exact hbk26 hg (fun k_ e_ => by injection e_ with e_; subst e_; exact ge26_0.1 _ rfl) (Kd.M_row hz_)); have hm_ := Kd.R_mono hz_ hok26; clear HP26 hbk26; replace HO_5 := Aside0.mk (hp_); replace HB := Aside0.mk ((by rw [hw]; exact below_set (HB.out) GB25.out : Below w.heap.size w w27)); have HL178 := Aside0.mk (hm_); have HC154 := Aside0.mk ((Kd.R_reads' hm_).2.1); clear HL152_0; clear hg hw hp_ hz_ hm_ hok26))
        (try simp only [← hl5_2])
        go_roundg k2
        case measure => have := HK1.out; have := HK2.out; omega
        case rel => exact ⟨(y155), (wrap64 (x7_2 - 1)), qV, H', ⟨by have := HK1.out; have := HK2.out; omega⟩, ⟨by (try simp only [hl5_2]); (with_reducible repeat (first | apply Kd.S_alloc | apply Kd.S_drewN | apply Kd.S_drew)); exact HO_5.out⟩, ⟨qS0 HB⟩⟩
       ·have c20b0 : (x6_1 == (a0.size : Int)) = false := beq_eq_false_iff_ne.mpr c20
        have c20b1 : (x6_1 != (a0.size : Int)) = true := bne_iff_ne.mpr c20
        rcases qJ H with ⟨c28, H⟩ | ⟨c28, H⟩
        ·have c28b0 : (x7_2 == (a1.size : Int)) = true := beq_iff_eq.mpr c28
         (have c28b1 : (x7_2 != (a1.size : Int)) = false := bne_eq_false_iff_eq.mpr c28); clear c28; (obtain ⟨c29b0, H⟩ := qT H); (obtain ⟨c30b0, H⟩ := qT H); (obtain ⟨c31b0, H⟩ := qT H); (obtain ⟨c32b0, H⟩ := qT H); (obtain ⟨y157, hy157⟩ : ∃ y_ : List Int, y_ = ((rd_L3 x5_2 x6_1).set (x7_2 : Int).toNat (wrap64 ((a0.size : Int) - x6_1))) := ⟨_, rfl⟩); (replace H : (impl_costs.l1 k2 a0 a1 (x5_2.set (x6_1 : Int).toNat y157) x6_1 (wrap64 (x7_2 - 1))) = some r := qY hy157 H); (have Ny157 := Aside0.mk hy157); clear hy157; (obtain ⟨y159, hy159⟩ : ∃ y_ : List (List Int), y_ = (x5_2.set (x6_1 : Int).toNat y157) := ⟨_, rfl⟩); (replace H : (impl_costs.l1 k2 a0 a1 y159 x6_1 (wrap64 (x7_2 - 1))) = some r := qY hy159 H); (have Ny159 := Aside0.mk hy159); clear hy159; (have H' := Aside0.mk H); clear H; (have p156 : 0 ≤ (x6_1 : Int) := qO); (have q156 : x6_1 < (x5_2.length : Int) := qO); (obtain ⟨ad156, A156_0, c156_0, e156, hx156_0, hl156_0, hi156_0⟩ := at_L3 (Kd.S_reads' HO_5.out).2.2 x6_1 p156 q156); (obtain rfl : (⟨go14, 0, none⟩ : Addr) = ad156 := (by injection e156)); (obtain ⟨ce156, hce156, hMe156, hcc156⟩ := Kd.S_get HO_5.out [] x6_1 p156 (by first | exact q156 | exact qO | (have e_ := (Kd.S_reads' HO_5.out).1; omega))); (obtain ⟨ve156_0, rfl, ge156_0⟩ := hMe156); (have hv156_0 := hcc156 0 _ rfl); (rw [Nat.add_zero, show ((Kd.slice 3 (Kd.int .i64))).sz = 1 from rfl, Nat.mul_one] at hv156_0); (replace hv156_0 := Option.some.inj (hv156_0.symm.trans hx156_0)); (rw [hv156_0] at ge156_0); (have HL156_0 := Aside0.mk (show Kd.R (Kd.int .i64) 3 _ _ _ _ (rd_L3 x5_2 x6_1) from ge156_0)); clear hv156_0 ge156_0; (have HX156_0 := Aside0.mk hx156_0); clear hcc156 hce156
         (first | simp only [add_plain] at hx156_0 | simp only [add_at] at hx156_0 | simp only [Addr.add, Nat.zero_add] at hx156_0 | skip)
         (have HR156_0 := Aside0.mk hi156_0); (have HC156_0 := Aside0.mk hl156_0); clear hi156_0 hl156_0; (replace p156 := eq_true p156); (replace q156 := eq_true q156); (have p33 : 0 ≤ (x7_2 : Int) := qO); (have q33 : (x7_2 : Int) < (((rd_L3 x5_2 x6_1).length : Int) : Int) := qO); (obtain ⟨go33, co33, eo33, gb33, gl33, cl33, HG33⟩ := Kd.R_form HL156_0.out (by omega))
         (first | cases eo33 | (injection eo33 with ea_ en_ ec_; (first | subst ea_ | (injection ea_ with ea_; subst ea_)); subst ec_; clear en_))
         (have GB33 := Aside0.mk gb33); (have GG33 := Aside0.mk HG33); clear gb33 gl33 HG33; (obtain ⟨hx33_0, hf33_0⟩ := Kd.R_celln 0 HL156_0.out (x7_2 : Int) p33 q33); (replace p33 := eq_true p33); (replace q33 := eq_true q33); (have hq34 : (x6_1 : Int) < (x5_2.length : Int) := (by have h_ : (x6_1 : Int) < ((x5_2.length : Int) : Int) := qO; first | exact h_ | (have e_ := (Kd.S_reads' HO_5.out).1; omega) | simpa only [List.length_set, List.length_set] using h_)); (obtain ⟨oki34, ce34, hcl34, hM34, hcc34, hok34, hbk34⟩ := Kd.S_borrow HO_5.out [] (x6_1 : Int) (qO) hq34); (obtain ⟨ve34_0, rfl, ge34_0⟩ := hM34); (have hv34 := hcc34 0 _ rfl); (rw [Nat.add_zero, show ((Kd.slice 3 (Kd.int .i64))).sz = 1 from rfl, Nat.mul_one] at hv34); (replace hv34 := Option.some.inj (hv34.symm.trans HX156_0.out)); (subst hv34); clear hcc34 hcl34; (replace ge34_0 := (show Kd.R (Kd.int .i64) 3 _ _ _ _ (rd_L3 x5_2 x6_1) from ge34_0)); (have HP34 := Kd.R_putg ge34_0 (x7_2 : Int) (wrap64 ((a0.size : Int) - x6_1)))
         go_wp2_with (first | ((with_reducible refine gate_store (t := 3) (p := 105) rfl ?_); refine store_event (t := 3) (p := 105) (v := ?vo_w35) (w1 := (wr.setCell ⟨go33, (x7_2 : Int).toNat, none⟩ (.int .i64 (wrap64 ((a0.size : Int) - x6_1))))) ?hg ?ho ?hn ?hr ?_; (case ho => rfl); (case hg => rfl); (case hn => rfl); (case hr => first | (go_simp; done) | (go_simp; rfl)); intro w35 hw; have hg : wr.grownBy w35 (some go33) := (by rw [hw]; exact HP34.2); have hz_ : Kd.R (Kd.int .i64) 3 w35 w.heap.size oki34 (.slice (some ⟨go33, 0, none⟩) (rd_L3 x5_2 x6_1).length c156_0) y157 := (by rw [hw, Ny157.out]; exact HP34.1); have hp_ : Kd.S (Kd.slice 3 (Kd.int .i64)) 35 w35 w.heap.size (fun _ => True) (.slice (some ⟨go14, 0, none⟩) x5_2.length co14) y159 := (by rw [Ny159.out]; exact hbk34 hg (fun k_ e_ => by injection e_ with e_; subst e_; exact ge34_0.1 _ rfl) (Kd.M_row hz_)); have hm_ := Kd.R_mono hz_ hok34; clear HP34 hbk34; replace HO_5 := Aside0.mk (hp_); replace HB := Aside0.mk ((by rw [hw]; exact below_set (HB.out) GB33.out : Below w.heap.size w w35)); have HL179 := Aside0.mk (hm_); have HC158 := Aside0.mk ((Kd.R_reads' hm_).2.1); clear HL156_0; clear hg hw hp_ hz_ hm_ hok34))
         (try simp only [← hl5_2])
         go_roundg k2
         case measure => have := HK1.out; have := HK2.out; omega
         case rel => exact ⟨(y159), (wrap64 (x7_2 - 1)), qV, H', ⟨by have := HK1.out; have := HK2.out; omega⟩, ⟨by (try simp only [hl5_2]); (with_reducible repeat (first | apply Kd.S_alloc | apply Kd.S_drewN | apply Kd.S_drew)); exact HO_5.out⟩, ⟨qS0 HB⟩⟩
        ·have c28b0 : (x7_2 == (a1.size : Int)) = false := beq_eq_false_iff_ne.mpr c28
         (have c28b1 : (x7_2 != (a1.size : Int)) = true := bne_iff_ne.mpr c28); (obtain ⟨ji36, hji36⟩ : ∃ j_ : Int, (wrap64 (x6_1 + 1)) = j_ := ⟨_, rfl⟩); (replace H : (if 0 ≤ (ji36) then (if (ji36) < (x5_2.length : Int) then (if 0 ≤ (wrap64 (x7_2 + 1)) then (if (wrap64 (x7_2 + 1)) < ((rd_L3 x5_2 (ji36)).length : Int) then (if 0 ≤ x6_1 then (if x6_1 < (a0.size : Int) then (if 0 ≤ x7_2 then (if x7_2 < (a1.size : Int) then (if (bt a0 x6_1) = (bt a1 x7_2) then (if x6_1 < (x5_2.length : Int) then (if x7_2 < ((rd_L3 x5_2 (ji36)).length : Int) then (if (wrap64 (x7_2 + 1)) < ((rd_L3 x5_2 x6_1).length : Int) then (if x7_2 < ((rd_L3 x5_2 x6_1).length : Int) then (impl_costs.l1 k2 a0 a1 (x5_2.set (x6_1 : Int).toNat ((rd_L3 x5_2 x6_1).set (x7_2 : Int).toNat (mn (mn (rd (rd_L3 x5_2 (ji36)) (wrap64 (x7_2 + 1))) (wrap64 ((rd (rd_L3 x5_2 (ji36)) x7_2) + 1))) (wrap64 ((rd (rd_L3 x5_2 x6_1) (wrap64 (x7_2 + 1))) + 1))))) x6_1 (wrap64 (x7_2 - 1))) else (none)) else (none)) else (none)) else (none)) else (if x6_1 < (x5_2.length : Int) then (if x7_2 < ((rd_L3 x5_2 (ji36)).length : Int) then (if (wrap64 (x7_2 + 1)) < ((rd_L3 x5_2 x6_1).length : Int) then (if x7_2 < ((rd_L3 x5_2 x6_1).length : Int) then (impl_costs.l1 k2 a0 a1 (x5_2.set (x6_1 : Int).toNat ((rd_L3 x5_2 x6_1).set (x7_2 : Int).toNat (mn (mn (wrap64 ((rd (rd_L3 x5_2 (ji36)) (wrap64 (x7_2 + 1))) + 1)) (wrap64 ((rd (rd_L3 x5_2 (ji36)) x7_2) + 1))) (wrap64 ((rd (rd_L3 x5_2 x6_1) (wrap64 (x7_2 + 1))) + 1))))) x6_1 (wrap64 (x7_2 - 1))) else (none)) else (none)) else (none)) else (none))) else (none)) else (none)) else (none)) else (none)) else (none)) else (none)) else (none)) else (none)) = some r := by first | (rw [hji36] at H; exact H) | (simp only [hji36] at H ⊢; exact H)); (have hji36w : (IntKind.i64.wrap (x6_1 + 1)) = ji36 := (i64_w _).trans hji36); (obtain ⟨c37b0, H⟩ := qT H); (obtain ⟨c38b0, H⟩ := qT H); (obtain ⟨ji39, hji39⟩ : ∃ j_ : Int, (wrap64 (x7_2 + 1)) = j_ := ⟨_, rfl⟩); (replace H : (if 0 ≤ (ji39) then (if (ji39) < ((rd_L3 x5_2 (ji36)).length : Int) then (if 0 ≤ x6_1 then (if x6_1 < (a0.size : Int) then (if 0 ≤ x7_2 then (if x7_2 < (a1.size : Int) then (if (bt a0 x6_1) = (bt a1 x7_2) then (if x6_1 < (x5_2.length : Int) then (if x7_2 < ((rd_L3 x5_2 (ji36)).length : Int) then (if (ji39) < ((rd_L3 x5_2 x6_1).length : Int) then (if x7_2 < ((rd_L3 x5_2 x6_1).length : Int) then (impl_costs.l1 k2 a0 a1 (x5_2.set (x6_1 : Int).toNat ((rd_L3 x5_2 x6_1).set (x7_2 : Int).toNat (mn (mn (rd (rd_L3 x5_2 (ji36)) (ji39)) (wrap64 ((rd (rd_L3 x5_2 (ji36)) x7_2) + 1))) (wrap64 ((rd (rd_L3 x5_2 x6_1) (ji39)) + 1))))) x6_1 (wrap64 (x7_2 - 1))) else (none)) else (none)) else (none)) else (none)) else (if x6_1 < (x5_2.length : Int) then (if x7_2 < ((rd_L3 x5_2 (ji36)).length : Int) then (if (ji39) < ((rd_L3 x5_2 x6_1).length : Int) then (if x7_2 < ((rd_L3 x5_2 x6_1).length : Int) then (impl_costs.l1 k2 a0 a1 (x5_2.set (x6_1 : Int).toNat ((rd_L3 x5_2 x6_1).set (x7_2 : Int).toNat (mn (mn (wrap64 ((rd (rd_L3 x5_2 (ji36)) (ji39)) + 1)) (wrap64 ((rd (rd_L3 x5_2 (ji36)) x7_2) + 1))) (wrap64 ((rd (rd_L3 x5_2 x6_1) (ji39)) + 1))))) x6_1 (wrap64 (x7_2 - 1))) else (none)) else (none)) else (none)) else (none))) else (none)) else (none)) else (none)) else (none)) else (none)) else (none)) = some r := by first | (rw [hji39] at H; exact H) | (simp only [hji39] at H ⊢; exact H)); (have hji39w : (IntKind.i64.wrap (x7_2 + 1)) = ji39 := (i64_w _).trans hji39); (obtain ⟨c40b0, H⟩ := qT H); (obtain ⟨c41b0, H⟩ := qT H); (obtain ⟨c42b0, H⟩ := qT H); (obtain ⟨c43b0, H⟩ := qT H); (obtain ⟨c45b0, H⟩ := qT H); (obtain ⟨c46b0, H⟩ := qT H)
         rcases qJ H with ⟨c48, H⟩ | ⟨c48, H⟩
         ·have c48b0 : ((bt a0 x6_1) == (bt a1 x7_2)) = true := beq_iff_eq.mpr c48
          (have c48b1 : ((bt a0 x6_1) != (bt a1 x7_2)) = false := bne_eq_false_iff_eq.mpr c48); clear c48; (obtain ⟨c49b0, H⟩ := qT H); (obtain ⟨c50b0, H⟩ := qT H); (obtain ⟨c51b0, H⟩ := qT H); (obtain ⟨ji52, hji52⟩ : ∃ j_ : Int, (mn (rd (rd_L3 x5_2 (ji36)) (ji39)) (wrap64 ((rd (rd_L3 x5_2 (ji36)) x7_2) + 1))) = j_ := ⟨_, rfl⟩); (replace H : (if x7_2 < ((rd_L3 x5_2 x6_1).length : Int) then (impl_costs.l1 k2 a0 a1 (x5_2.set (x6_1 : Int).toNat ((rd_L3 x5_2 x6_1).set (x7_2 : Int).toNat (mn (ji52) (wrap64 ((rd (rd_L3 x5_2 x6_1) (ji39)) + 1))))) x6_1 (wrap64 (x7_2 - 1))) else (none)) = some r := by first | (rw [hji52] at H; exact H) | (simp only [hji52] at H ⊢; exact H)); (have hji52_ : (if (wrap64 ((rd (rd_L3 x5_2 (ji36)) x7_2) + 1)) < (rd (rd_L3 x5_2 (ji36)) (ji39)) then (wrap64 ((rd (rd_L3 x5_2 (ji36)) x7_2) + 1)) else (rd (rd_L3 x5_2 (ji36)) (ji39))) = ji52 := hji52); (obtain ⟨ji53, hji53⟩ : ∃ j_ : Int, (mn (ji52) (wrap64 ((rd (rd_L3 x5_2 x6_1) (ji39)) + 1))) = j_ := ⟨_, rfl⟩); (replace H : (if x7_2 < ((rd_L3 x5_2 x6_1).length : Int) then (impl_costs.l1 k2 a0 a1 (x5_2.set (x6_1 : Int).toNat ((rd_L3 x5_2 x6_1).set (x7_2 : Int).toNat (ji53))) x6_1 (wrap64 (x7_2 - 1))) else (none)) = some r := by first | (rw [hji53] at H; exact H) | (simp only [hji53] at H ⊢; exact H)); (have hji53_ : (if (wrap64 ((rd (rd_L3 x5_2 x6_1) (ji39)) + 1)) < (ji52) then (wrap64 ((rd (rd_L3 x5_2 x6_1) (ji39)) + 1)) else (ji52)) = ji53 := hji53); (obtain ⟨c54b0, H⟩ := qT H); (obtain ⟨y167, hy167⟩ : ∃ y_ : List Int, y_ = ((rd_L3 x5_2 x6_1).set (x7_2 : Int).toNat (ji53)) := ⟨_, rfl⟩); (replace H : (impl_costs.l1 k2 a0 a1 (x5_2.set (x6_1 : Int).toNat y167) x6_1 (wrap64 (x7_2 - 1))) = some r := qY hy167 H); (have Ny167 := Aside0.mk hy167); clear hy167; (obtain ⟨y169, hy169⟩ : ∃ y_ : List (List Int), y_ = (x5_2.set (x6_1 : Int).toNat y167) := ⟨_, rfl⟩); (replace H : (impl_costs.l1 k2 a0 a1 y169 x6_1 (wrap64 (x7_2 - 1))) = some r := qY hy169 H); (have Ny169 := Aside0.mk hy169); clear hy169; (have H' := Aside0.mk H); clear H; (have p160 : 0 ≤ ((ji36) : Int) := qO); (have q160 : (ji36) < (x5_2.length : Int) := qO); (obtain ⟨ad160, A160_0, c160_0, e160, hx160_0, hl160_0, hi160_0⟩ := at_L3 (Kd.S_reads' HO_5.out).2.2 (ji36) p160 q160); (obtain rfl : (⟨go14, 0, none⟩ : Addr) = ad160 := (by injection e160)); (obtain ⟨ce160, hce160, hMe160, hcc160⟩ := Kd.S_get HO_5.out [] (ji36) p160 (by first | exact q160 | exact qO | (have e_ := (Kd.S_reads' HO_5.out).1; omega))); (obtain ⟨ve160_0, rfl, ge160_0⟩ := hMe160); (have hv160_0 := hcc160 0 _ rfl); (rw [Nat.add_zero, show ((Kd.slice 3 (Kd.int .i64))).sz = 1 from rfl, Nat.mul_one] at hv160_0); (replace hv160_0 := Option.some.inj (hv160_0.symm.trans hx160_0)); (rw [hv160_0] at ge160_0); (have HL160_0 := Aside0.mk (show Kd.R (Kd.int .i64) 3 _ _ _ _ (rd_L3 x5_2 (ji36)) from ge160_0)); clear hv160_0 ge160_0; (have HX160_0 := Aside0.mk hx160_0); clear hcc160 hce160
          (first | simp only [add_plain] at hx160_0 | simp only [add_at] at hx160_0 | simp only [Addr.add, Nat.zero_add] at hx160_0 | skip)
          (have HR160_0 := Aside0.mk hi160_0); (have HC160_0 := Aside0.mk hl160_0); clear hi160_0 hl160_0; (replace p160 := eq_true p160); (replace q160 := eq_true q160); (have p161 : 0 ≤ ((ji39) : Int) := qO); (have q161 : (ji39) < ((rd_L3 x5_2 (ji36)).length : Int) := qO); (obtain ⟨ad161, e161, hx161_0⟩ := Kd.at_int (by repeat (first | (with_reducible exact HR160_0.out) | (with_reducible refine Kd.C_alloc ?_ _) | (with_reducible refine Kd.C_drewN ?_ _) | (with_reducible refine Kd.C_drew ?_) | exact HR160_0.out)) (ji39) p161 q161)
          cases e161
          (replace p161 := eq_true p161); (replace q161 := eq_true q161)
          try go_wp2
          (replace HO_5 := Aside0.mk (Kd.S_drew HO_5.out)); (replace HL160_0 := Aside0.mk (Kd.R_drew HL160_0.out)); (replace HR160_0 := Aside0.mk (Kd.C_drew HR160_0.out)); (replace HB := Aside0.mk (below_drew1 HB.out)); (have p44 : 0 ≤ (x6_1 : Int) := qO); (have q44 : x6_1 < (a0.size : Int) := qO); (have hx44 := bt_at a0 x6_1); (replace p44 := eq_true p44); (replace q44 := eq_true q44); (have p47 : 0 ≤ (x7_2 : Int) := qO); (have q47 : x7_2 < (a1.size : Int) := qO); (have hx47 := bt_at a1 x7_2); (replace p47 := eq_true p47); (replace q47 := eq_true q47)
          refine start_ (n := 7) (S := fun w' => True) (ds := []) #[false, false, false, false, false, false, false] (by kernel_rfl) rfl rfl trivial (fun hHeld => ?_)
          generalize wr.drew = w56 at HO_5 HL160_0 HR160_0 HB hHeld ⊢
          refine pure_ (i := 0) (N := some 41) (v := ?_) (a' := ?_) #[true, false, false, false, false, false, false] rfl rfl (by kernel_rfl) (fun _ _ _ h => h) (Or.inl ⟨by rfl, ?_⟩) ?_ ?_
          rotate_left
          ·intro w'
           go_simp
           with_reducible rfl
          rotate_left
          ·exact qPu
          refine pure_ (i := 1) (N := some 42) (v := ?_) (a' := ?_) #[true, true, false, false, false, false, false] rfl rfl (by kernel_rfl) (fun _ _ _ h => h) (Or.inl ⟨by rfl, ?_⟩) ?_ ?_
          rotate_left
          ·intro w'
           go_simp
           with_reducible rfl
          rotate_left
          ·exact qPu
          refine pure_ (i := 3) (N := some 44) (v := ?_) (a' := ?_) #[true, true, false, true, false, false, false] rfl rfl (by kernel_rfl) (fun _ _ _ h => h) (Or.inl ⟨by rfl, ?_⟩) ?_ ?_
          rotate_left
          ·intro w'
           go_simp
           with_reducible rfl
          rotate_left
          ·exact qPu
          refine pure_ (i := 4) (N := some 45) (v := ?_) (a' := ?_) #[true, true, false, true, true, false, false] rfl rfl (by kernel_rfl) (fun _ _ _ h => h) (Or.inl ⟨by rfl, ?_⟩) ?_ ?_
          rotate_left
          ·intro w'
           go_simp
           with_reducible rfl
          rotate_left
          ·exact qPu
          refine take_ (i := 2) (N := some 43) (v := ?_) (a' := ?_) #[true, true, true, true, true, false, false] rfl rfl (by kernel_rfl) (fun _ _ _ h => h) (Or.inl ⟨by rfl, ?_⟩) hHeld ?_ ?_
          rotate_left
          ·intro w' _
           go_simp
           with_reducible rfl
          rotate_left
          ·exact qPu
          refine take_ (i := 5) (N := some 46) (v := ?_) (a' := ?_) #[true, true, true, true, true, true, false] rfl rfl (by kernel_rfl) (fun _ _ _ h => h) (Or.inl ⟨by rfl, ?_⟩) hHeld ?_ ?_
          rotate_left
          ·intro w' _
           go_simp
           with_reducible rfl
          rotate_left
          ·exact qPu
          refine pure_ (i := 6) (N := some 47) (v := ?_) (a' := ?_) #[true, true, true, true, true, true, true] rfl rfl (by kernel_rfl) (fun _ _ _ h => h) (Or.inl ⟨by rfl, ?_⟩) ?_ ?_
          rotate_left
          ·intro w'
           go_simp
           with_reducible rfl
          rotate_left
          ·exact qPu
          refine done_ (by kernel_rfl) ?_
          try go_wp2
          (replace HO_5 := Aside0.mk (Kd.S_drew HO_5.out)); (replace HL160_0 := Aside0.mk (Kd.R_drew HL160_0.out)); (replace HR160_0 := Aside0.mk (Kd.C_drew HR160_0.out)); (replace HB := Aside0.mk (below_drew1 HB.out)); (have p162 : 0 ≤ (x6_1 : Int) := qO); (have q162 : x6_1 < (x5_2.length : Int) := qO); (obtain ⟨ad162, A162_0, c162_0, e162, hx162_0, hl162_0, hi162_0⟩ := at_L3 (Kd.S_reads' HO_5.out).2.2 x6_1 p162 q162); (obtain rfl : (⟨go14, 0, none⟩ : Addr) = ad162 := (by injection e162)); (obtain ⟨ce162, hce162, hMe162, hcc162⟩ := Kd.S_get HO_5.out [] x6_1 p162 (by first | exact q162 | exact qO | (have e_ := (Kd.S_reads' HO_5.out).1; omega))); (obtain ⟨ve162_0, rfl, ge162_0⟩ := hMe162); (have hv162_0 := hcc162 0 _ rfl); (rw [Nat.add_zero, show ((Kd.slice 3 (Kd.int .i64))).sz = 1 from rfl, Nat.mul_one] at hv162_0); (replace hv162_0 := Option.some.inj (hv162_0.symm.trans hx162_0)); (rw [hv162_0] at ge162_0); (have HL162_0 := Aside0.mk (show Kd.R (Kd.int .i64) 3 _ _ _ _ (rd_L3 x5_2 x6_1) from ge162_0)); clear hv162_0 ge162_0; (have HX162_0 := Aside0.mk hx162_0); clear hcc162 hce162
          (first | simp only [add_plain] at hx162_0 | simp only [add_at] at hx162_0 | simp only [Addr.add, Nat.zero_add] at hx162_0 | skip)
          (have HR162_0 := Aside0.mk hi162_0); (have HC162_0 := Aside0.mk hl162_0); clear hi162_0 hl162_0; (replace p162 := eq_true p162); (replace q162 := eq_true q162); (have p163 : 0 ≤ ((ji36) : Int) := qO); (have q163 : (ji36) < (x5_2.length : Int) := qO); (obtain ⟨ad163, A163_0, c163_0, e163, hx163_0, hl163_0, hi163_0⟩ := at_L3 (Kd.S_reads' HO_5.out).2.2 (ji36) p163 q163); (obtain rfl : (⟨go14, 0, none⟩ : Addr) = ad163 := (by injection e163)); (obtain ⟨ce163, hce163, hMe163, hcc163⟩ := Kd.S_get HO_5.out [] (ji36) p163 (by first | exact q163 | exact qO | (have e_ := (Kd.S_reads' HO_5.out).1; omega))); (obtain ⟨ve163_0, rfl, ge163_0⟩ := hMe163); (have hv163_0 := hcc163 0 _ rfl); (rw [Nat.add_zero, show ((Kd.slice 3 (Kd.int .i64))).sz = 1 from rfl, Nat.mul_one] at hv163_0); (replace hv163_0 := Option.some.inj (hv163_0.symm.trans hx163_0)); (rw [hv163_0] at ge163_0); (have HL163_0 := Aside0.mk (show Kd.R (Kd.int .i64) 3 _ _ _ _ (rd_L3 x5_2 (ji36)) from ge163_0)); clear hv163_0 ge163_0; (have HX163_0 := Aside0.mk hx163_0); clear hcc163 hce163
          (first | simp only [add_plain] at hx163_0 | simp only [add_at] at hx163_0 | simp only [Addr.add, Nat.zero_add] at hx163_0 | skip)
          (have HR163_0 := Aside0.mk hi163_0); (have HC163_0 := Aside0.mk hl163_0); clear hi163_0 hl163_0; (replace p163 := eq_true p163); (replace q163 := eq_true q163); (have p164 : 0 ≤ (x7_2 : Int) := qO); (have q164 : x7_2 < ((rd_L3 x5_2 (ji36)).length : Int) := qO); (obtain ⟨ad164, e164, hx164_0⟩ := Kd.at_int (by repeat (first | (with_reducible exact HR163_0.out) | (with_reducible refine Kd.C_alloc ?_ _) | (with_reducible refine Kd.C_drewN ?_ _) | (with_reducible refine Kd.C_drew ?_) | exact HR163_0.out)) x7_2 p164 q164)
          cases e164
          (replace p164 := eq_true p164); (replace q164 := eq_true q164); (have p165 : 0 ≤ (x6_1 : Int) := qO); (have q165 : x6_1 < (x5_2.length : Int) := qO); (obtain ⟨ad165, A165_0, c165_0, e165, hx165_0, hl165_0, hi165_0⟩ := at_L3 (Kd.S_reads' HO_5.out).2.2 x6_1 p165 q165); (obtain rfl : (⟨go14, 0, none⟩ : Addr) = ad165 := (by injection e165)); (obtain ⟨ce165, hce165, hMe165, hcc165⟩ := Kd.S_get HO_5.out [] x6_1 p165 (by first | exact q165 | exact qO | (have e_ := (Kd.S_reads' HO_5.out).1; omega))); (obtain ⟨ve165_0, rfl, ge165_0⟩ := hMe165); (have hv165_0 := hcc165 0 _ rfl); (rw [Nat.add_zero, show ((Kd.slice 3 (Kd.int .i64))).sz = 1 from rfl, Nat.mul_one] at hv165_0); (replace hv165_0 := Option.some.inj (hv165_0.symm.trans hx165_0)); (rw [hv165_0] at ge165_0); (have HL165_0 := Aside0.mk (show Kd.R (Kd.int .i64) 3 _ _ _ _ (rd_L3 x5_2 x6_1) from ge165_0)); clear hv165_0 ge165_0; (have HX165_0 := Aside0.mk hx165_0); clear hcc165 hce165
          (first | simp only [add_plain] at hx165_0 | simp only [add_at] at hx165_0 | simp only [Addr.add, Nat.zero_add] at hx165_0 | skip)
          (have HR165_0 := Aside0.mk hi165_0); (have HC165_0 := Aside0.mk hl165_0); clear hi165_0 hl165_0; (replace p165 := eq_true p165); (replace q165 := eq_true q165); (have ea_ := Option.some.inj (hx162_0.symm.trans hx165_0))
          injection ea_ with ea_ en_ ec_
          (subst ea_); (subst ec_); clear en_; (have p166 : 0 ≤ ((ji39) : Int) := qO); (have q166 : (ji39) < ((rd_L3 x5_2 x6_1).length : Int) := qO); (obtain ⟨ad166, e166, hx166_0⟩ := Kd.at_int (by repeat (first | (with_reducible exact HR165_0.out) | (with_reducible refine Kd.C_alloc ?_ _) | (with_reducible refine Kd.C_drewN ?_ _) | (with_reducible refine Kd.C_drew ?_) | exact HR165_0.out)) (ji39) p166 q166)
          cases e166
          (replace p166 := eq_true p166); (replace q166 := eq_true q166); (have p55 : 0 ≤ (x7_2 : Int) := qO); (have q55 : (x7_2 : Int) < (((rd_L3 x5_2 x6_1).length : Int) : Int) := qO); (obtain ⟨go55, co55, eo55, gb55, gl55, cl55, HG55⟩ := Kd.R_form HL162_0.out (by omega))
          (first | cases eo55 | (injection eo55 with ea_ en_ ec_; (first | subst ea_ | (injection ea_ with ea_; subst ea_)); subst ec_; clear en_))
          (have GB55 := Aside0.mk gb55); (have GG55 := Aside0.mk HG55); clear gb55 gl55 HG55
          (first | simp only [add_plain] at hx166_0 | skip)
          (obtain ⟨hx55_0, hf55_0⟩ := Kd.R_celln 0 HL162_0.out (x7_2 : Int) p55 q55); (replace p55 := eq_true p55); (replace q55 := eq_true q55); (have hq58 : (x6_1 : Int) < (x5_2.length : Int) := (by have h_ : (x6_1 : Int) < ((x5_2.length : Int) : Int) := qO; first | exact h_ | (have e_ := (Kd.S_reads' HO_5.out).1; omega) | simpa only [List.length_set, List.length_set] using h_)); (obtain ⟨oki58, ce58, hcl58, hM58, hcc58, hok58, hbk58⟩ := Kd.S_borrow HO_5.out [] (x6_1 : Int) (qO) hq58); (obtain ⟨ve58_0, rfl, ge58_0⟩ := hM58); (have hv58 := hcc58 0 _ rfl); (rw [Nat.add_zero, show ((Kd.slice 3 (Kd.int .i64))).sz = 1 from rfl, Nat.mul_one] at hv58); (replace hv58 := Option.some.inj (hv58.symm.trans HX162_0.out)); (subst hv58); clear hcc58 hcl58; (replace ge58_0 := (show Kd.R (Kd.int .i64) 3 _ _ _ _ (rd_L3 x5_2 x6_1) from ge58_0)); (have HP58 := Kd.R_putg ge58_0 (x7_2 : Int) ji53); (rw [← Ny167.out] at HP58); (have HS58 := hbk58 HP58.2 (fun k_ e_ => by injection e_ with e_; subst e_; exact ge58_0.1 _ rfl) (x' := y167) (Kd.M_row HP58.1)); (rw [← Ny169.out] at HS58); (have HQ58 := Aside0.mk HS58); clear HP58 HS58 hbk58 hok58
          refine start_ (n := 27) (S := fun w' => w'.cell? ⟨go14, (x6_1).toNat, none⟩ = some (.slice (some ⟨go55, 0, none⟩) (rd_L3 x5_2 x6_1).length c162_0) ∧ w'.cell? ⟨go14, ((ji36)).toNat, none⟩ = some (.slice (some ad164) (rd_L3 x5_2 (ji36)).length c163_0) ∧ w'.cell? (ad164.add (x7_2).toNat) = some (.int .i64 (rd (rd_L3 x5_2 (ji36)) x7_2)) ∧ w'.cell? ⟨go14, (x6_1).toNat, none⟩ = some (.slice (some ⟨go55, 0, none⟩) (rd_L3 x5_2 x6_1).length c162_0) ∧ w'.cell? ⟨go55, ((ji39)).toNat, none⟩ = some (.int .i64 (rd (rd_L3 x5_2 x6_1) (ji39)))) (ds := [26]) #[false, false, false, false, false, false, false, false, false, false, false, false, false, false, false, false, false, false, false, false, false, false, false, false, false, false, false] (by kernel_rfl) rfl rfl ⟨hx162_0, hx163_0, hx164_0, hx165_0, hx166_0⟩ (fun hHeld => ?_); refine with_tabW impl_costs.tab12 impl_costs.bits12 (fun HT_ HW_ => ?_)
          generalize w56.drew = w57 at HO_5 HL160_0 HR160_0 HB GG55 HL162_0 HL163_0 HL165_0 HQ58 HR162_0 HR163_0 HR165_0 HX162_0 HX163_0 HX165_0 hf55_0 hx162_0 hx163_0 hx164_0 hx165_0 hx166_0 hx55_0 hHeld ⊢
          refine pure_ (i := 0) (N := some 50) (v := ?_) (a' := ?_) #[true, false, false, false, false, false, false, false, false, false, false, false, false, false, false, false, false, false, false, false, false, false, false, false, false, false, false] rfl rfl (any_of HT_.out (by kernel_rfl)) (fun _ _ _ h => h) (Or.inl ⟨by rfl, ?_⟩) ?_ ?_
          rotate_left
          ·intro w'
           go_simp
           with_reducible rfl
          rotate_left
          ·exact qPu
          refine pure_ (i := 1) (N := some 51) (v := ?_) (a' := ?_) #[true, true, false, false, false, false, false, false, false, false, false, false, false, false, false, false, false, false, false, false, false, false, false, false, false, false, false] rfl rfl (any_of HT_.out (by kernel_rfl)) (fun _ _ _ h => h) (Or.inl ⟨by rfl, ?_⟩) ?_ ?_
          rotate_left
          ·intro w'
           go_simp
           with_reducible rfl
          rotate_left
          ·exact qPu
          refine pure_ (i := 2) (N := some 52) (v := ?_) (a' := ?_) #[true, true, true, false, false, false, false, false, false, false, false, false, false, false, false, false, false, false, false, false, false, false, false, false, false, false, false] rfl rfl (any_of HT_.out (by kernel_rfl)) (fun _ _ _ h => h) (Or.inl ⟨by rfl, ?_⟩) ?_ ?_
          rotate_left
          ·intro w'
           go_simp
           with_reducible rfl
          rotate_left
          ·exact qPu
          refine pure_ (i := 4) (N := some 54) (v := ?_) (a' := ?_) #[true, true, true, false, true, false, false, false, false, false, false, false, false, false, false, false, false, false, false, false, false, false, false, false, false, false, false] rfl rfl (any_of HT_.out (by kernel_rfl)) (fun _ _ _ h => h) (Or.inl ⟨by rfl, ?_⟩) ?_ ?_
          rotate_left
          ·intro w'
           go_simp
           with_reducible rfl
          rotate_left
          ·exact qPu
          refine pure_ (i := 5) (N := some 55) (v := ?_) (a' := ?_) #[true, true, true, false, true, true, false, false, false, false, false, false, false, false, false, false, false, false, false, false, false, false, false, false, false, false, false] rfl rfl (any_of HT_.out (by kernel_rfl)) (fun _ _ _ h => h) (Or.inl ⟨by rfl, ?_⟩) ?_ ?_
          rotate_left
          ·intro w'
           go_simp
           with_reducible rfl
          rotate_left
          ·exact qPu
          refine pure_ (i := 6) (N := some 56) (v := ?_) (a' := ?_) #[true, true, true, false, true, true, true, false, false, false, false, false, false, false, false, false, false, false, false, false, false, false, false, false, false, false, false] rfl rfl (any_of HT_.out (by kernel_rfl)) (fun _ _ _ h => h) (Or.inl ⟨by rfl, ?_⟩) ?_ ?_
          rotate_left
          ·intro w'
           go_simp
           with_reducible rfl
          rotate_left
          ·exact qPu
          refine pure_ (i := 7) (N := some 57) (v := ?_) (a' := ?_) #[true, true, true, false, true, true, true, true, false, false, false, false, false, false, false, false, false, false, false, false, false, false, false, false, false, false, false] rfl rfl (any_of HT_.out (by kernel_rfl)) (fun _ _ _ h => h) (Or.inl ⟨by rfl, ?_⟩) ?_ ?_
          rotate_left
          ·intro w'
           go_simp
           with_reducible rfl
          rotate_left
          ·exact qPu
          refine pure_ (i := 8) (N := some 58) (v := ?_) (a' := ?_) #[true, true, true, false, true, true, true, true, true, false, false, false, false, false, false, false, false, false, false, false, false, false, false, false, false, false, false] rfl rfl (any_of HT_.out (by kernel_rfl)) (fun _ _ _ h => h) (Or.inl ⟨by rfl, ?_⟩) ?_ ?_
          rotate_left
          ·intro w'
           go_simp
           with_reducible rfl
          rotate_left
          ·exact qPu
          refine pure_ (i := 9) (N := some 59) (v := ?_) (a' := ?_) #[true, true, true, false, true, true, true, true, true, true, false, false, false, false, false, false, false, false, false, false, false, false, false, false, false, false, false] rfl rfl (any_of HT_.out (by kernel_rfl)) (fun _ _ _ h => h) (Or.inl ⟨by rfl, ?_⟩) ?_ ?_
          rotate_left
          ·intro w'
           go_simp
           with_reducible rfl
          rotate_left
          ·exact qPu
          refine pure_ (i := 11) (N := some 61) (v := ?_) (a' := ?_) #[true, true, true, false, true, true, true, true, true, true, false, true, false, false, false, false, false, false, false, false, false, false, false, false, false, false, false] rfl rfl (any_of HT_.out (by kernel_rfl)) (fun _ _ _ h => h) (Or.inl ⟨by rfl, ?_⟩) ?_ ?_
          rotate_left
          ·intro w'
           go_simp
           with_reducible rfl
          rotate_left
          ·exact qPu
          refine pure_ (i := 15) (N := some 65) (v := ?_) (a' := ?_) #[true, true, true, false, true, true, true, true, true, true, false, true, false, false, false, true, false, false, false, false, false, false, false, false, false, false, false] rfl rfl (any_of HT_.out (by kernel_rfl)) (fun _ _ _ h => h) (Or.inl ⟨by rfl, ?_⟩) ?_ ?_
          rotate_left
          ·intro w'
           go_simp
           with_reducible rfl
          rotate_left
          ·exact qPu
          refine pure_ (i := 16) (N := some 66) (v := ?_) (a' := ?_) #[true, true, true, false, true, true, true, true, true, true, false, true, false, false, false, true, true, false, false, false, false, false, false, false, false, false, false] rfl rfl (any_of HT_.out (by kernel_rfl)) (fun _ _ _ h => h) (Or.inl ⟨by rfl, ?_⟩) ?_ ?_
          rotate_left
          ·intro w'
           go_simp
           with_reducible rfl
          rotate_left
          ·exact qPu
          refine pure_ (i := 17) (N := some 67) (v := ?_) (a' := ?_) #[true, true, true, false, true, true, true, true, true, true, false, true, false, false, false, true, true, true, false, false, false, false, false, false, false, false, false] rfl rfl (any_of HT_.out (by kernel_rfl)) (fun _ _ _ h => h) (Or.inl ⟨by rfl, ?_⟩) ?_ ?_
          rotate_left
          ·intro w'
           go_simp
           with_reducible rfl
          rotate_left
          ·exact qPu
          refine pure_ (i := 19) (N := some 69) (v := ?_) (a' := ?_) #[true, true, true, false, true, true, true, true, true, true, false, true, false, false, false, true, true, true, false, true, false, false, false, false, false, false, false] rfl rfl (any_of HT_.out (by kernel_rfl)) (fun _ _ _ h => h) (Or.inl ⟨by rfl, ?_⟩) ?_ ?_
          rotate_left
          ·intro w'
           go_simp
           with_reducible rfl
          rotate_left
          ·exact qPu
          refine pure_ (i := 20) (N := some 70) (v := ?_) (a' := ?_) #[true, true, true, false, true, true, true, true, true, true, false, true, false, false, false, true, true, true, false, true, true, false, false, false, false, false, false] rfl rfl (any_of HT_.out (by kernel_rfl)) (fun _ _ _ h => h) (Or.inl ⟨by rfl, ?_⟩) ?_ ?_
          rotate_left
          ·intro w'
           go_simp
           with_reducible rfl
          rotate_left
          ·exact qPu
          refine take_ (i := 3) (N := some 53) (v := ?_) (a' := ?_) #[true, true, true, true, true, true, true, true, true, true, false, true, false, false, false, true, true, true, false, true, true, false, false, false, false, false, false] rfl rfl (take_ofW HT_.out HW_.out (by kernel_rfl)) (fun _ _ _ h => h) (Or.inl ⟨by rfl, ?_⟩) hHeld ?_ ?_
          rotate_left
          ·rintro w' ⟨s0, s1, s2, s3, s4⟩
           go_simp
           with_reducible rfl
          rotate_left
          ·exact qPu
          refine take_ (i := 10) (N := some 60) (v := ?_) (a' := ?_) #[true, true, true, true, true, true, true, true, true, true, true, true, false, false, false, true, true, true, false, true, true, false, false, false, false, false, false] rfl rfl (take_ofW HT_.out HW_.out (by kernel_rfl)) (fun _ _ _ h => h) (Or.inl ⟨by rfl, ?_⟩) hHeld ?_ ?_
          rotate_left
          ·rintro w' ⟨s0, s1, s2, s3, s4⟩
           go_simp
           with_reducible rfl
          rotate_left
          ·exact qPu
          refine pure_ (i := 12) (N := some 62) (v := ?_) (a' := ?_) #[true, true, true, true, true, true, true, true, true, true, true, true, true, false, false, true, true, true, false, true, true, false, false, false, false, false, false] rfl rfl (any_of HT_.out (by kernel_rfl)) (fun _ _ _ h => h) (Or.inl ⟨by rfl, ?_⟩) ?_ ?_
          rotate_left
          ·intro w'
           go_simp
           with_reducible rfl
          rotate_left
          ·exact qPu
          refine take_ (i := 13) (N := some 63) (v := ?_) (a' := ?_) #[true, true, true, true, true, true, true, true, true, true, true, true, true, true, false, true, true, true, false, true, true, false, false, false, false, false, false] rfl rfl (take_ofW HT_.out HW_.out (by kernel_rfl)) (fun _ _ _ h => h) (Or.inl ⟨by rfl, ?_⟩) hHeld ?_ ?_
          rotate_left
          ·rintro w' ⟨s0, s1, s2, s3, s4⟩
           go_simp
           with_reducible rfl
          rotate_left
          ·exact qPu
          refine pure_ (i := 14) (N := some 64) (v := ?_) (a' := ?_) #[true, true, true, true, true, true, true, true, true, true, true, true, true, true, true, true, true, true, false, true, true, false, false, false, false, false, false] rfl rfl (any_of HT_.out (by kernel_rfl)) (fun _ _ _ h => h) (Or.inl ⟨by rfl, ?_⟩) ?_ ?_
          rotate_left
          ·intro w'
           go_simp
           with_reducible rfl
          rotate_left
          ·exact qPu
          refine take_ (i := 18) (N := some 68) (v := ?_) (a' := ?_) #[true, true, true, true, true, true, true, true, true, true, true, true, true, true, true, true, true, true, true, true, true, false, false, false, false, false, false] rfl rfl (take_ofW HT_.out HW_.out (by kernel_rfl)) (fun _ _ _ h => h) (Or.inl ⟨by rfl, ?_⟩) hHeld ?_ ?_
          rotate_left
          ·rintro w' ⟨s0, s1, s2, s3, s4⟩
           go_simp
           with_reducible rfl
          rotate_left
          ·exact qPu
          refine pure_ (i := 21) (N := some 71) (v := ?_) (a' := ?_) #[true, true, true, true, true, true, true, true, true, true, true, true, true, true, true, true, true, true, true, true, true, true, false, false, false, false, false] rfl rfl (any_of HT_.out (by kernel_rfl)) (fun _ _ _ h => h) (Or.inl ⟨by rfl, ?_⟩) ?_ ?_
          rotate_left
          ·intro w'
           go_simp
           with_reducible rfl
          rotate_left
          ·exact qPu
          refine take_ (i := 22) (N := some 72) (v := ?_) (a' := ?_) #[true, true, true, true, true, true, true, true, true, true, true, true, true, true, true, true, true, true, true, true, true, true, true, false, false, false, false] rfl rfl (take_ofW HT_.out HW_.out (by kernel_rfl)) (fun _ _ _ h => h) (Or.inl ⟨by rfl, ?_⟩) hHeld ?_ ?_
          rotate_left
          ·rintro w' ⟨s0, s1, s2, s3, s4⟩
           go_simp
           with_reducible rfl
          rotate_left
          ·exact qPu
          refine pure_ (i := 23) (N := some 73) (v := ?_) (a' := ?_) #[true, true, true, true, true, true, true, true, true, true, true, true, true, true, true, true, true, true, true, true, true, true, true, true, false, false, false] rfl rfl (any_of HT_.out (by kernel_rfl)) (fun _ _ _ h => h) (Or.inl ⟨by rfl, ?_⟩) ?_ ?_
          rotate_left
          ·intro w'
           go_simp
           with_reducible rfl
          rotate_left
          ·exact qPu
          refine pure_ (i := 24) (N := some 74) (v := ?_) (a' := ?_) #[true, true, true, true, true, true, true, true, true, true, true, true, true, true, true, true, true, true, true, true, true, true, true, true, true, false, false] rfl rfl (any_of HT_.out (by kernel_rfl)) (fun _ _ _ h => h) (Or.inl ⟨by rfl, ?_⟩) ?_ ?_
          rotate_left
          ·intro w'
           go_simp
           with_reducible rfl
          rotate_left
          ·exact qPu
          refine pure_ (i := 25) (N := some 75) (v := ?_) (a' := ?_) #[true, true, true, true, true, true, true, true, true, true, true, true, true, true, true, true, true, true, true, true, true, true, true, true, true, true, false] rfl rfl (any_of HT_.out (by kernel_rfl)) (fun _ _ _ h => h) (Or.inl ⟨by rfl, ?_⟩) ?_ ?_
          rotate_left
          ·intro w'
           go_simp
           with_reducible rfl
          rotate_left
          ·exact qPu
          refine last_ (i := 26) (N := none) #[true, true, true, true, true, true, true, true, true, true, true, true, true, true, true, true, true, true, true, true, true, true, true, true, true, true, true] rfl rfl (one_of HT_.out (by kernel_rfl)) (by decide) (fun K hK => ?_)
          refine skip_ (w1 := ?_) (by rfl) rfl ?_ ?_
          rotate_left
          ·go_simp
           rfl
          refine hK.out _ _ ?_
          clear hK K
          refine done_ (done_of HT_.out (by kernel_rfl)) ?_
          try go_wp2
          (try simp only [← hl5_2])
          go_roundg k2
          case measure => have := HK1.out; have := HK2.out; omega
          case rel => exact ⟨(y169), (wrap64 (x7_2 - 1)), qV, H', ⟨by have := HK1.out; have := HK2.out; omega⟩, ⟨by (try simp only [hl5_2]); (with_reducible repeat (first | apply Kd.S_alloc | apply Kd.S_drewN | apply Kd.S_drew)); exact HQ58.out⟩, ⟨qS1 HB GB55⟩⟩
         ·have c48b0 : ((bt a0 x6_1) == (bt a1 x7_2)) = false := beq_eq_false_iff_ne.mpr c48
          (have c48b1 : ((bt a0 x6_1) != (bt a1 x7_2)) = true := bne_iff_ne.mpr c48); (obtain ⟨c60b0, H⟩ := qT H); (obtain ⟨c61b0, H⟩ := qT H); (obtain ⟨c62b0, H⟩ := qT H); (obtain ⟨ji63, hji63⟩ : ∃ j_ : Int, (mn (wrap64 ((rd (rd_L3 x5_2 (ji36)) (ji39)) + 1)) (wrap64 ((rd (rd_L3 x5_2 (ji36)) x7_2) + 1))) = j_ := ⟨_, rfl⟩); (replace H : (if x7_2 < ((rd_L3 x5_2 x6_1).length : Int) then (impl_costs.l1 k2 a0 a1 (x5_2.set (x6_1 : Int).toNat ((rd_L3 x5_2 x6_1).set (x7_2 : Int).toNat (mn (ji63) (wrap64 ((rd (rd_L3 x5_2 x6_1) (ji39)) + 1))))) x6_1 (wrap64 (x7_2 - 1))) else (none)) = some r := by first | (rw [hji63] at H; exact H) | (simp only [hji63] at H ⊢; exact H)); (have hji63_ : (if (wrap64 ((rd (rd_L3 x5_2 (ji36)) x7_2) + 1)) < (wrap64 ((rd (rd_L3 x5_2 (ji36)) (ji39)) + 1)) then (wrap64 ((rd (rd_L3 x5_2 (ji36)) x7_2) + 1)) else (wrap64 ((rd (rd_L3 x5_2 (ji36)) (ji39)) + 1))) = ji63 := hji63); (obtain ⟨ji64, hji64⟩ : ∃ j_ : Int, (mn (ji63) (wrap64 ((rd (rd_L3 x5_2 x6_1) (ji39)) + 1))) = j_ := ⟨_, rfl⟩); (replace H : (if x7_2 < ((rd_L3 x5_2 x6_1).length : Int) then (impl_costs.l1 k2 a0 a1 (x5_2.set (x6_1 : Int).toNat ((rd_L3 x5_2 x6_1).set (x7_2 : Int).toNat (ji64))) x6_1 (wrap64 (x7_2 - 1))) else (none)) = some r := by first | (rw [hji64] at H; exact H) | (simp only [hji64] at H ⊢; exact H)); (have hji64_ : (if (wrap64 ((rd (rd_L3 x5_2 x6_1) (ji39)) + 1)) < (ji63) then (wrap64 ((rd (rd_L3 x5_2 x6_1) (ji39)) + 1)) else (ji63)) = ji64 := hji64); (obtain ⟨c65b0, H⟩ := qT H); (obtain ⟨y175, hy175⟩ : ∃ y_ : List Int, y_ = ((rd_L3 x5_2 x6_1).set (x7_2 : Int).toNat (ji64)) := ⟨_, rfl⟩); (replace H : (impl_costs.l1 k2 a0 a1 (x5_2.set (x6_1 : Int).toNat y175) x6_1 (wrap64 (x7_2 - 1))) = some r := qY hy175 H); (have Ny175 := Aside0.mk hy175); clear hy175; (obtain ⟨y177, hy177⟩ : ∃ y_ : List (List Int), y_ = (x5_2.set (x6_1 : Int).toNat y175) := ⟨_, rfl⟩); (replace H : (impl_costs.l1 k2 a0 a1 y177 x6_1 (wrap64 (x7_2 - 1))) = some r := qY hy177 H); (have Ny177 := Aside0.mk hy177); clear hy177; (have H' := Aside0.mk H); clear H; (have p160 : 0 ≤ ((ji36) : Int) := qO); (have q160 : (ji36) < (x5_2.length : Int) := qO); (obtain ⟨ad160, A160_0, c160_0, e160, hx160_0, hl160_0, hi160_0⟩ := at_L3 (Kd.S_reads' HO_5.out).2.2 (ji36) p160 q160); (obtain rfl : (⟨go14, 0, none⟩ : Addr) = ad160 := (by injection e160)); (obtain ⟨ce160, hce160, hMe160, hcc160⟩ := Kd.S_get HO_5.out [] (ji36) p160 (by first | exact q160 | exact qO | (have e_ := (Kd.S_reads' HO_5.out).1; omega))); (obtain ⟨ve160_0, rfl, ge160_0⟩ := hMe160); (have hv160_0 := hcc160 0 _ rfl); (rw [Nat.add_zero, show ((Kd.slice 3 (Kd.int .i64))).sz = 1 from rfl, Nat.mul_one] at hv160_0); (replace hv160_0 := Option.some.inj (hv160_0.symm.trans hx160_0)); (rw [hv160_0] at ge160_0); (have HL160_0 := Aside0.mk (show Kd.R (Kd.int .i64) 3 _ _ _ _ (rd_L3 x5_2 (ji36)) from ge160_0)); clear hv160_0 ge160_0; (have HX160_0 := Aside0.mk hx160_0); clear hcc160 hce160
          (first | simp only [add_plain] at hx160_0 | simp only [add_at] at hx160_0 | simp only [Addr.add, Nat.zero_add] at hx160_0 | skip)
          (have HR160_0 := Aside0.mk hi160_0); (have HC160_0 := Aside0.mk hl160_0); clear hi160_0 hl160_0; (replace p160 := eq_true p160); (replace q160 := eq_true q160); (have p161 : 0 ≤ ((ji39) : Int) := qO); (have q161 : (ji39) < ((rd_L3 x5_2 (ji36)).length : Int) := qO); (obtain ⟨ad161, e161, hx161_0⟩ := Kd.at_int (by repeat (first | (with_reducible exact HR160_0.out) | (with_reducible refine Kd.C_alloc ?_ _) | (with_reducible refine Kd.C_drewN ?_ _) | (with_reducible refine Kd.C_drew ?_) | exact HR160_0.out)) (ji39) p161 q161)
          cases e161
          (replace p161 := eq_true p161); (replace q161 := eq_true q161)
          try go_wp2
          (replace HO_5 := Aside0.mk (Kd.S_drew HO_5.out)); (replace HL160_0 := Aside0.mk (Kd.R_drew HL160_0.out)); (replace HR160_0 := Aside0.mk (Kd.C_drew HR160_0.out)); (replace HB := Aside0.mk (below_drew1 HB.out)); (have p44 : 0 ≤ (x6_1 : Int) := qO); (have q44 : x6_1 < (a0.size : Int) := qO); (have hx44 := bt_at a0 x6_1); (replace p44 := eq_true p44); (replace q44 := eq_true q44); (have p47 : 0 ≤ (x7_2 : Int) := qO); (have q47 : x7_2 < (a1.size : Int) := qO); (have hx47 := bt_at a1 x7_2); (replace p47 := eq_true p47); (replace q47 := eq_true q47)
          refine start_ (n := 7) (S := fun w' => True) (ds := []) #[false, false, false, false, false, false, false] (by kernel_rfl) rfl rfl trivial (fun hHeld => ?_)
          generalize wr.drew = w67 at HO_5 HL160_0 HR160_0 HB hHeld ⊢
          refine pure_ (i := 0) (N := some 41) (v := ?_) (a' := ?_) #[true, false, false, false, false, false, false] rfl rfl (by kernel_rfl) (fun _ _ _ h => h) (Or.inl ⟨by rfl, ?_⟩) ?_ ?_
          rotate_left
          ·intro w'
           go_simp
           with_reducible rfl
          rotate_left
          ·exact qPu
          refine pure_ (i := 1) (N := some 42) (v := ?_) (a' := ?_) #[true, true, false, false, false, false, false] rfl rfl (by kernel_rfl) (fun _ _ _ h => h) (Or.inl ⟨by rfl, ?_⟩) ?_ ?_
          rotate_left
          ·intro w'
           go_simp
           with_reducible rfl
          rotate_left
          ·exact qPu
          refine pure_ (i := 3) (N := some 44) (v := ?_) (a' := ?_) #[true, true, false, true, false, false, false] rfl rfl (by kernel_rfl) (fun _ _ _ h => h) (Or.inl ⟨by rfl, ?_⟩) ?_ ?_
          rotate_left
          ·intro w'
           go_simp
           with_reducible rfl
          rotate_left
          ·exact qPu
          refine pure_ (i := 4) (N := some 45) (v := ?_) (a' := ?_) #[true, true, false, true, true, false, false] rfl rfl (by kernel_rfl) (fun _ _ _ h => h) (Or.inl ⟨by rfl, ?_⟩) ?_ ?_
          rotate_left
          ·intro w'
           go_simp
           with_reducible rfl
          rotate_left
          ·exact qPu
          refine take_ (i := 2) (N := some 43) (v := ?_) (a' := ?_) #[true, true, true, true, true, false, false] rfl rfl (by kernel_rfl) (fun _ _ _ h => h) (Or.inl ⟨by rfl, ?_⟩) hHeld ?_ ?_
          rotate_left
          ·intro w' _
           go_simp
           with_reducible rfl
          rotate_left
          ·exact qPu
          refine take_ (i := 5) (N := some 46) (v := ?_) (a' := ?_) #[true, true, true, true, true, true, false] rfl rfl (by kernel_rfl) (fun _ _ _ h => h) (Or.inl ⟨by rfl, ?_⟩) hHeld ?_ ?_
          rotate_left
          ·intro w' _
           go_simp
           with_reducible rfl
          rotate_left
          ·exact qPu
          refine pure_ (i := 6) (N := some 47) (v := ?_) (a' := ?_) #[true, true, true, true, true, true, true] rfl rfl (by kernel_rfl) (fun _ _ _ h => h) (Or.inl ⟨by rfl, ?_⟩) ?_ ?_
          rotate_left
          ·intro w'
           go_simp
           with_reducible rfl
          rotate_left
          ·exact qPu
          refine done_ (by kernel_rfl) ?_
          try go_wp2
          (replace HO_5 := Aside0.mk (Kd.S_drew HO_5.out)); (replace HL160_0 := Aside0.mk (Kd.R_drew HL160_0.out)); (replace HR160_0 := Aside0.mk (Kd.C_drew HR160_0.out)); (replace HB := Aside0.mk (below_drew1 HB.out)); (have p170 : 0 ≤ (x6_1 : Int) := qO); (have q170 : x6_1 < (x5_2.length : Int) := qO); (obtain ⟨ad170, A170_0, c170_0, e170, hx170_0, hl170_0, hi170_0⟩ := at_L3 (Kd.S_reads' HO_5.out).2.2 x6_1 p170 q170); (obtain rfl : (⟨go14, 0, none⟩ : Addr) = ad170 := (by injection e170)); (obtain ⟨ce170, hce170, hMe170, hcc170⟩ := Kd.S_get HO_5.out [] x6_1 p170 (by first | exact q170 | exact qO | (have e_ := (Kd.S_reads' HO_5.out).1; omega))); (obtain ⟨ve170_0, rfl, ge170_0⟩ := hMe170); (have hv170_0 := hcc170 0 _ rfl); (rw [Nat.add_zero, show ((Kd.slice 3 (Kd.int .i64))).sz = 1 from rfl, Nat.mul_one] at hv170_0); (replace hv170_0 := Option.some.inj (hv170_0.symm.trans hx170_0)); (rw [hv170_0] at ge170_0); (have HL170_0 := Aside0.mk (show Kd.R (Kd.int .i64) 3 _ _ _ _ (rd_L3 x5_2 x6_1) from ge170_0)); clear hv170_0 ge170_0; (have HX170_0 := Aside0.mk hx170_0); clear hcc170 hce170
          (first | simp only [add_plain] at hx170_0 | simp only [add_at] at hx170_0 | simp only [Addr.add, Nat.zero_add] at hx170_0 | skip)
          (have HR170_0 := Aside0.mk hi170_0); (have HC170_0 := Aside0.mk hl170_0); clear hi170_0 hl170_0; (replace p170 := eq_true p170); (replace q170 := eq_true q170); (have p171 : 0 ≤ ((ji36) : Int) := qO); (have q171 : (ji36) < (x5_2.length : Int) := qO); (obtain ⟨ad171, A171_0, c171_0, e171, hx171_0, hl171_0, hi171_0⟩ := at_L3 (Kd.S_reads' HO_5.out).2.2 (ji36) p171 q171); (obtain rfl : (⟨go14, 0, none⟩ : Addr) = ad171 := (by injection e171)); (obtain ⟨ce171, hce171, hMe171, hcc171⟩ := Kd.S_get HO_5.out [] (ji36) p171 (by first | exact q171 | exact qO | (have e_ := (Kd.S_reads' HO_5.out).1; omega))); (obtain ⟨ve171_0, rfl, ge171_0⟩ := hMe171); (have hv171_0 := hcc171 0 _ rfl); (rw [Nat.add_zero, show ((Kd.slice 3 (Kd.int .i64))).sz = 1 from rfl, Nat.mul_one] at hv171_0); (replace hv171_0 := Option.some.inj (hv171_0.symm.trans hx171_0)); (rw [hv171_0] at ge171_0); (have HL171_0 := Aside0.mk (show Kd.R (Kd.int .i64) 3 _ _ _ _ (rd_L3 x5_2 (ji36)) from ge171_0)); clear hv171_0 ge171_0; (have HX171_0 := Aside0.mk hx171_0); clear hcc171 hce171
          (first | simp only [add_plain] at hx171_0 | simp only [add_at] at hx171_0 | simp only [Addr.add, Nat.zero_add] at hx171_0 | skip)
          (have HR171_0 := Aside0.mk hi171_0); (have HC171_0 := Aside0.mk hl171_0); clear hi171_0 hl171_0; (replace p171 := eq_true p171); (replace q171 := eq_true q171); (have p172 : 0 ≤ (x7_2 : Int) := qO); (have q172 : x7_2 < ((rd_L3 x5_2 (ji36)).length : Int) := qO); (obtain ⟨ad172, e172, hx172_0⟩ := Kd.at_int (by repeat (first | (with_reducible exact HR171_0.out) | (with_reducible refine Kd.C_alloc ?_ _) | (with_reducible refine Kd.C_drewN ?_ _) | (with_reducible refine Kd.C_drew ?_) | exact HR171_0.out)) x7_2 p172 q172)
          cases e172
          (replace p172 := eq_true p172); (replace q172 := eq_true q172); (have p173 : 0 ≤ (x6_1 : Int) := qO); (have q173 : x6_1 < (x5_2.length : Int) := qO); (obtain ⟨ad173, A173_0, c173_0, e173, hx173_0, hl173_0, hi173_0⟩ := at_L3 (Kd.S_reads' HO_5.out).2.2 x6_1 p173 q173); (obtain rfl : (⟨go14, 0, none⟩ : Addr) = ad173 := (by injection e173)); (obtain ⟨ce173, hce173, hMe173, hcc173⟩ := Kd.S_get HO_5.out [] x6_1 p173 (by first | exact q173 | exact qO | (have e_ := (Kd.S_reads' HO_5.out).1; omega))); (obtain ⟨ve173_0, rfl, ge173_0⟩ := hMe173); (have hv173_0 := hcc173 0 _ rfl); (rw [Nat.add_zero, show ((Kd.slice 3 (Kd.int .i64))).sz = 1 from rfl, Nat.mul_one] at hv173_0); (replace hv173_0 := Option.some.inj (hv173_0.symm.trans hx173_0)); (rw [hv173_0] at ge173_0); (have HL173_0 := Aside0.mk (show Kd.R (Kd.int .i64) 3 _ _ _ _ (rd_L3 x5_2 x6_1) from ge173_0)); clear hv173_0 ge173_0; (have HX173_0 := Aside0.mk hx173_0); clear hcc173 hce173
          (first | simp only [add_plain] at hx173_0 | simp only [add_at] at hx173_0 | simp only [Addr.add, Nat.zero_add] at hx173_0 | skip)
          (have HR173_0 := Aside0.mk hi173_0); (have HC173_0 := Aside0.mk hl173_0); clear hi173_0 hl173_0; (replace p173 := eq_true p173); (replace q173 := eq_true q173); (have ea_ := Option.some.inj (hx170_0.symm.trans hx173_0))
          injection ea_ with ea_ en_ ec_
          (subst ea_); (subst ec_); clear en_; (have p174 : 0 ≤ ((ji39) : Int) := qO); (have q174 : (ji39) < ((rd_L3 x5_2 x6_1).length : Int) := qO); (obtain ⟨ad174, e174, hx174_0⟩ := Kd.at_int (by repeat (first | (with_reducible exact HR173_0.out) | (with_reducible refine Kd.C_alloc ?_ _) | (with_reducible refine Kd.C_drewN ?_ _) | (with_reducible refine Kd.C_drew ?_) | exact HR173_0.out)) (ji39) p174 q174)
          cases e174
          (replace p174 := eq_true p174); (replace q174 := eq_true q174); (have p66 : 0 ≤ (x7_2 : Int) := qO); (have q66 : (x7_2 : Int) < (((rd_L3 x5_2 x6_1).length : Int) : Int) := qO); (obtain ⟨go66, co66, eo66, gb66, gl66, cl66, HG66⟩ := Kd.R_form HL170_0.out (by omega))
          (first | cases eo66 | (injection eo66 with ea_ en_ ec_; (first | subst ea_ | (injection ea_ with ea_; subst ea_)); subst ec_; clear en_))
          (have GB66 := Aside0.mk gb66); (have GG66 := Aside0.mk HG66); clear gb66 gl66 HG66
          (first | simp only [add_plain] at hx174_0 | skip)
          (obtain ⟨hx66_0, hf66_0⟩ := Kd.R_celln 0 HL170_0.out (x7_2 : Int) p66 q66); (replace p66 := eq_true p66); (replace q66 := eq_true q66); (have hq69 : (x6_1 : Int) < (x5_2.length : Int) := (by have h_ : (x6_1 : Int) < ((x5_2.length : Int) : Int) := qO; first | exact h_ | (have e_ := (Kd.S_reads' HO_5.out).1; omega) | simpa only [List.length_set, List.length_set] using h_)); (obtain ⟨oki69, ce69, hcl69, hM69, hcc69, hok69, hbk69⟩ := Kd.S_borrow HO_5.out [] (x6_1 : Int) (qO) hq69); (obtain ⟨ve69_0, rfl, ge69_0⟩ := hM69); (have hv69 := hcc69 0 _ rfl); (rw [Nat.add_zero, show ((Kd.slice 3 (Kd.int .i64))).sz = 1 from rfl, Nat.mul_one] at hv69); (replace hv69 := Option.some.inj (hv69.symm.trans HX170_0.out)); (subst hv69); clear hcc69 hcl69; (replace ge69_0 := (show Kd.R (Kd.int .i64) 3 _ _ _ _ (rd_L3 x5_2 x6_1) from ge69_0)); (have HP69 := Kd.R_putg ge69_0 (x7_2 : Int) ji64); (rw [← Ny175.out] at HP69); (have HS69 := hbk69 HP69.2 (fun k_ e_ => by injection e_ with e_; subst e_; exact ge69_0.1 _ rfl) (x' := y175) (Kd.M_row HP69.1)); (rw [← Ny177.out] at HS69); (have HQ69 := Aside0.mk HS69); clear HP69 HS69 hbk69 hok69
          refine start_ (n := 27) (S := fun w' => w'.cell? ⟨go14, (x6_1).toNat, none⟩ = some (.slice (some ⟨go66, 0, none⟩) (rd_L3 x5_2 x6_1).length c170_0) ∧ w'.cell? ⟨go14, ((ji36)).toNat, none⟩ = some (.slice (some ad172) (rd_L3 x5_2 (ji36)).length c171_0) ∧ w'.cell? (ad172.add (x7_2).toNat) = some (.int .i64 (rd (rd_L3 x5_2 (ji36)) x7_2)) ∧ w'.cell? ⟨go14, (x6_1).toNat, none⟩ = some (.slice (some ⟨go66, 0, none⟩) (rd_L3 x5_2 x6_1).length c170_0) ∧ w'.cell? ⟨go66, ((ji39)).toNat, none⟩ = some (.int .i64 (rd (rd_L3 x5_2 x6_1) (ji39)))) (ds := [26]) #[false, false, false, false, false, false, false, false, false, false, false, false, false, false, false, false, false, false, false, false, false, false, false, false, false, false, false] (by kernel_rfl) rfl rfl ⟨hx170_0, hx171_0, hx172_0, hx173_0, hx174_0⟩ (fun hHeld => ?_); refine with_tabW impl_costs.tab12 impl_costs.bits12 (fun HT_ HW_ => ?_)
          generalize w67.drew = w68 at HO_5 HL160_0 HR160_0 HB GG66 HL170_0 HL171_0 HL173_0 HQ69 HR170_0 HR171_0 HR173_0 HX170_0 HX171_0 HX173_0 hf66_0 hx170_0 hx171_0 hx172_0 hx173_0 hx174_0 hx66_0 hHeld ⊢
          refine pure_ (i := 0) (N := some 50) (v := ?_) (a' := ?_) #[true, false, false, false, false, false, false, false, false, false, false, false, false, false, false, false, false, false, false, false, false, false, false, false, false, false, false] rfl rfl (any_of HT_.out (by kernel_rfl)) (fun _ _ _ h => h) (Or.inl ⟨by rfl, ?_⟩) ?_ ?_
          rotate_left
          ·intro w'
           go_simp
           with_reducible rfl
          rotate_left
          ·exact qPu
          refine pure_ (i := 1) (N := some 51) (v := ?_) (a' := ?_) #[true, true, false, false, false, false, false, false, false, false, false, false, false, false, false, false, false, false, false, false, false, false, false, false, false, false, false] rfl rfl (any_of HT_.out (by kernel_rfl)) (fun _ _ _ h => h) (Or.inl ⟨by rfl, ?_⟩) ?_ ?_
          rotate_left
          ·intro w'
           go_simp
           with_reducible rfl
          rotate_left
          ·exact qPu
          refine pure_ (i := 2) (N := some 52) (v := ?_) (a' := ?_) #[true, true, true, false, false, false, false, false, false, false, false, false, false, false, false, false, false, false, false, false, false, false, false, false, false, false, false] rfl rfl (any_of HT_.out (by kernel_rfl)) (fun _ _ _ h => h) (Or.inl ⟨by rfl, ?_⟩) ?_ ?_
          rotate_left
          ·intro w'
           go_simp
           with_reducible rfl
          rotate_left
          ·exact qPu
          refine pure_ (i := 4) (N := some 54) (v := ?_) (a' := ?_) #[true, true, true, false, true, false, false, false, false, false, false, false, false, false, false, false, false, false, false, false, false, false, false, false, false, false, false] rfl rfl (any_of HT_.out (by kernel_rfl)) (fun _ _ _ h => h) (Or.inl ⟨by rfl, ?_⟩) ?_ ?_
          rotate_left
          ·intro w'
           go_simp
           with_reducible rfl
          rotate_left
          ·exact qPu
          refine pure_ (i := 5) (N := some 55) (v := ?_) (a' := ?_) #[true, true, true, false, true, true, false, false, false, false, false, false, false, false, false, false, false, false, false, false, false, false, false, false, false, false, false] rfl rfl (any_of HT_.out (by kernel_rfl)) (fun _ _ _ h => h) (Or.inl ⟨by rfl, ?_⟩) ?_ ?_
          rotate_left
          ·intro w'
           go_simp
           with_reducible rfl
          rotate_left
          ·exact qPu
          refine pure_ (i := 6) (N := some 56) (v := ?_) (a' := ?_) #[true, true, true, false, true, true, true, false, false, false, false, false, false, false, false, false, false, false, false, false, false, false, false, false, false, false, false] rfl rfl (any_of HT_.out (by kernel_rfl)) (fun _ _ _ h => h) (Or.inl ⟨by rfl, ?_⟩) ?_ ?_
          rotate_left
          ·intro w'
           go_simp
           with_reducible rfl
          rotate_left
          ·exact qPu
          refine pure_ (i := 7) (N := some 57) (v := ?_) (a' := ?_) #[true, true, true, false, true, true, true, true, false, false, false, false, false, false, false, false, false, false, false, false, false, false, false, false, false, false, false] rfl rfl (any_of HT_.out (by kernel_rfl)) (fun _ _ _ h => h) (Or.inl ⟨by rfl, ?_⟩) ?_ ?_
          rotate_left
          ·intro w'
           go_simp
           with_reducible rfl
          rotate_left
          ·exact qPu
          refine pure_ (i := 8) (N := some 58) (v := ?_) (a' := ?_) #[true, true, true, false, true, true, true, true, true, false, false, false, false, false, false, false, false, false, false, false, false, false, false, false, false, false, false] rfl rfl (any_of HT_.out (by kernel_rfl)) (fun _ _ _ h => h) (Or.inl ⟨by rfl, ?_⟩) ?_ ?_
          rotate_left
          ·intro w'
           go_simp
           with_reducible rfl
          rotate_left
          ·exact qPu
          refine pure_ (i := 9) (N := some 59) (v := ?_) (a' := ?_) #[true, true, true, false, true, true, true, true, true, true, false, false, false, false, false, false, false, false, false, false, false, false, false, false, false, false, false] rfl rfl (any_of HT_.out (by kernel_rfl)) (fun _ _ _ h => h) (Or.inl ⟨by rfl, ?_⟩) ?_ ?_
          rotate_left
          ·intro w'
           go_simp
           with_reducible rfl
          rotate_left
          ·exact qPu
          refine pure_ (i := 11) (N := some 61) (v := ?_) (a' := ?_) #[true, true, true, false, true, true, true, true, true, true, false, true, false, false, false, false, false, false, false, false, false, false, false, false, false, false, false] rfl rfl (any_of HT_.out (by kernel_rfl)) (fun _ _ _ h => h) (Or.inl ⟨by rfl, ?_⟩) ?_ ?_
          rotate_left
          ·intro w'
           go_simp
           with_reducible rfl
          rotate_left
          ·exact qPu
          refine pure_ (i := 15) (N := some 65) (v := ?_) (a' := ?_) #[true, true, true, false, true, true, true, true, true, true, false, true, false, false, false, true, false, false, false, false, false, false, false, false, false, false, false] rfl rfl (any_of HT_.out (by kernel_rfl)) (fun _ _ _ h => h) (Or.inl ⟨by rfl, ?_⟩) ?_ ?_
          rotate_left
          ·intro w'
           go_simp
           with_reducible rfl
          rotate_left
          ·exact qPu
          refine pure_ (i := 16) (N := some 66) (v := ?_) (a' := ?_) #[true, true, true, false, true, true, true, true, true, true, false, true, false, false, false, true, true, false, false, false, false, false, false, false, false, false, false] rfl rfl (any_of HT_.out (by kernel_rfl)) (fun _ _ _ h => h) (Or.inl ⟨by rfl, ?_⟩) ?_ ?_
          rotate_left
          ·intro w'
           go_simp
           with_reducible rfl
          rotate_left
          ·exact qPu
          refine pure_ (i := 17) (N := some 67) (v := ?_) (a' := ?_) #[true, true, true, false, true, true, true, true, true, true, false, true, false, false, false, true, true, true, false, false, false, false, false, false, false, false, false] rfl rfl (any_of HT_.out (by kernel_rfl)) (fun _ _ _ h => h) (Or.inl ⟨by rfl, ?_⟩) ?_ ?_
          rotate_left
          ·intro w'
           go_simp
           with_reducible rfl
          rotate_left
          ·exact qPu
          refine pure_ (i := 19) (N := some 69) (v := ?_) (a' := ?_) #[true, true, true, false, true, true, true, true, true, true, false, true, false, false, false, true, true, true, false, true, false, false, false, false, false, false, false] rfl rfl (any_of HT_.out (by kernel_rfl)) (fun _ _ _ h => h) (Or.inl ⟨by rfl, ?_⟩) ?_ ?_
          rotate_left
          ·intro w'
           go_simp
           with_reducible rfl
          rotate_left
          ·exact qPu
          refine pure_ (i := 20) (N := some 70) (v := ?_) (a' := ?_) #[true, true, true, false, true, true, true, true, true, true, false, true, false, false, false, true, true, true, false, true, true, false, false, false, false, false, false] rfl rfl (any_of HT_.out (by kernel_rfl)) (fun _ _ _ h => h) (Or.inl ⟨by rfl, ?_⟩) ?_ ?_
          rotate_left
          ·intro w'
           go_simp
           with_reducible rfl
          rotate_left
          ·exact qPu
          refine take_ (i := 3) (N := some 53) (v := ?_) (a' := ?_) #[true, true, true, true, true, true, true, true, true, true, false, true, false, false, false, true, true, true, false, true, true, false, false, false, false, false, false] rfl rfl (take_ofW HT_.out HW_.out (by kernel_rfl)) (fun _ _ _ h => h) (Or.inl ⟨by rfl, ?_⟩) hHeld ?_ ?_
          rotate_left
          ·rintro w' ⟨s0, s1, s2, s3, s4⟩
           go_simp
           with_reducible rfl
          rotate_left
          ·exact qPu
          refine take_ (i := 10) (N := some 60) (v := ?_) (a' := ?_) #[true, true, true, true, true, true, true, true, true, true, true, true, false, false, false, true, true, true, false, true, true, false, false, false, false, false, false] rfl rfl (take_ofW HT_.out HW_.out (by kernel_rfl)) (fun _ _ _ h => h) (Or.inl ⟨by rfl, ?_⟩) hHeld ?_ ?_
          rotate_left
          ·rintro w' ⟨s0, s1, s2, s3, s4⟩
           go_simp
           with_reducible rfl
          rotate_left
          ·exact qPu
          refine pure_ (i := 12) (N := some 62) (v := ?_) (a' := ?_) #[true, true, true, true, true, true, true, true, true, true, true, true, true, false, false, true, true, true, false, true, true, false, false, false, false, false, false] rfl rfl (any_of HT_.out (by kernel_rfl)) (fun _ _ _ h => h) (Or.inl ⟨by rfl, ?_⟩) ?_ ?_
          rotate_left
          ·intro w'
           go_simp
           with_reducible rfl
          rotate_left
          ·exact qPu
          refine take_ (i := 13) (N := some 63) (v := ?_) (a' := ?_) #[true, true, true, true, true, true, true, true, true, true, true, true, true, true, false, true, true, true, false, true, true, false, false, false, false, false, false] rfl rfl (take_ofW HT_.out HW_.out (by kernel_rfl)) (fun _ _ _ h => h) (Or.inl ⟨by rfl, ?_⟩) hHeld ?_ ?_
          rotate_left
          ·rintro w' ⟨s0, s1, s2, s3, s4⟩
           go_simp
           with_reducible rfl
          rotate_left
          ·exact qPu
          refine pure_ (i := 14) (N := some 64) (v := ?_) (a' := ?_) #[true, true, true, true, true, true, true, true, true, true, true, true, true, true, true, true, true, true, false, true, true, false, false, false, false, false, false] rfl rfl (any_of HT_.out (by kernel_rfl)) (fun _ _ _ h => h) (Or.inl ⟨by rfl, ?_⟩) ?_ ?_
          rotate_left
          ·intro w'
           go_simp
           with_reducible rfl
          rotate_left
          ·exact qPu
          refine take_ (i := 18) (N := some 68) (v := ?_) (a' := ?_) #[true, true, true, true, true, true, true, true, true, true, true, true, true, true, true, true, true, true, true, true, true, false, false, false, false, false, false] rfl rfl (take_ofW HT_.out HW_.out (by kernel_rfl)) (fun _ _ _ h => h) (Or.inl ⟨by rfl, ?_⟩) hHeld ?_ ?_
          rotate_left
          ·rintro w' ⟨s0, s1, s2, s3, s4⟩
           go_simp
           with_reducible rfl
          rotate_left
          ·exact qPu
          refine pure_ (i := 21) (N := some 71) (v := ?_) (a' := ?_) #[true, true, true, true, true, true, true, true, true, true, true, true, true, true, true, true, true, true, true, true, true, true, false, false, false, false, false] rfl rfl (any_of HT_.out (by kernel_rfl)) (fun _ _ _ h => h) (Or.inl ⟨by rfl, ?_⟩) ?_ ?_
          rotate_left
          ·intro w'
           go_simp
           with_reducible rfl
          rotate_left
          ·exact qPu
          refine take_ (i := 22) (N := some 72) (v := ?_) (a' := ?_) #[true, true, true, true, true, true, true, true, true, true, true, true, true, true, true, true, true, true, true, true, true, true, true, false, false, false, false] rfl rfl (take_ofW HT_.out HW_.out (by kernel_rfl)) (fun _ _ _ h => h) (Or.inl ⟨by rfl, ?_⟩) hHeld ?_ ?_
          rotate_left
          ·rintro w' ⟨s0, s1, s2, s3, s4⟩
           go_simp
           with_reducible rfl
          rotate_left
          ·exact qPu
          refine pure_ (i := 23) (N := some 73) (v := ?_) (a' := ?_) #[true, true, true, true, true, true, true, true, true, true, true, true, true, true, true, true, true, true, true, true, true, true, true, true, false, false, false] rfl rfl (any_of HT_.out (by kernel_rfl)) (fun _ _ _ h => h) (Or.inl ⟨by rfl, ?_⟩) ?_ ?_
          rotate_left
          ·intro w'
           go_simp
           with_reducible rfl
          rotate_left
          ·exact qPu
          refine pure_ (i := 24) (N := some 74) (v := ?_) (a' := ?_) #[true, true, true, true, true, true, true, true, true, true, true, true, true, true, true, true, true, true, true, true, true, true, true, true, true, false, false] rfl rfl (any_of HT_.out (by kernel_rfl)) (fun _ _ _ h => h) (Or.inl ⟨by rfl, ?_⟩) ?_ ?_
          rotate_left
          ·intro w'
           go_simp
           with_reducible rfl
          rotate_left
          ·exact qPu
          refine pure_ (i := 25) (N := some 75) (v := ?_) (a' := ?_) #[true, true, true, true, true, true, true, true, true, true, true, true, true, true, true, true, true, true, true, true, true, true, true, true, true, true, false] rfl rfl (any_of HT_.out (by kernel_rfl)) (fun _ _ _ h => h) (Or.inl ⟨by rfl, ?_⟩) ?_ ?_
          rotate_left
          ·intro w'
           go_simp
           with_reducible rfl
          rotate_left
          ·exact qPu
          refine last_ (i := 26) (N := none) #[true, true, true, true, true, true, true, true, true, true, true, true, true, true, true, true, true, true, true, true, true, true, true, true, true, true, true] rfl rfl (one_of HT_.out (by kernel_rfl)) (by decide) (fun K hK => ?_)
          refine skip_ (w1 := ?_) (by rfl) rfl ?_ ?_
          rotate_left
          ·go_simp
           rfl
          refine hK.out _ _ ?_
          clear hK K
          refine done_ (done_of HT_.out (by kernel_rfl)) ?_
          try go_wp2
          (try simp only [← hl5_2])
          go_roundg k2
          case measure => have := HK1.out; have := HK2.out; omega
          case rel => exact ⟨(y177), (wrap64 (x7_2 - 1)), qV, H', ⟨by have := HK1.out; have := HK2.out; omega⟩, ⟨by (try simp only [hl5_2]); (with_reducible repeat (first | apply Kd.S_alloc | apply Kd.S_drewN | apply Kd.S_drew)); exact HQ69.out⟩, ⟨qS1 HB GB66⟩⟩
      ·have H' := Aside0.mk H
       clear H
       go_wp2
       (try simp only [← hl5_2])
       go_roundg k2
       case measure => have := HK1.out; have := HK2.out; omega
       case rel => exact ⟨(x5_2), (wrap64 (x6_1 - 1)), qV, H', ⟨by have := HK1.out; have := HK2.out; omega⟩, ⟨by (try simp only [hl5_2]); (with_reducible repeat (first | apply Kd.S_alloc | apply Kd.S_drewN | apply Kd.S_drew)); exact HO_5.out⟩, ⟨qS0 HB⟩⟩
   ·obtain rfl := Option.some.inj H
    go_wp2
    go_ret
    exact ⟨_, by first | rfl | (simp [errW_none, errW_some] <;> rfl) | (simp only [← hji3]; first | rfl | (simp [errW_none, errW_some] <;> rfl)) | (simp [*, errW_none, errW_some] <;> rfl), by (with_reducible repeat (first | apply Kd.S_alloc | apply Kd.S_drewN | apply Kd.S_drew)); exact HO_5.out, qS0 HB⟩
def impl_Capped.f (k : Nat) (a0 : ByteArray) (a1 : ByteArray) : Option (Int) := (impl_areShort.f a0 a1).bind fun t180 => (if t180 = true then ((impl_costs.f k a0 a1).bind fun t181 => (if 0 < (t181.length : Int) then (if 0 < ((rd_L3 t181 0).length : Int) then (some (mn 7 (rd (rd_L3 t181 0) 0))) else (none)) else (none))) else (some (-1)))
theorem impl_Capped.calls (k : Nat) (a0 : ByteArray) (a1 : ByteArray) (r : Int) (w : World) (h : impl_Capped.f k a0 a1 = some r) :
  Calls Tryz.prog 112 #[.string a0, .string a1] w fun e w' => e = .returned (.int .i64 r) ∧ Below w.heap.size w w' := by
 (have HB := Aside0.mk (Below.refl w.heap.size w)); (have H : ((impl_areShort.f a0 a1).bind fun t180 => (if t180 = true then ((impl_costs.f k a0 a1).bind fun t181 => (if 0 < (t181.length : Int) then (if 0 < ((rd_L3 t181 0).length : Int) then (some (mn 7 (rd (rd_L3 t181 0) 0))) else (none)) else (none))) else (some (-1)))) = some r := h); clear h; (obtain ⟨t180, A3, H⟩ := qX H)
 try dsimp only at H
 by_cases c4 : t180 = true
 ·subst c4
  (have H1 : ((impl_costs.f k a0 a1).bind fun t181 => (if 0 < (t181.length : Int) then (if 0 < ((rd_L3 t181 0).length : Int) then (some (mn 7 (rd (rd_L3 t181 0) 0))) else (none)) else (none))) = some r := by rw [if_pos rfl] at H; exact H); clear H; (have H := H1); clear H1; (obtain ⟨t181, A5, H⟩ := qX H)
  try dsimp only at H
  (obtain ⟨c6, H⟩ := qU H); (have c6b0 : decide (0 < (t181.length : Int)) = true := decide_eq_true c6); (have c6b1 : decide (0 < t181.length) = true := decide_eq_true (by omega)); clear c6; (obtain ⟨c7, H⟩ := qU H); (have c7b0 : decide (0 < ((rd_L3 t181 0).length : Int)) = true := decide_eq_true c7); (have c7b1 : decide (0 < (rd_L3 t181 0).length) = true := decide_eq_true (by omega)); clear c7; (obtain ⟨ji8, hji8⟩ : ∃ j_ : Int, (mn 7 (rd (rd_L3 t181 0) 0)) = j_ := ⟨_, rfl⟩); (replace H : (some ji8) = some r := by first | (rw [hji8] at H; exact H) | (simp only [hji8] at H ⊢; exact H)); (try rw [hji8] at A3); (try rw [hji8] at A5); (try (have hji8h : ji8 ≤ 7 := by (rw [← hji8]; unfold mn; (repeat' split) <;> omega))); (try (have hji8g : ji8 ≤ 64 := by omega)); (have hji8_ : (if (rd (rd_L3 t181 0) 0) < 7 then (rd (rd_L3 t181 0) 0) else 7) = ji8 := hji8); (obtain rfl := Option.some.inj H)
  go_enter Tryz.func112, Tryz.ntmps112
  go_wp2_with (first | ((with_reducible refine gate_callee (f := 149) rfl ?_); refine goesL_ (some 7) rfl rfl Tryz.func149 (by kernel_rfl) rfl #[.string a0, .string a1] rfl qL ?_; (with_reducible refine (impl_areShort.calls a0 a1 true _ A3.out).mono ?_); rintro e w' ⟨rfl, ⟨nd, rfl⟩⟩; refine ⟨_, rfl, ?_⟩) | ((with_reducible refine gate_callee (f := 150) rfl ?_); refine goesL_ (some 11) rfl rfl Tryz.func150 (by kernel_rfl) rfl #[.string a0, .string a1] rfl qL ?_; (with_reducible refine (impl_costs.calls k a0 a1 t181 _ A5.out).mono ?_); rintro e w9 ⟨v182, rfl, ho0, hb⟩; refine ⟨_, rfl, ?_⟩; have HO183 := Aside0.mk (Kd.S_lower ho0 (below_size (qS0 HB))); replace HB := Aside0.mk (below_step (qS0 HB) hb); (try clear hb); (try clear hb2); (try clear hk); (try clear hi); (try clear ho0); obtain ⟨Ao10, co10, eo10⟩ := Kd.S_slice HO183.out; subst eo10; have p184 : 0 ≤ (0 : Int) := (by omega); have q184 : 0 < (t181.length : Int) := qO; obtain ⟨ad184, A184_0, c184_0, e184, hx184_0, hl184_0, hi184_0⟩ := at_L3 (Kd.S_reads' HO183.out).2.2 0 p184 q184; cases e184; obtain ⟨ce184, hce184, hMe184, hcc184⟩ := Kd.S_get HO183.out [] 0 p184 (by first | exact q184 | exact qO | (have e_ := (Kd.S_reads' HO183.out).1; omega)); obtain ⟨ve184_0, rfl, ge184_0⟩ := hMe184; have hv184_0 := hcc184 0 _ rfl; rw [Nat.add_zero, show ((Kd.slice 3 (Kd.int .i64))).sz = 1 from rfl, Nat.mul_one] at hv184_0; replace hv184_0 := Option.some.inj (hv184_0.symm.trans hx184_0); rw [hv184_0] at ge184_0; have HL184_0 := Aside0.mk (show Kd.R (Kd.int .i64) 3 _ _ _ _ (rd_L3 t181 0) from ge184_0); clear hv184_0 ge184_0 hcc184 hce184; have qi184 : (0 < t181.length) = True := eq_true (by omega); (try rw [show ((0 : Int)).toNat = 0 from rfl] at hx184_0); (try rw [Addr.add_zero'] at hx184_0); have HR184_0 := Aside0.mk hi184_0; have HC184_0 := Aside0.mk hl184_0; clear hi184_0 hl184_0; replace p184 := eq_true p184; replace q184 := eq_true q184; have p185 : 0 ≤ (0 : Int) := (by omega); have q185 : 0 < ((rd_L3 t181 0).length : Int) := qO; obtain ⟨ad185, e185, hx185_0⟩ := Kd.at_int (by repeat (first | (with_reducible exact HR184_0.out) | (with_reducible refine Kd.C_alloc ?_ _) | (with_reducible refine Kd.C_drewN ?_ _) | (with_reducible refine Kd.C_drew ?_) | exact HR184_0.out)) 0 p185 q185; cases e185; have qi185 : (0 < (rd_L3 t181 0).length) = True := eq_true (by omega); (try rw [show ((0 : Int)).toNat = 0 from rfl] at hx185_0); (try rw [Addr.add_zero'] at hx185_0); replace p185 := eq_true p185; replace q185 := eq_true q185))
  go_ret
  exact ⟨by first | rfl | (simp [errW_none, errW_some] <;> rfl) | (simp only [← hji8]; first | rfl | (simp [errW_none, errW_some] <;> rfl)) | (simp [*, errW_none, errW_some] <;> rfl), qS0 HB⟩
 ·replace c4 := Bool.eq_false_iff.mpr c4
  (subst c4); (have H1 : (some (-1)) = some r := by rw [if_neg (show ¬ (false = true) by decide)] at H; exact H); clear H; (have H := H1); clear H1; (obtain rfl := Option.some.inj H)
  go_enter Tryz.func112, Tryz.ntmps112
  go_wp2_with (first | ((with_reducible refine gate_callee (f := 149) rfl ?_); refine goesL_ (some 7) rfl rfl Tryz.func149 (by kernel_rfl) rfl #[.string a0, .string a1] rfl qL ?_; (with_reducible refine (impl_areShort.calls a0 a1 false _ A3.out).mono ?_); rintro e w' ⟨rfl, ⟨nd, rfl⟩⟩; refine ⟨_, rfl, ?_⟩))
  go_ret
  exact ⟨qE, qS0 HB⟩
mutual
def spec_WordOk.j0 : Nat → ByteArray → Bool → Option (Bool)
 | 0, _, _ => none
 | k + 1, x0, x11 => if x11 = true then (some false) else (spec_WordOk.l0 k x0 0)
def spec_WordOk.l0 : Nat → ByteArray → Int → Option (Bool)
 | 0, _, _ => none
 | k + 1, x0, x3 => if x3 < (x0.size : Int) then (if 0 ≤ x3 then (if (bt x0 x3) < 97 then (some false) else (if (bt x0 x3) > 122 then (some false) else (spec_WordOk.l0 k x0 (wrap64 (x3 + 1))))) else (none)) else (some true)
end
def spec_WordOk.f (k : Nat) (a0 : ByteArray) : Option (Bool) := if (a0.size : Int) < 1 then (spec_WordOk.j0 k a0 true) else (spec_WordOk.j0 k a0 (decide ((a0.size : Int) > 32)))
theorem spec_WordOk.calls (k : Nat) (a0 : ByteArray) (r : Bool) (w : World) (h : spec_WordOk.f k a0 = some r) :
  Calls Tryz.prog 56 #[.string a0] w fun e w' => e = .returned (.bool r) ∧ Drawn0 w w' := by
 (have H : (if (a0.size : Int) < 1 then (spec_WordOk.j0 k a0 true) else (spec_WordOk.j0 k a0 (decide ((a0.size : Int) > 32)))) = some r := h); clear h; (have HC2 := Aside0.mk H); clear H
 go_enter Tryz.func56, Tryz.ntmps56
 go_upto_region 1 with (fail)
 go_cut [11] (fun v11 wc => ∃ (kq : Nat) (x11_1 : Bool), v11 = .bool x11_1 ∧ Aside0 (spec_WordOk.j0 kq a0 x11_1 = some r) ∧ Aside0 (kq ≤ k) ∧ Drawn0 w wc)
 case first =>
  (have H := HC2.out); clear HC2
  rcases qJ H with ⟨c3, H⟩ | ⟨c3, H⟩
  ·have c3b0 : decide ((a0.size : Int) < 1) = true := decide_eq_true c3
   (have c3b1 : decide (a0.size < 1) = true := decide_eq_true (by omega)); clear c3
   (first | rw [c3b0] | (simp only [i64_w, i32_w]; rw [c3b0]) | skip)
   (have H' := Aside0.mk H); clear H
   go_wp2
   go_meet
   case rel => exact ⟨_, (true), qV, H', ⟨by first | omega | exact Nat.le_refl _⟩, by repeat (first | exact Drawn0.refl _ | apply Drawn0.step)⟩
  ·have c3b0 : decide ((a0.size : Int) < 1) = false := decide_eq_false c3
   (have c3b1 : decide (a0.size < 1) = false := decide_eq_false (by omega)); clear c3
   (first | rw [c3b0] | (simp only [i64_w, i32_w]; rw [c3b0]) | skip)
   (have H' := Aside0.mk H); clear H
   go_wp2
   go_meet
   case rel => exact ⟨_, (decide ((a0.size : Int) > 32)), qV, H', ⟨by first | omega | exact Nat.le_refl _⟩, by repeat (first | exact Drawn0.refl _ | apply Drawn0.step)⟩
 case rest =>
  clear HC2; (try clear c3b0); (try clear c3b1); (obtain ⟨kq, x11_1, rfl, HA, HJ1, ⟨mc1, rfl⟩⟩ := hcut)
  cases kq with
  | zero => exact absurd HA.out (by simp [spec_WordOk.j0])
  | succ kj1 =>
   (have H := HA.out); clear HA; (simp only [spec_WordOk.j0] at H)
   by_cases c4 : x11_1 = true
   ·subst c4
    (have H1 : (some false) = some r := by rw [if_pos rfl] at H; exact H); clear H; (have H := H1); clear H1; (obtain rfl := Option.some.inj H)
    go_wp2
    go_ret
    exact qZ
   ·replace c4 := Bool.eq_false_iff.mpr c4
    (subst c4); (have H1 : (spec_WordOk.l0 kj1 a0 0) = some r := by rw [if_neg (show ¬ (false = true) by decide)] at H; exact H); clear H; (have H := H1); clear H1; (have H' := Aside0.mk H); clear H
    go_wp2
    go_loopg [3] kj1 (fun kq v3 w' => ∃ (x3_2 : Int), v3 = .int .i64 x3_2 ∧ Aside0 (spec_WordOk.l0 kq a0 x3_2 = some r) ∧ Aside0 (kq ≤ kj1) ∧ Drawn0 w w')
    case atStart => exact ⟨(0), qV, H', ⟨Nat.le_refl _⟩, by repeat (first | exact Drawn0.refl _ | apply Drawn0.step)⟩
    case round =>
     clear H'; (try clear c4); (obtain ⟨x3_2, rfl, HA, HK2, ⟨m2, rfl⟩⟩ := hrel)
     cases gk with
     | zero => exact absurd HA.out (by simp [spec_WordOk.l0])
     | succ k2 =>
      (have H := HA.out); clear HA; (simp only [spec_WordOk.l0] at H)
      rcases qI H with ⟨c5b0, H⟩ | ⟨c5b0, H⟩
      ·obtain ⟨c6b0, H⟩ := qT H
       rcases qI H with ⟨c8b0, H⟩ | ⟨c8b0, H⟩
       ·obtain rfl := Option.some.inj H
        (have p7 : 0 ≤ (x3_2 : Int) := qO); (have q7 : x3_2 < (a0.size : Int) := qO); (have hx7 := bt_at a0 x3_2); (replace p7 := eq_true p7); (replace q7 := eq_true q7)
        go_wp2
        go_ret
        exact qZ
       ·rcases qI H with ⟨(c10b0 : decide (122 < (bt a0 x3_2)) = true), H⟩ | ⟨(c10b0 : decide (122 < (bt a0 x3_2)) = false), H⟩
        ·obtain rfl := Option.some.inj H
         (have p7 : 0 ≤ (x3_2 : Int) := qO); (have q7 : x3_2 < (a0.size : Int) := qO); (have hx7 := bt_at a0 x3_2); (replace p7 := eq_true p7); (replace q7 := eq_true q7); (have p9 : 0 ≤ (x3_2 : Int) := qO); (have q9 : x3_2 < (a0.size : Int) := qO); (have hx9 := bt_at a0 x3_2); (replace p9 := eq_true p9); (replace q9 := eq_true q9)
         go_wp2
         go_ret
         exact qZ
        ·have H' := Aside0.mk H
         clear H; (have p7 : 0 ≤ (x3_2 : Int) := qO); (have q7 : x3_2 < (a0.size : Int) := qO); (have hx7 := bt_at a0 x3_2); (replace p7 := eq_true p7); (replace q7 := eq_true q7); (have p9 : 0 ≤ (x3_2 : Int) := qO); (have q9 : x3_2 < (a0.size : Int) := qO); (have hx9 := bt_at a0 x3_2); (replace p9 := eq_true p9); (replace q9 := eq_true q9)
         go_wp2
         go_roundg k2
         case measure => have := HJ1.out; have := HK2.out; omega
         case rel => exact ⟨(wrap64 (x3_2 + 1)), qV, H', ⟨by have := HJ1.out; have := HK2.out; omega⟩, by repeat (first | exact Drawn0.refl _ | apply Drawn0.step)⟩
      ·obtain rfl := Option.some.inj H
       go_wp2
       go_ret
       exact qZ
def spec_Fold.l0 : Nat → ByteArray → List Int → Int → Option (ByteArray)
 | 0, _, _, _ => none
 | k + 1, x0, x3, x4 => if x4 < (x0.size : Int) then (if 0 ≤ x4 then (if (bt x0 x4) ≥ 65 then (if (bt x0 x4) ≤ 90 then (if x3.length < 140737488355328 then (spec_Fold.l0 k x0 (x3 ++ [((bt x0 x4) + 32) % 256]) (wrap64 (x4 + 1))) else (none)) else (if x3.length < 140737488355328 then (spec_Fold.l0 k x0 (x3 ++ [bt x0 x4]) (wrap64 (x4 + 1))) else (none))) else (if x3.length < 140737488355328 then (spec_Fold.l0 k x0 (x3 ++ [bt x0 x4]) (wrap64 (x4 + 1))) else (none))) else (none)) else ((spec_WordOk.f k (strOfNums x3)).bind fun t198 => (if t198 = true then (some (strOfNums x3)) else (some (⟨#[]⟩ : ByteArray))))
def spec_Fold.f (k : Nat) (a0 : ByteArray) : Option (ByteArray) := if (a0.size : Int) > 32 then (some (⟨#[]⟩ : ByteArray)) else (spec_Fold.l0 k a0 (([] : List Int)) 0)
theorem spec_Fold.calls (k : Nat) (a0 : ByteArray) (r : ByteArray) (w : World) (h : spec_Fold.f k a0 = some r) :
  Calls Tryz.prog 12 #[.string a0] w fun e w' => e = .returned (.string r) ∧ Below w.heap.size w w' := by
 (have HB := Aside0.mk (Below.refl w.heap.size w)); (have H : (if (a0.size : Int) > 32 then (some (⟨#[]⟩ : ByteArray)) else (spec_Fold.l0 k a0 (([] : List Int)) 0)) = some r := h); clear h
 rcases qJ H with ⟨c2, H⟩ | ⟨c2, H⟩
 ·have c2b0 : decide (32 < (a0.size : Int)) = true := decide_eq_true c2
  (have c2b1 : decide (32 < a0.size) = true := decide_eq_true (by omega)); clear c2; (obtain rfl := Option.some.inj H)
  go_enter Tryz.func12, Tryz.ntmps12
  go_wp2
  go_ret
  exact ⟨qE, qS0 HB⟩
 ·have c2b0 : decide (32 < (a0.size : Int)) = false := decide_eq_false c2
  (have c2b1 : decide (32 < a0.size) = false := decide_eq_false (by omega)); clear c2; (obtain ⟨y186, hy186⟩ : ∃ y_ : List Int, y_ = (([] : List Int)) := ⟨_, rfl⟩); (replace H : (spec_Fold.l0 k a0 y186 0) = some r := qY hy186 H); (have Ny186 := Aside0.mk hy186); clear hy186; (have H' := Aside0.mk H); clear H
  go_enter Tryz.func12, Tryz.ntmps12
  go_wp2_with (first | ((with_reducible refine gate_dst (N := 9) rfl ?_); refine Kd.R_lit (Kd.int .u8) _ 5 ?hg (N := 9) ?hd (xs := ([] : List Int)) (inner := []) (ok := fun _ => True) (okp := fun _ => True) ?hr ?hp (fun _ hk => hk) trivial (Below.refl _ _) (Nat.le_refl _) (by simp) ?_; (case hd => rfl); (case hg => rfl); (case hr => first | (go_simp; done) | (go_simp; rfl)); (case hp => exact (Reps.none _ _)); intro v187 w3 ho4 hb hg_ hnew_; clear hg_ hnew_; (first | rw [← Ny186.out] at ho4 | (simp only [Int.reduceToNat] at ho4; rw [← Ny186.out] at ho4)); have HO188 := Aside0.mk (Kd.R_lower ho4 (below_size (qS0 HB))); replace HB := Aside0.mk (below_step (qS0 HB) hb); clear hb ho4))
  go_loopg [3, 4] k (fun kq v3 v4 w' => ∃ (x3_1 : List Int) (x4_1 : Int), v4 = .int .i64 x4_1 ∧ Aside0 (spec_Fold.l0 kq a0 x3_1 x4_1 = some r) ∧ Aside0 (kq ≤ k) ∧ Aside0 (Kd.R (Kd.int .u8) 5 w' w.heap.size (fun _ => True) v3 x3_1) ∧ Aside0 (Below w.heap.size w w'))
  case atStart => exact ⟨(y186), (0), qV, H', ⟨Nat.le_refl _⟩, ⟨qR HO188⟩, ⟨qS0 HB⟩⟩
  case round =>
   clear H'; (try clear c2b0); (try clear c2b1); (obtain ⟨x3_1, x4_1, rfl, HA, HK1, HO_3, HB⟩ := hrel)
   cases gk with
   | zero => exact absurd HA.out (by simp [spec_Fold.l0])
   | succ k1 =>
    (have H := HA.out); clear HA; (simp only [spec_Fold.l0] at H)
    rcases qI H with ⟨c5b0, H⟩ | ⟨c5b0, H⟩
    ·obtain ⟨c6b0, H⟩ := qT H
     rcases qI H with ⟨(c8b0 : decide (65 ≤ (bt a0 x4_1)) = true), H⟩ | ⟨(c8b0 : decide (65 ≤ (bt a0 x4_1)) = false), H⟩
     ·rcases qI H with ⟨c9b0, H⟩ | ⟨c9b0, H⟩
      ·obtain ⟨c10, H⟩ := qU H
       (have LMc10 := Aside0.mk c10); clear c10; (obtain ⟨y189, hy189⟩ : ∃ y_ : List Int, y_ = (x3_1 ++ [((bt a0 x4_1) + 32) % 256]) := ⟨_, rfl⟩); (replace H : (spec_Fold.l0 k1 a0 y189 (wrap64 (x4_1 + 1))) = some r := qY hy189 H); (have Ny189 := Aside0.mk hy189); clear hy189; (have H' := Aside0.mk H); clear H; (have p7 : 0 ≤ (x4_1 : Int) := qO); (have q7 : x4_1 < (a0.size : Int) := qO); (have hx7 := bt_at a0 x4_1); (replace p7 := eq_true p7); (replace q7 := eq_true q7)
       go_wp2_with (first | ((with_reducible refine gate_builtin (b := .append) (xs := #[.tmp 27, .tmp 29]) rfl ?_); at_builtin; refine Kd.R_append (Kd.int .u8) (w0 := w) w.heap.size rfl (.tmp 27) (.tmp 29) 22 5 (.int .u8 0) 1 rfl Tryz.underlying22 info5 rfl (by decide) (by omega) u3 x3_1 (((bt a0 x4_1) + 32) % 256) [.int .u8 (((bt a0 x4_1) + 32) % 256)] (fun _ => True) (fun _ => False) rfl rfl ?aP (fun _ hk => hk.elim) ?aF ?aO ?aB ?aS ?aL ?_; (case aP => exact rfl); (case aB => exact (qS0 HB)); (case aF => exact (fun _ _ => trivial)); (case aO => exact (qR HO_3)); (case aS => exact (below_size (qS0 HB))); (case aL => have := LMc10.out; omega); intro v190 w11 ho hb hg hat; rw [← Ny189.out] at ho; replace HB := Aside0.mk (hb); have HO191 := Aside0.mk (ho); clear HO_3; clear ho hb hg hat))
       go_roundg k1
       case measure => have := HK1.out; omega
       case rel => exact ⟨(y189), (wrap64 (x4_1 + 1)), qV, H', ⟨by have := HK1.out; omega⟩, ⟨qR HO191⟩, ⟨qS0 HB⟩⟩
      ·obtain ⟨c12, H⟩ := qU H
       (have LMc12 := Aside0.mk c12); clear c12; (obtain ⟨y192, hy192⟩ : ∃ y_ : List Int, y_ = (x3_1 ++ [bt a0 x4_1]) := ⟨_, rfl⟩); (replace H : (spec_Fold.l0 k1 a0 y192 (wrap64 (x4_1 + 1))) = some r := qY hy192 H); (have Ny192 := Aside0.mk hy192); clear hy192; (have H' := Aside0.mk H); clear H; (have p7 : 0 ≤ (x4_1 : Int) := qO); (have q7 : x4_1 < (a0.size : Int) := qO); (have hx7 := bt_at a0 x4_1); (replace p7 := eq_true p7); (replace q7 := eq_true q7)
       go_wp2_with (first | ((with_reducible refine gate_builtin (b := .append) (xs := #[.tmp 27, .tmp 29]) rfl ?_); at_builtin; refine Kd.R_append (Kd.int .u8) (w0 := w) w.heap.size rfl (.tmp 27) (.tmp 29) 22 5 (.int .u8 0) 1 rfl Tryz.underlying22 info5 rfl (by decide) (by omega) u3 x3_1 (bt a0 x4_1) [.int .u8 (bt a0 x4_1)] (fun _ => True) (fun _ => False) rfl rfl ?aP (fun _ hk => hk.elim) ?aF ?aO ?aB ?aS ?aL ?_; (case aP => exact rfl); (case aB => exact (qS0 HB)); (case aF => exact (fun _ _ => trivial)); (case aO => exact (qR HO_3)); (case aS => exact (below_size (qS0 HB))); (case aL => have := LMc12.out; omega); intro v193 w13 ho hb hg hat; rw [← Ny192.out] at ho; replace HB := Aside0.mk (hb); have HO194 := Aside0.mk (ho); clear HO_3; clear ho hb hg hat))
       go_roundg k1
       case measure => have := HK1.out; omega
       case rel => exact ⟨(y192), (wrap64 (x4_1 + 1)), qV, H', ⟨by have := HK1.out; omega⟩, ⟨qR HO194⟩, ⟨qS0 HB⟩⟩
     ·obtain ⟨c14, H⟩ := qU H
      (have LMc14 := Aside0.mk c14); clear c14; (obtain ⟨y195, hy195⟩ : ∃ y_ : List Int, y_ = (x3_1 ++ [bt a0 x4_1]) := ⟨_, rfl⟩); (replace H : (spec_Fold.l0 k1 a0 y195 (wrap64 (x4_1 + 1))) = some r := qY hy195 H); (have Ny195 := Aside0.mk hy195); clear hy195; (have H' := Aside0.mk H); clear H; (have p7 : 0 ≤ (x4_1 : Int) := qO); (have q7 : x4_1 < (a0.size : Int) := qO); (have hx7 := bt_at a0 x4_1); (replace p7 := eq_true p7); (replace q7 := eq_true q7)
      go_wp2_with (first | ((with_reducible refine gate_builtin (b := .append) (xs := #[.tmp 27, .tmp 29]) rfl ?_); at_builtin; refine Kd.R_append (Kd.int .u8) (w0 := w) w.heap.size rfl (.tmp 27) (.tmp 29) 22 5 (.int .u8 0) 1 rfl Tryz.underlying22 info5 rfl (by decide) (by omega) u3 x3_1 (bt a0 x4_1) [.int .u8 (bt a0 x4_1)] (fun _ => True) (fun _ => False) rfl rfl ?aP (fun _ hk => hk.elim) ?aF ?aO ?aB ?aS ?aL ?_; (case aP => exact rfl); (case aB => exact (qS0 HB)); (case aF => exact (fun _ _ => trivial)); (case aO => exact (qR HO_3)); (case aS => exact (below_size (qS0 HB))); (case aL => have := LMc14.out; omega); intro v196 w15 ho hb hg hat; rw [← Ny195.out] at ho; replace HB := Aside0.mk (hb); have HO197 := Aside0.mk (ho); clear HO_3; clear ho hb hg hat))
      go_roundg k1
      case measure => have := HK1.out; omega
      case rel => exact ⟨(y195), (wrap64 (x4_1 + 1)), qV, H', ⟨by have := HK1.out; omega⟩, ⟨qR HO197⟩, ⟨qS0 HB⟩⟩
    ·obtain ⟨t198, A16, H⟩ := qX H
     replace H : (if t198 = true then (some (strOfNums x3_1)) else (some (⟨#[]⟩ : ByteArray))) = some r := H
     by_cases c17 : t198 = true
     ·subst c17
      (have H1 : (some (strOfNums x3_1)) = some r := by rw [if_pos rfl] at H; exact H); clear H; (have H := H1); clear H1; (obtain rfl := Option.some.inj H); (have hcv18 := own_string (P := Tryz.prog) Tryz.underlying22 Tryz.underlying5 Tryz.underlying9 (Kd.own_of_R HO_3.out))
      go_wp2_with (first | ((with_reducible refine gate_callee (f := 56) rfl ?_); refine goesL_ (some 33) rfl rfl Tryz.func56 (by kernel_rfl) rfl #[.string (strOfNums x3_1)] rfl qL ?_; (with_reducible refine (spec_WordOk.calls k1 (strOfNums x3_1) true _ A16.out).mono ?_); rintro e w' ⟨rfl, ⟨nd, rfl⟩⟩; refine ⟨_, rfl, ?_⟩; have hcv19 := own_string (w := World.drewN wr nd) (P := Tryz.prog) Tryz.underlying22 Tryz.underlying5 Tryz.underlying9 (own_move (Kd.own_of_R HO_3.out) (fun _ _ => rfl))))
      go_ret
      exact ⟨qE, qS0 HB⟩
     ·replace c17 := Bool.eq_false_iff.mpr c17
      (subst c17); (have H1 : (some (⟨#[]⟩ : ByteArray)) = some r := by rw [if_neg (show ¬ (false = true) by decide)] at H; exact H); clear H; (have H := H1); clear H1; (obtain rfl := Option.some.inj H); (have hcv20 := own_string (P := Tryz.prog) Tryz.underlying22 Tryz.underlying5 Tryz.underlying9 (Kd.own_of_R HO_3.out))
      go_wp2_with (first | ((with_reducible refine gate_callee (f := 56) rfl ?_); refine goesL_ (some 33) rfl rfl Tryz.func56 (by kernel_rfl) rfl #[.string (strOfNums x3_1)] rfl qL ?_; (with_reducible refine (spec_WordOk.calls k1 (strOfNums x3_1) false _ A16.out).mono ?_); rintro e w' ⟨rfl, ⟨nd, rfl⟩⟩; refine ⟨_, rfl, ?_⟩))
      go_ret
      exact ⟨qE, qS0 HB⟩
def spec_Pad.l0 : Nat → ByteArray → List Int → Int → Option (List Int)
 | 0, _, _, _ => none
 | k + 1, x0, x3, x4 => if x4 < (x0.size : Int) then (if 0 ≤ x4 then (if 0 ≤ (wrap64 (x4 + 1)) then (if (wrap64 (x4 + 1)) < (x3.length : Int) then (spec_Pad.l0 k x0 (x3.set ((wrap64 (x4 + 1)) : Int).toNat (bt x0 x4)) (wrap64 (x4 + 1))) else (none)) else (none)) else (none)) else (some x3)
def spec_Pad.f (k : Nat) (a0 : ByteArray) : Option (List Int) := if 33 ≤ 281474976710656 then ((some (List.replicate 33 0 : List Int)).bind fun y199 => ((spec_WordOk.f k a0).bind fun t202 => (if t202 = true then (if 0 < (y199.length : Int) then (spec_Pad.l0 k a0 (y199.set (0 : Int).toNat (((a0.size : Int)) % 256)) 0) else (none)) else (some y199)))) else (none)
theorem spec_Pad.calls (k : Nat) (a0 : ByteArray) (r : List Int) (w : World) (h : spec_Pad.f k a0 = some r) :
  Calls Tryz.prog 186 #[.string a0] w fun e w' => ∃ v0_ : Value, e = .returned (v0_) ∧ Kd.R (Kd.int .u8) 5 w' w.heap.size (fun _ => True) v0_ r ∧ Below w.heap.size w w' := by
 (have HB := Aside0.mk (Below.refl w.heap.size w)); (have H : (if 33 ≤ 281474976710656 then ((some (List.replicate 33 0 : List Int)).bind fun y199 => ((spec_WordOk.f k a0).bind fun t202 => (if t202 = true then (if 0 < (y199.length : Int) then (spec_Pad.l0 k a0 (y199.set (0 : Int).toNat (((a0.size : Int)) % 256)) 0) else (none)) else (some y199)))) else (none)) = some r := h); clear h; (obtain ⟨c2b0, c2b1, H⟩ := qT2 H); (obtain ⟨y199, hy199⟩ : ∃ y_ : List Int, y_ = (List.replicate 33 0) := ⟨_, rfl⟩); (replace H : ((spec_WordOk.f k a0).bind fun t202 => (if t202 = true then (if 0 < (y199.length : Int) then (spec_Pad.l0 k a0 (y199.set (0 : Int).toNat (((a0.size : Int)) % 256)) 0) else (none)) else (some y199))) = some r := qY hy199 H); (have Ny199 := Aside0.mk hy199); clear hy199; (obtain ⟨t202, A3, H⟩ := qX H)
 try dsimp only at H
 by_cases c4 : t202 = true
 ·subst c4
  (have H1 : (if 0 < (y199.length : Int) then (spec_Pad.l0 k a0 (y199.set (0 : Int).toNat (((a0.size : Int)) % 256)) 0) else (none)) = some r := by rw [if_pos rfl] at H; exact H); clear H; (have H := H1); clear H1; (obtain ⟨c5, H⟩ := qU H); (have c5b0 : decide (0 < (y199.length : Int)) = true := decide_eq_true c5); (have c5b1 : decide (0 < y199.length) = true := decide_eq_true (by omega)); clear c5; (obtain ⟨y203, hy203⟩ : ∃ y_ : List Int, y_ = (y199.set (0 : Int).toNat (((a0.size : Int)) % 256)) := ⟨_, rfl⟩); (replace H : (spec_Pad.l0 k a0 y203 0) = some r := qY hy203 H); (have Ny203 := Aside0.mk hy203); clear hy203; (have H' := Aside0.mk H); clear H
  go_enter Tryz.func186, Tryz.ntmps186
  go_wp2_with (first | ((with_reducible refine gate_dst (N := 5) rfl ?_); refine Kd.R_make (Kd.int .u8) _ 5 rfl (N := 5) rfl 22 _ _ rfl 33 rfl rfl Tryz.underlying22 (.int .u8 0) 1 info5 rfl (by decide) (by omega) 0 (ok := fun _ => True) (okp := fun _ => True) rfl (fun _ hk => hk) trivial (by omega) (by omega) (Below.refl _ _) (Nat.le_refl _) ?_; intro v200 w7 ho8 hb hg_ hnew_; clear hg_ hnew_; (first | rw [← Ny199.out] at ho8 | (simp only [Int.reduceToNat] at ho8; rw [← Ny199.out] at ho8)); have HO201 := Aside0.mk (Kd.R_lower ho8 (below_size (qS0 HB))); replace HB := Aside0.mk (below_step (qS0 HB) hb); clear hb ho8) | ((with_reducible refine gate_callee (f := 56) rfl ?_); refine goesL_ (some 7) rfl rfl Tryz.func56 (by kernel_rfl) rfl #[.string a0] rfl qL ?_; (with_reducible refine (spec_WordOk.calls k a0 true _ A3.out).mono ?_); rintro e w' ⟨rfl, ⟨nd, rfl⟩⟩; refine ⟨_, rfl, ?_⟩; (try (rw [drewN_self w7]; generalize hq_ : World.drewN w7 _ = w7; have n0_ : Aside0 (Kd.R (Kd.int .u8) 5 w7 w.heap.size (fun _ => True) v200 y199) := ⟨by rw [← hq_]; exact (qR HO201)⟩; have n1_ : Aside0 (Below w.heap.size w w7) := ⟨by rw [← hq_]; exact (qS0 HB)⟩; clear HO201 HB hq_; have HO201 := n0_; have HB := n1_; clear n0_ n1_)); have p6 : 0 ≤ (0 : Int) := (by omega); have q6 : (0 : Int) < ((y199.length : Int) : Int) := qO; have qi6 : (0 < y199.length) = True := eq_true (by omega); obtain ⟨go6, co6, eo6, gb6, gl6, cl6, HG6⟩ := Kd.R_form HO201.out (by omega); (first | cases eo6 | (injection eo6 with ea_ en_ ec_; (first | subst ea_ | (injection ea_ with ea_; subst ea_)); subst ec_; clear en_)); have GB6 := Aside0.mk gb6; have GG6 := Aside0.mk HG6; clear gb6 gl6 HG6; obtain ⟨hx6_0, hf6_0⟩ := Kd.R_celln 0 HO201.out (0 : Int) p6 q6; (try rw [show ((0 : Int)).toNat = 0 from rfl] at hx6_0); (try simp only [Nat.reduceMul, Nat.zero_mul, Nat.zero_add, Nat.reduceAdd] at hx6_0); (try rw [show ((0 : Int)).toNat = 0 from rfl] at hf6_0); (try simp only [Nat.reduceMul, Nat.zero_mul, Nat.zero_add, Nat.reduceAdd] at hf6_0); replace p6 := eq_true p6; replace q6 := eq_true q6; obtain ⟨hy9_, hz9_⟩ := Kd.R_celln 0 HO201.out (0 : Int) (by omega) (qO); (try simp only [Int.reduceToNat, Int.toNat_zero, Int.toNat_ofNat, Nat.reduceMul, Nat.zero_mul, Nat.zero_add] at hy9_ hz9_); (try rw [show ((0 : Int)).toNat = 0 from rfl] at hy9_); (try rw [show ((0 : Int)).toNat = 0 from rfl] at hz9_); have HP9 := Kd.R_putg HO201.out (0 : Int) (((a0.size : Int)) % 256)) | ((with_reducible refine gate_store (t := 5) (p := 14) rfl ?_); refine store_event (t := 5) (p := 14) (v := ?vo_w10) (w1 := (w7.setCell ⟨go6, (0 : Int).toNat, none⟩ (.int .u8 (((a0.size : Int)) % 256)))) ?hg ?ho ?hn ?hr ?_; (case ho => rfl); (case hg => rfl); (case hn => rfl); (case hr => first | (go_simp; done) | (go_simp; rfl)); intro w10 hw; have hg : w7.grownBy w10 (some go6) := (by rw [hw]; exact HP9.2); have hp_ : Kd.R (Kd.int .u8) 5 w10 w.heap.size (fun _ => True) (.slice (some ⟨go6, 0, none⟩) y199.length co6) y203 := (by rw [hw, Ny203.out]; exact HP9.1); clear HP9; replace HO201 := Aside0.mk (hp_); replace HB := Aside0.mk ((by rw [hw]; exact below_set (HB.out) GB6.out : Below w.heap.size w w10)); clear hg hw hp_))
  go_loopg [4] k (fun kq v4 w' => ∃ (x3_1 : List Int) (x4_1 : Int), v4 = .int .i64 x4_1 ∧ Aside0 (spec_Pad.l0 kq a0 x3_1 x4_1 = some r) ∧ Aside0 (kq ≤ k) ∧ Aside0 (Kd.R (Kd.int .u8) 5 w' w.heap.size (fun _ => True) (.slice (some ⟨go6, 0, none⟩) y199.length co6) x3_1) ∧ Aside0 (Below w.heap.size w w'))
  case atStart => exact ⟨(y203), (0), qV, H', ⟨Nat.le_refl _⟩, ⟨qR HO201⟩, ⟨qS0 HB⟩⟩
  case round =>
   clear H'; (try clear c2b0); (try clear c2b1); (try clear c4); (try clear c5b0); (try clear c5b1); (try clear p6); (try clear q6); (try clear hx6); (try clear qi6); (try clear hf6); (try clear hx6_0); (obtain ⟨x3_1, x4_1, rfl, HA, HK1, HO_3, HB⟩ := hrel); (have hl3_1 := (Kd.R_reads' HO_3.out).1); (rw [hl3_1] at HO_3); (try simp only [hl3_1])
   cases gk with
   | zero => exact absurd HA.out (by simp [spec_Pad.l0])
   | succ k1 =>
    (have H := HA.out); clear HA; (simp only [spec_Pad.l0] at H)
    rcases qI H with ⟨c11b0, H⟩ | ⟨c11b0, H⟩
    ·obtain ⟨c12b0, H⟩ := qT H
     (obtain ⟨ji14, hji14⟩ : ∃ j_ : Int, (wrap64 (x4_1 + 1)) = j_ := ⟨_, rfl⟩); (replace H : (if 0 ≤ (ji14) then (if (ji14) < (x3_1.length : Int) then (spec_Pad.l0 k1 a0 (x3_1.set ((ji14) : Int).toNat (bt a0 x4_1)) ji14) else (none)) else (none)) = some r := by first | (rw [hji14] at H; exact H) | (simp only [hji14] at H ⊢; exact H)); (have hji14w : (IntKind.i64.wrap (x4_1 + 1)) = ji14 := (i64_w _).trans hji14); (obtain ⟨c15b0, H⟩ := qT H); (obtain ⟨c16b0, H⟩ := qT H); (obtain ⟨y204, hy204⟩ : ∃ y_ : List Int, y_ = (x3_1.set ((ji14) : Int).toNat (bt a0 x4_1)) := ⟨_, rfl⟩); (replace H : (spec_Pad.l0 k1 a0 y204 ji14) = some r := qY hy204 H); (have Ny204 := Aside0.mk hy204); clear hy204; (have H' := Aside0.mk H); clear H; (have p13 : 0 ≤ (x4_1 : Int) := qO); (have q13 : x4_1 < (a0.size : Int) := qO); (have hx13 := bt_at a0 x4_1); (replace p13 := eq_true p13); (replace q13 := eq_true q13); (have p17 : 0 ≤ ((ji14) : Int) := qO); (have q17 : ((ji14) : Int) < ((x3_1.length : Int) : Int) := qO); (obtain ⟨hx17_0, hf17_0⟩ := Kd.R_celln 0 HO_3.out ((ji14) : Int) p17 q17); (replace p17 := eq_true p17); (replace q17 := eq_true q17); (have HP18 := Kd.R_putg HO_3.out ((ji14) : Int) (bt a0 x4_1))
     go_wp2_with (first | ((with_reducible refine gate_store (t := 5) (p := 27) rfl ?_); refine store_event (t := 5) (p := 27) (v := ?vo_w19) (w1 := (wr.setCell ⟨go6, ((ji14) : Int).toNat, none⟩ (.int .u8 (bt a0 x4_1)))) ?hg ?ho ?hn ?hr ?_; (case ho => rfl); (case hg => rfl); (case hn => rfl); (case hr => first | (go_simp; done) | (go_simp; rfl)); intro w19 hw; have hg : wr.grownBy w19 (some go6) := (by rw [hw]; exact HP18.2); have hp_ : Kd.R (Kd.int .u8) 5 w19 w.heap.size (fun _ => True) (.slice (some ⟨go6, 0, none⟩) x3_1.length co6) y204 := (by rw [hw, Ny204.out]; exact HP18.1); clear HP18; replace HO_3 := Aside0.mk (hp_); replace HB := Aside0.mk ((by rw [hw]; exact below_set (HB.out) GB6.out : Below w.heap.size w w19)); clear hg hw hp_))
     (try simp only [← hl3_1])
     go_roundg k1
     case measure => have := HK1.out; omega
     case rel => exact ⟨(y204), (ji14), (by first | rfl | (simp; done) | (simp only [← hji14] <;> (first | rfl | simp)) | (simp [*]; done)), H', ⟨by have := HK1.out; omega⟩, ⟨by (try simp only [hl3_1]); (with_reducible repeat (first | apply Kd.R_alloc | apply Kd.R_drewN | apply Kd.R_drew)); exact HO_3.out⟩, ⟨qS0 HB⟩⟩
    ·obtain rfl := Option.some.inj H
     go_wp2
     go_ret
     exact ⟨_, qE, qR HO_3, qS0 HB⟩
 ·replace c4 := Bool.eq_false_iff.mpr c4
  (subst c4); (have H1 : (some y199) = some r := by rw [if_neg (show ¬ (false = true) by decide)] at H; exact H); clear H; (have H := H1); clear H1; (obtain rfl := Option.some.inj H)
  go_enter Tryz.func186, Tryz.ntmps186
  go_wp2_with (first | ((with_reducible refine gate_dst (N := 5) rfl ?_); refine Kd.R_make (Kd.int .u8) _ 5 rfl (N := 5) rfl 22 _ _ rfl 33 rfl rfl Tryz.underlying22 (.int .u8 0) 1 info5 rfl (by decide) (by omega) 0 (ok := fun _ => True) (okp := fun _ => True) rfl (fun _ hk => hk) trivial (by omega) (by omega) (Below.refl _ _) (Nat.le_refl _) ?_; intro v200 w20 ho21 hb hg_ hnew_; clear hg_ hnew_; (first | rw [← Ny199.out] at ho21 | (simp only [Int.reduceToNat] at ho21; rw [← Ny199.out] at ho21)); have HO201 := Aside0.mk (Kd.R_lower ho21 (below_size (qS0 HB))); replace HB := Aside0.mk (below_step (qS0 HB) hb); clear hb ho21) | ((with_reducible refine gate_callee (f := 56) rfl ?_); refine goesL_ (some 7) rfl rfl Tryz.func56 (by kernel_rfl) rfl #[.string a0] rfl qL ?_; (with_reducible refine (spec_WordOk.calls k a0 false _ A3.out).mono ?_); rintro e w' ⟨rfl, ⟨nd, rfl⟩⟩; refine ⟨_, rfl, ?_⟩))
  go_ret
  exact ⟨_, qE, qR HO201, qS0 HB⟩
end Go.Proofs.YtfeikakkfnnaoaaGreatDoor.QA
