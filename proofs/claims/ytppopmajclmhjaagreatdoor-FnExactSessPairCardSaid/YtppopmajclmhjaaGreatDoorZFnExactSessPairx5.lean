/- Part of the proof of the law FnExactSessPair: what it uses of the texts that this session and the kit's print wrote. -/
import Derived.Test.YtppopmajclmhjaaGreatDoorZFnExactSessPairx2
import Derived.Test.YtppopmajclmhjaaGreatDoorZFnExactSessPairx4
namespace Go.Proofs.YtppopmajclmhjaaGreatDoor.QB
open Go.RowKit Go.Proofs.YtppopmajclmhjaaGreatDoorW.PrintWords Go.Proofs.YtppopmajclmhjaaGreatDoorW.PrintLast Go.Proofs.YtppopmajclmhjaaGreatDoorW.PrintMore
attribute [local go_sem] max2_int min2_int max_two min_two max_three min_three max_four min_four
set_option linter.unusedVariables false
set_option linter.unusedSimpArgs false
set_option maxHeartbeats 8000000
set_option maxRecDepth 100000
mutual
def spec_l24Split.l0 : Nat → List Int → List Int → List Int → Int → Int → Option (List Int × List Int)
 | 0, _, _, _, _, _ => none
 | k + 1, x1, x6, x7, x8, x9 => if x9 < x8 then (if (Int.tmod x9 6) = 5 then (if 0 ≤ x9 then (if x9 < (x1.length : Int) then (if x6.length < 17592186044416 then (spec_l24Split.l0 k x1 (x6 ++ [rd x1 x9]) x7 x8 (wrap64 (x9 + 1))) else (none)) else (none)) else (none)) else (if (Int.tmod x9 6) > 0 then (if 0 ≤ x9 then (if x9 < (x1.length : Int) then (if x7.length < 17592186044416 then (spec_l24Split.l0 k x1 x6 (x7 ++ [rd x1 x9]) x8 (wrap64 (x9 + 1))) else (none)) else (none)) else (none)) else (spec_l24Split.l0 k x1 x6 x7 x8 (wrap64 (x9 + 1))))) else (spec_l24Split.l1 k x1 x6 x7 x8)
def spec_l24Split.l1 : Nat → List Int → List Int → List Int → Int → Option (List Int × List Int)
 | 0, _, _, _, _ => none
 | k + 1, x1, x6, x7, x10 => if (wrap64 (x10 + 1)) < (x1.length : Int) then (if 0 ≤ x10 then (if x10 < (x1.length : Int) then (if x6.length < 17592186044416 then (if 0 ≤ (wrap64 (x10 + 1)) then (if x7.length < 17592186044416 then (spec_l24Split.l1 k x1 (x6 ++ [rd x1 x10]) (x7 ++ [rd x1 (wrap64 (x10 + 1))]) (wrap64 (x10 + 2))) else (none)) else (none)) else (none)) else (none)) else (none)) else (some (x6, x7))
end
def spec_l24Split.f (k : Nat) (a0_0 : Int) (a0_1 : Int) (a0_2 : Int) (a0_3 : Int) (l1 : List Int) : Option (List Int × List Int) := (spec_DeepDraws.f k a0_1).bind fun t231 => (spec_l24Split.l0 k l1 (([] : List Int)) (([] : List Int)) t231 0)
theorem spec_l24Split.calls (k : Nat) (a0_0 : Int) (a0_1 : Int) (a0_2 : Int) (a0_3 : Int) (A1 : Option Addr) (c1 : Nat) (l1 : List Int) (r1 : List Int) (r2 : List Int) (w : World) (hr1 : Kd.C (Kd.int .i64) w A1 l1.length l1) (hc1 : l1.length ≤ c1) (h : spec_l24Split.f k a0_0 a0_1 a0_2 a0_3 l1 = some (r1, r2)) :
  Calls Tryz.prog 27 #[.agg #[.int .i64 a0_0, .int .i64 a0_1, .int .i64 a0_2, .int .i64 a0_3], .slice A1 l1.length c1] w fun e w' => ∃ v0_ v1_ : Value, e = .returned (.tuple #[v0_, v1_]) ∧ Kd.R (Kd.int .i64) 3 w' w.heap.size (fun k_ => some k_ ≠ (v1_ : Value).ownBlock) v0_ r1 ∧ Kd.R (Kd.int .i64) 3 w' w.heap.size (fun k_ => some k_ ≠ (v0_ : Value).ownBlock) v1_ r2 ∧ Below w.heap.size w w' := by
 (have hu29 := Tryz.underlying29); (have HR1 := Aside0.mk hr1); (have HC1 := Aside0.mk hc1); clear hr1 hc1; (have HB := Aside0.mk (Below.refl w.heap.size w)); (have H : ((spec_DeepDraws.f k a0_1).bind fun t231 => (spec_l24Split.l0 k l1 (([] : List Int)) (([] : List Int)) t231 0)) = some (r1, r2) := h); clear h; (obtain ⟨y225, hy225⟩ : ∃ y_ : List Int, y_ = (([] : List Int)) := ⟨_, rfl⟩); (replace H : ((spec_DeepDraws.f k a0_1).bind fun t231 => (spec_l24Split.l0 k l1 y225 (([] : List Int)) t231 0)) = some (r1, r2) := qY hy225 H); (have Ny225 := Aside0.mk hy225); clear hy225; (obtain ⟨y228, hy228⟩ : ∃ y_ : List Int, y_ = (([] : List Int)) := ⟨_, rfl⟩); (replace H : ((spec_DeepDraws.f k a0_1).bind fun t231 => (spec_l24Split.l0 k l1 y225 y228 t231 0)) = some (r1, r2) := qY hy228 H); (have Ny228 := Aside0.mk hy228); clear hy228; (obtain ⟨t231, A3, H⟩ := qX H); (replace H : (spec_l24Split.l0 k l1 y225 y228 t231 0) = some (r1, r2) := H); (have H' := Aside0.mk H); clear H
 go_enter Tryz.func27, Tryz.ntmps27
 go_wp2_with (first | ((with_reducible refine gate_dst (N := 2) rfl ?_); refine box_event ?hg (N := 2) ?hd (cs := #[.int .i64 a0_0, .int .i64 a0_1, .int .i64 a0_2, .int .i64 a0_3]) (t := 29) ?hr ?_; (case hd => rfl); (case hg => rfl); (case hr => first | (go_simp; done) | (go_simp; rfl)); intro gb224 hg w4 hbox hb; have BK224 := Aside0.mk (hbox); have GW224 := qG hg (below_size (qS0 HB)); have GE224 := qG hg (below_size (qS0 HB)); replace HB := Aside0.mk (below_step (qS0 HB) hb); clear hb hbox hg) | ((with_reducible refine gate_dst (N := 11) rfl ?_); refine Kd.R_lit (Kd.int .i64) _ 3 ?hg (N := 11) ?hd (xs := ([] : List Int)) (inner := []) (ok := fun _ => True) (okp := fun _ => True) ?hr ?hp (fun _ hk => hk) trivial (Below.refl _ _) (Nat.le_refl _) (by simp) ?_; (case hd => rfl); (case hg => rfl); (case hr => first | (go_simp; done) | (go_simp; rfl)); (case hp => exact (Reps.none _ _)); intro v226 w5 ho6 hb hg_ hnew_; clear hg_ hnew_; (first | rw [← Ny225.out] at ho6 | (simp only [Int.reduceToNat] at ho6; rw [← Ny225.out] at ho6)); have HO227 := Aside0.mk (Kd.R_lower ho6 (below_size (qS1 HB GE224))); replace BK224 := qD BK224 hb; replace HB := Aside0.mk (below_step (qS1 HB GE224) hb); clear hb ho6) | ((with_reducible refine gate_dst (N := 12) rfl ?_); refine Kd.R_lit (Kd.int .i64) _ 3 ?hg (N := 12) ?hd (xs := ([] : List Int)) (inner := []) (ok := fun _ => True) (okp := fun _ => True) ?hr ?hp (fun _ hk => hk) trivial (Below.refl _ _) (Nat.le_refl _) (by simp) ?_; (case hd => rfl); (case hg => rfl); (case hr => first | (go_simp; done) | (go_simp; rfl)); (case hp => exact (Reps.none _ _)); intro v229 w7 ho8 hb hg_ hnew_; clear hg_ hnew_; (first | rw [← Ny228.out] at ho8 | (simp only [Int.reduceToNat] at ho8; rw [← Ny228.out] at ho8)); have HO230 := Aside0.mk (Kd.R_lower (Kd.R_new' ho8 (Kd.R_lt (qR HO227))) (below_size (qS1 HB GE224))); replace HO227 := Aside0.mk (Kd.R_elder' (qR HO227) (Kd.R_base ho8) hb); replace BK224 := qD BK224 hb; replace HB := Aside0.mk (below_step (qS1 HB GE224) hb); clear hb ho8; obtain ⟨hcz9_0, hcz9_1, hcz9_2, hcz9_3, hfz9_0, hfz9_1, hfz9_2, hfz9_3⟩ := qC4 BK224) | ((with_reducible refine gate_callee (f := 43) rfl ?_); refine goesL_ (some 15) rfl rfl Tryz.func43 (by kernel_rfl) rfl #[.int .i64 a0_1] rfl qL ?_; (with_reducible refine (spec_DeepDraws.calls k a0_1 t231 _ A3.out).mono ?_); rintro e w' ⟨rfl, ⟨nd, rfl⟩⟩; refine ⟨_, rfl, ?_⟩))
 go_loopg [6, 7, 9] k (fun kq v6 v7 v9 w' => ∃ (x6_1 : List Int) (x7_1 : List Int) (x9_1 : Int), v9 = .int .i64 x9_1 ∧ Aside0 (spec_l24Split.l0 kq l1 x6_1 x7_1 t231 x9_1 = some (r1, r2)) ∧ Aside0 (kq ≤ k) ∧ Aside0 (Kd.R (Kd.int .i64) 3 w' w.heap.size (fun k_ => some k_ ≠ (v7 : Value).ownBlock) v6 x6_1) ∧ Aside0 (Kd.R (Kd.int .i64) 3 w' w.heap.size (fun k_ => some k_ ≠ (v6 : Value).ownBlock) v7 x7_1) ∧ Aside0 (w'.heap[gb224]? = some (.cells #[.int .i64 a0_0, .int .i64 a0_1, .int .i64 a0_2, .int .i64 a0_3] 29 (0, 0))) ∧ Aside0 (Below w.heap.size w w'))
 case atStart => exact ⟨(y225), (y228), (0), qV, H', ⟨Nat.le_refl _⟩, ⟨by (with_reducible repeat (first | apply Kd.R_alloc | apply Kd.R_drewN | apply Kd.R_drew)); exact Kd.R_mono HO227.out (fun _ hk => hk.2)⟩, ⟨by (with_reducible repeat (first | apply Kd.R_alloc | apply Kd.R_drewN | apply Kd.R_drew)); exact Kd.R_mono HO230.out (fun _ hk => hk.2)⟩, ⟨qB BK224⟩, ⟨qS1 HB GE224⟩⟩
 case round =>
  clear H'; (try clear hcz9_0); (try clear hcz9_1); (try clear hcz9_2); (try clear hcz9_3); (try clear hfz9_0); (try clear hfz9_1); (try clear hfz9_2); (try clear hfz9_3); (obtain ⟨x6_1, x7_1, x9_1, rfl, HA, HK1, HO_6, HO_7, BK224, HB⟩ := hrel)
  cases gk with
  | zero => exact absurd HA.out (by simp [spec_l24Split.l0])
  | succ k1 =>
   (have H := HA.out); clear HA; (simp only [spec_l24Split.l0] at H)
   rcases qI H with ⟨c10b0, H⟩ | ⟨c10b0, H⟩
   ·rcases qJ H with ⟨c11, H⟩ | ⟨c11, H⟩
    ·have c11b0 : ((Int.tmod x9_1 6) == 5) = true := beq_iff_eq.mpr c11
     (have c11b1 : ((Int.tmod x9_1 6) != 5) = false := bne_eq_false_iff_eq.mpr c11); clear c11; (obtain ⟨c12b0, H⟩ := qT H); (obtain ⟨c13b0, H⟩ := qT H); (obtain ⟨c14, H⟩ := qU H); (have LMc14 := Aside0.mk c14); clear c14; (obtain ⟨y233, hy233⟩ : ∃ y_ : List Int, y_ = (x6_1 ++ [rd l1 x9_1]) := ⟨_, rfl⟩); (replace H : (spec_l24Split.l0 k1 l1 y233 x7_1 t231 (wrap64 (x9_1 + 1))) = some (r1, r2) := qY hy233 H); (have Ny233 := Aside0.mk hy233); clear hy233; (have H' := Aside0.mk H); clear H; (have p232 : 0 ≤ (x9_1 : Int) := qO); (have q232 : x9_1 < (l1.length : Int) := qO); (obtain ⟨ad232, e232, hx232_0⟩ := Kd.at_int HR1.out x9_1 p232 q232)
     cases e232
     (replace hx232_0 := qF HB hx232_0); (replace p232 := eq_true p232); (replace q232 := eq_true q232)
     go_wp2_with (first | ((with_reducible refine gate_builtin (b := .append) (xs := #[.tmp 24, .tmp 29]) rfl ?_); at_builtin; refine Kd.R_append (Kd.int .i64) (w0 := w) w.heap.size rfl (.tmp 24) (.tmp 29) 25 3 (.int .i64 0) 8 rfl Tryz.underlying25 info3 rfl (by decide) (by omega) u6 x6_1 (rd l1 x9_1) [.int .i64 (rd l1 x9_1)] (fun k_ => some k_ ≠ (u7 : Value).ownBlock) (fun _ => False) rfl rfl ?aP (fun _ hk => hk.elim) ?aF ?aO ?aB ?aS ?aL ?_; (case aP => exact rfl); (case aB => exact (qS1 HB GE224)); (case aF => exact (fun k_ hk => Kd.fresh' (Kd.R_lt (qR HO_7)) k_ hk)); (case aO => exact (qR HO_6)); (case aS => exact (below_size (qS1 HB GE224))); (case aL => have := LMc14.out; omega); intro v234 w15 ho hb hg hat; rw [← Ny233.out] at ho; replace HO_7 := Aside0.mk (Kd.R_after (ok := (fun _ => True)) (by (with_reducible repeat (first | apply Kd.R_alloc | apply Kd.R_drewN | apply Kd.R_drew)); exact Kd.R_mono HO_7.out (fun _ hk => ⟨trivial, hk⟩)) hg hat); replace BK224 := Aside0.mk (blk_grown (qB BK224) hg (Kd.R_ne HO_6.out BK224.out (by decide))); replace HB := Aside0.mk (hb); have HO235 := Aside0.mk (ho); clear HO_6; clear ho hb hg hat))
     go_roundg k1
     case measure => have := HK1.out; omega
     case rel => exact ⟨(y233), (x7_1), (wrap64 (x9_1 + 1)), qV, H', ⟨by have := HK1.out; omega⟩, ⟨qR HO235⟩, ⟨by (with_reducible repeat (first | apply Kd.R_alloc | apply Kd.R_drewN | apply Kd.R_drew)); exact Kd.R_mono HO_7.out (fun _ hk => hk.2)⟩, ⟨qB BK224⟩, ⟨qS1 HB GE224⟩⟩
    ·have c11b0 : ((Int.tmod x9_1 6) == 5) = false := beq_eq_false_iff_ne.mpr c11
     have c11b1 : ((Int.tmod x9_1 6) != 5) = true := bne_iff_ne.mpr c11
     rcases qI H with ⟨(c16b0 : decide (0 < (Int.tmod x9_1 6)) = true), H⟩ | ⟨(c16b0 : decide (0 < (Int.tmod x9_1 6)) = false), H⟩
     ·obtain ⟨c17b0, H⟩ := qT H
      (obtain ⟨c18b0, H⟩ := qT H); (obtain ⟨c19, H⟩ := qU H); (have LMc19 := Aside0.mk c19); clear c19; (obtain ⟨y237, hy237⟩ : ∃ y_ : List Int, y_ = (x7_1 ++ [rd l1 x9_1]) := ⟨_, rfl⟩); (replace H : (spec_l24Split.l0 k1 l1 x6_1 y237 t231 (wrap64 (x9_1 + 1))) = some (r1, r2) := qY hy237 H); (have Ny237 := Aside0.mk hy237); clear hy237; (have H' := Aside0.mk H); clear H; (have p236 : 0 ≤ (x9_1 : Int) := qO); (have q236 : x9_1 < (l1.length : Int) := qO); (obtain ⟨ad236, e236, hx236_0⟩ := Kd.at_int HR1.out x9_1 p236 q236)
      cases e236
      (replace hx236_0 := qF HB hx236_0); (replace p236 := eq_true p236); (replace q236 := eq_true q236)
      go_wp2_with (first | ((with_reducible refine gate_builtin (b := .append) (xs := #[.tmp 34, .tmp 39]) rfl ?_); at_builtin; refine Kd.R_append (Kd.int .i64) (w0 := w) w.heap.size rfl (.tmp 34) (.tmp 39) 25 3 (.int .i64 0) 8 rfl Tryz.underlying25 info3 rfl (by decide) (by omega) u7 x7_1 (rd l1 x9_1) [.int .i64 (rd l1 x9_1)] (fun k_ => some k_ ≠ (u6 : Value).ownBlock) (fun _ => False) rfl rfl ?aP (fun _ hk => hk.elim) ?aF ?aO ?aB ?aS ?aL ?_; (case aP => exact rfl); (case aB => exact (qS1 HB GE224)); (case aF => exact (fun k_ hk => Kd.fresh' (Kd.R_lt (qR HO_6)) k_ hk)); (case aO => exact (qR HO_7)); (case aS => exact (below_size (qS1 HB GE224))); (case aL => have := LMc19.out; omega); intro v238 w20 ho hb hg hat; rw [← Ny237.out] at ho; replace HO_6 := Aside0.mk (Kd.R_after (ok := (fun _ => True)) (by (with_reducible repeat (first | apply Kd.R_alloc | apply Kd.R_drewN | apply Kd.R_drew)); exact Kd.R_mono HO_6.out (fun _ hk => ⟨trivial, hk⟩)) hg hat); replace BK224 := Aside0.mk (blk_grown (qB BK224) hg (Kd.R_ne HO_7.out BK224.out (by decide))); replace HB := Aside0.mk (hb); have HO239 := Aside0.mk (ho); clear HO_7; clear ho hb hg hat))
      go_roundg k1
      case measure => have := HK1.out; omega
      case rel => exact ⟨(x6_1), (y237), (wrap64 (x9_1 + 1)), qV, H', ⟨by have := HK1.out; omega⟩, ⟨by (with_reducible repeat (first | apply Kd.R_alloc | apply Kd.R_drewN | apply Kd.R_drew)); exact Kd.R_mono HO_6.out (fun _ hk => hk.2)⟩, ⟨qR HO239⟩, ⟨qB BK224⟩, ⟨qS1 HB GE224⟩⟩
     ·have H' := Aside0.mk H
      clear H
      go_wp2
      go_roundg k1
      case measure => have := HK1.out; omega
      case rel => exact ⟨(x6_1), (x7_1), (wrap64 (x9_1 + 1)), qV, H', ⟨by have := HK1.out; omega⟩, ⟨qR HO_6⟩, ⟨qR HO_7⟩, ⟨qB BK224⟩, ⟨qS1 HB GE224⟩⟩
   ·have H' := Aside0.mk H
    clear H
    go_wp2
    go_loopg [6, 7, 10] k1 (fun kq v6 v7 v10 w' => ∃ (x6_2 : List Int) (x7_2 : List Int) (x10_2 : Int), v10 = .int .i64 x10_2 ∧ Aside0 (spec_l24Split.l1 kq l1 x6_2 x7_2 x10_2 = some (r1, r2)) ∧ Aside0 (kq ≤ k1) ∧ Aside0 (Kd.R (Kd.int .i64) 3 w' w.heap.size (fun k_ => some k_ ≠ (v7 : Value).ownBlock) v6 x6_2) ∧ Aside0 (Kd.R (Kd.int .i64) 3 w' w.heap.size (fun k_ => some k_ ≠ (v6 : Value).ownBlock) v7 x7_2) ∧ Aside0 (w'.heap[gb224]? = some (.cells #[.int .i64 a0_0, .int .i64 a0_1, .int .i64 a0_2, .int .i64 a0_3] 29 (0, 0))) ∧ Aside0 (Below w.heap.size w w'))
    case atStart => exact ⟨(x6_1), (x7_1), (t231), qV, H', ⟨Nat.le_refl _⟩, ⟨qR HO_6⟩, ⟨qR HO_7⟩, ⟨qB BK224⟩, ⟨qS1 HB GE224⟩⟩
    case round =>
     clear H'; (try clear hx2); (try clear c10b0); (try clear c11b0); (try clear c11b1); (try clear c12b0); (try clear c13b0); (try clear c16b0); (try clear c17b0); (try clear c18b0); (try clear hx232_0); (try clear hx236_0); (try clear p232); (try clear p236); (try clear q232); (try clear q236); (obtain ⟨x6_2, x7_2, x10_2, rfl, HA, HK2, HO_6, HO_7, BK224, HB⟩ := hrel)
     cases gk with
     | zero => exact absurd HA.out (by simp [spec_l24Split.l1])
     | succ k2 =>
      (have H := HA.out); clear HA; (simp only [spec_l24Split.l1] at H)
      rcases qI H with ⟨c21b0, H⟩ | ⟨c21b0, H⟩
      ·obtain ⟨c22b0, H⟩ := qT H
       (obtain ⟨c23b0, H⟩ := qT H); (obtain ⟨c24, H⟩ := qU H); (have LMc24 := Aside0.mk c24); clear c24; (obtain ⟨y241, hy241⟩ : ∃ y_ : List Int, y_ = (x6_2 ++ [rd l1 x10_2]) := ⟨_, rfl⟩); (replace H : (if 0 ≤ (wrap64 (x10_2 + 1)) then (if x7_2.length < 17592186044416 then (spec_l24Split.l1 k2 l1 y241 (x7_2 ++ [rd l1 (wrap64 (x10_2 + 1))]) (wrap64 (x10_2 + 2))) else (none)) else (none)) = some (r1, r2) := qY hy241 H); (have Ny241 := Aside0.mk hy241); clear hy241; (obtain ⟨ji25, hji25⟩ : ∃ j_ : Int, (wrap64 (x10_2 + 1)) = j_ := ⟨_, rfl⟩); (replace H : (if 0 ≤ (ji25) then (if x7_2.length < 17592186044416 then (spec_l24Split.l1 k2 l1 y241 (x7_2 ++ [rd l1 (ji25)]) (wrap64 (x10_2 + 2))) else (none)) else (none)) = some (r1, r2) := by first | (rw [hji25] at H; exact H) | (simp only [hji25] at H ⊢; exact H)); (try rw [hji25] at c21b0); (have hji25w : (IntKind.i64.wrap (x10_2 + 1)) = ji25 := (i64_w _).trans hji25); (obtain ⟨c26b0, H⟩ := qT H); (obtain ⟨c27, H⟩ := qU H); (have LMc27 := Aside0.mk c27); clear c27; (obtain ⟨y245, hy245⟩ : ∃ y_ : List Int, y_ = (x7_2 ++ [rd l1 (ji25)]) := ⟨_, rfl⟩); (replace H : (spec_l24Split.l1 k2 l1 y241 y245 (wrap64 (x10_2 + 2))) = some (r1, r2) := qY hy245 H); (have Ny245 := Aside0.mk hy245); clear hy245; (have H' := Aside0.mk H); clear H; (have p240 : 0 ≤ (x10_2 : Int) := qO); (have q240 : x10_2 < (l1.length : Int) := qO); (obtain ⟨ad240, e240, hx240_0⟩ := Kd.at_int HR1.out x10_2 p240 q240)
       cases e240
       (replace hx240_0 := qF HB hx240_0); (replace p240 := eq_true p240); (replace q240 := eq_true q240)
       go_wp2_with (first | ((with_reducible refine gate_builtin (b := .append) (xs := #[.tmp 49, .tmp 54]) rfl ?_); at_builtin; refine Kd.R_append (Kd.int .i64) (w0 := w) w.heap.size rfl (.tmp 49) (.tmp 54) 25 3 (.int .i64 0) 8 rfl Tryz.underlying25 info3 rfl (by decide) (by omega) u6 x6_2 (rd l1 x10_2) [.int .i64 (rd l1 x10_2)] (fun k_ => some k_ ≠ (u7 : Value).ownBlock) (fun _ => False) rfl rfl ?aP (fun _ hk => hk.elim) ?aF ?aO ?aB ?aS ?aL ?_; (case aP => exact rfl); (case aB => exact (qS1 HB GE224)); (case aF => exact (fun k_ hk => Kd.fresh' (Kd.R_lt (qR HO_7)) k_ hk)); (case aO => exact (qR HO_6)); (case aS => exact (below_size (qS1 HB GE224))); (case aL => have := LMc24.out; omega); intro v242 w28 ho hb hg hat; rw [← Ny241.out] at ho; replace HO_7 := Aside0.mk (Kd.R_after (ok := (fun _ => True)) (by (with_reducible repeat (first | apply Kd.R_alloc | apply Kd.R_drewN | apply Kd.R_drew)); exact Kd.R_mono HO_7.out (fun _ hk => ⟨trivial, hk⟩)) hg hat); replace BK224 := Aside0.mk (blk_grown (qB BK224) hg (Kd.R_ne HO_6.out BK224.out (by decide))); replace HB := Aside0.mk (hb); have HO243 := Aside0.mk (ho); clear HO_6 ho hb hg hat; have p244 : 0 ≤ ((ji25) : Int) := qO; have q244 : (ji25) < (l1.length : Int) := qO; obtain ⟨ad244, e244, hx244_0⟩ := Kd.at_int HR1.out (ji25) p244 q244; obtain rfl : ad240 = ad244 := (by injection e244); replace hx244_0 := qF HB hx244_0; replace p244 := eq_true p244; replace q244 := eq_true q244) | ((with_reducible refine gate_builtin (b := .append) (xs := #[.tmp 56, .tmp 62]) rfl ?_); at_builtin; refine Kd.R_append (Kd.int .i64) (w0 := w) w.heap.size rfl (.tmp 56) (.tmp 62) 25 3 (.int .i64 0) 8 rfl Tryz.underlying25 info3 rfl (by decide) (by omega) u7 x7_2 (rd l1 (ji25)) [.int .i64 (rd l1 (ji25))] (fun k_ => some k_ ≠ (v242 : Value).ownBlock) (fun _ => False) rfl rfl ?aP (fun _ hk => hk.elim) ?aF ?aO ?aB ?aS ?aL ?_; (case aP => exact rfl); (case aB => exact (qS1 HB GE224)); (case aF => exact (fun k_ hk => Kd.fresh' (Kd.R_lt (qR HO243)) k_ hk)); (case aO => exact (by (with_reducible repeat (first | apply Kd.R_alloc | apply Kd.R_drewN | apply Kd.R_drew)); exact Kd.R_mono HO_7.out (fun _ hk => hk.2))); (case aS => exact (below_size (qS1 HB GE224))); (case aL => have := LMc27.out; omega); intro v246 w29 ho hb hg hat; rw [← Ny245.out] at ho; replace BK224 := Aside0.mk (blk_grown (qB BK224) hg (Kd.R_ne HO_7.out BK224.out (by decide))); replace HO243 := Aside0.mk (Kd.R_after (ok := (fun _ => True)) (by (with_reducible repeat (first | apply Kd.R_alloc | apply Kd.R_drewN | apply Kd.R_drew)); exact Kd.R_mono HO243.out (fun _ hk => ⟨trivial, hk⟩)) hg hat); replace HB := Aside0.mk (hb); have HO247 := Aside0.mk (ho); clear HO_7; clear ho hb hg hat))
       go_roundg k2
       case measure => have := HK1.out; have := HK2.out; omega
       case rel => exact ⟨(y241), (y245), (wrap64 (x10_2 + 2)), qV, H', ⟨by have := HK1.out; have := HK2.out; omega⟩, ⟨by (with_reducible repeat (first | apply Kd.R_alloc | apply Kd.R_drewN | apply Kd.R_drew)); exact Kd.R_mono HO243.out (fun _ hk => hk.2)⟩, ⟨qR HO247⟩, ⟨qB BK224⟩, ⟨qS1 HB GE224⟩⟩
      ·simp only [Option.some.injEq, Prod.mk.injEq] at H
       obtain ⟨rfl, rfl⟩ := H
       go_wp2
       go_ret2
       exact ⟨_, _, qE, qR HO_6, qR HO_7, qS1 HB GE224⟩
def spec_l24Quarter.l0 : Nat → List Int → List Int → Int → Option (List Int)
 | 0, _, _, _ => none
 | k + 1, x0, x3, x4 => if x4 < (x0.length : Int) then (if 0 ≤ x4 then (if (rd x0 x4) < 0 then (if x3.length < 17592186044416 then (spec_l24Quarter.l0 k x0 (x3 ++ [(-1)]) (wrap64 (x4 + 1))) else (none)) else (if x3.length < 17592186044416 then (spec_l24Quarter.l0 k x0 (x3 ++ [wrap64 (Int.tdiv (rd x0 x4) 4)]) (wrap64 (x4 + 1))) else (none))) else (none)) else (some x3)
def spec_l24Quarter.f (k : Nat) (l0 : List Int) : Option (List Int) := spec_l24Quarter.l0 k l0 (([] : List Int)) 0
theorem spec_l24Quarter.calls (k : Nat) (A0 : Option Addr) (c0 : Nat) (l0 : List Int) (r : List Int) (w : World) (hr0 : Kd.C (Kd.int .i64) w A0 l0.length l0) (hc0 : l0.length ≤ c0) (h : spec_l24Quarter.f k l0 = some r) :
  Calls Tryz.prog 31 #[.slice A0 l0.length c0] w fun e w' => ∃ v0_ : Value, e = .returned (v0_) ∧ Kd.R (Kd.int .i64) 3 w' w.heap.size (fun _ => True) v0_ r ∧ Below w.heap.size w w' := by
 (have HR0 := Aside0.mk hr0); (have HC0 := Aside0.mk hc0); clear hr0 hc0; (have HB := Aside0.mk (Below.refl w.heap.size w)); (have H : (spec_l24Quarter.l0 k l0 (([] : List Int)) 0) = some r := h); clear h; (obtain ⟨y278, hy278⟩ : ∃ y_ : List Int, y_ = (([] : List Int)) := ⟨_, rfl⟩); (replace H : (spec_l24Quarter.l0 k l0 y278 0) = some r := qY hy278 H); (have Ny278 := Aside0.mk hy278); clear hy278; (have H' := Aside0.mk H); clear H
 go_enter Tryz.func31, Tryz.ntmps31
 go_wp2_with (first | ((with_reducible refine gate_dst (N := 5) rfl ?_); refine Kd.R_lit (Kd.int .i64) _ 3 ?hg (N := 5) ?hd (xs := ([] : List Int)) (inner := []) (ok := fun _ => True) (okp := fun _ => True) ?hr ?hp (fun _ hk => hk) trivial (Below.refl _ _) (Nat.le_refl _) (by simp) ?_; (case hd => rfl); (case hg => rfl); (case hr => first | (go_simp; done) | (go_simp; rfl)); (case hp => exact (Reps.none _ _)); intro v279 w2 ho3 hb hg_ hnew_; clear hg_ hnew_; (first | rw [← Ny278.out] at ho3 | (simp only [Int.reduceToNat] at ho3; rw [← Ny278.out] at ho3)); have HO280 := Aside0.mk (Kd.R_lower ho3 (below_size (qS0 HB))); replace HB := Aside0.mk (below_step (qS0 HB) hb); clear hb ho3))
 go_loopg [3, 4] k (fun kq v3 v4 w' => ∃ (x3_1 : List Int) (x4_1 : Int), v4 = .int .i64 x4_1 ∧ Aside0 (spec_l24Quarter.l0 kq l0 x3_1 x4_1 = some r) ∧ Aside0 (kq ≤ k) ∧ Aside0 (Kd.R (Kd.int .i64) 3 w' w.heap.size (fun _ => True) v3 x3_1) ∧ Aside0 (Below w.heap.size w w'))
 case atStart => exact ⟨(y278), (0), qV, H', ⟨Nat.le_refl _⟩, ⟨qR HO280⟩, ⟨qS0 HB⟩⟩
 case round =>
  clear H'; (obtain ⟨x3_1, x4_1, rfl, HA, HK1, HO_3, HB⟩ := hrel)
  cases gk with
  | zero => exact absurd HA.out (by simp [spec_l24Quarter.l0])
  | succ k1 =>
   (have H := HA.out); clear HA; (simp only [spec_l24Quarter.l0] at H)
   rcases qI H with ⟨c4b0, H⟩ | ⟨c4b0, H⟩
   ·obtain ⟨c5b0, H⟩ := qT H
    rcases qI H with ⟨c6b0, H⟩ | ⟨c6b0, H⟩
    ·obtain ⟨c7, H⟩ := qU H
     (have LMc7 := Aside0.mk c7); clear c7; (obtain ⟨y282, hy282⟩ : ∃ y_ : List Int, y_ = (x3_1 ++ [(-1)]) := ⟨_, rfl⟩); (replace H : (spec_l24Quarter.l0 k1 l0 y282 (wrap64 (x4_1 + 1))) = some r := qY hy282 H); (have Ny282 := Aside0.mk hy282); clear hy282; (have H' := Aside0.mk H); clear H; (have p281 : 0 ≤ (x4_1 : Int) := qO); (have q281 : x4_1 < (l0.length : Int) := qO); (obtain ⟨ad281, e281, hx281_0⟩ := Kd.at_int HR0.out x4_1 p281 q281)
     cases e281
     (replace hx281_0 := qF HB hx281_0); (replace p281 := eq_true p281); (replace q281 := eq_true q281)
     go_wp2_with (first | ((with_reducible refine gate_builtin (b := .append) (xs := #[.tmp 17, .tmp 18]) rfl ?_); at_builtin; refine Kd.R_append (Kd.int .i64) (w0 := w) w.heap.size rfl (.tmp 17) (.tmp 18) 25 3 (.int .i64 0) 8 rfl Tryz.underlying25 info3 rfl (by decide) (by omega) u3 x3_1 (-1) [.int .i64 (-1)] (fun _ => True) (fun _ => False) rfl rfl ?aP (fun _ hk => hk.elim) ?aF ?aO ?aB ?aS ?aL ?_; (case aP => exact rfl); (case aB => exact (qS0 HB)); (case aF => exact (fun _ _ => trivial)); (case aO => exact (qR HO_3)); (case aS => exact (below_size (qS0 HB))); (case aL => have := LMc7.out; omega); intro v283 w8 ho hb hg hat; rw [← Ny282.out] at ho; replace HB := Aside0.mk (hb); have HO284 := Aside0.mk (ho); clear HO_3; clear ho hb hg hat))
     go_roundg k1
     case measure => have := HK1.out; omega
     case rel => exact ⟨(y282), (wrap64 (x4_1 + 1)), qV, H', ⟨by have := HK1.out; omega⟩, ⟨qR HO284⟩, ⟨qS0 HB⟩⟩
    ·obtain ⟨c9, H⟩ := qU H
     (have LMc9 := Aside0.mk c9); clear c9; (obtain ⟨y286, hy286⟩ : ∃ y_ : List Int, y_ = (x3_1 ++ [wrap64 (Int.tdiv (rd l0 x4_1) 4)]) := ⟨_, rfl⟩); (replace H : (spec_l24Quarter.l0 k1 l0 y286 (wrap64 (x4_1 + 1))) = some r := qY hy286 H); (have Ny286 := Aside0.mk hy286); clear hy286; (have H' := Aside0.mk H); clear H; (have p281 : 0 ≤ (x4_1 : Int) := qO); (have q281 : x4_1 < (l0.length : Int) := qO); (obtain ⟨ad281, e281, hx281_0⟩ := Kd.at_int HR0.out x4_1 p281 q281)
     cases e281
     (replace hx281_0 := qF HB hx281_0); (replace p281 := eq_true p281); (replace q281 := eq_true q281); (have p285 : 0 ≤ (x4_1 : Int) := qO); (have q285 : x4_1 < (l0.length : Int) := qO); (obtain ⟨ad285, e285, hx285_0⟩ := Kd.at_int HR0.out x4_1 p285 q285); (obtain rfl : ad281 = ad285 := (by injection e285)); (replace hx285_0 := qF HB hx285_0); (replace p285 := eq_true p285); (replace q285 := eq_true q285)
     go_wp2_with (first | ((with_reducible refine gate_builtin (b := .append) (xs := #[.tmp 20, .tmp 26]) rfl ?_); at_builtin; refine Kd.R_append (Kd.int .i64) (w0 := w) w.heap.size rfl (.tmp 20) (.tmp 26) 25 3 (.int .i64 0) 8 rfl Tryz.underlying25 info3 rfl (by decide) (by omega) u3 x3_1 (wrap64 (Int.tdiv (rd l0 x4_1) 4)) [.int .i64 (wrap64 (Int.tdiv (rd l0 x4_1) 4))] (fun _ => True) (fun _ => False) rfl rfl ?aP (fun _ hk => hk.elim) ?aF ?aO ?aB ?aS ?aL ?_; (case aP => exact rfl); (case aB => exact (qS0 HB)); (case aF => exact (fun _ _ => trivial)); (case aO => exact (qR HO_3)); (case aS => exact (below_size (qS0 HB))); (case aL => have := LMc9.out; omega); intro v287 w10 ho hb hg hat; rw [← Ny286.out] at ho; replace HB := Aside0.mk (hb); have HO288 := Aside0.mk (ho); clear HO_3; clear ho hb hg hat))
     go_roundg k1
     case measure => have := HK1.out; omega
     case rel => exact ⟨(y286), (wrap64 (x4_1 + 1)), qV, H', ⟨by have := HK1.out; omega⟩, ⟨qR HO288⟩, ⟨qS0 HB⟩⟩
   ·obtain rfl := Option.some.inj H
    go_wp2
    go_ret
    exact ⟨_, qE, qR HO_3, qS0 HB⟩
end Go.Proofs.YtppopmajclmhjaaGreatDoor.QB
namespace Go.Proofs.YtppopmajclmhjaaGreatDoor.QB
open Go.RowKit Go.Proofs.YtppopmajclmhjaaGreatDoorW.PrintWords Go.Proofs.YtppopmajclmhjaaGreatDoorW.PrintLast Go.Proofs.YtppopmajclmhjaaGreatDoorW.PrintMore
attribute [local go_sem] max2_int min2_int max_two min_two max_three min_three max_four min_four
set_option linter.unusedVariables false
set_option linter.unusedSimpArgs false
theorem eqA79 (d : Nat) (w : World) (x0 y0 : Int) (x1 y1 : Int) :
  (Op.equalIn (d + 2) 79 (.agg #[.int .i64 x0, .int .i64 x1]) (.agg #[.int .i64 y0, .int .i64 y1])).run Tryz.prog w = .ok (x0 == y0 && (x1 == y1)) w := by
 refine eqA_of Tryz.underlying79 (by kernel_rfl) ?_
 refine eqf_cons (by rfl) (by go_simp; rfl) (by go_simp; rfl) (by go_simp) ?_
 exact eqf_last (by rfl) (by go_simp; rfl) (by go_simp; rfl) (by go_simp)
end Go.Proofs.YtppopmajclmhjaaGreatDoor.QB
namespace Go.Proofs.YtppopmajclmhjaaGreatDoor.QB
open Go.RowKit Go.Proofs.YtppopmajclmhjaaGreatDoorW.PrintWords Go.Proofs.YtppopmajclmhjaaGreatDoorW.PrintLast Go.Proofs.YtppopmajclmhjaaGreatDoorW.PrintMore
attribute [local go_sem] max2_int min2_int max_two min_two max_three min_three max_four min_four
set_option linter.unusedVariables false
set_option linter.unusedSimpArgs false
set_option maxHeartbeats 8000000
set_option maxRecDepth 100000
attribute [local go_sem high] eqA79
mutual
def spec_SameShape.j0 : Nat → List (S79) → List (S79) → Bool → Option (Bool)
 | 0, _, _, _ => none
 | k + 1, x5, x7, x32 => if x32 = true then (some false) else (spec_SameShape.l0 k x5 x7 0)
def spec_SameShape.l0 : Nat → List (S79) → List (S79) → Int → Option (Bool)
 | 0, _, _, _ => none
 | k + 1, x5, x7, x9 => if x9 < (x5.length : Int) then (if 0 ≤ x9 then (if x9 < (x7.length : Int) then (if (!(((rd_T79 x5 x9).f0) == ((rd_T79 x7 x9).f0)) || (!(((rd_T79 x5 x9).f1) == ((rd_T79 x7 x9).f1)))) = true then (some false) else (spec_SameShape.l0 k x5 x7 (wrap64 (x9 + 1)))) else (none)) else (none)) else (some true)
end
def spec_SameShape.f (k : Nat) (l0 : List (S56)) (l1 : List (S56)) : Option (Bool) := (spec_ShapesOf.f k l0).bind fun bt690 => ((spec_ShapesOf.f k l1).bind fun bt694 => (if bt690.2 = true then (if bt694.2 = true then (spec_SameShape.j0 k bt690.1 bt694.1 ((bt690.1.length : Int) != (bt694.1.length : Int))) else (spec_SameShape.j0 k bt690.1 bt694.1 true)) else (spec_SameShape.j0 k bt690.1 bt694.1 true)))
theorem spec_SameShape.calls (k : Nat) (A0 : Option Addr) (c0 : Nat) (l0 : List (S56)) (A1 : Option Addr) (c1 : Nat) (l1 : List (S56)) (r : Bool) (w : World) (hr0 : Kd.C k56 w A0 l0.length l0) (hc0 : l0.length ≤ c0) (hr1 : Kd.C k56 w A1 l1.length l1) (hc1 : l1.length ≤ c1) (h : spec_SameShape.f k l0 l1 = some r) :
  Calls Tryz.prog 22 #[.slice A0 l0.length c0, .slice A1 l1.length c1] w fun e w' => e = .returned (.bool r) ∧ Below w.heap.size w w' := by
 (have hu79 := Tryz.underlying79); (have HR0 := Aside0.mk hr0); (have HC0 := Aside0.mk hc0); clear hr0 hc0; (have HR1 := Aside0.mk hr1); (have HC1 := Aside0.mk hc1); clear hr1 hc1; (have HB := Aside0.mk (Below.refl w.heap.size w)); (have H : ((spec_ShapesOf.f k l0).bind fun bt690 => ((spec_ShapesOf.f k l1).bind fun bt694 => (if bt690.2 = true then (if bt694.2 = true then (spec_SameShape.j0 k bt690.1 bt694.1 ((bt690.1.length : Int) != (bt694.1.length : Int))) else (spec_SameShape.j0 k bt690.1 bt694.1 true)) else (spec_SameShape.j0 k bt690.1 bt694.1 true)))) = some r := h); clear h; (obtain ⟨⟨t690, t691⟩, A3, H⟩ := qX H)
 try dsimp only at H
 obtain ⟨⟨t694, t695⟩, A4, H⟩ := qX H
 try dsimp only at H
 (have HC5 := Aside0.mk H); clear H
 go_enter Tryz.func22, Tryz.ntmps22
 go_upto_region 3 with (first | (go_at_call 52; (with_reducible refine (spec_ShapesOf.calls k _ _ l0 t690 t691 _ ?side1 ?side2 A3.out).mono ?_); (case side1 => exact qW HR0.out); (case side2 => exact HC0.out); rintro e w6 ⟨v692, rfl, ho0, hb⟩; have HO693 := Aside0.mk (Kd.R_lower ho0 (below_size (qS0 HB))); replace HB := Aside0.mk (below_step (qS0 HB) hb); (try clear hb); (try clear hb2); (try clear hk); (try clear hi); (try clear ho0)) | (go_at_call 52; (with_reducible refine (spec_ShapesOf.calls k _ _ l1 t694 t695 _ ?side1 ?side2 A4.out).mono ?_); (case side1 => exact qW (Kd.C_below HR1.out HB.out)); (case side2 => exact HC1.out); rintro e w7 ⟨v696, rfl, ho0, hb⟩; have HO697 := Aside0.mk (Kd.R_lower (Kd.R_new' ho0 (Kd.R_lt (qR HO693))) (below_size (qS0 HB))); replace HO693 := Aside0.mk (Kd.R_elder' (qR HO693) (Kd.R_base ho0) hb); replace HB := Aside0.mk (below_step (qS0 HB) hb); (try clear hb); (try clear hb2); (try clear hk); (try clear hi); (try clear ho0)))
 repeat (go_quiet (first | (go_at_call 52; (with_reducible refine (spec_ShapesOf.calls k _ _ l0 t690 t691 _ ?side1 ?side2 A3.out).mono ?_); (case side1 => exact qW HR0.out); (case side2 => exact HC0.out); rintro e w6 ⟨v692, rfl, ho0, hb⟩; have HO693 := Aside0.mk (Kd.R_lower ho0 (below_size (qS0 HB))); replace HB := Aside0.mk (below_step (qS0 HB) hb); (try clear hb); (try clear hb2); (try clear hk); (try clear hi); (try clear ho0)) | (go_at_call 52; (with_reducible refine (spec_ShapesOf.calls k _ _ l1 t694 t695 _ ?side1 ?side2 A4.out).mono ?_); (case side1 => exact qW (Kd.C_below HR1.out HB.out)); (case side2 => exact HC1.out); rintro e w7 ⟨v696, rfl, ho0, hb⟩; have HO697 := Aside0.mk (Kd.R_lower (Kd.R_new' ho0 (Kd.R_lt (qR HO693))) (below_size (qS0 HB))); replace HO693 := Aside0.mk (Kd.R_elder' (qR HO693) (Kd.R_base ho0) hb); replace HB := Aside0.mk (below_step (qS0 HB) hb); (try clear hb); (try clear hb2); (try clear hk); (try clear hi); (try clear ho0))); go_upto_region 3 with (first | (go_at_call 52; (with_reducible refine (spec_ShapesOf.calls k _ _ l0 t690 t691 _ ?side1 ?side2 A3.out).mono ?_); (case side1 => exact qW HR0.out); (case side2 => exact HC0.out); rintro e w6 ⟨v692, rfl, ho0, hb⟩; have HO693 := Aside0.mk (Kd.R_lower ho0 (below_size (qS0 HB))); replace HB := Aside0.mk (below_step (qS0 HB) hb); (try clear hb); (try clear hb2); (try clear hk); (try clear hi); (try clear ho0)) | (go_at_call 52; (with_reducible refine (spec_ShapesOf.calls k _ _ l1 t694 t695 _ ?side1 ?side2 A4.out).mono ?_); (case side1 => exact qW (Kd.C_below HR1.out HB.out)); (case side2 => exact HC1.out); rintro e w7 ⟨v696, rfl, ho0, hb⟩; have HO697 := Aside0.mk (Kd.R_lower (Kd.R_new' ho0 (Kd.R_lt (qR HO693))) (below_size (qS0 HB))); replace HO693 := Aside0.mk (Kd.R_elder' (qR HO693) (Kd.R_base ho0) hb); replace HB := Aside0.mk (below_step (qS0 HB) hb); (try clear hb); (try clear hb2); (try clear hk); (try clear hi); (try clear ho0))))
 (try simp only [Act.put, List.setIfInBounds_toArray, List.set_cons_zero, List.set_cons_succ])
 go_cut [32] (fun v32 wc => ∃ (kq : Nat) (x32_4 : Bool), v32 = .bool x32_4 ∧ Aside0 (spec_SameShape.j0 kq t690 t694 x32_4 = some r) ∧ Aside0 (kq ≤ k) ∧ Aside0 (Kd.R k79 79 wc w.heap.size (fun k_ => some k_ ≠ (v696 : Value).ownBlock) v692 t690) ∧ Aside0 (Kd.R k79 79 wc w.heap.size (fun k_ => some k_ ≠ (v692 : Value).ownBlock) v696 t694) ∧ Aside0 (Below w.heap.size w wc))
 case first =>
  (have H := HC5.out); clear HC5
  by_cases c8 : t691 = true
  ·subst c8
   (have H1 : (if t695 = true then (spec_SameShape.j0 k t690 t694 ((t690.length : Int) != (t694.length : Int))) else (spec_SameShape.j0 k t690 t694 true)) = some r := by rw [if_pos rfl] at H; exact H); clear H; (have H := H1); clear H1
   by_cases c9 : t695 = true
   ·subst c9
    (have H1 : (spec_SameShape.j0 k t690 t694 ((t690.length : Int) != (t694.length : Int))) = some r := by rw [if_pos rfl] at H; exact H); clear H; (have H := H1); clear H1; (have H' := Aside0.mk H); clear H; (obtain ⟨Ao10, co10, eo10⟩ := Kd.R_slice HO693.out); (subst eo10); (obtain ⟨Ao11, co11, eo11⟩ := Kd.R_slice HO697.out); (subst eo11)
    go_wp2
    repeat (go_quiet (fail); try go_wp2)
    go_meet
    case rel => exact ⟨_, (((t690.length : Int) != (t694.length : Int))), qV, H', ⟨by first | omega | exact Nat.le_refl _⟩, ⟨by (with_reducible repeat (first | apply Kd.R_alloc | apply Kd.R_drewN | apply Kd.R_drew)); exact Kd.R_mono HO693.out (fun _ hk => hk.2)⟩, ⟨by (with_reducible repeat (first | apply Kd.R_alloc | apply Kd.R_drewN | apply Kd.R_drew)); exact Kd.R_mono HO697.out (fun _ hk => hk.2)⟩, ⟨qS0 HB⟩⟩
   ·replace c9 := Bool.eq_false_iff.mpr c9
    (subst c9); (have H1 : (spec_SameShape.j0 k t690 t694 true) = some r := by rw [if_neg (show ¬ (false = true) by decide)] at H; exact H); clear H; (have H := H1); clear H1; (have H' := Aside0.mk H); clear H
    go_wp2
    repeat (go_quiet (fail); try go_wp2)
    go_meet
    case rel => exact ⟨_, (true), qV, H', ⟨by first | omega | exact Nat.le_refl _⟩, ⟨by (with_reducible repeat (first | apply Kd.R_alloc | apply Kd.R_drewN | apply Kd.R_drew)); exact Kd.R_mono HO693.out (fun _ hk => hk.2)⟩, ⟨by (with_reducible repeat (first | apply Kd.R_alloc | apply Kd.R_drewN | apply Kd.R_drew)); exact Kd.R_mono HO697.out (fun _ hk => hk.2)⟩, ⟨qS0 HB⟩⟩
  ·replace c8 := Bool.eq_false_iff.mpr c8
   (subst c8); (have H1 : (spec_SameShape.j0 k t690 t694 true) = some r := by rw [if_neg (show ¬ (false = true) by decide)] at H; exact H); clear H; (have H := H1); clear H1; (have H' := Aside0.mk H); clear H
   go_wp2
   repeat (go_quiet (fail); try go_wp2)
   go_meet
   case rel => exact ⟨_, (true), qV, H', ⟨by first | omega | exact Nat.le_refl _⟩, ⟨by (with_reducible repeat (first | apply Kd.R_alloc | apply Kd.R_drewN | apply Kd.R_drew)); exact Kd.R_mono HO693.out (fun _ hk => hk.2)⟩, ⟨by (with_reducible repeat (first | apply Kd.R_alloc | apply Kd.R_drewN | apply Kd.R_drew)); exact Kd.R_mono HO697.out (fun _ hk => hk.2)⟩, ⟨qS0 HB⟩⟩
 case rest =>
  clear HC5; (try clear c8); (try clear c9); (obtain ⟨kq, x32_4, rfl, HA, HJ4, HO_5, HO_7, HB⟩ := hcut)
  cases kq with
  | zero => exact absurd HA.out (by simp [spec_SameShape.j0])
  | succ kj4 =>
   (have H := HA.out); clear HA; (simp only [spec_SameShape.j0] at H)
   by_cases c12 : x32_4 = true
   ·subst c12
    (have H1 : (some false) = some r := by rw [if_pos rfl] at H; exact H); clear H; (have H := H1); clear H1; (obtain rfl := Option.some.inj H)
    go_wp2
    repeat (go_quiet (fail); try go_wp2)
    go_ret
    exact ⟨qE, qS0 HB⟩
   ·replace c12 := Bool.eq_false_iff.mpr c12
    (subst c12); (have H1 : (spec_SameShape.l0 kj4 t690 t694 0) = some r := by rw [if_neg (show ¬ (false = true) by decide)] at H; exact H); clear H; (have H := H1); clear H1; (have H' := Aside0.mk H); clear H
    go_wp2
    repeat (go_quiet (fail); try go_wp2)
    go_loopg [9] kj4 (fun kq v9 w' => ∃ (x9_2 : Int), v9 = .int .i64 x9_2 ∧ Aside0 (spec_SameShape.l0 kq t690 t694 x9_2 = some r) ∧ Aside0 (kq ≤ kj4) ∧ Aside0 (Kd.R k79 79 w' w.heap.size (fun k_ => some k_ ≠ (v696 : Value).ownBlock) v692 t690) ∧ Aside0 (Kd.R k79 79 w' w.heap.size (fun k_ => some k_ ≠ (v692 : Value).ownBlock) v696 t694) ∧ Aside0 (Below w.heap.size w w'))
    case atStart => exact ⟨(0), qV, H', ⟨Nat.le_refl _⟩, ⟨qR HO_5⟩, ⟨qR HO_7⟩, ⟨qS0 HB⟩⟩
    case round =>
     clear H'; (try clear c12); (obtain ⟨x9_2, rfl, HA, HK2, HO_5, HO_7, HB⟩ := hrel)
     cases gk with
     | zero => exact absurd HA.out (by simp [spec_SameShape.l0])
     | succ k2 =>
      (have H := HA.out); clear HA; (simp only [spec_SameShape.l0] at H)
      rcases qI H with ⟨c13b0, H⟩ | ⟨c13b0, H⟩
      ·obtain ⟨c14b0, H⟩ := qT H
       obtain ⟨c15b0, H⟩ := qT H
       rcases qJ H with ⟨c16, H⟩ | ⟨c16, H⟩
       ·have c16b0 : (!(((rd_T79 t690 x9_2).f0) == ((rd_T79 t694 x9_2).f0)) || (!(((rd_T79 t690 x9_2).f1) == ((rd_T79 t694 x9_2).f1)))) = true := c16
        clear c16; (obtain rfl := Option.some.inj H); (obtain ⟨Ao17, co17, eo17⟩ := Kd.R_slice HO_5.out); (subst eo17); (have p698 : 0 ≤ (x9_2 : Int) := qO); (have q698 : x9_2 < (t690.length : Int) := qO); (obtain ⟨ad698, e698, hx698_0, hx698_1⟩ := at_T79 (Kd.R_reads' HO_5.out).2.2 x9_2 p698 q698)
        cases e698
        (replace p698 := eq_true p698); (replace q698 := eq_true q698); (obtain ⟨Ao18, co18, eo18⟩ := Kd.R_slice HO_7.out); (subst eo18); (have p699 : 0 ≤ (x9_2 : Int) := qO); (have q699 : x9_2 < (t694.length : Int) := qO); (obtain ⟨ad699, e699, hx699_0, hx699_1⟩ := at_T79 (Kd.R_reads' HO_7.out).2.2 x9_2 p699 q699)
        cases e699
        (replace p699 := eq_true p699); (replace q699 := eq_true q699)
        go_wp2
        repeat (go_quiet (fail); try go_wp2)
        go_ret
        exact ⟨qE, qS0 HB⟩
       ·have c16b0 : (!(((rd_T79 t690 x9_2).f0) == ((rd_T79 t694 x9_2).f0)) || (!(((rd_T79 t690 x9_2).f1) == ((rd_T79 t694 x9_2).f1)))) = false := by simpa using c16
        clear c16; (have H' := Aside0.mk H); clear H; (obtain ⟨Ao19, co19, eo19⟩ := Kd.R_slice HO_5.out); (subst eo19); (have p698 : 0 ≤ (x9_2 : Int) := qO); (have q698 : x9_2 < (t690.length : Int) := qO); (obtain ⟨ad698, e698, hx698_0, hx698_1⟩ := at_T79 (Kd.R_reads' HO_5.out).2.2 x9_2 p698 q698)
        cases e698
        (replace p698 := eq_true p698); (replace q698 := eq_true q698); (obtain ⟨Ao20, co20, eo20⟩ := Kd.R_slice HO_7.out); (subst eo20); (have p699 : 0 ≤ (x9_2 : Int) := qO); (have q699 : x9_2 < (t694.length : Int) := qO); (obtain ⟨ad699, e699, hx699_0, hx699_1⟩ := at_T79 (Kd.R_reads' HO_7.out).2.2 x9_2 p699 q699)
        cases e699
        (replace p699 := eq_true p699); (replace q699 := eq_true q699)
        go_wp2
        repeat (go_quiet (fail); try go_wp2)
        go_roundg k2
        case measure => have := HJ4.out; have := HK2.out; omega
        case rel => exact ⟨(wrap64 (x9_2 + 1)), qV, H', ⟨by have := HJ4.out; have := HK2.out; omega⟩, ⟨qR HO_5⟩, ⟨qR HO_7⟩, ⟨qS0 HB⟩⟩
      ·obtain rfl := Option.some.inj H
       (obtain ⟨Ao21, co21, eo21⟩ := Kd.R_slice HO_5.out); (subst eo21)
       go_wp2
       repeat (go_quiet (fail); try go_wp2)
       go_ret
       exact ⟨qE, qS0 HB⟩
end Go.Proofs.YtppopmajclmhjaaGreatDoor.QB
namespace Go.Proofs.YtppopmajclmhjaaGreatDoor.QB
open Go.RowKit Go.Proofs.YtppopmajclmhjaaGreatDoorW.PrintWords Go.Proofs.YtppopmajclmhjaaGreatDoorW.PrintLast Go.Proofs.YtppopmajclmhjaaGreatDoorW.PrintMore
attribute [local go_sem] max2_int min2_int max_two min_two max_three min_three max_four min_four
set_option linter.unusedVariables false
set_option linter.unusedSimpArgs false
set_option maxHeartbeats 8000000
set_option maxRecDepth 100000
mutual
def spec_l15Right.j0 : Nat → Int → List Int → Bool → Option (Bool)
 | 0, _, _, _ => none
 | k + 1, x0, x1, x16 => if x16 = true then (some false) else (spec_l15Right.l0 k x0 x1 0)
def spec_l15Right.l0 : Nat → Int → List Int → Int → Option (Bool)
 | 0, _, _, _ => none
 | k + 1, x0, x1, x5 => if x5 < (x1.length : Int) then (if 0 ≤ x5 then (if (rd x1 x5) < (-1) then (some false) else (if (rd x1 x5) ≥ x0 then (some false) else (spec_l15Right.l0 k x0 x1 (wrap64 (x5 + 1))))) else (none)) else (some true)
end
def spec_l15Right.f (k : Nat) (a0 : Int) (l1 : List Int) : Option (Bool) := if a0 < 0 then (spec_l15Right.j0 k a0 l1 true) else (if a0 > 256 then (spec_l15Right.j0 k a0 l1 true) else (spec_l15Right.j0 k a0 l1 (decide ((l1.length : Int) > 700))))
theorem spec_l15Right.calls (k : Nat) (a0 : Int) (A1 : Option Addr) (c1 : Nat) (l1 : List Int) (r : Bool) (w : World) (hr1 : Kd.C (Kd.int .i64) w A1 l1.length l1) (hc1 : l1.length ≤ c1) (h : spec_l15Right.f k a0 l1 = some r) :
  Calls Tryz.prog 59 #[.int .i64 a0, .slice A1 l1.length c1] w fun e w' => e = .returned (.bool r) ∧ Drawn0 w w' := by
 (have HR1 := Aside0.mk hr1); (have HC1 := Aside0.mk hc1); clear hr1 hc1; (have H : (if a0 < 0 then (spec_l15Right.j0 k a0 l1 true) else (if a0 > 256 then (spec_l15Right.j0 k a0 l1 true) else (spec_l15Right.j0 k a0 l1 (decide ((l1.length : Int) > 700))))) = some r := h); clear h; (have HC3 := Aside0.mk H); clear H
 go_enter Tryz.func59, Tryz.ntmps59
 go_upto_region 1 with (fail)
 go_cut [16] (fun v16 wc => ∃ (kq : Nat) (x16_2 : Bool), v16 = .bool x16_2 ∧ Aside0 (spec_l15Right.j0 kq a0 l1 x16_2 = some r) ∧ Aside0 (kq ≤ k) ∧ Drawn0 w wc)
 case first =>
  (have H := HC3.out); clear HC3
  rcases qI H with ⟨c4b0, H⟩ | ⟨c4b0, H⟩
  ·(first | rw [c4b0] | (simp only [i64_w, i32_w]; rw [c4b0]) | skip)
   (have H' := Aside0.mk H); clear H
   go_wp2
   go_meet
   case rel => exact ⟨_, (true), qV, H', ⟨by first | omega | exact Nat.le_refl _⟩, by repeat (first | exact Drawn0.refl _ | apply Drawn0.step)⟩
  ·(first | rw [c4b0] | (simp only [i64_w, i32_w]; rw [c4b0]) | skip)
   rcases qI H with ⟨(c5b0 : decide (256 < a0) = true), H⟩ | ⟨(c5b0 : decide (256 < a0) = false), H⟩
   ·have H' := Aside0.mk H
    clear H
    go_wp2
    go_meet
    case rel => exact ⟨_, (true), qV, H', ⟨by first | omega | exact Nat.le_refl _⟩, by repeat (first | exact Drawn0.refl _ | apply Drawn0.step)⟩
   ·have H' := Aside0.mk H
    clear H
    go_wp2
    go_meet
    case rel => exact ⟨_, (decide ((l1.length : Int) > 700)), qV, H', ⟨by first | omega | exact Nat.le_refl _⟩, by repeat (first | exact Drawn0.refl _ | apply Drawn0.step)⟩
 case rest =>
  clear HC3; (try clear c4b0); (try clear c5b0); (obtain ⟨kq, x16_2, rfl, HA, HJ2, ⟨mc2, rfl⟩⟩ := hcut)
  cases kq with
  | zero => exact absurd HA.out (by simp [spec_l15Right.j0])
  | succ kj2 =>
   (have H := HA.out); clear HA; (simp only [spec_l15Right.j0] at H)
   by_cases c6 : x16_2 = true
   ·subst c6
    (have H1 : (some false) = some r := by rw [if_pos rfl] at H; exact H); clear H; (have H := H1); clear H1; (obtain rfl := Option.some.inj H)
    go_wp2
    go_ret
    exact qZ
   ·replace c6 := Bool.eq_false_iff.mpr c6
    (subst c6); (have H1 : (spec_l15Right.l0 kj2 a0 l1 0) = some r := by rw [if_neg (show ¬ (false = true) by decide)] at H; exact H); clear H; (have H := H1); clear H1; (have H' := Aside0.mk H); clear H
    go_wp2
    go_loopg [5] kj2 (fun kq v5 w' => ∃ (x5_2 : Int), v5 = .int .i64 x5_2 ∧ Aside0 (spec_l15Right.l0 kq a0 l1 x5_2 = some r) ∧ Aside0 (kq ≤ kj2) ∧ Drawn0 w w')
    case atStart => exact ⟨(0), qV, H', ⟨Nat.le_refl _⟩, by repeat (first | exact Drawn0.refl _ | apply Drawn0.step)⟩
    case round =>
     clear H'; (try clear c6); (obtain ⟨x5_2, rfl, HA, HK2, ⟨m2, rfl⟩⟩ := hrel)
     cases gk with
     | zero => exact absurd HA.out (by simp [spec_l15Right.l0])
     | succ k2 =>
      (have H := HA.out); clear HA; (simp only [spec_l15Right.l0] at H)
      rcases qI H with ⟨c7b0, H⟩ | ⟨c7b0, H⟩
      ·obtain ⟨c8b0, H⟩ := qT H
       rcases qI H with ⟨c9b0, H⟩ | ⟨c9b0, H⟩
       ·obtain rfl := Option.some.inj H
        (have p249 : 0 ≤ (x5_2 : Int) := qO); (have q249 : x5_2 < (l1.length : Int) := qO); (obtain ⟨ad249, e249, hx249_0⟩ := Kd.at_int HR1.out x5_2 p249 q249)
        cases e249
        (replace p249 := eq_true p249); (replace q249 := eq_true q249)
        go_wp2
        go_ret
        exact qZ
       ·rcases qI H with ⟨(c10b0 : decide (a0 ≤ (rd l1 x5_2)) = true), H⟩ | ⟨(c10b0 : decide (a0 ≤ (rd l1 x5_2)) = false), H⟩
        ·obtain rfl := Option.some.inj H
         (have p249 : 0 ≤ (x5_2 : Int) := qO); (have q249 : x5_2 < (l1.length : Int) := qO); (obtain ⟨ad249, e249, hx249_0⟩ := Kd.at_int HR1.out x5_2 p249 q249)
         cases e249
         (replace p249 := eq_true p249); (replace q249 := eq_true q249); (have p250 : 0 ≤ (x5_2 : Int) := qO); (have q250 : x5_2 < (l1.length : Int) := qO); (obtain ⟨ad250, e250, hx250_0⟩ := Kd.at_int HR1.out x5_2 p250 q250); (obtain rfl : ad249 = ad250 := (by injection e250)); (replace p250 := eq_true p250); (replace q250 := eq_true q250)
         go_wp2
         go_ret
         exact qZ
        ·have H' := Aside0.mk H
         clear H; (have p249 : 0 ≤ (x5_2 : Int) := qO); (have q249 : x5_2 < (l1.length : Int) := qO); (obtain ⟨ad249, e249, hx249_0⟩ := Kd.at_int HR1.out x5_2 p249 q249)
         cases e249
         (replace p249 := eq_true p249); (replace q249 := eq_true q249); (have p250 : 0 ≤ (x5_2 : Int) := qO); (have q250 : x5_2 < (l1.length : Int) := qO); (obtain ⟨ad250, e250, hx250_0⟩ := Kd.at_int HR1.out x5_2 p250 q250); (obtain rfl : ad249 = ad250 := (by injection e250)); (replace p250 := eq_true p250); (replace q250 := eq_true q250)
         go_wp2
         go_roundg k2
         case measure => have := HJ2.out; have := HK2.out; omega
         case rel => exact ⟨(wrap64 (x5_2 + 1)), qV, H', ⟨by have := HJ2.out; have := HK2.out; omega⟩, by repeat (first | exact Drawn0.refl _ | apply Drawn0.step)⟩
      ·obtain rfl := Option.some.inj H
       go_wp2
       go_ret
       exact qZ
def spec_l15Coord.l0 : Nat → Int → List Int → Int → Int → Option (Int)
 | 0, _, _, _, _ => none
 | k + 1, x0, x1, x2, x7 => if x7 ≥ 0 then (if 0 ≤ x7 then (if x7 < (x1.length : Int) then (if 0 ≤ x2 then (if x2 < (x1.length : Int) then (if (rd x1 x7) = (rd x1 x2) then (some (wrap64 (x0 + x7))) else (spec_l15Coord.l0 k x0 x1 x2 (wrap64 (x7 - 1)))) else (none)) else (none)) else (none)) else (none)) else (if 0 ≤ x2 then (if x2 < (x1.length : Int) then (some (rd x1 x2)) else (none)) else (none))
def spec_l15Coord.f (k : Nat) (a0 : Int) (l1 : List Int) (a2 : Int) : Option (Int) := if 0 ≤ a2 then (if a2 < (l1.length : Int) then (if (rd l1 a2) < 0 then (some (wrap64 (a0 + a2))) else (spec_l15Coord.l0 k a0 l1 a2 (wrap64 (a2 - 1)))) else (none)) else (none)
theorem spec_l15Coord.calls (k : Nat) (a0 : Int) (A1 : Option Addr) (c1 : Nat) (l1 : List Int) (a2 : Int) (r : Int) (w : World) (hr1 : Kd.C (Kd.int .i64) w A1 l1.length l1) (hc1 : l1.length ≤ c1) (h : spec_l15Coord.f k a0 l1 a2 = some r) :
  Calls Tryz.prog 115 #[.int .i64 a0, .slice A1 l1.length c1, .int .i64 a2] w fun e w' => e = .returned (.int .i64 r) ∧ Drawn0 w w' := by
 (have HR1 := Aside0.mk hr1); (have HC1 := Aside0.mk hc1); clear hr1 hc1; (have H : (if 0 ≤ a2 then (if a2 < (l1.length : Int) then (if (rd l1 a2) < 0 then (some (wrap64 (a0 + a2))) else (spec_l15Coord.l0 k a0 l1 a2 (wrap64 (a2 - 1)))) else (none)) else (none)) = some r := h); clear h; (obtain ⟨c4b0, H⟩ := qT H); (obtain ⟨c5b0, H⟩ := qT H)
 rcases qI H with ⟨c6b0, H⟩ | ⟨c6b0, H⟩
 ·obtain rfl := Option.some.inj H
  (have p700 : 0 ≤ (a2 : Int) := qO); (have q700 : a2 < (l1.length : Int) := qO); (obtain ⟨ad700, e700, hx700_0⟩ := Kd.at_int HR1.out a2 p700 q700)
  cases e700
  (replace p700 := eq_true p700); (replace q700 := eq_true q700)
  go_enter Tryz.func115, Tryz.ntmps115
  go_wp2
  repeat (go_quiet (fail); try go_wp2)
  go_ret
  exact qZ
 ·have H' := Aside0.mk H
  clear H; (have p700 : 0 ≤ (a2 : Int) := qO); (have q700 : a2 < (l1.length : Int) := qO); (obtain ⟨ad700, e700, hx700_0⟩ := Kd.at_int HR1.out a2 p700 q700)
  cases e700
  (replace p700 := eq_true p700); (replace q700 := eq_true q700)
  go_enter Tryz.func115, Tryz.ntmps115
  go_wp2
  repeat (go_quiet (fail); try go_wp2)
  go_loopg [7] k (fun kq v7 w' => ∃ (x7_1 : Int), v7 = .int .i64 x7_1 ∧ Aside0 (spec_l15Coord.l0 kq a0 l1 a2 x7_1 = some r) ∧ Aside0 (kq ≤ k) ∧ Drawn0 w w')
  case atStart => exact ⟨(wrap64 (a2 - 1)), qV, H', ⟨Nat.le_refl _⟩, by repeat (first | exact Drawn0.refl _ | apply Drawn0.step)⟩
  case round =>
   clear H'; (try clear c4b0); (try clear c5b0); (try clear c6b0); (try clear hx700_0); (try clear p700); (try clear q700); (obtain ⟨x7_1, rfl, HA, HK1, ⟨m1, rfl⟩⟩ := hrel)
   cases gk with
   | zero => exact absurd HA.out (by simp [spec_l15Coord.l0])
   | succ k1 =>
    (have H := HA.out); clear HA; (simp only [spec_l15Coord.l0] at H)
    rcases qI H with ⟨(c7b0 : decide (0 ≤ x7_1) = true), H⟩ | ⟨(c7b0 : decide (0 ≤ x7_1) = false), H⟩
    ·obtain ⟨c8b0, H⟩ := qT H
     (obtain ⟨c9b0, H⟩ := qT H); (obtain ⟨c10b0, H⟩ := qT H); (obtain ⟨c11b0, H⟩ := qT H)
     rcases qJ H with ⟨c12, H⟩ | ⟨c12, H⟩
     ·have c12b0 : ((rd l1 x7_1) == (rd l1 a2)) = true := beq_iff_eq.mpr c12
      (have c12b1 : ((rd l1 x7_1) != (rd l1 a2)) = false := bne_eq_false_iff_eq.mpr c12); clear c12; (obtain rfl := Option.some.inj H); (have p701 : 0 ≤ (x7_1 : Int) := qO); (have q701 : x7_1 < (l1.length : Int) := qO); (obtain ⟨ad701, e701, hx701_0⟩ := Kd.at_int HR1.out x7_1 p701 q701); (obtain rfl : ad700 = ad701 := (by injection e701)); (replace p701 := eq_true p701); (replace q701 := eq_true q701); (have p702 : 0 ≤ (a2 : Int) := qO); (have q702 : a2 < (l1.length : Int) := qO); (obtain ⟨ad702, e702, hx702_0⟩ := Kd.at_int HR1.out a2 p702 q702); (obtain rfl : ad700 = ad702 := (by injection e702)); (replace p702 := eq_true p702); (replace q702 := eq_true q702)
      go_wp2
      repeat (go_quiet (fail); try go_wp2)
      go_ret
      exact qZ
     ·have c12b0 : ((rd l1 x7_1) == (rd l1 a2)) = false := beq_eq_false_iff_ne.mpr c12
      (have c12b1 : ((rd l1 x7_1) != (rd l1 a2)) = true := bne_iff_ne.mpr c12); (have H' := Aside0.mk H); clear H; (have p701 : 0 ≤ (x7_1 : Int) := qO); (have q701 : x7_1 < (l1.length : Int) := qO); (obtain ⟨ad701, e701, hx701_0⟩ := Kd.at_int HR1.out x7_1 p701 q701); (obtain rfl : ad700 = ad701 := (by injection e701)); (replace p701 := eq_true p701); (replace q701 := eq_true q701); (have p702 : 0 ≤ (a2 : Int) := qO); (have q702 : a2 < (l1.length : Int) := qO); (obtain ⟨ad702, e702, hx702_0⟩ := Kd.at_int HR1.out a2 p702 q702); (obtain rfl : ad700 = ad702 := (by injection e702)); (replace p702 := eq_true p702); (replace q702 := eq_true q702)
      go_wp2
      repeat (go_quiet (fail); try go_wp2)
      go_roundg k1
      case measure => have := HK1.out; omega
      case rel => exact ⟨(wrap64 (x7_1 - 1)), qV, H', ⟨by have := HK1.out; omega⟩, by repeat (first | exact Drawn0.refl _ | apply Drawn0.step)⟩
    ·obtain ⟨c13b0, H⟩ := qT H
     (obtain ⟨c14b0, H⟩ := qT H); (obtain rfl := Option.some.inj H); (have p703 : 0 ≤ (a2 : Int) := qO); (have q703 : a2 < (l1.length : Int) := qO); (obtain ⟨ad703, e703, hx703_0⟩ := Kd.at_int HR1.out a2 p703 q703); (obtain rfl : ad700 = ad703 := (by injection e703)); (replace p703 := eq_true p703); (replace q703 := eq_true q703)
     go_wp2
     repeat (go_quiet (fail); try go_wp2)
     go_ret
     exact qZ
def spec_Coords.l0 : Nat → Int → List Int → List Int → Int → Option (List Int × Bool)
 | 0, _, _, _, _ => none
 | k + 1, x0, x1, x6, x7 => if x7 < (x1.length : Int) then ((spec_l15Coord.f k x0 x1 x7).bind fun t708 => (if x6.length < 17592186044416 then (spec_Coords.l0 k x0 x1 (x6 ++ [t708]) (wrap64 (x7 + 1))) else (none))) else (some (x6, true))
def spec_Coords.f (k : Nat) (a0 : Int) (l1 : List Int) : Option (List Int × Bool) := (spec_l15Right.f k a0 l1).bind fun t704 => (if t704 = true then (spec_Coords.l0 k a0 l1 (([] : List Int)) 0) else (some (([] : List Int), false)))
theorem spec_Coords.calls (k : Nat) (a0 : Int) (A1 : Option Addr) (c1 : Nat) (l1 : List Int) (r1 : List Int) (r2 : Bool) (w : World) (hr1 : Kd.C (Kd.int .i64) w A1 l1.length l1) (hc1 : l1.length ≤ c1) (h : spec_Coords.f k a0 l1 = some (r1, r2)) :
  Calls Tryz.prog 79 #[.int .i64 a0, .slice A1 l1.length c1] w fun e w' => ∃ v0_ : Value, e = .returned (.tuple #[v0_, .bool r2]) ∧ Kd.R (Kd.int .i64) 3 w' w.heap.size (fun _ => True) v0_ r1 ∧ Below w.heap.size w w' := by
 (have HR1 := Aside0.mk hr1); (have HC1 := Aside0.mk hc1); clear hr1 hc1; (have HB := Aside0.mk (Below.refl w.heap.size w)); (have H : ((spec_l15Right.f k a0 l1).bind fun t704 => (if t704 = true then (spec_Coords.l0 k a0 l1 (([] : List Int)) 0) else (some (([] : List Int), false)))) = some (r1, r2) := h); clear h; (obtain ⟨t704, A3, H⟩ := qX H)
 try dsimp only at H
 by_cases c4 : t704 = true
 ·subst c4
  (have H1 : (spec_Coords.l0 k a0 l1 (([] : List Int)) 0) = some (r1, r2) := by rw [if_pos rfl] at H; exact H); clear H; (have H := H1); clear H1; (obtain ⟨y705, hy705⟩ : ∃ y_ : List Int, y_ = (([] : List Int)) := ⟨_, rfl⟩); (replace H : (spec_Coords.l0 k a0 l1 y705 0) = some (r1, r2) := qY hy705 H); (have Ny705 := Aside0.mk hy705); clear hy705; (have H' := Aside0.mk H); clear H
  go_enter Tryz.func79, Tryz.ntmps79
  go_wp2_with (first | ((with_reducible refine gate_callee (f := 59) rfl ?_); refine goesL_ (some 10) rfl rfl Tryz.func59 (by kernel_rfl) rfl #[.int .i64 a0, .slice A1 l1.length c1] rfl qL ?_; (with_reducible refine (spec_l15Right.calls k a0 _ _ l1 true _ ?side1 ?side2 A3.out).mono ?_); (case side1 => exact qW HR1.out); (case side2 => exact HC1.out); rintro e w' ⟨rfl, ⟨nd, rfl⟩⟩; refine ⟨_, rfl, ?_⟩) | ((with_reducible refine gate_dst (N := 12) rfl ?_); refine Kd.R_lit (Kd.int .i64) _ 3 ?hg (N := 12) ?hd (xs := ([] : List Int)) (inner := []) (ok := fun _ => True) (okp := fun _ => True) ?hr ?hp (fun _ hk => hk) trivial (Below.refl _ _) (Nat.le_refl _) (by simp) ?_; (case hd => rfl); (case hg => rfl); (case hr => first | (go_simp; done) | (go_simp; rfl)); (case hp => exact (Reps.none _ _)); intro v706 w5 ho6 hb hg_ hnew_; clear hg_ hnew_; (first | rw [← Ny705.out] at ho6 | (simp only [Int.reduceToNat] at ho6; rw [← Ny705.out] at ho6)); have HO707 := Aside0.mk (Kd.R_lower ho6 (below_size (qS0 HB))); replace HB := Aside0.mk (below_step (qS0 HB) hb); clear hb ho6))
  go_loopg [6, 7] k (fun kq v6 v7 w' => ∃ (x6_1 : List Int) (x7_1 : Int), v7 = .int .i64 x7_1 ∧ Aside0 (spec_Coords.l0 kq a0 l1 x6_1 x7_1 = some (r1, r2)) ∧ Aside0 (kq ≤ k) ∧ Aside0 (Kd.R (Kd.int .i64) 3 w' w.heap.size (fun _ => True) v6 x6_1) ∧ Aside0 (Below w.heap.size w w'))
  case atStart => exact ⟨(y705), (0), qV, H', ⟨Nat.le_refl _⟩, ⟨qR HO707⟩, ⟨qS0 HB⟩⟩
  case round =>
   clear H'; (try clear c4); (obtain ⟨x6_1, x7_1, rfl, HA, HK1, HO_6, HB⟩ := hrel)
   cases gk with
   | zero => exact absurd HA.out (by simp [spec_Coords.l0])
   | succ k1 =>
    (have H := HA.out); clear HA; (simp only [spec_Coords.l0] at H)
    rcases qI H with ⟨c7b0, H⟩ | ⟨c7b0, H⟩
    ·obtain ⟨t708, A8, H⟩ := qX H
     try dsimp only at H
     (obtain ⟨c9, H⟩ := qU H); (have LMc9 := Aside0.mk c9); clear c9; (obtain ⟨y709, hy709⟩ : ∃ y_ : List Int, y_ = (x6_1 ++ [t708]) := ⟨_, rfl⟩); (replace H : (spec_Coords.l0 k1 a0 l1 y709 (wrap64 (x7_1 + 1))) = some (r1, r2) := qY hy709 H); (have Ny709 := Aside0.mk hy709); clear hy709; (have H' := Aside0.mk H); clear H
     go_wp2_with (first | ((with_reducible refine gate_callee (f := 115) rfl ?_); refine goesL_ (some 23) rfl rfl Tryz.func115 (by kernel_rfl) rfl #[.int .i64 a0, .slice A1 l1.length c1, .int .i64 x7_1] rfl qL ?_; (with_reducible refine (spec_l15Coord.calls k1 a0 _ _ l1 x7_1 t708 _ ?side1 ?side2 A8.out).mono ?_); (case side1 => exact qW (Kd.C_below HR1.out HB.out)); (case side2 => exact HC1.out); rintro e w' ⟨rfl, ⟨nd, rfl⟩⟩; refine ⟨_, rfl, ?_⟩) | ((with_reducible refine gate_builtin (b := .append) (xs := #[.tmp 19, .tmp 24]) rfl ?_); at_builtin; refine Kd.R_append (Kd.int .i64) (w0 := w) w.heap.size rfl (.tmp 19) (.tmp 24) 25 3 (.int .i64 0) 8 rfl Tryz.underlying25 info3 rfl (by decide) (by omega) u6 x6_1 t708 [.int .i64 t708] (fun _ => True) (fun _ => False) rfl rfl ?aP (fun _ hk => hk.elim) ?aF ?aO ?aB ?aS ?aL ?_; (case aP => exact rfl); (case aB => exact (qS0 HB)); (case aF => exact (fun _ _ => trivial)); (case aO => exact (qR HO_6)); (case aS => exact (below_size (qS0 HB))); (case aL => have := LMc9.out; omega); intro v710 w10 ho hb hg hat; rw [← Ny709.out] at ho; replace HB := Aside0.mk (hb); have HO711 := Aside0.mk (ho); clear HO_6; clear ho hb hg hat))
     go_roundg k1
     case measure => have := HK1.out; omega
     case rel => exact ⟨(y709), (wrap64 (x7_1 + 1)), qV, H', ⟨by have := HK1.out; omega⟩, ⟨qR HO711⟩, ⟨qS0 HB⟩⟩
    ·simp only [Option.some.injEq, Prod.mk.injEq] at H
     obtain ⟨rfl, rfl⟩ := H
     go_wp2
     go_ret2
     exact ⟨_, qE, qR HO_6, qS0 HB⟩
 ·replace c4 := Bool.eq_false_iff.mpr c4
  (subst c4); (have H1 : (some (([] : List Int), false)) = some (r1, r2) := by rw [if_neg (show ¬ (false = true) by decide)] at H; exact H); clear H; (have H := H1); clear H1; (simp only [Option.some.injEq, Prod.mk.injEq] at H); (obtain ⟨rfl, rfl⟩ := H)
  go_enter Tryz.func79, Tryz.ntmps79
  go_wp2_with (first | ((with_reducible refine gate_callee (f := 59) rfl ?_); refine goesL_ (some 10) rfl rfl Tryz.func59 (by kernel_rfl) rfl #[.int .i64 a0, .slice A1 l1.length c1] rfl qL ?_; (with_reducible refine (spec_l15Right.calls k a0 _ _ l1 false _ ?side1 ?side2 A3.out).mono ?_); (case side1 => exact qW HR1.out); (case side2 => exact HC1.out); rintro e w' ⟨rfl, ⟨nd, rfl⟩⟩; refine ⟨_, rfl, ?_⟩))
  go_ret2
  exact ⟨_, qE, by first | exact Kd.R_nil _ _ _ _ _ | exact Kd.N_nil _ _ _ _ _ | exact Kd.V_nil _ _ _ _ _ | exact Kd.Q_nil _ _ _ _ _ | exact Kd.S_nil _ _ _ _ _, qS0 HB⟩
mutual
def spec_l15Rest.l0 : Nat → Int → List Int → List Int → Int → Option (List Int)
 | 0, _, _, _, _ => none
 | k + 1, x0, x1, x5, x6 => if x6 < x0 then (spec_l15Rest.l1 k x0 x1 x5 x6 false 0) else (some x5)
def spec_l15Rest.l1 : Nat → Int → List Int → List Int → Int → Bool → Int → Option (List Int)
 | 0, _, _, _, _, _, _ => none
 | k + 1, x0, x1, x5, x6, x7, x8 => if x8 < (x1.length : Int) then (if x7 = true then (spec_l15Rest.l1 k x0 x1 x5 x6 true (wrap64 (x8 + 1))) else (if 0 ≤ x8 then (spec_l15Rest.l1 k x0 x1 x5 x6 ((rd x1 x8) == x6) (wrap64 (x8 + 1))) else (none))) else (if x7 = true then (spec_l15Rest.l0 k x0 x1 x5 (wrap64 (x6 + 1))) else (if x5.length < 17592186044416 then (spec_l15Rest.l0 k x0 x1 (x5 ++ [x6]) (wrap64 (x6 + 1))) else (none)))
end
def spec_l15Rest.f (k : Nat) (a0 : Int) (l1 : List Int) : Option (List Int) := spec_l15Rest.l0 k a0 l1 (([] : List Int)) 0
theorem spec_l15Rest.calls (k : Nat) (a0 : Int) (A1 : Option Addr) (c1 : Nat) (l1 : List Int) (r : List Int) (w : World) (hr1 : Kd.C (Kd.int .i64) w A1 l1.length l1) (hc1 : l1.length ≤ c1) (h : spec_l15Rest.f k a0 l1 = some r) :
  Calls Tryz.prog 80 #[.int .i64 a0, .slice A1 l1.length c1] w fun e w' => ∃ v0_ : Value, e = .returned (v0_) ∧ Kd.R (Kd.int .i64) 3 w' w.heap.size (fun _ => True) v0_ r ∧ Below w.heap.size w w' := by
 (have HR1 := Aside0.mk hr1); (have HC1 := Aside0.mk hc1); clear hr1 hc1; (have HB := Aside0.mk (Below.refl w.heap.size w)); (have H : (spec_l15Rest.l0 k a0 l1 (([] : List Int)) 0) = some r := h); clear h; (obtain ⟨y712, hy712⟩ : ∃ y_ : List Int, y_ = (([] : List Int)) := ⟨_, rfl⟩); (replace H : (spec_l15Rest.l0 k a0 l1 y712 0) = some r := qY hy712 H); (have Ny712 := Aside0.mk hy712); clear hy712; (have H' := Aside0.mk H); clear H
 go_enter Tryz.func80, Tryz.ntmps80
 go_wp2_with (first | ((with_reducible refine gate_dst (N := 9) rfl ?_); refine Kd.R_lit (Kd.int .i64) _ 3 ?hg (N := 9) ?hd (xs := ([] : List Int)) (inner := []) (ok := fun _ => True) (okp := fun _ => True) ?hr ?hp (fun _ hk => hk) trivial (Below.refl _ _) (Nat.le_refl _) (by simp) ?_; (case hd => rfl); (case hg => rfl); (case hr => first | (go_simp; done) | (go_simp; rfl)); (case hp => exact (Reps.none _ _)); intro v713 w3 ho4 hb hg_ hnew_; clear hg_ hnew_; (first | rw [← Ny712.out] at ho4 | (simp only [Int.reduceToNat] at ho4; rw [← Ny712.out] at ho4)); have HO714 := Aside0.mk (Kd.R_lower ho4 (below_size (qS0 HB))); replace HB := Aside0.mk (below_step (qS0 HB) hb); clear hb ho4))
 go_loopg [5, 6] k (fun kq v5 v6 w' => ∃ (x5_1 : List Int) (x6_1 : Int), v6 = .int .i64 x6_1 ∧ Aside0 (spec_l15Rest.l0 kq a0 l1 x5_1 x6_1 = some r) ∧ Aside0 (kq ≤ k) ∧ Aside0 (Kd.R (Kd.int .i64) 3 w' w.heap.size (fun _ => True) v5 x5_1) ∧ Aside0 (Below w.heap.size w w'))
 case atStart => exact ⟨(y712), (0), qV, H', ⟨Nat.le_refl _⟩, ⟨qR HO714⟩, ⟨qS0 HB⟩⟩
 case round =>
  clear H'; (obtain ⟨x5_1, x6_1, rfl, HA, HK1, HO_5, HB⟩ := hrel)
  cases gk with
  | zero => exact absurd HA.out (by simp [spec_l15Rest.l0])
  | succ k1 =>
   (have H := HA.out); clear HA; (simp only [spec_l15Rest.l0] at H)
   rcases qI H with ⟨c5b0, H⟩ | ⟨c5b0, H⟩
   ·have H' := Aside0.mk H
    clear H
    go_wp2
    go_loopg [7, 8] k1 (fun kq v7 v8 w' => ∃ (x7_2 : Bool) (x8_2 : Int), v7 = .bool x7_2 ∧ v8 = .int .i64 x8_2 ∧ Aside0 (spec_l15Rest.l1 kq a0 l1 x5_1 x6_1 x7_2 x8_2 = some r) ∧ Aside0 (kq ≤ k1) ∧ Aside0 (Kd.R (Kd.int .i64) 3 w' w.heap.size (fun _ => True) u5 x5_1) ∧ Aside0 (Below w.heap.size w w'))
    case atStart => exact ⟨(false), (0), qV, qV, H', ⟨Nat.le_refl _⟩, ⟨qR HO_5⟩, ⟨qS0 HB⟩⟩
    case round =>
     clear H'; (try clear c5b0); (obtain ⟨x7_2, x8_2, rfl, rfl, HA, HK2, HO_5, HB⟩ := hrel)
     cases gk with
     | zero => exact absurd HA.out (by simp [spec_l15Rest.l1])
     | succ k2 =>
      (have H := HA.out); clear HA; (simp only [spec_l15Rest.l1] at H)
      rcases qI H with ⟨c6b0, H⟩ | ⟨c6b0, H⟩
      ·by_cases c7 : x7_2 = true
       ·subst c7
        (have H1 : (spec_l15Rest.l1 k2 a0 l1 x5_1 x6_1 true (wrap64 (x8_2 + 1))) = some r := by rw [if_pos rfl] at H; exact H); clear H; (have H := H1); clear H1; (have H' := Aside0.mk H); clear H
        go_wp2
        go_roundg k2
        case measure => have := HK1.out; have := HK2.out; omega
        case rel => exact ⟨(true), (wrap64 (x8_2 + 1)), qV, qV, H', ⟨by have := HK1.out; have := HK2.out; omega⟩, ⟨qR HO_5⟩, ⟨qS0 HB⟩⟩
       ·replace c7 := Bool.eq_false_iff.mpr c7
        (subst c7); (have H1 : (if 0 ≤ x8_2 then (spec_l15Rest.l1 k2 a0 l1 x5_1 x6_1 ((rd l1 x8_2) == x6_1) (wrap64 (x8_2 + 1))) else (none)) = some r := by rw [if_neg (show ¬ (false = true) by decide)] at H; exact H); clear H; (have H := H1); clear H1; (obtain ⟨c8b0, H⟩ := qT H); (have H' := Aside0.mk H); clear H; (have p715 : 0 ≤ (x8_2 : Int) := qO); (have q715 : x8_2 < (l1.length : Int) := qO); (obtain ⟨ad715, e715, hx715_0⟩ := Kd.at_int HR1.out x8_2 p715 q715)
        cases e715
        (replace hx715_0 := qF HB hx715_0); (replace p715 := eq_true p715); (replace q715 := eq_true q715)
        go_wp2
        go_roundg k2
        case measure => have := HK1.out; have := HK2.out; omega
        case rel => exact ⟨(((rd l1 x8_2) == x6_1)), (wrap64 (x8_2 + 1)), qV, qV, H', ⟨by have := HK1.out; have := HK2.out; omega⟩, ⟨qR HO_5⟩, ⟨qS0 HB⟩⟩
      ·by_cases c9 : x7_2 = true
       ·subst c9
        (have H1 : (spec_l15Rest.l0 k2 a0 l1 x5_1 (wrap64 (x6_1 + 1))) = some r := by rw [if_pos rfl] at H; exact H); clear H; (have H := H1); clear H1; (have H' := Aside0.mk H); clear H
        go_wp2
        go_roundg k2
        case measure => have := HK1.out; have := HK2.out; omega
        case rel => exact ⟨(x5_1), (wrap64 (x6_1 + 1)), qV, H', ⟨by have := HK1.out; have := HK2.out; omega⟩, ⟨qR HO_5⟩, ⟨qS0 HB⟩⟩
       ·replace c9 := Bool.eq_false_iff.mpr c9
        (subst c9); (have H1 : (if x5_1.length < 17592186044416 then (spec_l15Rest.l0 k2 a0 l1 (x5_1 ++ [x6_1]) (wrap64 (x6_1 + 1))) else (none)) = some r := by rw [if_neg (show ¬ (false = true) by decide)] at H; exact H); clear H; (have H := H1); clear H1; (obtain ⟨c10, H⟩ := qU H); (have LMc10 := Aside0.mk c10); clear c10; (obtain ⟨y716, hy716⟩ : ∃ y_ : List Int, y_ = (x5_1 ++ [x6_1]) := ⟨_, rfl⟩); (replace H : (spec_l15Rest.l0 k2 a0 l1 y716 (wrap64 (x6_1 + 1))) = some r := qY hy716 H); (have Ny716 := Aside0.mk hy716); clear hy716; (have H' := Aside0.mk H); clear H
        go_wp2_with (first | ((with_reducible refine gate_builtin (b := .append) (xs := #[.tmp 32, .tmp 34]) rfl ?_); at_builtin; refine Kd.R_append (Kd.int .i64) (w0 := w) w.heap.size rfl (.tmp 32) (.tmp 34) 25 3 (.int .i64 0) 8 rfl Tryz.underlying25 info3 rfl (by decide) (by omega) u5 x5_1 x6_1 [.int .i64 x6_1] (fun _ => True) (fun _ => False) rfl rfl ?aP (fun _ hk => hk.elim) ?aF ?aO ?aB ?aS ?aL ?_; (case aP => exact rfl); (case aB => exact (qS0 HB)); (case aF => exact (fun _ _ => trivial)); (case aO => exact (qR HO_5)); (case aS => exact (below_size (qS0 HB))); (case aL => have := LMc10.out; omega); intro v717 w11 ho hb hg hat; rw [← Ny716.out] at ho; replace HB := Aside0.mk (hb); have HO718 := Aside0.mk (ho); clear HO_5; clear ho hb hg hat))
        go_roundg k2
        case measure => have := HK1.out; have := HK2.out; omega
        case rel => exact ⟨(y716), (wrap64 (x6_1 + 1)), qV, H', ⟨by have := HK1.out; have := HK2.out; omega⟩, ⟨qR HO718⟩, ⟨qS0 HB⟩⟩
   ·obtain rfl := Option.some.inj H
    go_wp2
    go_ret
    exact ⟨_, qE, qR HO_5, qS0 HB⟩
mutual
def spec_PairDraws.j0 : Nat → List Int → List Int → List Int → Bool → Option (List Int × Bool)
 | 0, _, _, _, _ => none
 | k + 1, x3, x10, x12, x50 => if x50 = true then (some (([] : List Int), false)) else (if 0 ≤ (x3.length : Int) then (if ((x3.length : Int) : Int).toNat ≤ 35184372088832 then (spec_PairDraws.l0 k x3 x10 x12 (List.replicate ((x3.length : Int) : Int).toNat 0) 0) else (none)) else (none))
def spec_PairDraws.l0 : Nat → List Int → List Int → List Int → List Int → Int → Option (List Int × Bool)
 | 0, _, _, _, _, _ => none
 | k + 1, x3, x10, x12, x14, x15 => if x15 < (x10.length : Int) then (if 0 ≤ x15 then (if x15 < (x12.length : Int) then (if 0 ≤ (rd x10 x15) then (if (rd x10 x15) < (x3.length : Int) then (if 0 ≤ (rd x12 x15) then (if (rd x12 x15) < (x14.length : Int) then (spec_PairDraws.l0 k x3 x10 x12 (x14.set ((rd x12 x15) : Int).toNat (rd x3 (rd x10 x15))) (wrap64 (x15 + 1))) else (none)) else (none)) else (none)) else (none)) else (none)) else (none)) else ((spec_l15Rest.f k (x3.length : Int) x10).bind fun t735 => ((spec_l15Rest.f k (x3.length : Int) x12).bind fun t738 => (spec_PairDraws.l1 k x3 x14 t735 t738 0)))
def spec_PairDraws.l1 : Nat → List Int → List Int → List Int → List Int → Int → Option (List Int × Bool)
 | 0, _, _, _, _, _ => none
 | k + 1, x3, x14, x16, x17, x18 => if x18 < (x16.length : Int) then (if 0 ≤ x18 then (if x18 < (x17.length : Int) then (if 0 ≤ (rd x16 x18) then (if (rd x16 x18) < (x3.length : Int) then (if 0 ≤ (rd x17 x18) then (if (rd x17 x18) < (x14.length : Int) then (spec_PairDraws.l1 k x3 (x14.set ((rd x17 x18) : Int).toNat (rd x3 (rd x16 x18))) x16 x17 (wrap64 (x18 + 1))) else (none)) else (none)) else (none)) else (none)) else (none)) else (none)) else (some (x14, true))
end
def spec_PairDraws.f (k : Nat) (a0 : Int) (l1 : List Int) (l2 : List Int) (l3 : List Int) : Option (List Int × Bool) := (spec_Coords.f k a0 l1).bind fun bt719 => ((spec_Coords.f k a0 l2).bind fun bt723 => (if bt719.2 = true then (if bt723.2 = true then (if (l1.length : Int) = (l2.length : Int) then ((spec_l15Draws.f k a0 l1 l3).bind fun t727 => (spec_PairDraws.j0 k l3 bt719.1 bt723.1 (!t727))) else (spec_PairDraws.j0 k l3 bt719.1 bt723.1 true)) else (spec_PairDraws.j0 k l3 bt719.1 bt723.1 true)) else (spec_PairDraws.j0 k l3 bt719.1 bt723.1 true)))
def spec_PairDraws.T9 : Bool × List (List Nat × List Nat) := (true, [([], []), ([], []), ([], []), ([1, 2], [1, 2]), ([3], [3]), ([], []), ([], []), ([], []), ([6, 7], [6, 7]), ([8], [8]), ([5, 9], [5, 9]), ([10], [10]), ([0, 4, 0, 1, 2, 3, 4, 5, 6, 7, 8, 9, 10, 11], [0, 4]), ([12, 11, 0, 1, 2, 3, 4, 5, 6, 7, 8, 9, 10, 11], [11, 12])])
def spec_PairDraws.B9 : List Nat := [0, 0, 0, 6, 14, 0, 0, 0, 192, 448, 992, 2016, 4095, 8191]
theorem spec_PairDraws.tab9 : rtab .any (opsOf Tryz.f42 9) = spec_PairDraws.T9 := by kernel_rfl
theorem spec_PairDraws.bits9 : waitsOk spec_PairDraws.T9.2 spec_PairDraws.B9 = true := by kernel_rfl
def spec_PairDraws.T15 : Bool × List (List Nat × List Nat) := (true, [([], []), ([], []), ([], []), ([1, 2], [1, 2]), ([3], [3]), ([], []), ([], []), ([], []), ([6, 7], [6, 7]), ([8], [8]), ([5, 9], [5, 9]), ([10], [10]), ([0, 4, 0, 1, 2, 3, 4, 5, 6, 7, 8, 9, 10, 11], [0, 4]), ([12, 11, 0, 1, 2, 3, 4, 5, 6, 7, 8, 9, 10, 11], [11, 12])])
def spec_PairDraws.B15 : List Nat := [0, 0, 0, 6, 14, 0, 0, 0, 192, 448, 992, 2016, 4095, 8191]
theorem spec_PairDraws.tab15 : rtab .any (opsOf Tryz.f42 15) = spec_PairDraws.T15 := by kernel_rfl
theorem spec_PairDraws.bits15 : waitsOk spec_PairDraws.T15.2 spec_PairDraws.B15 = true := by kernel_rfl
theorem spec_PairDraws.calls (k : Nat) (a0 : Int) (A1 : Option Addr) (c1 : Nat) (l1 : List Int) (A2 : Option Addr) (c2 : Nat) (l2 : List Int) (A3 : Option Addr) (c3 : Nat) (l3 : List Int) (r1 : List Int) (r2 : Bool) (w : World) (hr1 : Kd.C (Kd.int .i64) w A1 l1.length l1) (hc1 : l1.length ≤ c1) (hr2 : Kd.C (Kd.int .i64) w A2 l2.length l2) (hc2 : l2.length ≤ c2) (hr3 : Kd.C (Kd.int .i64) w A3 l3.length l3) (hc3 : l3.length ≤ c3) (h : spec_PairDraws.f k a0 l1 l2 l3 = some (r1, r2)) :
  Calls Tryz.prog 42 #[.int .i64 a0, .slice A1 l1.length c1, .slice A2 l2.length c2, .slice A3 l3.length c3] w fun e w' => ∃ v0_ : Value, e = .returned (.tuple #[v0_, .bool r2]) ∧ Kd.R (Kd.int .i64) 3 w' w.heap.size (fun _ => True) v0_ r1 ∧ Below w.heap.size w w' := by
 (have HR1 := Aside0.mk hr1); (have HC1 := Aside0.mk hc1); clear hr1 hc1; (have HR2 := Aside0.mk hr2); (have HC2 := Aside0.mk hc2); clear hr2 hc2; (have HR3 := Aside0.mk hr3); (have HC3 := Aside0.mk hc3); clear hr3 hc3; (have HB := Aside0.mk (Below.refl w.heap.size w)); (have H : ((spec_Coords.f k a0 l1).bind fun bt719 => ((spec_Coords.f k a0 l2).bind fun bt723 => (if bt719.2 = true then (if bt723.2 = true then (if (l1.length : Int) = (l2.length : Int) then ((spec_l15Draws.f k a0 l1 l3).bind fun t727 => (spec_PairDraws.j0 k l3 bt719.1 bt723.1 (!t727))) else (spec_PairDraws.j0 k l3 bt719.1 bt723.1 true)) else (spec_PairDraws.j0 k l3 bt719.1 bt723.1 true)) else (spec_PairDraws.j0 k l3 bt719.1 bt723.1 true)))) = some (r1, r2) := h); clear h; (obtain ⟨⟨t719, t720⟩, A5, H⟩ := qX H)
 try dsimp only at H
 obtain ⟨⟨t723, t724⟩, A6, H⟩ := qX H
 try dsimp only at H
 (have HC7 := Aside0.mk H); clear H
 go_enter Tryz.func42, Tryz.ntmps42
 go_upto_region 3 with (first | ((with_reducible refine gate_callee (f := 79) rfl ?_); refine goesL_ (some 22) rfl rfl Tryz.func79 (by kernel_rfl) rfl #[.int .i64 a0, .slice A1 l1.length c1] rfl qL ?_; (with_reducible refine (spec_Coords.calls k a0 _ _ l1 t719 t720 _ ?side1 ?side2 A5.out).mono ?_); (case side1 => exact qW HR1.out); (case side2 => exact HC1.out); rintro e w8 ⟨v721, rfl, ho0, hb⟩; refine ⟨_, rfl, ?_⟩; have HO722 := Aside0.mk (Kd.R_lower ho0 (below_size (qS0 HB))); replace HB := Aside0.mk (below_step (qS0 HB) hb); (try clear hb); (try clear hb2); (try clear hk); (try clear hi); (try clear ho0)) | ((with_reducible refine gate_callee (f := 79) rfl ?_); refine goesL_ (some 28) rfl rfl Tryz.func79 (by kernel_rfl) rfl #[.int .i64 a0, .slice A2 l2.length c2] rfl qL ?_; (with_reducible refine (spec_Coords.calls k a0 _ _ l2 t723 t724 _ ?side1 ?side2 A6.out).mono ?_); (case side1 => exact qW (Kd.C_below HR2.out HB.out)); (case side2 => exact HC2.out); rintro e w9 ⟨v725, rfl, ho0, hb⟩; refine ⟨_, rfl, ?_⟩; have HO726 := Aside0.mk (Kd.R_lower (Kd.R_new' ho0 (Kd.R_lt (qR HO722))) (below_size (qS0 HB))); replace HO722 := Aside0.mk (Kd.R_elder' (qR HO722) (Kd.R_base ho0) hb); replace HB := Aside0.mk (below_step (qS0 HB) hb); (try clear hb); (try clear hb2); (try clear hk); (try clear hi); (try clear ho0)))
 (try simp only [Act.put, List.setIfInBounds_toArray, List.set_cons_zero, List.set_cons_succ])
 go_cut [50] (fun v50 wc => ∃ (kq : Nat) (x50_6 : Bool), v50 = .bool x50_6 ∧ Aside0 (spec_PairDraws.j0 kq l3 t719 t723 x50_6 = some (r1, r2)) ∧ Aside0 (kq ≤ k) ∧ Aside0 (Kd.R (Kd.int .i64) 3 wc w.heap.size (fun k_ => some k_ ≠ (v725 : Value).ownBlock) v721 t719) ∧ Aside0 (Kd.R (Kd.int .i64) 3 wc w.heap.size (fun k_ => some k_ ≠ (v721 : Value).ownBlock) v725 t723) ∧ Aside0 (Below w.heap.size w wc))
 case first =>
  (have H := HC7.out); clear HC7
  by_cases c10 : t720 = true
  ·subst c10
   (have H1 : (if t724 = true then (if (l1.length : Int) = (l2.length : Int) then ((spec_l15Draws.f k a0 l1 l3).bind fun t727 => (spec_PairDraws.j0 k l3 t719 t723 (!t727))) else (spec_PairDraws.j0 k l3 t719 t723 true)) else (spec_PairDraws.j0 k l3 t719 t723 true)) = some (r1, r2) := by rw [if_pos rfl] at H; exact H); clear H; (have H := H1); clear H1
   by_cases c11 : t724 = true
   ·subst c11
    (have H1 : (if (l1.length : Int) = (l2.length : Int) then ((spec_l15Draws.f k a0 l1 l3).bind fun t727 => (spec_PairDraws.j0 k l3 t719 t723 (!t727))) else (spec_PairDraws.j0 k l3 t719 t723 true)) = some (r1, r2) := by rw [if_pos rfl] at H; exact H); clear H; (have H := H1); clear H1
    rcases qJ H with ⟨c12, H⟩ | ⟨c12, H⟩
    ·have c12b0 : ((l1.length : Int) == (l2.length : Int)) = true := beq_iff_eq.mpr c12
     (have c12b1 : ((l1.length : Int) != (l2.length : Int)) = false := bne_eq_false_iff_eq.mpr c12); (have c12b2 : (l1.length == l2.length) = true := by first | simpa using c12 | (simp at c12 ⊢; omega)); clear c12
     (first | rw [c12b0] | (simp only [i64_w, i32_w]; rw [c12b0]) | skip)
     (obtain ⟨t727, A13, H⟩ := qX H); (replace H : (spec_PairDraws.j0 k l3 t719 t723 (!t727)) = some (r1, r2) := H); (have H' := Aside0.mk H); clear H
     go_wp2_with (first | (go_at_call 57; (with_reducible refine (spec_l15Draws.calls k a0 _ _ l1 _ _ l3 t727 _ ?side1 ?side2 ?side3 ?side4 A13.out).mono ?_); (case side1 => exact qW (Kd.C_below HR1.out HB.out)); (case side2 => exact HC1.out); (case side3 => exact qW (Kd.C_below HR3.out HB.out)); (case side4 => exact HC3.out); rintro e w' ⟨rfl, ⟨nd, rfl⟩⟩))
     go_meet
     case rel => exact ⟨_, (!t727), qV, H', ⟨by first | omega | exact Nat.le_refl _⟩, ⟨by (with_reducible repeat (first | apply Kd.R_alloc | apply Kd.R_drewN | apply Kd.R_drew)); exact Kd.R_mono HO722.out (fun _ hk => hk.2)⟩, ⟨by (with_reducible repeat (first | apply Kd.R_alloc | apply Kd.R_drewN | apply Kd.R_drew)); exact Kd.R_mono HO726.out (fun _ hk => hk.2)⟩, ⟨qS0 HB⟩⟩
    ·have c12b0 : ((l1.length : Int) == (l2.length : Int)) = false := beq_eq_false_iff_ne.mpr c12
     (have c12b1 : ((l1.length : Int) != (l2.length : Int)) = true := bne_iff_ne.mpr c12); (have c12b2 : (l1.length == l2.length) = false := by first | simpa using c12 | (simp at c12 ⊢; omega))
     (first | rw [c12b0] | (simp only [i64_w, i32_w]; rw [c12b0]) | skip)
     (have H' := Aside0.mk H); clear H
     go_wp2
     go_meet
     case rel => exact ⟨_, (true), qV, H', ⟨by first | omega | exact Nat.le_refl _⟩, ⟨by (with_reducible repeat (first | apply Kd.R_alloc | apply Kd.R_drewN | apply Kd.R_drew)); exact Kd.R_mono HO722.out (fun _ hk => hk.2)⟩, ⟨by (with_reducible repeat (first | apply Kd.R_alloc | apply Kd.R_drewN | apply Kd.R_drew)); exact Kd.R_mono HO726.out (fun _ hk => hk.2)⟩, ⟨qS0 HB⟩⟩
   ·replace c11 := Bool.eq_false_iff.mpr c11
    (subst c11); (have H1 : (spec_PairDraws.j0 k l3 t719 t723 true) = some (r1, r2) := by rw [if_neg (show ¬ (false = true) by decide)] at H; exact H); clear H; (have H := H1); clear H1; (have H' := Aside0.mk H); clear H
    go_wp2
    go_meet
    case rel => exact ⟨_, (true), qV, H', ⟨by first | omega | exact Nat.le_refl _⟩, ⟨by (with_reducible repeat (first | apply Kd.R_alloc | apply Kd.R_drewN | apply Kd.R_drew)); exact Kd.R_mono HO722.out (fun _ hk => hk.2)⟩, ⟨by (with_reducible repeat (first | apply Kd.R_alloc | apply Kd.R_drewN | apply Kd.R_drew)); exact Kd.R_mono HO726.out (fun _ hk => hk.2)⟩, ⟨qS0 HB⟩⟩
  ·replace c10 := Bool.eq_false_iff.mpr c10
   (subst c10); (have H1 : (spec_PairDraws.j0 k l3 t719 t723 true) = some (r1, r2) := by rw [if_neg (show ¬ (false = true) by decide)] at H; exact H); clear H; (have H := H1); clear H1; (have H' := Aside0.mk H); clear H
   go_wp2
   go_meet
   case rel => exact ⟨_, (true), qV, H', ⟨by first | omega | exact Nat.le_refl _⟩, ⟨by (with_reducible repeat (first | apply Kd.R_alloc | apply Kd.R_drewN | apply Kd.R_drew)); exact Kd.R_mono HO722.out (fun _ hk => hk.2)⟩, ⟨by (with_reducible repeat (first | apply Kd.R_alloc | apply Kd.R_drewN | apply Kd.R_drew)); exact Kd.R_mono HO726.out (fun _ hk => hk.2)⟩, ⟨qS0 HB⟩⟩
 case rest =>
  clear HC7; (try clear c10); (try clear c11); (try clear c12b0); (try clear c12b1); (try clear c12b2); (obtain ⟨kq, x50_6, rfl, HA, HJ6, HO_10, HO_12, HB⟩ := hcut)
  cases kq with
  | zero => exact absurd HA.out (by simp [spec_PairDraws.j0])
  | succ kj6 =>
   (have H := HA.out); clear HA; (simp only [spec_PairDraws.j0] at H)
   by_cases c14 : x50_6 = true
   ·subst c14
    (have H1 : (some (([] : List Int), false)) = some (r1, r2) := by rw [if_pos rfl] at H; exact H); clear H; (have H := H1); clear H1; (simp only [Option.some.injEq, Prod.mk.injEq] at H); (obtain ⟨rfl, rfl⟩ := H)
    go_wp2
    go_ret2
    exact ⟨_, qE, by first | exact Kd.R_nil _ _ _ _ _ | exact Kd.N_nil _ _ _ _ _ | exact Kd.V_nil _ _ _ _ _ | exact Kd.Q_nil _ _ _ _ _ | exact Kd.S_nil _ _ _ _ _, qS0 HB⟩
   ·replace c14 := Bool.eq_false_iff.mpr c14
    (subst c14); (have H1 : (if 0 ≤ (l3.length : Int) then (if ((l3.length : Int) : Int).toNat ≤ 35184372088832 then (spec_PairDraws.l0 kj6 l3 t719 t723 (List.replicate ((l3.length : Int) : Int).toNat 0) 0) else (none)) else (none)) = some (r1, r2) := by rw [if_neg (show ¬ (false = true) by decide)] at H; exact H); clear H; (have H := H1); clear H1; (obtain ⟨c15b0, c15b1, H⟩ := qT2 H); (obtain ⟨c16b0, c16b1, H⟩ := qT2 H); (obtain ⟨y728, hy728⟩ : ∃ y_ : List Int, y_ = (List.replicate ((l3.length : Int) : Int).toNat 0) := ⟨_, rfl⟩); (replace H : (spec_PairDraws.l0 kj6 l3 t719 t723 y728 0) = some (r1, r2) := qY hy728 H); (have Ny728 := Aside0.mk hy728); clear hy728; (have H' := Aside0.mk H); clear H
    go_wp2_with (first | ((with_reducible refine gate_dst (N := 53) rfl ?_); (try (refine gate_guard (by rfl) ?_; dsimp only)); refine Kd.R_make (Kd.int .i64) _ 3 rfl (N := 53) rfl 25 _ _ rfl (l3.length : Int) rfl rfl Tryz.underlying25 (.int .i64 0) 8 info3 rfl (by decide) (by omega) 0 (ok := fun _ => True) (okp := fun _ => True) rfl (fun _ hk => hk) trivial (qO) (Nat.le_trans (Nat.mul_le_mul_right _ (qO : (l3.length : Int).toNat ≤ 35184372088832)) (by omega)) (Below.refl _ _) (Nat.le_refl _) ?_; intro v729 w17 ho18 hb hg_ hnew_; clear hg_ hnew_; (first | rw [← Ny728.out] at ho18 | (simp only [Int.reduceToNat] at ho18; rw [← Ny728.out] at ho18)); have HO730 := Aside0.mk (Kd.R_lower (Kd.R_new' (Kd.R_new' ho18 (Kd.R_lt (qR HO_10))) (Kd.R_lt (qR HO_12))) (below_size (qS0 HB))); replace HO_10 := Aside0.mk (Kd.R_elder' (qR HO_10) (Kd.R_base ho18) hb); replace HO_12 := Aside0.mk (Kd.R_elder' (qR HO_12) (Kd.R_base ho18) hb); replace HB := Aside0.mk (below_step (qS0 HB) hb); clear hb ho18))
    go_loopg [15] kj6 (fun kq v15 w' => ∃ (x14_2 : List Int) (x15_2 : Int), v15 = .int .i64 x15_2 ∧ Aside0 (spec_PairDraws.l0 kq l3 t719 t723 x14_2 x15_2 = some (r1, r2)) ∧ Aside0 (kq ≤ kj6) ∧ Aside0 (Kd.R (Kd.int .i64) 3 w' w.heap.size (fun k_ => some k_ ≠ (v725 : Value).ownBlock ∧ some k_ ≠ (v729 : Value).ownBlock) v721 t719) ∧ Aside0 (Kd.R (Kd.int .i64) 3 w' w.heap.size (fun k_ => some k_ ≠ (v721 : Value).ownBlock ∧ some k_ ≠ (v729 : Value).ownBlock) v725 t723) ∧ Aside0 (Kd.R (Kd.int .i64) 3 w' w.heap.size (fun k_ => some k_ ≠ (v721 : Value).ownBlock ∧ some k_ ≠ (v725 : Value).ownBlock) v729 x14_2) ∧ Aside0 (Below w.heap.size w w'))
    case atStart => exact ⟨(y728), (0), qV, H', ⟨Nat.le_refl _⟩, ⟨qR HO_10⟩, ⟨qR HO_12⟩, ⟨by (with_reducible repeat (first | apply Kd.R_alloc | apply Kd.R_drewN | apply Kd.R_drew)); exact Kd.R_mono HO730.out (fun _ hk => ⟨hk.1.2, hk.2⟩)⟩, ⟨qS0 HB⟩⟩
    case round =>
     clear H'; (try clear c14); (try clear c15b0); (try clear c15b1); (try clear c16b0); (try clear c16b1); (obtain ⟨x14_2, x15_2, rfl, HA, HK2, HO_10, HO_12, HO_14, HB⟩ := hrel)
     cases gk with
     | zero => exact absurd HA.out (by simp [spec_PairDraws.l0])
     | succ k2 =>
      (have H := HA.out); clear HA; (simp only [spec_PairDraws.l0] at H)
      rcases qI H with ⟨c19b0, H⟩ | ⟨c19b0, H⟩
      ·obtain ⟨c20b0, H⟩ := qT H
       (obtain ⟨c21b0, H⟩ := qT H); (obtain ⟨c22b0, H⟩ := qT H); (obtain ⟨c23b0, H⟩ := qT H); (obtain ⟨c24b0, H⟩ := qT H); (obtain ⟨c25b0, H⟩ := qT H); (obtain ⟨y734, hy734⟩ : ∃ y_ : List Int, y_ = (x14_2.set ((rd t723 x15_2) : Int).toNat (rd l3 (rd t719 x15_2))) := ⟨_, rfl⟩); (replace H : (spec_PairDraws.l0 k2 l3 t719 t723 y734 (wrap64 (x15_2 + 1))) = some (r1, r2) := qY hy734 H); (have Ny734 := Aside0.mk hy734); clear hy734; (have H' := Aside0.mk H); clear H; (obtain ⟨Ao27, co27, eo27⟩ := Kd.R_slice HO_10.out); (subst eo27)
       try go_wp2
       (replace HO_10 := Aside0.mk (Kd.R_drew HO_10.out)); (replace HO_12 := Aside0.mk (Kd.R_drew HO_12.out)); (replace HO_14 := Aside0.mk (Kd.R_drew HO_14.out)); (replace HB := Aside0.mk (below_drew1 HB.out)); (obtain ⟨Ao29, co29, eo29⟩ := Kd.R_slice HO_12.out)
       (first | subst eo29 | (injection eo29 with f1_ f2_ f3_; have f4_ := f1_.symm; have f5_ := f3_.symm; clear f1_ f2_ f3_; subst f4_; subst f5_))
       (have p731 : 0 ≤ (x15_2 : Int) := qO); (have q731 : x15_2 < (t723.length : Int) := qO); (obtain ⟨ad731, e731, hx731_0⟩ := Kd.at_int (Kd.R_reads' HO_12.out).2.2 x15_2 p731 q731)
       cases e731
       (replace p731 := eq_true p731); (replace q731 := eq_true q731); (have p732 : 0 ≤ (x15_2 : Int) := qO); (have q732 : x15_2 < (t719.length : Int) := qO); (obtain ⟨ad732, e732, hx732_0⟩ := Kd.at_int (Kd.R_reads' HO_10.out).2.2 x15_2 p732 q732)
       cases e732
       (replace p732 := eq_true p732); (replace q732 := eq_true q732); (have p733 : 0 ≤ ((rd t719 x15_2) : Int) := qO); (have q733 : (rd t719 x15_2) < (l3.length : Int) := qO); (obtain ⟨ad733, e733, hx733_0⟩ := Kd.at_int HR3.out (rd t719 x15_2) p733 q733); (have hw733_0 := hx733_0)
       cases e733
       (replace hx733_0 := qF HB hx733_0); (replace p733 := eq_true p733); (replace q733 := eq_true q733); (have p26 : 0 ≤ ((rd t723 x15_2) : Int) := qO); (have q26 : ((rd t723 x15_2) : Int) < ((x14_2.length : Int) : Int) := qO); (obtain ⟨go26, co26, eo26, gb26, gl26, cl26, HG26⟩ := Kd.R_form HO_14.out (by omega))
       (first | cases eo26 | (injection eo26 with ea_ en_ ec_; (first | subst ea_ | (injection ea_ with ea_; subst ea_)); subst ec_; clear en_))
       (have GB26 := Aside0.mk gb26); (have GG26 := Aside0.mk HG26); clear gb26 gl26 HG26; (obtain ⟨hx26_0, hf26_0⟩ := Kd.R_celln 0 HO_14.out ((rd t723 x15_2) : Int) p26 q26); (replace p26 := eq_true p26); (replace q26 := eq_true q26); (have HP30 := Kd.R_putn HO_14.out ((rd t723 x15_2) : Int) (rd l3 (rd t719 x15_2))); (rw [← Ny734.out] at HP30); (have HQ30 := Aside0.mk HP30); clear HP30
       refine start_ (n := 14) (S := fun w' => w'.cell? (ad731.add (x15_2).toNat) = some (.int .i64 (rd t723 x15_2)) ∧ w'.cell? (ad732.add (x15_2).toNat) = some (.int .i64 (rd t719 x15_2)) ∧ w'.cell? (ad733.add ((rd t719 x15_2)).toNat) = some (.int .i64 (rd l3 (rd t719 x15_2)))) (ds := [13]) #[false, false, false, false, false, false, false, false, false, false, false, false, false, false] (by kernel_rfl) rfl rfl ⟨hx731_0, hx732_0, (qF HB hw733_0)⟩ (fun hHeld => ?_); refine with_tabW spec_PairDraws.tab9 spec_PairDraws.bits9 (fun HT_ HW_ => ?_)
       generalize wr.drew = w28 at HO_10 HO_12 HO_14 HB GG26 HQ30 hf26_0 hx26_0 hx731_0 hx732_0 hx733_0 hHeld ⊢
       refine pure_ (i := 0) (N := some 60) (v := ?_) (a' := ?_) #[true, false, false, false, false, false, false, false, false, false, false, false, false, false] rfl rfl (any_of HT_.out (by kernel_rfl)) (fun _ _ _ h => h) (Or.inl ⟨by rfl, ?_⟩) ?_ ?_
       rotate_left
       ·intro w'
        go_simp
        with_reducible rfl
       rotate_left
       ·exact qPu
       refine pure_ (i := 1) (N := some 61) (v := ?_) (a' := ?_) #[true, true, false, false, false, false, false, false, false, false, false, false, false, false] rfl rfl (any_of HT_.out (by kernel_rfl)) (fun _ _ _ h => h) (Or.inl ⟨by rfl, ?_⟩) ?_ ?_
       rotate_left
       ·intro w'
        go_simp
        with_reducible rfl
       rotate_left
       ·exact qPu
       refine pure_ (i := 2) (N := some 62) (v := ?_) (a' := ?_) #[true, true, true, false, false, false, false, false, false, false, false, false, false, false] rfl rfl (any_of HT_.out (by kernel_rfl)) (fun _ _ _ h => h) (Or.inl ⟨by rfl, ?_⟩) ?_ ?_
       rotate_left
       ·intro w'
        go_simp
        with_reducible rfl
       rotate_left
       ·exact qPu
       refine pure_ (i := 3) (N := some 63) (v := ?_) (a' := ?_) #[true, true, true, true, false, false, false, false, false, false, false, false, false, false] rfl rfl (any_of HT_.out (by kernel_rfl)) (fun _ _ _ h => h) (Or.inl ⟨by rfl, ?_⟩) ?_ ?_
       rotate_left
       ·intro w'
        go_simp
        with_reducible rfl
       rotate_left
       ·exact qPu
       refine pure_ (i := 5) (N := some 65) (v := ?_) (a' := ?_) #[true, true, true, true, false, true, false, false, false, false, false, false, false, false] rfl rfl (any_of HT_.out (by kernel_rfl)) (fun _ _ _ h => h) (Or.inl ⟨by rfl, ?_⟩) ?_ ?_
       rotate_left
       ·intro w'
        go_simp
        with_reducible rfl
       rotate_left
       ·exact qPu
       refine pure_ (i := 6) (N := some 66) (v := ?_) (a' := ?_) #[true, true, true, true, false, true, true, false, false, false, false, false, false, false] rfl rfl (any_of HT_.out (by kernel_rfl)) (fun _ _ _ h => h) (Or.inl ⟨by rfl, ?_⟩) ?_ ?_
       rotate_left
       ·intro w'
        go_simp
        with_reducible rfl
       rotate_left
       ·exact qPu
       refine pure_ (i := 7) (N := some 67) (v := ?_) (a' := ?_) #[true, true, true, true, false, true, true, true, false, false, false, false, false, false] rfl rfl (any_of HT_.out (by kernel_rfl)) (fun _ _ _ h => h) (Or.inl ⟨by rfl, ?_⟩) ?_ ?_
       rotate_left
       ·intro w'
        go_simp
        with_reducible rfl
       rotate_left
       ·exact qPu
       refine pure_ (i := 8) (N := some 68) (v := ?_) (a' := ?_) #[true, true, true, true, false, true, true, true, true, false, false, false, false, false] rfl rfl (any_of HT_.out (by kernel_rfl)) (fun _ _ _ h => h) (Or.inl ⟨by rfl, ?_⟩) ?_ ?_
       rotate_left
       ·intro w'
        go_simp
        with_reducible rfl
       rotate_left
       ·exact qPu
       refine take_ (i := 4) (N := some 64) (v := ?_) (a' := ?_) #[true, true, true, true, true, true, true, true, true, false, false, false, false, false] rfl rfl (take_ofW HT_.out HW_.out (by kernel_rfl)) (fun _ _ _ h => h) (Or.inl ⟨by rfl, ?_⟩) hHeld ?_ ?_
       rotate_left
       ·rintro w' ⟨s0, s1, s2⟩
        go_simp
        with_reducible rfl
       rotate_left
       ·exact qPu
       refine take_ (i := 9) (N := some 69) (v := ?_) (a' := ?_) #[true, true, true, true, true, true, true, true, true, true, false, false, false, false] rfl rfl (take_ofW HT_.out HW_.out (by kernel_rfl)) (fun _ _ _ h => h) (Or.inl ⟨by rfl, ?_⟩) hHeld ?_ ?_
       rotate_left
       ·rintro w' ⟨s0, s1, s2⟩
        go_simp
        with_reducible rfl
       rotate_left
       ·exact qPu
       refine pure_ (i := 10) (N := some 70) (v := ?_) (a' := ?_) #[true, true, true, true, true, true, true, true, true, true, true, false, false, false] rfl rfl (any_of HT_.out (by kernel_rfl)) (fun _ _ _ h => h) (Or.inl ⟨by rfl, ?_⟩) ?_ ?_
       rotate_left
       ·intro w'
        go_simp
        with_reducible rfl
       rotate_left
       ·exact qPu
       refine take_ (i := 11) (N := some 71) (v := ?_) (a' := ?_) #[true, true, true, true, true, true, true, true, true, true, true, true, false, false] rfl rfl (take_ofW HT_.out HW_.out (by kernel_rfl)) (fun _ _ _ h => h) (Or.inl ⟨by rfl, ?_⟩) hHeld ?_ ?_
       rotate_left
       ·rintro w' ⟨s0, s1, s2⟩
        go_simp
        with_reducible rfl
       rotate_left
       ·exact qPu
       refine pure_ (i := 12) (N := some 72) (v := ?_) (a' := ?_) #[true, true, true, true, true, true, true, true, true, true, true, true, true, false] rfl rfl (any_of HT_.out (by kernel_rfl)) (fun _ _ _ h => h) (Or.inl ⟨by rfl, ?_⟩) ?_ ?_
       rotate_left
       ·intro w'
        go_simp
        with_reducible rfl
       rotate_left
       ·exact qPu
       refine last_ (i := 13) (N := none) #[true, true, true, true, true, true, true, true, true, true, true, true, true, true] rfl rfl (one_of HT_.out (by kernel_rfl)) (by decide) (fun K hK => ?_)
       refine skip_ (w1 := ?_) (by rfl) rfl ?_ ?_
       rotate_left
       ·go_simp
        rfl
       refine hK.out _ _ ?_
       clear hK K
       refine done_ (done_of HT_.out (by kernel_rfl)) ?_
       try go_wp2
       go_roundg k2
       case measure => have := HJ6.out; have := HK2.out; omega
       case rel => exact ⟨(y734), (wrap64 (x15_2 + 1)), qV, H', ⟨by have := HJ6.out; have := HK2.out; omega⟩, ⟨by (with_reducible repeat (first | apply Kd.R_alloc | apply Kd.R_drewN | apply Kd.R_drew)); exact Kd.R_mono (Kd.R_far (p := ⟨go26, ((rd t723 x15_2) : Int).toNat, none⟩) (Kd.R_mono HO_10.out (fun k_ hk => (⟨hk, fun e_ => hk.2 (by rw [e_]; rfl)⟩ : _ ∧ k_ ≠ go26))) (fun _ hk => hk.2) (.int .i64 (rd l3 (rd t719 x15_2)))) (fun _ hk => ⟨hk.1.1, hk.1.2⟩)⟩, ⟨by (with_reducible repeat (first | apply Kd.R_alloc | apply Kd.R_drewN | apply Kd.R_drew)); exact Kd.R_mono (Kd.R_far (p := ⟨go26, ((rd t723 x15_2) : Int).toNat, none⟩) (Kd.R_mono HO_12.out (fun k_ hk => (⟨hk, fun e_ => hk.2 (by rw [e_]; rfl)⟩ : _ ∧ k_ ≠ go26))) (fun _ hk => hk.2) (.int .i64 (rd l3 (rd t719 x15_2)))) (fun _ hk => ⟨hk.1.1, hk.1.2⟩)⟩, ⟨qR HQ30⟩, ⟨qS1 HB GB26⟩⟩
      ·obtain ⟨t735, A31, H⟩ := qX H
       try dsimp only at H
       (obtain ⟨t738, A32, H⟩ := qX H); (replace H : (spec_PairDraws.l1 k2 l3 x14_2 t735 t738 0) = some (r1, r2) := H); (have H' := Aside0.mk H); clear H; (obtain ⟨Ao33, co33, eo33⟩ := Kd.R_slice HO_10.out); (subst eo33)
       go_wp2_with (first | ((with_reducible refine gate_callee (f := 80) rfl ?_); refine goesL_ (some 76) rfl rfl Tryz.func80 (by kernel_rfl) rfl #[.int .i64 (l3.length : Int), .slice Ao33 t719.length co33] rfl qL ?_; (with_reducible refine (spec_l15Rest.calls k2 (l3.length : Int) _ _ t719 t735 _ ?side1 ?side2 A31.out).mono ?_); (case side1 => repeat (first | exact (Kd.R_reads' HO_10.out).2.2 | (with_reducible refine Kd.C_alloc ?_ _) | (with_reducible refine Kd.C_drewN ?_ _) | (with_reducible refine Kd.C_drew ?_))); (case side2 => exact (Kd.R_reads' HO_10.out).2.1); rintro e w34 ⟨v736, rfl, ho0, hb⟩; refine ⟨_, rfl, ?_⟩; have HO737 := Aside0.mk (Kd.R_lower (Kd.R_new' (Kd.R_new' (Kd.R_new' ho0 (Kd.R_lt (qR HO_10))) (Kd.R_lt (qR HO_12))) (Kd.R_lt (qR HO_14))) (below_size (qS0 HB))); replace HO_10 := Aside0.mk (Kd.R_elder' (qR HO_10) (Kd.R_base ho0) hb); replace HO_12 := Aside0.mk (Kd.R_elder' (qR HO_12) (Kd.R_base ho0) hb); replace HO_14 := Aside0.mk (Kd.R_elder' (qR HO_14) (Kd.R_base ho0) hb); replace HB := Aside0.mk (below_step (qS0 HB) hb); (try clear hb); (try clear hb2); (try clear hk); (try clear hi); (try clear ho0); obtain ⟨Ao35, co35, eo35⟩ := Kd.R_slice HO_12.out; subst eo35) | ((with_reducible refine gate_callee (f := 80) rfl ?_); refine goesL_ (some 80) rfl rfl Tryz.func80 (by kernel_rfl) rfl #[.int .i64 (l3.length : Int), .slice Ao35 t723.length co35] rfl qL ?_; (with_reducible refine (spec_l15Rest.calls k2 (l3.length : Int) _ _ t723 t738 _ ?side1 ?side2 A32.out).mono ?_); (case side1 => repeat (first | exact (Kd.R_reads' HO_12.out).2.2 | (with_reducible refine Kd.C_alloc ?_ _) | (with_reducible refine Kd.C_drewN ?_ _) | (with_reducible refine Kd.C_drew ?_))); (case side2 => exact (Kd.R_reads' HO_12.out).2.1); rintro e w36 ⟨v739, rfl, ho0, hb⟩; refine ⟨_, rfl, ?_⟩; have HO740 := Aside0.mk (Kd.R_lower (Kd.R_new' (Kd.R_new' (Kd.R_new' (Kd.R_new' ho0 (Kd.R_lt (qR HO_10))) (Kd.R_lt (qR HO_12))) (Kd.R_lt (qR HO_14))) (Kd.R_lt (qR HO737))) (below_size (qS0 HB))); replace HO_10 := Aside0.mk (Kd.R_elder' (qR HO_10) (Kd.R_base ho0) hb); replace HO_12 := Aside0.mk (Kd.R_elder' (qR HO_12) (Kd.R_base ho0) hb); replace HO_14 := Aside0.mk (Kd.R_elder' (qR HO_14) (Kd.R_base ho0) hb); replace HO737 := Aside0.mk (Kd.R_elder' (qR HO737) (Kd.R_base ho0) hb); replace HB := Aside0.mk (below_step (qS0 HB) hb); (try clear hb); (try clear hb2); (try clear hk); (try clear hi); (try clear ho0)))
       go_loopg [18] k2 (fun kq v18 w' => ∃ (x14_3 : List Int) (x18_3 : Int), v18 = .int .i64 x18_3 ∧ Aside0 (spec_PairDraws.l1 kq l3 x14_3 t735 t738 x18_3 = some (r1, r2)) ∧ Aside0 (kq ≤ k2) ∧ Aside0 (Kd.R (Kd.int .i64) 3 w' w.heap.size (fun k_ => some k_ ≠ (v736 : Value).ownBlock ∧ some k_ ≠ (v739 : Value).ownBlock) v729 x14_3) ∧ Aside0 (Kd.R (Kd.int .i64) 3 w' w.heap.size (fun k_ => some k_ ≠ (v729 : Value).ownBlock ∧ some k_ ≠ (v739 : Value).ownBlock) v736 t735) ∧ Aside0 (Kd.R (Kd.int .i64) 3 w' w.heap.size (fun k_ => some k_ ≠ (v729 : Value).ownBlock ∧ some k_ ≠ (v736 : Value).ownBlock) v739 t738) ∧ Aside0 (Below w.heap.size w w'))
       case atStart => exact ⟨(x14_2), (0), qV, H', ⟨Nat.le_refl _⟩, ⟨by (with_reducible repeat (first | apply Kd.R_alloc | apply Kd.R_drewN | apply Kd.R_drew)); exact Kd.R_mono HO_14.out (fun _ hk => ⟨hk.1.2, hk.2⟩)⟩, ⟨by (with_reducible repeat (first | apply Kd.R_alloc | apply Kd.R_drewN | apply Kd.R_drew)); exact Kd.R_mono HO737.out (fun _ hk => ⟨hk.1.2, hk.2⟩)⟩, ⟨by (with_reducible repeat (first | apply Kd.R_alloc | apply Kd.R_drewN | apply Kd.R_drew)); exact Kd.R_mono HO740.out (fun _ hk => ⟨hk.1.2, hk.2⟩)⟩, ⟨qS0 HB⟩⟩
       case round =>
        clear H'; (try clear hx2); (try clear hx7); (try clear c19b0); (try clear c20b0); (try clear c21b0); (try clear c22b0); (try clear c23b0); (try clear c24b0); (try clear c25b0); (try clear p26); (try clear q26); (try clear hx26); (try clear hf26); (try clear hx26_0); (try clear hx731_0); (try clear hx732_0); (try clear hx733_0); (try clear p731); (try clear p732); (try clear p733); (try clear q731); (try clear q732); (try clear q733); (obtain ⟨x14_3, x18_3, rfl, HA, HK3, HO_14, HO_16, HO_17, HB⟩ := hrel)
        cases gk with
        | zero => exact absurd HA.out (by simp [spec_PairDraws.l1])
        | succ k3 =>
         (have H := HA.out); clear HA; (simp only [spec_PairDraws.l1] at H)
         rcases qI H with ⟨c37b0, H⟩ | ⟨c37b0, H⟩
         ·obtain ⟨c38b0, H⟩ := qT H
          (obtain ⟨c39b0, H⟩ := qT H); (obtain ⟨c40b0, H⟩ := qT H); (obtain ⟨c41b0, H⟩ := qT H); (obtain ⟨c42b0, H⟩ := qT H); (obtain ⟨c43b0, H⟩ := qT H); (obtain ⟨y744, hy744⟩ : ∃ y_ : List Int, y_ = (x14_3.set ((rd t738 x18_3) : Int).toNat (rd l3 (rd t735 x18_3))) := ⟨_, rfl⟩); (replace H : (spec_PairDraws.l1 k3 l3 y744 t735 t738 (wrap64 (x18_3 + 1))) = some (r1, r2) := qY hy744 H); (have Ny744 := Aside0.mk hy744); clear hy744; (have H' := Aside0.mk H); clear H; (obtain ⟨Ao45, co45, eo45⟩ := Kd.R_slice HO_16.out); (subst eo45)
          try go_wp2
          (replace HO_14 := Aside0.mk (Kd.R_drew HO_14.out)); (replace HO_16 := Aside0.mk (Kd.R_drew HO_16.out)); (replace HO_17 := Aside0.mk (Kd.R_drew HO_17.out)); (replace HB := Aside0.mk (below_drew1 HB.out)); (obtain ⟨Ao47, co47, eo47⟩ := Kd.R_slice HO_17.out)
          (first | subst eo47 | (injection eo47 with f1_ f2_ f3_; have f4_ := f1_.symm; have f5_ := f3_.symm; clear f1_ f2_ f3_; subst f4_; subst f5_))
          (have p741 : 0 ≤ (x18_3 : Int) := qO); (have q741 : x18_3 < (t738.length : Int) := qO); (obtain ⟨ad741, e741, hx741_0⟩ := Kd.at_int (Kd.R_reads' HO_17.out).2.2 x18_3 p741 q741)
          cases e741
          (replace p741 := eq_true p741); (replace q741 := eq_true q741); (have p742 : 0 ≤ (x18_3 : Int) := qO); (have q742 : x18_3 < (t735.length : Int) := qO); (obtain ⟨ad742, e742, hx742_0⟩ := Kd.at_int (Kd.R_reads' HO_16.out).2.2 x18_3 p742 q742)
          cases e742
          (replace p742 := eq_true p742); (replace q742 := eq_true q742); (have p743 : 0 ≤ ((rd t735 x18_3) : Int) := qO); (have q743 : (rd t735 x18_3) < (l3.length : Int) := qO); (obtain ⟨ad743, e743, hx743_0⟩ := Kd.at_int HR3.out (rd t735 x18_3) p743 q743); (have hw743_0 := hx743_0)
          cases e743
          (replace hx743_0 := qF HB hx743_0); (replace p743 := eq_true p743); (replace q743 := eq_true q743); (have p44 : 0 ≤ ((rd t738 x18_3) : Int) := qO); (have q44 : ((rd t738 x18_3) : Int) < ((x14_3.length : Int) : Int) := qO); (obtain ⟨go44, co44, eo44, gb44, gl44, cl44, HG44⟩ := Kd.R_form HO_14.out (by omega))
          (first | cases eo44 | (injection eo44 with ea_ en_ ec_; (first | subst ea_ | (injection ea_ with ea_; subst ea_)); subst ec_; clear en_))
          (have GB44 := Aside0.mk gb44); (have GG44 := Aside0.mk HG44); clear gb44 gl44 HG44; (obtain ⟨hx44_0, hf44_0⟩ := Kd.R_celln 0 HO_14.out ((rd t738 x18_3) : Int) p44 q44); (replace p44 := eq_true p44); (replace q44 := eq_true q44); (have HP48 := Kd.R_putn HO_14.out ((rd t738 x18_3) : Int) (rd l3 (rd t735 x18_3))); (rw [← Ny744.out] at HP48); (have HQ48 := Aside0.mk HP48); clear HP48
          refine start_ (n := 14) (S := fun w' => w'.cell? (ad741.add (x18_3).toNat) = some (.int .i64 (rd t738 x18_3)) ∧ w'.cell? (ad742.add (x18_3).toNat) = some (.int .i64 (rd t735 x18_3)) ∧ w'.cell? (ad743.add ((rd t735 x18_3)).toNat) = some (.int .i64 (rd l3 (rd t735 x18_3)))) (ds := [13]) #[false, false, false, false, false, false, false, false, false, false, false, false, false, false] (by kernel_rfl) rfl rfl ⟨hx741_0, hx742_0, (qF HB hw743_0)⟩ (fun hHeld => ?_); refine with_tabW spec_PairDraws.tab15 spec_PairDraws.bits15 (fun HT_ HW_ => ?_)
          generalize wr.drew = w46 at HO_14 HO_16 HO_17 HB GG44 HQ48 hf44_0 hx44_0 hx741_0 hx742_0 hx743_0 hHeld ⊢
          refine pure_ (i := 0) (N := some 87) (v := ?_) (a' := ?_) #[true, false, false, false, false, false, false, false, false, false, false, false, false, false] rfl rfl (any_of HT_.out (by kernel_rfl)) (fun _ _ _ h => h) (Or.inl ⟨by rfl, ?_⟩) ?_ ?_
          rotate_left
          ·intro w'
           go_simp
           with_reducible rfl
          rotate_left
          ·exact qPu
          refine pure_ (i := 1) (N := some 88) (v := ?_) (a' := ?_) #[true, true, false, false, false, false, false, false, false, false, false, false, false, false] rfl rfl (any_of HT_.out (by kernel_rfl)) (fun _ _ _ h => h) (Or.inl ⟨by rfl, ?_⟩) ?_ ?_
          rotate_left
          ·intro w'
           go_simp
           with_reducible rfl
          rotate_left
          ·exact qPu
          refine pure_ (i := 2) (N := some 89) (v := ?_) (a' := ?_) #[true, true, true, false, false, false, false, false, false, false, false, false, false, false] rfl rfl (any_of HT_.out (by kernel_rfl)) (fun _ _ _ h => h) (Or.inl ⟨by rfl, ?_⟩) ?_ ?_
          rotate_left
          ·intro w'
           go_simp
           with_reducible rfl
          rotate_left
          ·exact qPu
          refine pure_ (i := 3) (N := some 90) (v := ?_) (a' := ?_) #[true, true, true, true, false, false, false, false, false, false, false, false, false, false] rfl rfl (any_of HT_.out (by kernel_rfl)) (fun _ _ _ h => h) (Or.inl ⟨by rfl, ?_⟩) ?_ ?_
          rotate_left
          ·intro w'
           go_simp
           with_reducible rfl
          rotate_left
          ·exact qPu
          refine pure_ (i := 5) (N := some 92) (v := ?_) (a' := ?_) #[true, true, true, true, false, true, false, false, false, false, false, false, false, false] rfl rfl (any_of HT_.out (by kernel_rfl)) (fun _ _ _ h => h) (Or.inl ⟨by rfl, ?_⟩) ?_ ?_
          rotate_left
          ·intro w'
           go_simp
           with_reducible rfl
          rotate_left
          ·exact qPu
          refine pure_ (i := 6) (N := some 93) (v := ?_) (a' := ?_) #[true, true, true, true, false, true, true, false, false, false, false, false, false, false] rfl rfl (any_of HT_.out (by kernel_rfl)) (fun _ _ _ h => h) (Or.inl ⟨by rfl, ?_⟩) ?_ ?_
          rotate_left
          ·intro w'
           go_simp
           with_reducible rfl
          rotate_left
          ·exact qPu
          refine pure_ (i := 7) (N := some 94) (v := ?_) (a' := ?_) #[true, true, true, true, false, true, true, true, false, false, false, false, false, false] rfl rfl (any_of HT_.out (by kernel_rfl)) (fun _ _ _ h => h) (Or.inl ⟨by rfl, ?_⟩) ?_ ?_
          rotate_left
          ·intro w'
           go_simp
           with_reducible rfl
          rotate_left
          ·exact qPu
          refine pure_ (i := 8) (N := some 95) (v := ?_) (a' := ?_) #[true, true, true, true, false, true, true, true, true, false, false, false, false, false] rfl rfl (any_of HT_.out (by kernel_rfl)) (fun _ _ _ h => h) (Or.inl ⟨by rfl, ?_⟩) ?_ ?_
          rotate_left
          ·intro w'
           go_simp
           with_reducible rfl
          rotate_left
          ·exact qPu
          refine take_ (i := 4) (N := some 91) (v := ?_) (a' := ?_) #[true, true, true, true, true, true, true, true, true, false, false, false, false, false] rfl rfl (take_ofW HT_.out HW_.out (by kernel_rfl)) (fun _ _ _ h => h) (Or.inl ⟨by rfl, ?_⟩) hHeld ?_ ?_
          rotate_left
          ·rintro w' ⟨s0, s1, s2⟩
           go_simp
           with_reducible rfl
          rotate_left
          ·exact qPu
          refine take_ (i := 9) (N := some 96) (v := ?_) (a' := ?_) #[true, true, true, true, true, true, true, true, true, true, false, false, false, false] rfl rfl (take_ofW HT_.out HW_.out (by kernel_rfl)) (fun _ _ _ h => h) (Or.inl ⟨by rfl, ?_⟩) hHeld ?_ ?_
          rotate_left
          ·rintro w' ⟨s0, s1, s2⟩
           go_simp
           with_reducible rfl
          rotate_left
          ·exact qPu
          refine pure_ (i := 10) (N := some 97) (v := ?_) (a' := ?_) #[true, true, true, true, true, true, true, true, true, true, true, false, false, false] rfl rfl (any_of HT_.out (by kernel_rfl)) (fun _ _ _ h => h) (Or.inl ⟨by rfl, ?_⟩) ?_ ?_
          rotate_left
          ·intro w'
           go_simp
           with_reducible rfl
          rotate_left
          ·exact qPu
          refine take_ (i := 11) (N := some 98) (v := ?_) (a' := ?_) #[true, true, true, true, true, true, true, true, true, true, true, true, false, false] rfl rfl (take_ofW HT_.out HW_.out (by kernel_rfl)) (fun _ _ _ h => h) (Or.inl ⟨by rfl, ?_⟩) hHeld ?_ ?_
          rotate_left
          ·rintro w' ⟨s0, s1, s2⟩
           go_simp
           with_reducible rfl
          rotate_left
          ·exact qPu
          refine pure_ (i := 12) (N := some 99) (v := ?_) (a' := ?_) #[true, true, true, true, true, true, true, true, true, true, true, true, true, false] rfl rfl (any_of HT_.out (by kernel_rfl)) (fun _ _ _ h => h) (Or.inl ⟨by rfl, ?_⟩) ?_ ?_
          rotate_left
          ·intro w'
           go_simp
           with_reducible rfl
          rotate_left
          ·exact qPu
          refine last_ (i := 13) (N := none) #[true, true, true, true, true, true, true, true, true, true, true, true, true, true] rfl rfl (one_of HT_.out (by kernel_rfl)) (by decide) (fun K hK => ?_)
          refine skip_ (w1 := ?_) (by rfl) rfl ?_ ?_
          rotate_left
          ·go_simp
           rfl
          refine hK.out _ _ ?_
          clear hK K
          refine done_ (done_of HT_.out (by kernel_rfl)) ?_
          try go_wp2
          go_roundg k3
          case measure => have := HJ6.out; have := HK2.out; have := HK3.out; omega
          case rel => exact ⟨(y744), (wrap64 (x18_3 + 1)), qV, H', ⟨by have := HJ6.out; have := HK2.out; have := HK3.out; omega⟩, ⟨qR HQ48⟩, ⟨by (with_reducible repeat (first | apply Kd.R_alloc | apply Kd.R_drewN | apply Kd.R_drew)); exact Kd.R_mono (Kd.R_far (p := ⟨go44, ((rd t738 x18_3) : Int).toNat, none⟩) (Kd.R_mono HO_16.out (fun k_ hk => (⟨hk, fun e_ => hk.1 (by rw [e_]; rfl)⟩ : _ ∧ k_ ≠ go44))) (fun _ hk => hk.2) (.int .i64 (rd l3 (rd t735 x18_3)))) (fun _ hk => ⟨hk.1.1, hk.1.2⟩)⟩, ⟨by (with_reducible repeat (first | apply Kd.R_alloc | apply Kd.R_drewN | apply Kd.R_drew)); exact Kd.R_mono (Kd.R_far (p := ⟨go44, ((rd t738 x18_3) : Int).toNat, none⟩) (Kd.R_mono HO_17.out (fun k_ hk => (⟨hk, fun e_ => hk.1 (by rw [e_]; rfl)⟩ : _ ∧ k_ ≠ go44))) (fun _ hk => hk.2) (.int .i64 (rd l3 (rd t735 x18_3)))) (fun _ hk => ⟨hk.1.1, hk.1.2⟩)⟩, ⟨qS1 HB GB44⟩⟩
         ·simp only [Option.some.injEq, Prod.mk.injEq] at H
          (obtain ⟨rfl, rfl⟩ := H); (obtain ⟨Ao49, co49, eo49⟩ := Kd.R_slice HO_16.out); (subst eo49)
          go_wp2
          go_ret2
          exact ⟨_, qE, by (with_reducible repeat (first | apply Kd.R_alloc | apply Kd.R_drewN | apply Kd.R_drew)); exact Kd.R_mono HO_14.out (fun _ hk => trivial), qS0 HB⟩
end Go.Proofs.YtppopmajclmhjaaGreatDoor.QB
