/- Part of the proof of the law FnExactSessLeaves: what it uses of the texts that this session and the kit's print wrote. -/
import Derived.Test.YtppopmajclmhjaaGreatDoorZFnExactSessLeavesx2
import Derived.Test.YtppopmajclmhjaaGreatDoorZFnExactSessLeavesx5
import Derived.Test.YtppopmajclmhjaaGreatDoorZFnExactSessLeavesx6
namespace Go.Proofs.YtppopmajclmhjaaGreatDoor.QB
open Go.RowKit Go.Proofs.YtppopmajclmhjaaGreatDoorW.PrintWords Go.Proofs.YtppopmajclmhjaaGreatDoorW.PrintLast Go.Proofs.YtppopmajclmhjaaGreatDoorW.PrintMore
attribute [local go_sem] max2_int min2_int max_two min_two max_three min_three max_four min_four
set_option linter.unusedVariables false
set_option linter.unusedSimpArgs false
def impl_drawsAt.l0 : Nat → List Int → List Int → List Int → Int → Int → Option (List Int)
 | 0, _, _, _, _, _ => none
 | k + 1, x0, x5, x11, x12, x13 => if x13 < x12 then (if 0 ≤ x13 then (if x13 < (x11.length : Int) then (if 0 ≤ (rd x11 x13) then (if (rd x11 x13) < (x0.length : Int) then (if x13 < (x5.length : Int) then (impl_drawsAt.l0 k x0 (x5.set (x13 : Int).toNat (rd x0 (rd x11 x13))) x11 x12 (wrap64 (x13 + 1))) else (none)) else (none)) else (none)) else (none)) else (none)) else (some x5)
def impl_drawsAt.f (k : Nat) (l0 : List Int) (l1 : List Int) : Option (List Int) := if 0 ≤ (l1.length : Int) then (if ((l1.length : Int) : Int).toNat ≤ 35184372088832 then (impl_drawsAt.l0 k l0 (List.replicate ((l1.length : Int) : Int).toNat 0) l1 (l1.length : Int) 0) else (none)) else (none)
set_option maxHeartbeats 8000000 in
set_option maxRecDepth 100000 in
theorem impl_drawsAt.calls (k : Nat) (A0 : Option Addr) (c0 : Nat) (l0 : List Int) (A1 : Option Addr) (c1 : Nat) (l1 : List Int) (r : List Int) (w : World) (hr0 : Kd.C (Kd.int .i64) w A0 l0.length l0) (hc0 : l0.length ≤ c0) (hr1 : Kd.C (Kd.int .i64) w A1 l1.length l1) (hc1 : l1.length ≤ c1) (h : impl_drawsAt.f k l0 l1 = some r) :
  Calls Tryz.prog 73 #[.slice A0 l0.length c0, .slice A1 l1.length c1] w fun e w' => ∃ v0_ : Value, e = .returned (v0_) ∧ Kd.R (Kd.int .i64) 3 w' w.heap.size (fun _ => True) v0_ r ∧ Below w.heap.size w w' := by
 (have HR0 := Aside0.mk hr0); (have HC0 := Aside0.mk hc0); clear hr0 hc0; (have HR1 := Aside0.mk hr1); (have HC1 := Aside0.mk hc1); clear hr1 hc1; (have HB := Aside0.mk (Below.refl w.heap.size w)); (have H : (if 0 ≤ (l1.length : Int) then (if ((l1.length : Int) : Int).toNat ≤ 35184372088832 then (impl_drawsAt.l0 k l0 (List.replicate ((l1.length : Int) : Int).toNat 0) l1 (l1.length : Int) 0) else (none)) else (none)) = some r := h); clear h
 by_cases c3 : 0 ≤ (l1.length : Int)
 ·rw [if_pos c3] at H
  (have c3b0 := eq_true c3); (have c3b1 : decide (0 ≤ (l1.length : Int)) = true := decide_eq_true c3); clear c3
  by_cases c4 : ((l1.length : Int) : Int).toNat ≤ 35184372088832
  ·rw [if_pos c4] at H
   (have c4b0 := eq_true c4); (have c4b1 : decide (((l1.length : Int) : Int).toNat ≤ 35184372088832) = true := decide_eq_true c4); clear c4; (obtain ⟨y425, hy425⟩ : ∃ y_ : List Int, y_ = (List.replicate ((l1.length : Int) : Int).toNat 0) := ⟨_, rfl⟩); (replace H : (impl_drawsAt.l0 k l0 y425 l1 (l1.length : Int) 0) = some r := qY hy425 H); (have Ny425 := Aside0.mk hy425); clear hy425; (have H' := Aside0.mk H); clear H
   go_enter Tryz.func73, Tryz.ntmps73
   go_wp2_with (first | ((with_reducible refine gate_dst (N := 10) rfl ?_); refine Kd.R_make (Kd.int .i64) _ 3 rfl (N := 10) rfl 25 _ _ rfl (l1.length : Int) rfl rfl Tryz.underlying25 (.int .i64 0) 8 info3 rfl (by decide) (by omega) 0 (ok := fun _ => True) (okp := fun _ => True) rfl (fun _ hk => hk) trivial (qO) (Nat.le_trans (Nat.mul_le_mul_right _ (qO : (l1.length : Int).toNat ≤ 35184372088832)) (by omega)) (Below.refl _ _) (Nat.le_refl _) ?_; intro v426 w5 ho6 hb hg_ hnew_; clear hg_ hnew_; (first | rw [← Ny425.out] at ho6 | (simp only [Int.reduceToNat] at ho6; rw [← Ny425.out] at ho6)); have HO427 := Aside0.mk (Kd.R_lower ho6 (below_size (qS0 HB))); replace HB := Aside0.mk (below_step (qS0 HB) hb); clear hb ho6))
   go_loopg [13] k (fun kq v13 w' => ∃ (x5_1 : List Int) (x13_1 : Int), v13 = .int .i64 x13_1 ∧ Aside0 (impl_drawsAt.l0 kq l0 x5_1 l1 (l1.length : Int) x13_1 = some r) ∧ Aside0 (kq ≤ k) ∧ Aside0 (Kd.R (Kd.int .i64) 3 w' w.heap.size (fun _ => True) v426 x5_1) ∧ Aside0 (Below w.heap.size w w'))
   case atStart => exact ⟨(y425), (0), qV, H', ⟨Nat.le_refl _⟩, ⟨qR HO427⟩, ⟨qS0 HB⟩⟩
   case round =>
    clear H'; (try clear c1); (try clear p2); (try clear c3); (try clear c3b0); (try clear c3b1); (try clear c4); (try clear c4b0); (try clear c4b1); (obtain ⟨x5_1, x13_1, rfl, HA, HK1, HO_5, HB⟩ := hrel)
    cases gk with
    | zero => exact absurd HA.out (by simp [impl_drawsAt.l0])
    | succ k1 =>
     (have H := HA.out); clear HA; (simp only [impl_drawsAt.l0] at H)
     by_cases c7 : x13_1 < (l1.length : Int)
     ·rw [if_pos c7] at H
      (have c7b0 : decide (x13_1 < (l1.length : Int)) = true := decide_eq_true c7); clear c7
      by_cases c8 : 0 ≤ x13_1
      ·rw [if_pos c8] at H
       (have c8b0 : decide (0 ≤ x13_1) = true := decide_eq_true c8); clear c8
       by_cases c9 : x13_1 < (l1.length : Int)
       ·rw [if_pos c9] at H
        (have c9b0 : decide (x13_1 < (l1.length : Int)) = true := decide_eq_true c9); clear c9
        by_cases c10 : 0 ≤ (rd l1 x13_1)
        ·rw [if_pos c10] at H
         (have c10b0 : decide (0 ≤ (rd l1 x13_1)) = true := decide_eq_true c10); clear c10
         by_cases c11 : (rd l1 x13_1) < (l0.length : Int)
         ·rw [if_pos c11] at H
          (have c11b0 : decide ((rd l1 x13_1) < (l0.length : Int)) = true := decide_eq_true c11); clear c11
          by_cases c12 : x13_1 < (x5_1.length : Int)
          ·rw [if_pos c12] at H
           (have c12b0 : decide (x13_1 < (x5_1.length : Int)) = true := decide_eq_true c12); clear c12; (obtain ⟨y430, hy430⟩ : ∃ y_ : List Int, y_ = (x5_1.set (x13_1 : Int).toNat (rd l0 (rd l1 x13_1))) := ⟨_, rfl⟩); (replace H : (impl_drawsAt.l0 k1 l0 y430 l1 (l1.length : Int) (wrap64 (x13_1 + 1))) = some r := qY hy430 H); (have Ny430 := Aside0.mk hy430); clear hy430; (have H' := Aside0.mk H); clear H; (have p428 : 0 ≤ (x13_1 : Int) := qO); (have q428 : x13_1 < (l1.length : Int) := qO); (obtain ⟨ad428, e428, hx428_0⟩ := Kd.at_int HR1.out x13_1 p428 q428)
           cases e428
           (replace hx428_0 := (HB.out.cell (World.block_lt_of_cell? w _ hx428_0)).trans hx428_0); (replace p428 := eq_true p428); (replace q428 := eq_true q428); (have p429 : 0 ≤ ((rd l1 x13_1) : Int) := qO); (have q429 : (rd l1 x13_1) < (l0.length : Int) := qO); (obtain ⟨ad429, e429, hx429_0⟩ := Kd.at_int HR0.out (rd l1 x13_1) p429 q429)
           cases e429
           (replace hx429_0 := (HB.out.cell (World.block_lt_of_cell? w _ hx429_0)).trans hx429_0); (replace p429 := eq_true p429); (replace q429 := eq_true q429); (have p13 : 0 ≤ (x13_1 : Int) := qO); (have q13 : (x13_1 : Int) < ((x5_1.length : Int) : Int) := qO); (obtain ⟨go13, co13, eo13, gb13, gl13, cl13, HG13⟩ := Kd.R_form HO_5.out (by omega))
           (first | cases eo13 | (injection eo13 with ea_ en_ ec_; (first | subst ea_ | (injection ea_ with ea_; subst ea_)); subst ec_; clear en_))
           (have GB13 := Aside0.mk gb13); (have GG13 := Aside0.mk HG13); clear gb13 gl13 HG13; (obtain ⟨hx13_0, hf13_0⟩ := Kd.R_celln 0 HO_5.out (x13_1 : Int) p13 q13); (replace p13 := eq_true p13); (replace q13 := eq_true q13); (have HP14 := Kd.R_putg HO_5.out (x13_1 : Int) (rd l0 (rd l1 x13_1)))
           go_wp2_with (first | ((with_reducible refine gate_store (t := 3) (p := 24) rfl ?_); refine store_event (t := 3) (p := 24) (v := ?vo_w15) (w1 := (wr.setCell ⟨go13, (x13_1 : Int).toNat, none⟩ (.int .i64 (rd l0 (rd l1 x13_1))))) ?hg ?ho ?hn ?hr ?_; (case ho => rfl); (case hg => rfl); (case hn => rfl); (case hr => first | (go_simp; done) | (go_simp; rfl)); intro w15 hw; have hg : wr.grownBy w15 (some go13) := (by rw [hw]; exact HP14.2); have hp_ : Kd.R (Kd.int .i64) 3 w15 w.heap.size (fun _ => True) (.slice (some ⟨go13, 0, none⟩) x5_1.length co13) y430 := (by rw [hw, Ny430.out]; exact HP14.1); clear HP14; replace HO_5 := Aside0.mk (hp_); replace HB := Aside0.mk ((by rw [hw]; exact below_set (HB.out) GB13.out : Below w.heap.size w w15)); clear hg hw hp_))
           go_roundg k1
           case measure => have := HK1.out; omega
           case rel => exact ⟨(y430), (wrap64 (x13_1 + 1)), qV, H', ⟨by have := HK1.out; omega⟩, ⟨qR HO_5⟩, ⟨qS0 HB⟩⟩
          ·rw [if_neg c12] at H
           exact absurd H (by simp)
         ·rw [if_neg c11] at H
          exact absurd H (by simp)
        ·rw [if_neg c10] at H
         exact absurd H (by simp)
       ·rw [if_neg c9] at H
        exact absurd H (by simp)
      ·rw [if_neg c8] at H
       exact absurd H (by simp)
     ·rw [if_neg c7] at H
      (have c7b0 : decide (x13_1 < (l1.length : Int)) = false := decide_eq_false c7); clear c7; (obtain rfl := Option.some.inj H)
      go_wp2
      go_ret
      exact ⟨_, qE, qR HO_5, qS0 HB⟩
  ·rw [if_neg c4] at H
   exact absurd H (by simp)
 ·rw [if_neg c3] at H
  exact absurd H (by simp)
def impl_sessLeaves.l0 : Nat → List Int → List Int → List Int → List Int → List Int → Int → Int → Int → Int → Int → Int → Option (List Int × List Int)
 | 0, _, _, _, _, _, _, _, _, _, _, _ => none
 | k + 1, x1, x2, x8, x9, x10, x26, x27, x432000, x432001, x432002, x432003 => if x27 < x26 then (if 0 ≤ (wrap64 (6 * x27)) then (if (wrap64 (6 * x27)) < (x2.length : Int) then ((impl_LeafOf.f (rd x2 (wrap64 (6 * x27))) (wrap64 (x432001 - 2))).bind fun t439 => (if x10.length < 17592186044416 then (impl_sessLeaves.l0 k x1 x2 x8 x9 (x10 ++ [t439]) x26 (wrap64 (x27 + 1)) x432000 x432001 x432002 x432003) else (none))) else (none)) else (none)) else (if 0 ≤ (wrap64 (x432001 - 2)) then ((impl_smallIds.f k x1).bind fun t443 => ((impl_drawsAt.f k x2 x8).bind fun t446 => ((impl_PathSeq.f k (shl .i64 1 (wrap64 (x432001 - 2))) (wrap64 (x432001 - 2)) t443 t446).bind fun bt449 => (if 0 ≤ x432001 then ((impl_drawsAt.f k x2 x9).bind fun t453 => ((impl_PathSeq.f k (shl .i64 1 x432001) x432001 x1 t453).bind fun bt456 => (if x10.length + bt449.1.length < 17592186044416 then (some ((x10 ++ bt449.1), bt456.1)) else (none)))) else (none))))) else (none))
def impl_sessLeaves.f (k : Nat) (a0_0 : Int) (a0_1 : Int) (a0_2 : Int) (a0_3 : Int) (l1 : List Int) (l2 : List Int) : Option (List Int × List Int) := (impl_drawPlaces.f k a0_0 a0_1 a0_2 a0_3 (l1.length : Int)).bind fun bt432 => (if 0 ≤ (wrap64 (a0_1 - 2)) then (impl_sessLeaves.l0 k l1 l2 bt432.1 bt432.2 ([] : List Int) (shl .i64 1 (wrap64 (a0_1 - 2))) 0 a0_0 a0_1 a0_2 a0_3) else (none))
def impl_sessLeaves.T6 : Bool × List (List Nat × List Nat) := (true, [([], []), ([], []), ([], []), ([2], [2]), ([1, 3], [1, 3]), ([4], [4]), ([], []), ([6], [6]), ([7], [7]), ([5, 8], [5, 8]), ([9], [9]), ([0, 10, 9], [0, 10]), ([11, 11, 0, 1, 2, 3, 4, 5, 6, 7, 8, 9, 10, 11], [0, 11])])
def impl_sessLeaves.B6 : List Nat := [0, 0, 0, 4, 14, 30, 0, 64, 192, 510, 1022, 2047, 4095]
theorem impl_sessLeaves.tab6 : rtab .any (opsOf Tryz.f38 6) = impl_sessLeaves.T6 := by kernel_rfl
theorem impl_sessLeaves.bits6 : waitsOk impl_sessLeaves.T6.2 impl_sessLeaves.B6 = true := by kernel_rfl
def impl_sessLeaves.T8 : Bool × List (List Nat × List Nat) := (true, [([], []), ([0], [0]), ([1], [1]), ([2], [2]), ([], []), ([4], [4]), ([5], [5]), ([], []), ([7], [7]), ([], []), ([], []), ([9, 10, 8], [9, 10]), ([3, 6, 8, 11, 11], [3, 6, 8, 11]), ([12], [12]), ([13], [13]), ([13], [13]), ([14, 12, 0, 1, 2, 3, 4, 5, 6, 7, 8, 9, 10, 11, 12, 13, 14], [14]), ([15, 16, 0, 1, 2, 3, 4, 5, 6, 7, 8, 9, 10, 11, 12, 13, 14, 15, 16], [15])])
def impl_sessLeaves.B8 : List Nat := [0, 1, 3, 7, 0, 16, 48, 0, 128, 0, 0, 1920, 4095, 8191, 16383, 16383, 32767, 131071]
theorem impl_sessLeaves.tab8 : rtab .any (opsOf Tryz.f38 8) = impl_sessLeaves.T8 := by kernel_rfl
theorem impl_sessLeaves.bits8 : waitsOk impl_sessLeaves.T8.2 impl_sessLeaves.B8 = true := by kernel_rfl
def impl_sessLeaves.T9 : Bool × List (List Nat × List Nat) := (true, [([], []), ([0], [0]), ([1], [1]), ([], []), ([3], [3]), ([], []), ([], []), ([], []), ([6, 7], [6, 7]), ([2, 4, 5, 8, 8], [2, 4, 5, 8]), ([9], [9]), ([10], [10]), ([10], [10]), ([11, 9, 0, 1, 2, 3, 4, 5, 6, 7, 8, 9, 10, 11], [11]), ([12, 13, 0, 1, 2, 3, 4, 5, 6, 7, 8, 9, 10, 11, 12, 13], [12])])
def impl_sessLeaves.B9 : List Nat := [0, 1, 3, 0, 8, 0, 0, 0, 192, 511, 1023, 2047, 2047, 4095, 16383]
theorem impl_sessLeaves.tab9 : rtab .any (opsOf Tryz.f38 9) = impl_sessLeaves.T9 := by kernel_rfl
theorem impl_sessLeaves.bits9 : waitsOk impl_sessLeaves.T9.2 impl_sessLeaves.B9 = true := by kernel_rfl
set_option maxHeartbeats 8000000 in
set_option maxRecDepth 100000 in
theorem impl_sessLeaves.calls (k : Nat) (a0_0 : Int) (a0_1 : Int) (a0_2 : Int) (a0_3 : Int) (A1 : Option Addr) (c1 : Nat) (l1 : List Int) (A2 : Option Addr) (c2 : Nat) (l2 : List Int) (r1 : List Int) (r2 : List Int) (w : World) (hr1 : Kd.C (Kd.int .i64) w A1 l1.length l1) (hc1 : l1.length ≤ c1) (hr2 : Kd.C (Kd.int .i64) w A2 l2.length l2) (hc2 : l2.length ≤ c2) (h : impl_sessLeaves.f k a0_0 a0_1 a0_2 a0_3 l1 l2 = some (r1, r2)) :
  Calls Tryz.prog 38 #[.agg #[.int .i64 a0_0, .int .i64 a0_1, .int .i64 a0_2, .int .i64 a0_3], .slice A1 l1.length c1, .slice A2 l2.length c2] w fun e w' => ∃ v0_ v1_ : Value, e = .returned (.tuple #[v0_, v1_]) ∧ Kd.R (Kd.int .i64) 3 w' w.heap.size (fun k_ => some k_ ≠ (v1_ : Value).ownBlock) v0_ r1 ∧ Kd.R (Kd.int .i64) 3 w' w.heap.size (fun k_ => some k_ ≠ (v0_ : Value).ownBlock) v1_ r2 ∧ Below w.heap.size w w' := by
 (have hu29 := Tryz.underlying29); (have HR1 := Aside0.mk hr1); (have HC1 := Aside0.mk hc1); clear hr1 hc1; (have HR2 := Aside0.mk hr2); (have HC2 := Aside0.mk hc2); clear hr2 hc2; (have HB := Aside0.mk (Below.refl w.heap.size w)); (have H : ((impl_drawPlaces.f k a0_0 a0_1 a0_2 a0_3 (l1.length : Int)).bind fun bt432 => (if 0 ≤ (wrap64 (a0_1 - 2)) then (impl_sessLeaves.l0 k l1 l2 bt432.1 bt432.2 ([] : List Int) (shl .i64 1 (wrap64 (a0_1 - 2))) 0 a0_0 a0_1 a0_2 a0_3) else (none))) = some (r1, r2) := h); clear h; (replace H := Option.bind_eq_some_iff.mp H); (obtain ⟨⟨t432, t435⟩, A40, H⟩ := H)
 try dsimp only at H
 (have A4 := Aside0.mk A40); clear A40; (obtain ⟨ji5, hji5⟩ : ∃ j_ : Int, (wrap64 (a0_1 - 2)) = j_ := ⟨_, rfl⟩); (replace H : (if 0 ≤ (ji5) then (impl_sessLeaves.l0 k l1 l2 t432 t435 ([] : List Int) (shl .i64 1 (ji5)) 0 a0_0 a0_1 a0_2 a0_3) else (none)) = some (r1, r2) := by first | (rw [hji5] at H; exact H) | (simp only [hji5] at H ⊢; exact H)); (try rw [hji5] at A4); (have hji5w : (IntKind.i64.wrap (a0_1 - 2)) = ji5 := (i64_w _).trans hji5)
 by_cases c6 : 0 ≤ (ji5)
 ·rw [if_pos c6] at H
  (have c6b0 := eq_true c6); (have c6b1 : decide (0 ≤ (ji5)) = true := decide_eq_true c6); clear c6; (obtain ⟨ji7, hji7⟩ : ∃ j_ : Int, (shl .i64 1 (ji5)) = j_ := ⟨_, rfl⟩); (replace H : (impl_sessLeaves.l0 k l1 l2 t432 t435 ([] : List Int) ji7 0 a0_0 a0_1 a0_2 a0_3) = some (r1, r2) := by first | (rw [hji7] at H; exact H) | (simp only [hji7] at H ⊢; exact H)); (try rw [hji7] at A4); (have hji7_ : (IntKind.i64.wrap (1 * 2 ^ min (ji5).toNat 64)) = ji7 := hji7); (have hji7z : (ji5) ≤ 64 → (IntKind.i64.wrap (1 * 2 ^ (ji5).toNat)) = ji7 := shl_small hji7); (have hji7u : (IntKind.i64.wrap (2 ^ min (ji5).toNat 64)) = ji7 := by have h_ := hji7_; rw [Int.one_mul] at h_; exact h_); (have hji7v : (ji5) ≤ 64 → (IntKind.i64.wrap (2 ^ (ji5).toNat)) = ji7 := fun hle_ => by have h_ := hji7z hle_; rw [Int.one_mul] at h_; exact h_); (have hji7y : (wrap64 (1 * 2 ^ min (ji5).toNat 64)) = ji7 := (i64_w _).symm.trans hji7_); (have hji7x : (ji5) ≤ 64 → (wrap64 (1 * 2 ^ (ji5).toNat)) = ji7 := fun h_ => (i64_w _).symm.trans (hji7z h_)); (have H' := Aside0.mk H); clear H
  go_enter Tryz.func38, Tryz.ntmps38
  go_wp2_with (first | ((with_reducible refine gate_dst (N := 3) rfl ?_); refine box_event ?hg (N := 3) ?hd (cs := #[.int .i64 a0_0, .int .i64 a0_1, .int .i64 a0_2, .int .i64 a0_3]) (t := 29) ?hr ?_; (case hd => rfl); (case hg => rfl); (case hr => first | (go_simp; done) | (go_simp; rfl)); intro gb431 hg w8 hbox hb; have BK431 := Aside0.mk (hbox); have GW431 := qG hg (below_size (qS0 HB)); have GE431 := qG hg (below_size (qS0 HB)); replace HB := Aside0.mk (below_step (qS0 HB) hb); clear hb hbox hg; obtain ⟨hcz9_0, hcz9_1, hcz9_2, hcz9_3, hfz9_0, hfz9_1, hfz9_2, hfz9_3⟩ := qC4 BK431) | ((with_reducible refine gate_callee (f := 69) rfl ?_); refine goesL_ (some 20) rfl rfl Tryz.func69 (by kernel_rfl) rfl #[.agg #[.int .i64 a0_0, .int .i64 a0_1, .int .i64 a0_2, .int .i64 a0_3], .int .i64 (l1.length : Int)] rfl qL ?_; (with_reducible refine (impl_drawPlaces.calls k a0_0 a0_1 a0_2 a0_3 (l1.length : Int) t432 t435 _ A4.out).mono ?_); rintro e w10 ⟨v433, v436, rfl, ho0, ho1, hb⟩; refine ⟨_, rfl, ?_⟩; have HO434 := Aside0.mk (Kd.R_lower ho0 (below_size (qS1 HB GE431))); have HO437 := Aside0.mk (Kd.R_lower ho1 (below_size (qS1 HB GE431))); replace BK431 := qD BK431 hb; replace HB := Aside0.mk (below_step (qS1 HB GE431) hb); (try clear hb); (try clear hb2); (try clear hk); (try clear hi); (try clear ho0); (try clear ho1); obtain ⟨hcz11_0, hcz11_1, hcz11_2, hcz11_3, hfz11_0, hfz11_1, hfz11_2, hfz11_3⟩ := qC4 BK431))
  go_loopg [10, 27] k (fun kq v10 v27 w' => ∃ (x10_1 : List Int) (x27_1 : Int), v27 = .int .i64 x27_1 ∧ Aside0 (impl_sessLeaves.l0 kq l1 l2 t432 t435 x10_1 ji7 x27_1 a0_0 a0_1 a0_2 a0_3 = some (r1, r2)) ∧ Aside0 (kq ≤ k) ∧ Aside0 (Kd.R (Kd.int .i64) 3 w' w.heap.size (fun k_ => some k_ ≠ (v436 : Value).ownBlock ∧ some k_ ≠ (v10 : Value).ownBlock) v433 t432) ∧ Aside0 (Kd.R (Kd.int .i64) 3 w' w.heap.size (fun k_ => some k_ ≠ (v433 : Value).ownBlock ∧ some k_ ≠ (v10 : Value).ownBlock) v436 t435) ∧ Aside0 (Kd.R (Kd.int .i64) 3 w' w.heap.size (fun k_ => some k_ ≠ (v433 : Value).ownBlock ∧ some k_ ≠ (v436 : Value).ownBlock) v10 x10_1) ∧ Aside0 (w'.heap[gb431]? = some (.cells #[.int .i64 a0_0, .int .i64 a0_1, .int .i64 a0_2, .int .i64 a0_3] 29 (0, 0))) ∧ Aside0 (Below w.heap.size w w'))
  case atStart => exact ⟨(([] : List Int)), (0), qV, H', ⟨Nat.le_refl _⟩, ⟨by (with_reducible repeat (first | apply Kd.R_alloc | apply Kd.R_drewN | apply Kd.R_drew)); exact Kd.R_mono HO434.out (fun _ hk => ⟨hk, (by simp [Value.ownBlock])⟩)⟩, ⟨by (with_reducible repeat (first | apply Kd.R_alloc | apply Kd.R_drewN | apply Kd.R_drew)); exact Kd.R_mono HO437.out (fun _ hk => ⟨hk, (by simp [Value.ownBlock])⟩)⟩, ⟨by first | exact Kd.R_nil _ _ _ _ _ | exact Kd.N_nil _ _ _ _ _ | exact Kd.V_nil _ _ _ _ _ | exact Kd.Q_nil _ _ _ _ _ | exact Kd.S_nil _ _ _ _ _⟩, ⟨qB BK431⟩, ⟨qS1 HB GE431⟩⟩
  case round =>
   clear H'
   try subst hji5
   (try clear c1); (try clear c2); (try clear p2); (try clear c3); (try clear c6); (try clear c6b0); (try clear c6b1); (try clear p6); (try clear hcz11_0); (try clear hcz11_1); (try clear hcz11_2); (try clear hcz11_3); (try clear hcz9_0); (try clear hcz9_1); (try clear hcz9_2); (try clear hcz9_3); (try clear hfz11_0); (try clear hfz11_1); (try clear hfz11_2); (try clear hfz11_3); (try clear hfz9_0); (try clear hfz9_1); (try clear hfz9_2); (try clear hfz9_3); (obtain ⟨x10_1, x27_1, rfl, HA, HK1, HO_8, HO_9, HO_10, BK431, HB⟩ := hrel)
   cases gk with
   | zero => exact absurd HA.out (by simp [impl_sessLeaves.l0])
   | succ k1 =>
    (have H := HA.out); clear HA; (simp only [impl_sessLeaves.l0] at H)
    by_cases c12 : x27_1 < ji7
    ·rw [if_pos c12] at H
     (have c12b0 : decide (x27_1 < ji7) = true := decide_eq_true c12); clear c12; (obtain ⟨ji13, hji13⟩ : ∃ j_ : Int, (wrap64 (6 * x27_1)) = j_ := ⟨_, rfl⟩); (replace H : (if 0 ≤ (ji13) then (if (ji13) < (l2.length : Int) then ((impl_LeafOf.f (rd l2 (ji13)) (wrap64 (a0_1 - 2))).bind fun t439 => (if x10_1.length < 17592186044416 then (impl_sessLeaves.l0 k1 l1 l2 t432 t435 (x10_1 ++ [t439]) ji7 (wrap64 (x27_1 + 1)) a0_0 a0_1 a0_2 a0_3) else (none))) else (none)) else (none)) = some (r1, r2) := by first | (rw [hji13] at H; exact H) | (simp only [hji13] at H ⊢; exact H)); (have hji13w : (IntKind.i64.wrap (6 * x27_1)) = ji13 := (i64_w _).trans hji13)
     by_cases c14 : 0 ≤ (ji13)
     ·rw [if_pos c14] at H
      (have c14b0 : decide (0 ≤ (ji13)) = true := decide_eq_true c14); clear c14
      by_cases c15 : (ji13) < (l2.length : Int)
      ·rw [if_pos c15] at H
       (have c15b0 : decide ((ji13) < (l2.length : Int)) = true := decide_eq_true c15); clear c15; (replace H := Option.bind_eq_some_iff.mp H); (obtain ⟨t439, A160, H⟩ := H)
       try dsimp only at H
       (have A16 := Aside0.mk A160); clear A160
       by_cases c17 : x10_1.length < 17592186044416
       ·rw [if_pos c17] at H
        (have LMc17 := Aside0.mk c17); clear c17; (obtain ⟨y440, hy440⟩ : ∃ y_ : List Int, y_ = (x10_1 ++ [t439]) := ⟨_, rfl⟩); (replace H : (impl_sessLeaves.l0 k1 l1 l2 t432 t435 y440 ji7 (wrap64 (x27_1 + 1)) a0_0 a0_1 a0_2 a0_3) = some (r1, r2) := qY hy440 H); (have Ny440 := Aside0.mk hy440); clear hy440; (have H' := Aside0.mk H); clear H
        try go_wp2
        (replace HO_8 := Aside0.mk (Kd.R_drew HO_8.out)); (replace HO_9 := Aside0.mk (Kd.R_drew HO_9.out)); (replace HO_10 := Aside0.mk (Kd.R_drew HO_10.out)); (replace BK431 := Aside0.mk (blk_drew BK431.out)); (replace HB := Aside0.mk (below_drew1 HB.out)); (have p438 : 0 ≤ ((ji13) : Int) := qO); (have q438 : (ji13) < (l2.length : Int) := qO); (obtain ⟨ad438, e438, hx438_0⟩ := Kd.at_int HR2.out (ji13) p438 q438); (have hw438_0 := hx438_0)
        cases e438
        (replace hx438_0 := (HB.out.cell (World.block_lt_of_cell? w _ hx438_0)).trans hx438_0); (replace p438 := eq_true p438); (replace q438 := eq_true q438)
        refine start_ (n := 13) (S := fun w' => w'.cell? ⟨gb431, 0, none⟩ = some (.int .i64 a0_0) ∧ w'.cell? ⟨gb431, 1, none⟩ = some (.int .i64 a0_1) ∧ w'.cell? ⟨gb431, 2, none⟩ = some (.int .i64 a0_2) ∧ w'.cell? ⟨gb431, 3, none⟩ = some (.int .i64 a0_3) ∧ w'.cell? (ad438.add ((ji13)).toNat) = some (.int .i64 (rd l2 (ji13)))) (ds := []) #[false, false, false, false, false, false, false, false, false, false, false, false, false] (by kernel_rfl) rfl rfl ⟨(blk_cell BK431.out 0).trans rfl, (blk_cell BK431.out 1).trans rfl, (blk_cell BK431.out 2).trans rfl, (blk_cell BK431.out 3).trans rfl, ((HB.out.cell (World.block_lt_of_cell? w _ hw438_0)).trans hw438_0)⟩ (fun hHeld => ?_); refine with_tabW impl_sessLeaves.tab6 impl_sessLeaves.bits6 (fun HT_ HW_ => ?_)
        generalize wr.drew = w18 at HO_8 HO_9 HO_10 BK431 HB hx438_0 hHeld ⊢
        refine pure_ (i := 0) (N := some 30) (v := ?_) (a' := ?_) #[true, false, false, false, false, false, false, false, false, false, false, false, false] rfl rfl (any_of HT_.out (by kernel_rfl)) (fun _ _ _ h => h) (Or.inl ⟨by rfl, ?_⟩) ?_ ?_
        rotate_left
        ·intro w'
         go_simp
         with_reducible rfl
        rotate_left
        ·simp only [Act.put, List.setIfInBounds_toArray, List.set_cons_zero, List.set_cons_succ, i64_w, i32_w]
         rfl
        refine pure_ (i := 1) (N := some 31) (v := ?_) (a' := ?_) #[true, true, false, false, false, false, false, false, false, false, false, false, false] rfl rfl (any_of HT_.out (by kernel_rfl)) (fun _ _ _ h => h) (Or.inl ⟨by rfl, ?_⟩) ?_ ?_
        rotate_left
        ·intro w'
         go_simp
         with_reducible rfl
        rotate_left
        ·simp only [Act.put, List.setIfInBounds_toArray, List.set_cons_zero, List.set_cons_succ, i64_w, i32_w]
         rfl
        refine pure_ (i := 2) (N := some 32) (v := ?_) (a' := ?_) #[true, true, true, false, false, false, false, false, false, false, false, false, false] rfl rfl (any_of HT_.out (by kernel_rfl)) (fun _ _ _ h => h) (Or.inl ⟨by rfl, ?_⟩) ?_ ?_
        rotate_left
        ·intro w'
         go_simp
         with_reducible rfl
        rotate_left
        ·simp only [Act.put, List.setIfInBounds_toArray, List.set_cons_zero, List.set_cons_succ, i64_w, i32_w]
         rfl
        refine pure_ (i := 3) (N := some 33) (v := ?_) (a' := ?_) #[true, true, true, true, false, false, false, false, false, false, false, false, false] rfl rfl (any_of HT_.out (by kernel_rfl)) (fun _ _ _ h => h) (Or.inl ⟨by rfl, ?_⟩) ?_ ?_
        rotate_left
        ·intro w'
         go_simp
         with_reducible rfl
        rotate_left
        ·simp only [Act.put, List.setIfInBounds_toArray, List.set_cons_zero, List.set_cons_succ, i64_w, i32_w]
         rfl
        refine pure_ (i := 4) (N := some 34) (v := ?_) (a' := ?_) #[true, true, true, true, true, false, false, false, false, false, false, false, false] rfl rfl (any_of HT_.out (by kernel_rfl)) (fun _ _ _ h => h) (Or.inl ⟨by rfl, ?_⟩) ?_ ?_
        rotate_left
        ·intro w'
         go_simp
         with_reducible rfl
        rotate_left
        ·simp only [Act.put, List.setIfInBounds_toArray, List.set_cons_zero, List.set_cons_succ, i64_w, i32_w]
         rfl
        refine pure_ (i := 6) (N := some 36) (v := ?_) (a' := ?_) #[true, true, true, true, true, false, true, false, false, false, false, false, false] rfl rfl (any_of HT_.out (by kernel_rfl)) (fun _ _ _ h => h) (Or.inl ⟨by rfl, ?_⟩) ?_ ?_
        rotate_left
        ·intro w'
         go_simp
         with_reducible rfl
        rotate_left
        ·simp only [Act.put, List.setIfInBounds_toArray, List.set_cons_zero, List.set_cons_succ, i64_w, i32_w]
         rfl
        refine take_ (i := 5) (N := some 35) (v := ?_) (a' := ?_) #[true, true, true, true, true, true, true, false, false, false, false, false, false] rfl rfl (take_ofW HT_.out HW_.out (by kernel_rfl)) (fun _ _ _ h => h) (Or.inl ⟨by rfl, ?_⟩) hHeld ?_ ?_
        rotate_left
        ·rintro w' ⟨s0, s1, s2, s3, s4⟩
         go_simp
         with_reducible rfl
        rotate_left
        ·simp only [Act.put, List.setIfInBounds_toArray, List.set_cons_zero, List.set_cons_succ, i64_w, i32_w]
         rfl
        refine take_ (i := 7) (N := some 37) (v := ?_) (a' := ?_) #[true, true, true, true, true, true, true, true, false, false, false, false, false] rfl rfl (take_ofW HT_.out HW_.out (by kernel_rfl)) (fun _ _ _ h => h) (Or.inl ⟨by rfl, ?_⟩) hHeld ?_ ?_
        rotate_left
        ·rintro w' ⟨s0, s1, s2, s3, s4⟩
         go_simp
         with_reducible rfl
        rotate_left
        ·simp only [Act.put, List.setIfInBounds_toArray, List.set_cons_zero, List.set_cons_succ, i64_w, i32_w]
         rfl
        refine pure_ (i := 8) (N := some 38) (v := ?_) (a' := ?_) #[true, true, true, true, true, true, true, true, true, false, false, false, false] rfl rfl (any_of HT_.out (by kernel_rfl)) (fun _ _ _ h => h) (Or.inl ⟨by rfl, ?_⟩) ?_ ?_
        rotate_left
        ·intro w'
         go_simp
         with_reducible rfl
        rotate_left
        ·simp only [Act.put, List.setIfInBounds_toArray, List.set_cons_zero, List.set_cons_succ, i64_w, i32_w]
         rfl
        refine one_ (i := 9) (N := some 39) #[true, true, true, true, true, true, true, true, true, true, false, false, false] rfl rfl (one_of HT_.out (by kernel_rfl)) (by decide) (fun K hK => ?_)
        refine goes_ Tryz.func70 (by kernel_rfl) rfl #[.int .i64 (rd l2 (ji13)), .int .i64 (wrap64 (a0_1 - 2))] (by rfl) rfl rfl (by (try simp only [List.map_toArray, List.map_cons, List.map_nil]); first | done | (simp only [hji13]; rfl) | rfl | (simp only [List.length_drop, List.length_take]; rfl)) ?_
        with_reducible refine (impl_LeafOf.calls (rd l2 (ji13)) (wrap64 (a0_1 - 2)) t439 _ A16.out).mono ?_
        rintro e w' ⟨rfl, ⟨nd, rfl⟩⟩
        refine ⟨_, rfl, ?_⟩
        refine hK.out _ _ ⟨(blk_cell BK431.out 0).trans rfl, (blk_cell BK431.out 1).trans rfl, (blk_cell BK431.out 2).trans rfl, (blk_cell BK431.out 3).trans rfl, ((HB.out.cell (World.block_lt_of_cell? w _ hw438_0)).trans hw438_0)⟩ (fun hHeld => ?_)
        clear hK K
        refine norm_ (a' := ?_) ?_ ?_
        rotate_left
        ·show Act.put _ (some 39) _ = _
         simp only [Act.put, List.setIfInBounds_toArray, List.set_cons_zero, List.set_cons_succ, i64_w, i32_w]
         rfl
        refine one_ (i := 10) (N := some 40) #[true, true, true, true, true, true, true, true, true, true, true, false, false] rfl rfl (one_of HT_.out (by kernel_rfl)) (by decide) (fun K hK => ?_)
        refine value_ (w1 := ?_) (v := ?_) (by rfl) rfl ?_ ?_
        rotate_left 2
        ·go_simp
         constructor
         ·rfl
         ·rfl
        refine hK.out _ _ ⟨(blk_cell (blk_alloc BK431.out _) 0).trans rfl, (blk_cell (blk_alloc BK431.out _) 1).trans rfl, (blk_cell (blk_alloc BK431.out _) 2).trans rfl, (blk_cell (blk_alloc BK431.out _) 3).trans rfl, (World.cell?_alloc_lt _ _ _ (World.block_lt_of_cell? _ _ (((HB.out.cell (World.block_lt_of_cell? w _ hw438_0)).trans hw438_0)))).trans (((HB.out.cell (World.block_lt_of_cell? w _ hw438_0)).trans hw438_0))⟩ (fun hHeld => ?_)
        clear hK K
        refine norm_ (a' := ?_) ?_ ?_
        rotate_left
        ·show Act.put _ (some 40) _ = _
         simp only [Act.put, List.setIfInBounds_toArray, List.set_cons_zero, List.set_cons_succ, i64_w, i32_w]
         rfl
        refine one_ (i := 11) (N := some 41) #[true, true, true, true, true, true, true, true, true, true, true, true, false] rfl rfl (one_of HT_.out (by kernel_rfl)) (by decide) (fun K hK => ?_)
        refine Kd.R_append_step (Kd.int .i64) (w0 := w) w.heap.size (by rfl) (.tmp 30) (.tmp 40) 25 3 (.int .i64 0) 8 rfl Tryz.underlying25 info3 rfl (by decide) (by omega) u10 x10_1 t439 [.int .i64 t439] (fun k_ => some k_ ≠ (v433 : Value).ownBlock ∧ some k_ ≠ (v436 : Value).ownBlock) (fun _ => False) rfl rfl ?aP (fun _ hk => hk.elim) ?aF ?aO ?aB ?aS ?aL ?_
        (case aP => exact rfl)
        (case aB => exact (qS1 HB GE431))
        (case aF => exact (fun k_ hk => ⟨Kd.fresh' (Kd.R_lt (qR HO_8)) k_ hk, Kd.fresh' (Kd.R_lt (qR HO_9)) k_ hk⟩))
        (case aO => exact (qR HO_10))
        (case aS => exact (below_size (qS1 HB GE431)))
        (case aL => have := LMc17.out; omega)
        intro v441 w19 ho hb hg hat
        (rw [← Ny440.out] at ho); (replace HO_8 := Aside0.mk (Kd.R_after (ok := (fun k_ => some k_ ≠ (v436 : Value).ownBlock)) (qR HO_8) hg hat)); (replace HO_9 := Aside0.mk (Kd.R_after (ok := (fun k_ => some k_ ≠ (v433 : Value).ownBlock)) (qR HO_9) hg hat)); (replace BK431 := Aside0.mk (blk_grown (qB BK431) hg (Kd.R_ne HO_10.out BK431.out (by decide)))); (replace HB := Aside0.mk (hb)); (have HO442 := Aside0.mk (ho)); clear HO_10 ho hb hg hat
        refine hK.out _ _ ⟨(blk_cell BK431.out 0).trans rfl, (blk_cell BK431.out 1).trans rfl, (blk_cell BK431.out 2).trans rfl, (blk_cell BK431.out 3).trans rfl, ((HB.out.cell (World.block_lt_of_cell? w _ hw438_0)).trans hw438_0)⟩ (fun hHeld => ?_)
        clear hK K
        refine norm_ (a' := ?_) ?_ ?_
        rotate_left
        ·show Act.put _ (some 41) _ = _
         simp only [Act.put, List.setIfInBounds_toArray, List.set_cons_zero, List.set_cons_succ, i64_w, i32_w]
         rfl
        refine pure_ (i := 12) (N := some 10) (v := ?_) (a' := ?_) #[true, true, true, true, true, true, true, true, true, true, true, true, true] rfl rfl (any_of HT_.out (by kernel_rfl)) (fun _ _ _ h => h) (Or.inl ⟨by rfl, ?_⟩) ?_ ?_
        rotate_left
        ·intro w'
         go_simp
         with_reducible rfl
        rotate_left
        ·simp only [Act.put, List.setIfInBounds_toArray, List.set_cons_zero, List.set_cons_succ, i64_w, i32_w]
         rfl
        refine done_ (done_of HT_.out (by kernel_rfl)) ?_
        try go_wp2
        go_roundg k1
        case measure => have := HK1.out; omega
        case rel => exact ⟨(y440), (wrap64 (x27_1 + 1)), qV, H', ⟨by have := HK1.out; omega⟩, ⟨qR HO_8⟩, ⟨qR HO_9⟩, ⟨qR HO442⟩, ⟨qB BK431⟩, ⟨qS1 HB GE431⟩⟩
       ·rw [if_neg c17] at H
        exact absurd H (by simp)
      ·rw [if_neg c15] at H
       exact absurd H (by simp)
     ·rw [if_neg c14] at H
      exact absurd H (by simp)
    ·rw [if_neg c12] at H
     (have c12b0 : decide (x27_1 < ji7) = false := decide_eq_false c12); clear c12; (obtain ⟨ji20, hji20⟩ : ∃ j_ : Int, (wrap64 (a0_1 - 2)) = j_ := ⟨_, rfl⟩); (replace H : (if 0 ≤ (ji20) then ((impl_smallIds.f k1 l1).bind fun t443 => ((impl_drawsAt.f k1 l2 t432).bind fun t446 => ((impl_PathSeq.f k1 (shl .i64 1 (ji20)) (ji20) t443 t446).bind fun bt449 => (if 0 ≤ a0_1 then ((impl_drawsAt.f k1 l2 t435).bind fun t453 => ((impl_PathSeq.f k1 (shl .i64 1 a0_1) a0_1 l1 t453).bind fun bt456 => (if x10_1.length + bt449.1.length < 17592186044416 then (some ((x10_1 ++ bt449.1), bt456.1)) else (none)))) else (none))))) else (none)) = some (r1, r2) := by first | (rw [hji20] at H; exact H) | (simp only [hji20] at H ⊢; exact H)); (have hji20w : (IntKind.i64.wrap (a0_1 - 2)) = ji20 := (i64_w _).trans hji20)
     by_cases c21 : 0 ≤ (ji20)
     ·rw [if_pos c21] at H
      (have c21b0 := eq_true c21); (have c21b1 : decide (0 ≤ (ji20)) = true := decide_eq_true c21); clear c21; (obtain ⟨ji22, hji22⟩ : ∃ j_ : Int, (shl .i64 1 (ji20)) = j_ := ⟨_, rfl⟩); (replace H : ((impl_smallIds.f k1 l1).bind fun t443 => ((impl_drawsAt.f k1 l2 t432).bind fun t446 => ((impl_PathSeq.f k1 (ji22) (ji20) t443 t446).bind fun bt449 => (if 0 ≤ a0_1 then ((impl_drawsAt.f k1 l2 t435).bind fun t453 => ((impl_PathSeq.f k1 (shl .i64 1 a0_1) a0_1 l1 t453).bind fun bt456 => (if x10_1.length + bt449.1.length < 17592186044416 then (some ((x10_1 ++ bt449.1), bt456.1)) else (none)))) else (none))))) = some (r1, r2) := by first | (rw [hji22] at H; exact H) | (simp only [hji22] at H ⊢; exact H)); (have hji22_ : (IntKind.i64.wrap (1 * 2 ^ min (ji20).toNat 64)) = ji22 := hji22); (have hji22z : (ji20) ≤ 64 → (IntKind.i64.wrap (1 * 2 ^ (ji20).toNat)) = ji22 := shl_small hji22); (have hji22u : (IntKind.i64.wrap (2 ^ min (ji20).toNat 64)) = ji22 := by have h_ := hji22_; rw [Int.one_mul] at h_; exact h_); (have hji22v : (ji20) ≤ 64 → (IntKind.i64.wrap (2 ^ (ji20).toNat)) = ji22 := fun hle_ => by have h_ := hji22z hle_; rw [Int.one_mul] at h_; exact h_); (have hji22y : (wrap64 (1 * 2 ^ min (ji20).toNat 64)) = ji22 := (i64_w _).symm.trans hji22_); (have hji22x : (ji20) ≤ 64 → (wrap64 (1 * 2 ^ (ji20).toNat)) = ji22 := fun h_ => (i64_w _).symm.trans (hji22z h_)); (replace H := Option.bind_eq_some_iff.mp H); (obtain ⟨t443, A230, H⟩ := H)
      try dsimp only at H
      (have A23 := Aside0.mk A230); clear A230; (replace H := Option.bind_eq_some_iff.mp H); (obtain ⟨t446, A240, H⟩ := H)
      try dsimp only at H
      (have A24 := Aside0.mk A240); clear A240; (replace H := Option.bind_eq_some_iff.mp H); (obtain ⟨⟨t449, t450⟩, A250, H⟩ := H)
      try dsimp only at H
      (have A25 := Aside0.mk A250); clear A250
      by_cases c26 : 0 ≤ a0_1
      ·rw [if_pos c26] at H
       (have c26b0 := eq_true c26); (have c26b1 : decide (0 ≤ a0_1) = true := decide_eq_true c26); clear c26; (obtain ⟨ji27, hji27⟩ : ∃ j_ : Int, (shl .i64 1 a0_1) = j_ := ⟨_, rfl⟩); (replace H : ((impl_drawsAt.f k1 l2 t435).bind fun t453 => ((impl_PathSeq.f k1 (ji27) a0_1 l1 t453).bind fun bt456 => (if x10_1.length + t449.length < 17592186044416 then (some ((x10_1 ++ t449), bt456.1)) else (none)))) = some (r1, r2) := by first | (rw [hji27] at H; exact H) | (simp only [hji27] at H ⊢; exact H)); (try rw [hji27] at A23); (try rw [hji27] at A24); (try rw [hji27] at A25); (have hji27_ : (IntKind.i64.wrap (1 * 2 ^ min a0_1.toNat 64)) = ji27 := hji27); (have hji27z : a0_1 ≤ 64 → (IntKind.i64.wrap (1 * 2 ^ a0_1.toNat)) = ji27 := shl_small hji27); (have hji27u : (IntKind.i64.wrap (2 ^ min a0_1.toNat 64)) = ji27 := by have h_ := hji27_; rw [Int.one_mul] at h_; exact h_); (have hji27v : a0_1 ≤ 64 → (IntKind.i64.wrap (2 ^ a0_1.toNat)) = ji27 := fun hle_ => by have h_ := hji27z hle_; rw [Int.one_mul] at h_; exact h_); (have hji27y : (wrap64 (1 * 2 ^ min a0_1.toNat 64)) = ji27 := (i64_w _).symm.trans hji27_); (have hji27x : a0_1 ≤ 64 → (wrap64 (1 * 2 ^ a0_1.toNat)) = ji27 := fun h_ => (i64_w _).symm.trans (hji27z h_)); (replace H := Option.bind_eq_some_iff.mp H); (obtain ⟨t453, A280, H⟩ := H)
       try dsimp only at H
       (have A28 := Aside0.mk A280); clear A280; (replace H := Option.bind_eq_some_iff.mp H); (obtain ⟨⟨t456, t457⟩, A290, H⟩ := H)
       try dsimp only at H
       (have A29 := Aside0.mk A290); clear A290
       by_cases c30 : x10_1.length + t449.length < 17592186044416
       ·rw [if_pos c30] at H
        (have LMc30 := Aside0.mk c30); clear c30; (obtain ⟨y460, hy460⟩ : ∃ y_ : List Int, y_ = (x10_1 ++ t449) := ⟨_, rfl⟩); (replace H : (some (y460, t456)) = some (r1, r2) := qY hy460 H); (have Ny460 := Aside0.mk hy460); clear hy460; (simp only [Option.some.injEq, Prod.mk.injEq] at H); (obtain ⟨rfl, rfl⟩ := H)
        try go_wp2
        (replace HO_8 := Aside0.mk (Kd.R_drew HO_8.out)); (replace HO_9 := Aside0.mk (Kd.R_drew HO_9.out)); (replace HO_10 := Aside0.mk (Kd.R_drew HO_10.out)); (replace BK431 := Aside0.mk (blk_drew BK431.out)); (replace HB := Aside0.mk (below_drew1 HB.out))
        refine start_ (n := 18) (S := fun w' => w'.cell? ⟨gb431, 0, none⟩ = some (.int .i64 a0_0) ∧ w'.cell? ⟨gb431, 1, none⟩ = some (.int .i64 a0_1) ∧ w'.cell? ⟨gb431, 2, none⟩ = some (.int .i64 a0_2) ∧ w'.cell? ⟨gb431, 3, none⟩ = some (.int .i64 a0_3)) (ds := []) #[false, false, false, false, false, false, false, false, false, false, false, false, false, false, false, false, false, false] (by kernel_rfl) rfl rfl ⟨(blk_cell BK431.out 0).trans rfl, (blk_cell BK431.out 1).trans rfl, (blk_cell BK431.out 2).trans rfl, (blk_cell BK431.out 3).trans rfl⟩ (fun hHeld => ?_); refine with_tabW impl_sessLeaves.tab8 impl_sessLeaves.bits8 (fun HT_ HW_ => ?_)
        generalize wr.drew = w31 at HO_8 HO_9 HO_10 BK431 HB hHeld ⊢
        refine pure_ (i := 0) (N := some 44) (v := ?_) (a' := ?_) #[true, false, false, false, false, false, false, false, false, false, false, false, false, false, false, false, false, false] rfl rfl (any_of HT_.out (by kernel_rfl)) (fun _ _ _ h => h) (Or.inl ⟨by rfl, ?_⟩) ?_ ?_
        rotate_left
        ·intro w'
         go_simp
         with_reducible rfl
        rotate_left
        ·simp only [Act.put, List.setIfInBounds_toArray, List.set_cons_zero, List.set_cons_succ, i64_w, i32_w]
         rfl
        refine pure_ (i := 4) (N := some 48) (v := ?_) (a' := ?_) #[true, false, false, false, true, false, false, false, false, false, false, false, false, false, false, false, false, false] rfl rfl (any_of HT_.out (by kernel_rfl)) (fun _ _ _ h => h) (Or.inl ⟨by rfl, ?_⟩) ?_ ?_
        rotate_left
        ·intro w'
         go_simp
         with_reducible rfl
        rotate_left
        ·simp only [Act.put, List.setIfInBounds_toArray, List.set_cons_zero, List.set_cons_succ, i64_w, i32_w]
         rfl
        refine pure_ (i := 7) (N := some 51) (v := ?_) (a' := ?_) #[true, false, false, false, true, false, false, true, false, false, false, false, false, false, false, false, false, false] rfl rfl (any_of HT_.out (by kernel_rfl)) (fun _ _ _ h => h) (Or.inl ⟨by rfl, ?_⟩) ?_ ?_
        rotate_left
        ·intro w'
         go_simp
         with_reducible rfl
        rotate_left
        ·simp only [Act.put, List.setIfInBounds_toArray, List.set_cons_zero, List.set_cons_succ, i64_w, i32_w]
         rfl
        refine pure_ (i := 9) (N := some 53) (v := ?_) (a' := ?_) #[true, false, false, false, true, false, false, true, false, true, false, false, false, false, false, false, false, false] rfl rfl (any_of HT_.out (by kernel_rfl)) (fun _ _ _ h => h) (Or.inl ⟨by rfl, ?_⟩) ?_ ?_
        rotate_left
        ·intro w'
         go_simp
         with_reducible rfl
        rotate_left
        ·simp only [Act.put, List.setIfInBounds_toArray, List.set_cons_zero, List.set_cons_succ, i64_w, i32_w]
         rfl
        refine pure_ (i := 10) (N := some 54) (v := ?_) (a' := ?_) #[true, false, false, false, true, false, false, true, false, true, true, false, false, false, false, false, false, false] rfl rfl (any_of HT_.out (by kernel_rfl)) (fun _ _ _ h => h) (Or.inl ⟨by rfl, ?_⟩) ?_ ?_
        rotate_left
        ·intro w'
         go_simp
         with_reducible rfl
        rotate_left
        ·simp only [Act.put, List.setIfInBounds_toArray, List.set_cons_zero, List.set_cons_succ, i64_w, i32_w]
         rfl
        refine take_ (i := 1) (N := some 45) (v := ?_) (a' := ?_) #[true, true, false, false, true, false, false, true, false, true, true, false, false, false, false, false, false, false] rfl rfl (take_ofW HT_.out HW_.out (by kernel_rfl)) (fun _ _ _ h => h) (Or.inl ⟨by rfl, ?_⟩) hHeld ?_ ?_
        rotate_left
        ·rintro w' ⟨s0, s1, s2, s3⟩
         go_simp
         with_reducible rfl
        rotate_left
        ·simp only [Act.put, List.setIfInBounds_toArray, List.set_cons_zero, List.set_cons_succ, i64_w, i32_w]
         rfl
        refine pure_ (i := 2) (N := some 46) (v := ?_) (a' := ?_) #[true, true, true, false, true, false, false, true, false, true, true, false, false, false, false, false, false, false] rfl rfl (any_of HT_.out (by kernel_rfl)) (fun _ _ _ h => h) (Or.inl ⟨by rfl, ?_⟩) ?_ ?_
        rotate_left
        ·intro w'
         go_simp
         with_reducible rfl
        rotate_left
        ·simp only [Act.put, List.setIfInBounds_toArray, List.set_cons_zero, List.set_cons_succ, i64_w, i32_w]
         rfl
        refine pure_ (i := 3) (N := some 47) (v := ?_) (a' := ?_) #[true, true, true, true, true, false, false, true, false, true, true, false, false, false, false, false, false, false] rfl rfl (any_of HT_.out (by kernel_rfl)) (fun _ _ _ h => h) (Or.inl ⟨by rfl, ?_⟩) ?_ ?_
        rotate_left
        ·intro w'
         go_simp
         with_reducible rfl
        rotate_left
        ·simp only [Act.put, List.setIfInBounds_toArray, List.set_cons_zero, List.set_cons_succ, i64_w, i32_w]
         rfl
        refine take_ (i := 5) (N := some 49) (v := ?_) (a' := ?_) #[true, true, true, true, true, true, false, true, false, true, true, false, false, false, false, false, false, false] rfl rfl (take_ofW HT_.out HW_.out (by kernel_rfl)) (fun _ _ _ h => h) (Or.inl ⟨by rfl, ?_⟩) hHeld ?_ ?_
        rotate_left
        ·rintro w' ⟨s0, s1, s2, s3⟩
         go_simp
         with_reducible rfl
        rotate_left
        ·simp only [Act.put, List.setIfInBounds_toArray, List.set_cons_zero, List.set_cons_succ, i64_w, i32_w]
         rfl
        refine pure_ (i := 6) (N := some 50) (v := ?_) (a' := ?_) #[true, true, true, true, true, true, true, true, false, true, true, false, false, false, false, false, false, false] rfl rfl (any_of HT_.out (by kernel_rfl)) (fun _ _ _ h => h) (Or.inl ⟨by rfl, ?_⟩) ?_ ?_
        rotate_left
        ·intro w'
         go_simp
         with_reducible rfl
        rotate_left
        ·simp only [Act.put, List.setIfInBounds_toArray, List.set_cons_zero, List.set_cons_succ, i64_w, i32_w]
         rfl
        refine one_ (i := 8) (N := some 52) #[true, true, true, true, true, true, true, true, true, true, true, false, false, false, false, false, false, false] rfl rfl (one_of HT_.out (by kernel_rfl)) (by decide) (fun K hK => ?_)
        refine goes_ Tryz.func72 (by kernel_rfl) rfl #[.slice A1 l1.length c1] (by rfl) rfl rfl qL ?_
        with_reducible refine (impl_smallIds.calls k1 _ _ l1 t443 _ ?side1 ?side2 A23.out).mono ?_
        (case side1 => repeat (first | exact (Kd.C_below HR1.out HB.out) | (with_reducible refine Kd.C_alloc ?_ _) | (with_reducible refine Kd.C_drewN ?_ _) | (with_reducible refine Kd.C_drew ?_)))
        (case side2 => exact HC1.out)
        rintro e w32 ⟨v444, rfl, ho0, hb⟩
        refine ⟨_, rfl, ?_⟩
        (have HO445 := Aside0.mk (Kd.R_lower (Kd.R_new' (Kd.R_new' (Kd.R_new' ho0 (Kd.R_lt (qR HO_8))) (Kd.R_lt (qR HO_9))) (Kd.R_lt (qR HO_10))) (below_size (qS1 HB GE431)))); (replace HO_8 := Aside0.mk (Kd.R_elder' (qR HO_8) (Kd.R_base ho0) hb)); (replace HO_9 := Aside0.mk (Kd.R_elder' (qR HO_9) (Kd.R_base ho0) hb)); (replace HO_10 := Aside0.mk (Kd.R_elder' (qR HO_10) (Kd.R_base ho0) hb)); (replace BK431 := qD BK431 hb); (replace HB := Aside0.mk (below_step (qS1 HB GE431) hb)); (try clear hb); (try clear hb2); (try clear hk); (try clear hi); (try clear ho0); (obtain ⟨Ao33, co33, eo33⟩ := Kd.R_slice HO_8.out)
        (first | subst eo33 | (injection eo33 with f1_ f2_ f3_; have f4_ := f1_.symm; have f5_ := f3_.symm; clear f1_ f2_ f3_; subst f4_; subst f5_))
        refine hK.out _ _ ⟨(blk_cell BK431.out 0).trans rfl, (blk_cell BK431.out 1).trans rfl, (blk_cell BK431.out 2).trans rfl, (blk_cell BK431.out 3).trans rfl⟩ (fun hHeld => ?_)
        clear hK K
        refine norm_ (a' := ?_) ?_ ?_
        rotate_left
        ·show Act.put _ (some 52) _ = _
         simp only [Act.put, List.setIfInBounds_toArray, List.set_cons_zero, List.set_cons_succ, i64_w, i32_w]
         rfl
        refine one_ (i := 11) (N := some 55) #[true, true, true, true, true, true, true, true, true, true, true, true, false, false, false, false, false, false] rfl rfl (one_of HT_.out (by kernel_rfl)) (by decide) (fun K hK => ?_)
        refine goes_ Tryz.func73 (by kernel_rfl) rfl #[.slice A2 l2.length c2, .slice Ao33 t432.length co33] (by rfl) rfl rfl qL ?_
        with_reducible refine (impl_drawsAt.calls k1 _ _ l2 _ _ t432 t446 _ ?side1 ?side2 ?side3 ?side4 A24.out).mono ?_
        (case side1 => repeat (first | exact (Kd.C_below HR2.out HB.out) | (with_reducible refine Kd.C_alloc ?_ _) | (with_reducible refine Kd.C_drewN ?_ _) | (with_reducible refine Kd.C_drew ?_)))
        (case side2 => exact HC2.out)
        (case side3 => repeat (first | exact (Kd.R_reads' HO_8.out).2.2 | (with_reducible refine Kd.C_alloc ?_ _) | (with_reducible refine Kd.C_drewN ?_ _) | (with_reducible refine Kd.C_drew ?_)))
        (case side4 => exact (Kd.R_reads' HO_8.out).2.1)
        rintro e w34 ⟨v447, rfl, ho0, hb⟩
        refine ⟨_, rfl, ?_⟩
        (have HO448 := Aside0.mk (Kd.R_lower (Kd.R_new' (Kd.R_new' (Kd.R_new' (Kd.R_new' ho0 (Kd.R_lt (qR HO_8))) (Kd.R_lt (qR HO_9))) (Kd.R_lt (qR HO_10))) (Kd.R_lt (qR HO445))) (below_size (qS1 HB GE431)))); (replace HO_8 := Aside0.mk (Kd.R_elder' (qR HO_8) (Kd.R_base ho0) hb)); (replace HO_9 := Aside0.mk (Kd.R_elder' (qR HO_9) (Kd.R_base ho0) hb)); (replace HO_10 := Aside0.mk (Kd.R_elder' (qR HO_10) (Kd.R_base ho0) hb)); (replace HO445 := Aside0.mk (Kd.R_elder' (qR HO445) (Kd.R_base ho0) hb)); (replace BK431 := qD BK431 hb); (replace HB := Aside0.mk (below_step (qS1 HB GE431) hb)); (try clear hb); (try clear hb2); (try clear hk); (try clear hi); (try clear ho0); (obtain ⟨Ao35, co35, eo35⟩ := Kd.R_slice HO445.out)
        (first | subst eo35 | (injection eo35 with f1_ f2_ f3_; have f4_ := f1_.symm; have f5_ := f3_.symm; clear f1_ f2_ f3_; subst f4_; subst f5_))
        obtain ⟨Ao36, co36, eo36⟩ := Kd.R_slice HO448.out
        (first | subst eo36 | (injection eo36 with f1_ f2_ f3_; have f4_ := f1_.symm; have f5_ := f3_.symm; clear f1_ f2_ f3_; subst f4_; subst f5_))
        refine hK.out _ _ ⟨(blk_cell BK431.out 0).trans rfl, (blk_cell BK431.out 1).trans rfl, (blk_cell BK431.out 2).trans rfl, (blk_cell BK431.out 3).trans rfl⟩ (fun hHeld => ?_)
        clear hK K
        refine norm_ (a' := ?_) ?_ ?_
        rotate_left
        ·show Act.put _ (some 55) _ = _
         simp only [Act.put, List.setIfInBounds_toArray, List.set_cons_zero, List.set_cons_succ, i64_w, i32_w]
         rfl
        refine one_ (i := 12) (N := some 56) #[true, true, true, true, true, true, true, true, true, true, true, true, true, false, false, false, false, false] rfl rfl (one_of HT_.out (by kernel_rfl)) (by decide) (fun K hK => ?_)
        refine goes_ Tryz.func71 (by kernel_rfl) rfl #[.int .i64 ji22, .int .i64 ji20, .slice Ao35 t443.length co35, .slice Ao36 t446.length co36] (by rfl) rfl rfl (by (try simp only [List.map_toArray, List.map_cons, List.map_nil]); first | done | (simp only [hji20, hji22]; rfl) | rfl | (simp only [List.length_drop, List.length_take]; rfl)) ?_
        with_reducible refine (impl_PathSeq.calls k1 ji22 ji20 _ _ t443 _ _ t446 t449 t450 _ ?side1 ?side2 ?side3 ?side4 A25.out).mono ?_
        (case side1 => repeat (first | exact (Kd.R_reads' HO445.out).2.2 | (with_reducible refine Kd.C_alloc ?_ _) | (with_reducible refine Kd.C_drewN ?_ _) | (with_reducible refine Kd.C_drew ?_)))
        (case side2 => exact (Kd.R_reads' HO445.out).2.1)
        (case side3 => repeat (first | exact (Kd.R_reads' HO448.out).2.2 | (with_reducible refine Kd.C_alloc ?_ _) | (with_reducible refine Kd.C_drewN ?_ _) | (with_reducible refine Kd.C_drew ?_)))
        (case side4 => exact (Kd.R_reads' HO448.out).2.1)
        rintro e w37 ⟨v451, rfl, ho0, hb⟩
        refine ⟨_, rfl, ?_⟩
        (have HO452 := Aside0.mk (Kd.R_lower (Kd.R_new' (Kd.R_new' (Kd.R_new' (Kd.R_new' (Kd.R_new' ho0 (Kd.R_lt (qR HO_8))) (Kd.R_lt (qR HO_9))) (Kd.R_lt (qR HO_10))) (Kd.R_lt (qR HO445))) (Kd.R_lt (qR HO448))) (below_size (qS1 HB GE431)))); (replace HO_8 := Aside0.mk (Kd.R_elder' (qR HO_8) (Kd.R_base ho0) hb)); (replace HO_9 := Aside0.mk (Kd.R_elder' (qR HO_9) (Kd.R_base ho0) hb)); (replace HO_10 := Aside0.mk (Kd.R_elder' (qR HO_10) (Kd.R_base ho0) hb)); (replace HO445 := Aside0.mk (Kd.R_elder' (qR HO445) (Kd.R_base ho0) hb)); (replace HO448 := Aside0.mk (Kd.R_elder' (qR HO448) (Kd.R_base ho0) hb)); (replace BK431 := qD BK431 hb); (replace HB := Aside0.mk (below_step (qS1 HB GE431) hb)); (try clear hb); (try clear hb2); (try clear hk); (try clear hi); (try clear ho0)
        refine hK.out _ _ ⟨(blk_cell BK431.out 0).trans rfl, (blk_cell BK431.out 1).trans rfl, (blk_cell BK431.out 2).trans rfl, (blk_cell BK431.out 3).trans rfl⟩ (fun hHeld => ?_)
        clear hK K
        refine norm_ (a' := ?_) ?_ ?_
        rotate_left
        ·show Act.put _ (some 56) _ = _
         simp only [Act.put, List.setIfInBounds_toArray, List.set_cons_zero, List.set_cons_succ, i64_w, i32_w]
         rfl
        refine pure_ (i := 13) (N := some 43) (v := ?_) (a' := ?_) #[true, true, true, true, true, true, true, true, true, true, true, true, true, true, false, false, false, false] rfl rfl (any_of HT_.out (by kernel_rfl)) (fun _ _ _ h => h) (Or.inl ⟨by rfl, ?_⟩) ?_ ?_
        rotate_left
        ·intro w'
         go_simp
         with_reducible rfl
        rotate_left
        ·simp only [Act.put, List.setIfInBounds_toArray, List.set_cons_zero, List.set_cons_succ, i64_w, i32_w]
         rfl
        refine pure_ (i := 14) (N := some 57) (v := ?_) (a' := ?_) #[true, true, true, true, true, true, true, true, true, true, true, true, true, true, true, false, false, false] rfl rfl (any_of HT_.out (by kernel_rfl)) (fun _ _ _ h => h) (Or.inl ⟨by rfl, ?_⟩) ?_ ?_
        rotate_left
        ·intro w'
         go_simp
         with_reducible rfl
        rotate_left
        ·simp only [Act.put, List.setIfInBounds_toArray, List.set_cons_zero, List.set_cons_succ, i64_w, i32_w]
         rfl
        refine pure_ (i := 15) (N := some 58) (v := ?_) (a' := ?_) #[true, true, true, true, true, true, true, true, true, true, true, true, true, true, true, true, false, false] rfl rfl (any_of HT_.out (by kernel_rfl)) (fun _ _ _ h => h) (Or.inl ⟨by rfl, ?_⟩) ?_ ?_
        rotate_left
        ·intro w'
         go_simp
         with_reducible rfl
        rotate_left
        ·simp only [Act.put, List.setIfInBounds_toArray, List.set_cons_zero, List.set_cons_succ, i64_w, i32_w]
         rfl
        refine pure_ (i := 16) (N := some 12) (v := ?_) (a' := ?_) #[true, true, true, true, true, true, true, true, true, true, true, true, true, true, true, true, true, false] rfl rfl (any_of HT_.out (by kernel_rfl)) (fun _ _ _ h => h) (Or.inl ⟨by rfl, ?_⟩) ?_ ?_
        rotate_left
        ·intro w'
         go_simp
         with_reducible rfl
        rotate_left
        ·simp only [Act.put, List.setIfInBounds_toArray, List.set_cons_zero, List.set_cons_succ, i64_w, i32_w]
         rfl
        refine pure_ (i := 17) (N := some 13) (v := ?_) (a' := ?_) #[true, true, true, true, true, true, true, true, true, true, true, true, true, true, true, true, true, true] rfl rfl (any_of HT_.out (by kernel_rfl)) (fun _ _ _ h => h) (Or.inl ⟨by rfl, ?_⟩) ?_ ?_
        rotate_left
        ·intro w'
         go_simp
         with_reducible rfl
        rotate_left
        ·simp only [Act.put, List.setIfInBounds_toArray, List.set_cons_zero, List.set_cons_succ, i64_w, i32_w]
         rfl
        refine done_ (done_of HT_.out (by kernel_rfl)) ?_
        try go_wp2
        (replace HO_8 := Aside0.mk (Kd.R_drew HO_8.out)); (replace HO_9 := Aside0.mk (Kd.R_drew HO_9.out)); (replace HO_10 := Aside0.mk (Kd.R_drew HO_10.out)); (replace HO445 := Aside0.mk (Kd.R_drew HO445.out)); (replace HO448 := Aside0.mk (Kd.R_drew HO448.out)); (replace HO452 := Aside0.mk (Kd.R_drew HO452.out)); (replace BK431 := Aside0.mk (blk_drew BK431.out)); (replace HB := Aside0.mk (below_drew1 HB.out)); (obtain ⟨Ao39, co39, eo39⟩ := Kd.R_slice HO_9.out)
        (first | subst eo39 | (injection eo39 with f1_ f2_ f3_; have f4_ := f1_.symm; have f5_ := f3_.symm; clear f1_ f2_ f3_; subst f4_; subst f5_))
        refine start_ (n := 15) (S := fun w' => w'.cell? ⟨gb431, 0, none⟩ = some (.int .i64 a0_0) ∧ w'.cell? ⟨gb431, 1, none⟩ = some (.int .i64 a0_1) ∧ w'.cell? ⟨gb431, 2, none⟩ = some (.int .i64 a0_2) ∧ w'.cell? ⟨gb431, 3, none⟩ = some (.int .i64 a0_3)) (ds := []) #[false, false, false, false, false, false, false, false, false, false, false, false, false, false, false] (by kernel_rfl) rfl rfl ⟨(blk_cell BK431.out 0).trans rfl, (blk_cell BK431.out 1).trans rfl, (blk_cell BK431.out 2).trans rfl, (blk_cell BK431.out 3).trans rfl⟩ (fun hHeld => ?_); refine with_tabW impl_sessLeaves.tab9 impl_sessLeaves.bits9 (fun HT_ HW_ => ?_)
        generalize w37.drew = w38 at HO_8 HO_9 HO_10 HO445 HO448 HO452 BK431 HB hHeld ⊢
        refine pure_ (i := 0) (N := some 60) (v := ?_) (a' := ?_) #[true, false, false, false, false, false, false, false, false, false, false, false, false, false, false] rfl rfl (any_of HT_.out (by kernel_rfl)) (fun _ _ _ h => h) (Or.inl ⟨by rfl, ?_⟩) ?_ ?_
        rotate_left
        ·intro w'
         go_simp
         with_reducible rfl
        rotate_left
        ·simp only [Act.put, List.setIfInBounds_toArray, List.set_cons_zero, List.set_cons_succ, i64_w, i32_w]
         rfl
        refine pure_ (i := 3) (N := some 63) (v := ?_) (a' := ?_) #[true, false, false, true, false, false, false, false, false, false, false, false, false, false, false] rfl rfl (any_of HT_.out (by kernel_rfl)) (fun _ _ _ h => h) (Or.inl ⟨by rfl, ?_⟩) ?_ ?_
        rotate_left
        ·intro w'
         go_simp
         with_reducible rfl
        rotate_left
        ·simp only [Act.put, List.setIfInBounds_toArray, List.set_cons_zero, List.set_cons_succ, i64_w, i32_w]
         rfl
        refine pure_ (i := 5) (N := some 65) (v := ?_) (a' := ?_) #[true, false, false, true, false, true, false, false, false, false, false, false, false, false, false] rfl rfl (any_of HT_.out (by kernel_rfl)) (fun _ _ _ h => h) (Or.inl ⟨by rfl, ?_⟩) ?_ ?_
        rotate_left
        ·intro w'
         go_simp
         with_reducible rfl
        rotate_left
        ·simp only [Act.put, List.setIfInBounds_toArray, List.set_cons_zero, List.set_cons_succ, i64_w, i32_w]
         rfl
        refine pure_ (i := 6) (N := some 66) (v := ?_) (a' := ?_) #[true, false, false, true, false, true, true, false, false, false, false, false, false, false, false] rfl rfl (any_of HT_.out (by kernel_rfl)) (fun _ _ _ h => h) (Or.inl ⟨by rfl, ?_⟩) ?_ ?_
        rotate_left
        ·intro w'
         go_simp
         with_reducible rfl
        rotate_left
        ·simp only [Act.put, List.setIfInBounds_toArray, List.set_cons_zero, List.set_cons_succ, i64_w, i32_w]
         rfl
        refine pure_ (i := 7) (N := some 67) (v := ?_) (a' := ?_) #[true, false, false, true, false, true, true, true, false, false, false, false, false, false, false] rfl rfl (any_of HT_.out (by kernel_rfl)) (fun _ _ _ h => h) (Or.inl ⟨by rfl, ?_⟩) ?_ ?_
        rotate_left
        ·intro w'
         go_simp
         with_reducible rfl
        rotate_left
        ·simp only [Act.put, List.setIfInBounds_toArray, List.set_cons_zero, List.set_cons_succ, i64_w, i32_w]
         rfl
        refine take_ (i := 1) (N := some 61) (v := ?_) (a' := ?_) #[true, true, false, true, false, true, true, true, false, false, false, false, false, false, false] rfl rfl (take_ofW HT_.out HW_.out (by kernel_rfl)) (fun _ _ _ h => h) (Or.inl ⟨by rfl, ?_⟩) hHeld ?_ ?_
        rotate_left
        ·rintro w' ⟨s0, s1, s2, s3⟩
         go_simp
         with_reducible rfl
        rotate_left
        ·simp only [Act.put, List.setIfInBounds_toArray, List.set_cons_zero, List.set_cons_succ, i64_w, i32_w]
         rfl
        refine pure_ (i := 2) (N := some 62) (v := ?_) (a' := ?_) #[true, true, true, true, false, true, true, true, false, false, false, false, false, false, false] rfl rfl (any_of HT_.out (by kernel_rfl)) (fun _ _ _ h => h) (Or.inl ⟨by rfl, ?_⟩) ?_ ?_
        rotate_left
        ·intro w'
         go_simp
         with_reducible rfl
        rotate_left
        ·simp only [Act.put, List.setIfInBounds_toArray, List.set_cons_zero, List.set_cons_succ, i64_w, i32_w]
         rfl
        refine take_ (i := 4) (N := some 64) (v := ?_) (a' := ?_) #[true, true, true, true, true, true, true, true, false, false, false, false, false, false, false] rfl rfl (take_ofW HT_.out HW_.out (by kernel_rfl)) (fun _ _ _ h => h) (Or.inl ⟨by rfl, ?_⟩) hHeld ?_ ?_
        rotate_left
        ·rintro w' ⟨s0, s1, s2, s3⟩
         go_simp
         with_reducible rfl
        rotate_left
        ·simp only [Act.put, List.setIfInBounds_toArray, List.set_cons_zero, List.set_cons_succ, i64_w, i32_w]
         rfl
        refine one_ (i := 8) (N := some 68) #[true, true, true, true, true, true, true, true, true, false, false, false, false, false, false] rfl rfl (one_of HT_.out (by kernel_rfl)) (by decide) (fun K hK => ?_)
        refine goes_ Tryz.func73 (by kernel_rfl) rfl #[.slice A2 l2.length c2, .slice Ao39 t435.length co39] (by rfl) rfl rfl qL ?_
        with_reducible refine (impl_drawsAt.calls k1 _ _ l2 _ _ t435 t453 _ ?side1 ?side2 ?side3 ?side4 A28.out).mono ?_
        (case side1 => repeat (first | exact (Kd.C_below HR2.out HB.out) | (with_reducible refine Kd.C_alloc ?_ _) | (with_reducible refine Kd.C_drewN ?_ _) | (with_reducible refine Kd.C_drew ?_)))
        (case side2 => exact HC2.out)
        (case side3 => repeat (first | exact (Kd.R_reads' HO_9.out).2.2 | (with_reducible refine Kd.C_alloc ?_ _) | (with_reducible refine Kd.C_drewN ?_ _) | (with_reducible refine Kd.C_drew ?_)))
        (case side4 => exact (Kd.R_reads' HO_9.out).2.1)
        rintro e w40 ⟨v454, rfl, ho0, hb⟩
        refine ⟨_, rfl, ?_⟩
        (have HO455 := Aside0.mk (Kd.R_lower (Kd.R_new' (Kd.R_new' (Kd.R_new' (Kd.R_new' (Kd.R_new' (Kd.R_new' ho0 (Kd.R_lt (qR HO_8))) (Kd.R_lt (qR HO_9))) (Kd.R_lt (qR HO_10))) (Kd.R_lt (qR HO445))) (Kd.R_lt (qR HO448))) (Kd.R_lt (qR HO452))) (below_size (qS1 HB GE431)))); (replace HO_8 := Aside0.mk (Kd.R_elder' (qR HO_8) (Kd.R_base ho0) hb)); (replace HO_9 := Aside0.mk (Kd.R_elder' (qR HO_9) (Kd.R_base ho0) hb)); (replace HO_10 := Aside0.mk (Kd.R_elder' (qR HO_10) (Kd.R_base ho0) hb)); (replace HO445 := Aside0.mk (Kd.R_elder' (qR HO445) (Kd.R_base ho0) hb)); (replace HO448 := Aside0.mk (Kd.R_elder' (qR HO448) (Kd.R_base ho0) hb)); (replace HO452 := Aside0.mk (Kd.R_elder' (qR HO452) (Kd.R_base ho0) hb)); (replace BK431 := qD BK431 hb); (replace HB := Aside0.mk (below_step (qS1 HB GE431) hb)); (try clear hb); (try clear hb2); (try clear hk); (try clear hi); (try clear ho0); (obtain ⟨Ao41, co41, eo41⟩ := Kd.R_slice HO455.out)
        (first | subst eo41 | (injection eo41 with f1_ f2_ f3_; have f4_ := f1_.symm; have f5_ := f3_.symm; clear f1_ f2_ f3_; subst f4_; subst f5_))
        refine hK.out _ _ ⟨(blk_cell BK431.out 0).trans rfl, (blk_cell BK431.out 1).trans rfl, (blk_cell BK431.out 2).trans rfl, (blk_cell BK431.out 3).trans rfl⟩ (fun hHeld => ?_)
        clear hK K
        refine norm_ (a' := ?_) ?_ ?_
        rotate_left
        ·show Act.put _ (some 68) _ = _
         simp only [Act.put, List.setIfInBounds_toArray, List.set_cons_zero, List.set_cons_succ, i64_w, i32_w]
         rfl
        refine one_ (i := 9) (N := some 69) #[true, true, true, true, true, true, true, true, true, true, false, false, false, false, false] rfl rfl (one_of HT_.out (by kernel_rfl)) (by decide) (fun K hK => ?_)
        refine goes_ Tryz.func71 (by kernel_rfl) rfl #[.int .i64 ji27, .int .i64 a0_1, .slice A1 l1.length c1, .slice Ao41 t453.length co41] (by rfl) rfl rfl (by (try simp only [List.map_toArray, List.map_cons, List.map_nil]); first | done | (simp only [hji27]; rfl) | rfl | (simp only [List.length_drop, List.length_take]; rfl)) ?_
        with_reducible refine (impl_PathSeq.calls k1 ji27 a0_1 _ _ l1 _ _ t453 t456 t457 _ ?side1 ?side2 ?side3 ?side4 A29.out).mono ?_
        (case side1 => repeat (first | exact (Kd.C_below HR1.out HB.out) | (with_reducible refine Kd.C_alloc ?_ _) | (with_reducible refine Kd.C_drewN ?_ _) | (with_reducible refine Kd.C_drew ?_)))
        (case side2 => exact HC1.out)
        (case side3 => repeat (first | exact (Kd.R_reads' HO455.out).2.2 | (with_reducible refine Kd.C_alloc ?_ _) | (with_reducible refine Kd.C_drewN ?_ _) | (with_reducible refine Kd.C_drew ?_)))
        (case side4 => exact (Kd.R_reads' HO455.out).2.1)
        rintro e w42 ⟨v458, rfl, ho0, hb⟩
        refine ⟨_, rfl, ?_⟩
        (have HO459 := Aside0.mk (Kd.R_lower (Kd.R_new' (Kd.R_new' (Kd.R_new' (Kd.R_new' (Kd.R_new' (Kd.R_new' (Kd.R_new' ho0 (Kd.R_lt (qR HO_8))) (Kd.R_lt (qR HO_9))) (Kd.R_lt (qR HO_10))) (Kd.R_lt (qR HO445))) (Kd.R_lt (qR HO448))) (Kd.R_lt (qR HO452))) (Kd.R_lt (qR HO455))) (below_size (qS1 HB GE431)))); (replace HO_8 := Aside0.mk (Kd.R_elder' (qR HO_8) (Kd.R_base ho0) hb)); (replace HO_9 := Aside0.mk (Kd.R_elder' (qR HO_9) (Kd.R_base ho0) hb)); (replace HO_10 := Aside0.mk (Kd.R_elder' (qR HO_10) (Kd.R_base ho0) hb)); (replace HO445 := Aside0.mk (Kd.R_elder' (qR HO445) (Kd.R_base ho0) hb)); (replace HO448 := Aside0.mk (Kd.R_elder' (qR HO448) (Kd.R_base ho0) hb)); (replace HO452 := Aside0.mk (Kd.R_elder' (qR HO452) (Kd.R_base ho0) hb)); (replace HO455 := Aside0.mk (Kd.R_elder' (qR HO455) (Kd.R_base ho0) hb)); (replace BK431 := qD BK431 hb); (replace HB := Aside0.mk (below_step (qS1 HB GE431) hb)); (try clear hb); (try clear hb2); (try clear hk); (try clear hi); (try clear ho0)
        refine hK.out _ _ ⟨(blk_cell BK431.out 0).trans rfl, (blk_cell BK431.out 1).trans rfl, (blk_cell BK431.out 2).trans rfl, (blk_cell BK431.out 3).trans rfl⟩ (fun hHeld => ?_)
        clear hK K
        refine norm_ (a' := ?_) ?_ ?_
        rotate_left
        ·show Act.put _ (some 69) _ = _
         simp only [Act.put, List.setIfInBounds_toArray, List.set_cons_zero, List.set_cons_succ, i64_w, i32_w]
         rfl
        refine pure_ (i := 10) (N := some 59) (v := ?_) (a' := ?_) #[true, true, true, true, true, true, true, true, true, true, true, false, false, false, false] rfl rfl (any_of HT_.out (by kernel_rfl)) (fun _ _ _ h => h) (Or.inl ⟨by rfl, ?_⟩) ?_ ?_
        rotate_left
        ·intro w'
         go_simp
         with_reducible rfl
        rotate_left
        ·simp only [Act.put, List.setIfInBounds_toArray, List.set_cons_zero, List.set_cons_succ, i64_w, i32_w]
         rfl
        refine pure_ (i := 11) (N := some 70) (v := ?_) (a' := ?_) #[true, true, true, true, true, true, true, true, true, true, true, true, false, false, false] rfl rfl (any_of HT_.out (by kernel_rfl)) (fun _ _ _ h => h) (Or.inl ⟨by rfl, ?_⟩) ?_ ?_
        rotate_left
        ·intro w'
         go_simp
         with_reducible rfl
        rotate_left
        ·simp only [Act.put, List.setIfInBounds_toArray, List.set_cons_zero, List.set_cons_succ, i64_w, i32_w]
         rfl
        refine pure_ (i := 12) (N := some 71) (v := ?_) (a' := ?_) #[true, true, true, true, true, true, true, true, true, true, true, true, true, false, false] rfl rfl (any_of HT_.out (by kernel_rfl)) (fun _ _ _ h => h) (Or.inl ⟨by rfl, ?_⟩) ?_ ?_
        rotate_left
        ·intro w'
         go_simp
         with_reducible rfl
        rotate_left
        ·simp only [Act.put, List.setIfInBounds_toArray, List.set_cons_zero, List.set_cons_succ, i64_w, i32_w]
         rfl
        refine pure_ (i := 13) (N := some 14) (v := ?_) (a' := ?_) #[true, true, true, true, true, true, true, true, true, true, true, true, true, true, false] rfl rfl (any_of HT_.out (by kernel_rfl)) (fun _ _ _ h => h) (Or.inl ⟨by rfl, ?_⟩) ?_ ?_
        rotate_left
        ·intro w'
         go_simp
         with_reducible rfl
        rotate_left
        ·simp only [Act.put, List.setIfInBounds_toArray, List.set_cons_zero, List.set_cons_succ, i64_w, i32_w]
         rfl
        refine pure_ (i := 14) (N := some 15) (v := ?_) (a' := ?_) #[true, true, true, true, true, true, true, true, true, true, true, true, true, true, true] rfl rfl (any_of HT_.out (by kernel_rfl)) (fun _ _ _ h => h) (Or.inl ⟨by rfl, ?_⟩) ?_ ?_
        rotate_left
        ·intro w'
         go_simp
         with_reducible rfl
        rotate_left
        ·simp only [Act.put, List.setIfInBounds_toArray, List.set_cons_zero, List.set_cons_succ, i64_w, i32_w]
         rfl
        refine done_ (done_of HT_.out (by kernel_rfl)) ?_
        (obtain ⟨Ao44, co44, eo44⟩ := Kd.R_slice HO452.out); (subst eo44)
        try go_wp2_with (first | ((with_reducible refine gate_builtin (b := .append) (xs := #[.tmp 72, .tmp 73]) rfl ?_); at_builtin; refine Kd.R_append_rows (Kd.int .i64) (w0 := w) w.heap.size rfl (.tmp 72) (.tmp 73) 25 3 (.int .i64 0) 8 rfl Tryz.underlying25 info3 rfl (by decide) (by omega) u10 x10_1 t449 _ _ _ (fun k_ => some k_ ≠ (.slice Ao33 t432.length co33 : Value).ownBlock ∧ some k_ ≠ (.slice Ao39 t435.length co39 : Value).ownBlock ∧ some k_ ≠ (.slice Ao35 t443.length co35 : Value).ownBlock ∧ some k_ ≠ (.slice Ao36 t446.length co36 : Value).ownBlock ∧ some k_ ≠ (.slice Ao44 t449.length co44 : Value).ownBlock ∧ some k_ ≠ (.slice Ao41 t453.length co41 : Value).ownBlock ∧ some k_ ≠ (v458 : Value).ownBlock) (fun _ => False) rfl rfl ?aO ?aR (fun _ _ h => h) (fun _ h => h.elim) ?aF ?aB ?aS ?aL ?_; (case aR => repeat (first | exact (Kd.R_reads' HO452.out).2.2 | (with_reducible refine Kd.C_alloc ?_ _) | (with_reducible refine Kd.C_drewN ?_ _) | (with_reducible refine Kd.C_drew ?_))); (case aB => exact (qS1 HB GE431)); (case aF => exact (fun k_ hk => ⟨Kd.fresh' (Kd.R_lt (qR HO_8)) k_ hk, Kd.fresh' (Kd.R_lt (qR HO_9)) k_ hk, Kd.fresh' (Kd.R_lt (qR HO445)) k_ hk, Kd.fresh' (Kd.R_lt (qR HO448)) k_ hk, Kd.fresh' (Kd.R_lt (qR HO452)) k_ hk, Kd.fresh' (Kd.R_lt (qR HO455)) k_ hk, Kd.fresh' (Kd.R_lt (qR HO459)) k_ hk⟩)); (case aO => exact (by (with_reducible repeat (first | apply Kd.R_alloc | apply Kd.R_drewN | apply Kd.R_drew)); exact Kd.R_mono HO_10.out (fun _ hk => ⟨hk.1.1.1.1.1.1, ⟨hk.1.1.1.1.1.2, ⟨hk.1.1.1.1.2, ⟨hk.1.1.1.2, ⟨hk.1.1.2, ⟨hk.1.2, hk.2⟩⟩⟩⟩⟩⟩))); (case aS => exact (below_size (qS1 HB GE431))); (case aL => have := LMc30.out; omega); intro v461 w43 ho hb hg hat; rw [← Ny460.out] at ho; replace HO_8 := Aside0.mk (Kd.R_after (ok := (fun k_ => some k_ ≠ (.slice Ao39 t435.length co39 : Value).ownBlock ∧ some k_ ≠ (.slice Ao35 t443.length co35 : Value).ownBlock ∧ some k_ ≠ (.slice Ao36 t446.length co36 : Value).ownBlock ∧ some k_ ≠ (.slice Ao44 t449.length co44 : Value).ownBlock ∧ some k_ ≠ (.slice Ao41 t453.length co41 : Value).ownBlock ∧ some k_ ≠ (v458 : Value).ownBlock)) (by (with_reducible repeat (first | apply Kd.R_alloc | apply Kd.R_drewN | apply Kd.R_drew)); exact Kd.R_mono HO_8.out (fun _ hk => ⟨⟨hk.1.1.1.1.1.1, ⟨hk.1.1.1.1.2, ⟨hk.1.1.1.2, ⟨hk.1.1.2, ⟨hk.1.2, hk.2⟩⟩⟩⟩⟩, hk.1.1.1.1.1.2⟩)) hg hat); replace HO_9 := Aside0.mk (Kd.R_after (ok := (fun k_ => some k_ ≠ (.slice Ao33 t432.length co33 : Value).ownBlock ∧ some k_ ≠ (.slice Ao35 t443.length co35 : Value).ownBlock ∧ some k_ ≠ (.slice Ao36 t446.length co36 : Value).ownBlock ∧ some k_ ≠ (.slice Ao44 t449.length co44 : Value).ownBlock ∧ some k_ ≠ (.slice Ao41 t453.length co41 : Value).ownBlock ∧ some k_ ≠ (v458 : Value).ownBlock)) (by (with_reducible repeat (first | apply Kd.R_alloc | apply Kd.R_drewN | apply Kd.R_drew)); exact Kd.R_mono HO_9.out (fun _ hk => ⟨⟨hk.1.1.1.1.1.1, ⟨hk.1.1.1.1.2, ⟨hk.1.1.1.2, ⟨hk.1.1.2, ⟨hk.1.2, hk.2⟩⟩⟩⟩⟩, hk.1.1.1.1.1.2⟩)) hg hat); replace BK431 := Aside0.mk (blk_grown (qB BK431) hg (Kd.R_ne HO_10.out BK431.out (by decide))); replace HO445 := Aside0.mk (Kd.R_after (ok := (fun k_ => some k_ ≠ (.slice Ao33 t432.length co33 : Value).ownBlock ∧ some k_ ≠ (.slice Ao39 t435.length co39 : Value).ownBlock ∧ some k_ ≠ (.slice Ao36 t446.length co36 : Value).ownBlock ∧ some k_ ≠ (.slice Ao44 t449.length co44 : Value).ownBlock ∧ some k_ ≠ (.slice Ao41 t453.length co41 : Value).ownBlock ∧ some k_ ≠ (v458 : Value).ownBlock)) (by (with_reducible repeat (first | apply Kd.R_alloc | apply Kd.R_drewN | apply Kd.R_drew)); exact Kd.R_mono HO445.out (fun _ hk => ⟨⟨hk.1.1.1.1.1.1.2, ⟨hk.1.1.1.1.1.2, ⟨hk.1.1.1.2, ⟨hk.1.1.2, ⟨hk.1.2, hk.2⟩⟩⟩⟩⟩, hk.1.1.1.1.2⟩)) hg hat); replace HO448 := Aside0.mk (Kd.R_after (ok := (fun k_ => some k_ ≠ (.slice Ao33 t432.length co33 : Value).ownBlock ∧ some k_ ≠ (.slice Ao39 t435.length co39 : Value).ownBlock ∧ some k_ ≠ (.slice Ao35 t443.length co35 : Value).ownBlock ∧ some k_ ≠ (.slice Ao44 t449.length co44 : Value).ownBlock ∧ some k_ ≠ (.slice Ao41 t453.length co41 : Value).ownBlock ∧ some k_ ≠ (v458 : Value).ownBlock)) (by (with_reducible repeat (first | apply Kd.R_alloc | apply Kd.R_drewN | apply Kd.R_drew)); exact Kd.R_mono HO448.out (fun _ hk => ⟨⟨hk.1.1.1.1.1.1.2, ⟨hk.1.1.1.1.1.2, ⟨hk.1.1.1.2, ⟨hk.1.1.2, ⟨hk.1.2, hk.2⟩⟩⟩⟩⟩, hk.1.1.1.1.2⟩)) hg hat); replace HO452 := Aside0.mk (Kd.R_after (ok := (fun k_ => some k_ ≠ (.slice Ao33 t432.length co33 : Value).ownBlock ∧ some k_ ≠ (.slice Ao39 t435.length co39 : Value).ownBlock ∧ some k_ ≠ (.slice Ao35 t443.length co35 : Value).ownBlock ∧ some k_ ≠ (.slice Ao36 t446.length co36 : Value).ownBlock ∧ some k_ ≠ (.slice Ao41 t453.length co41 : Value).ownBlock ∧ some k_ ≠ (v458 : Value).ownBlock)) (by (with_reducible repeat (first | apply Kd.R_alloc | apply Kd.R_drewN | apply Kd.R_drew)); exact Kd.R_mono HO452.out (fun _ hk => ⟨⟨hk.1.1.1.1.1.1.2, ⟨hk.1.1.1.1.1.2, ⟨hk.1.1.1.2, ⟨hk.1.1.2, ⟨hk.1.2, hk.2⟩⟩⟩⟩⟩, hk.1.1.1.1.2⟩)) hg hat); replace HO455 := Aside0.mk (Kd.R_after (ok := (fun k_ => some k_ ≠ (.slice Ao33 t432.length co33 : Value).ownBlock ∧ some k_ ≠ (.slice Ao39 t435.length co39 : Value).ownBlock ∧ some k_ ≠ (.slice Ao35 t443.length co35 : Value).ownBlock ∧ some k_ ≠ (.slice Ao36 t446.length co36 : Value).ownBlock ∧ some k_ ≠ (.slice Ao44 t449.length co44 : Value).ownBlock ∧ some k_ ≠ (v458 : Value).ownBlock)) (by (with_reducible repeat (first | apply Kd.R_alloc | apply Kd.R_drewN | apply Kd.R_drew)); exact Kd.R_mono HO455.out (fun _ hk => ⟨⟨hk.1.1.1.1.1.1.2, ⟨hk.1.1.1.1.1.2, ⟨hk.1.1.1.2, ⟨hk.1.1.2, ⟨hk.1.2, hk.2⟩⟩⟩⟩⟩, hk.1.1.1.1.2⟩)) hg hat); replace HO459 := Aside0.mk (Kd.R_after (ok := (fun k_ => some k_ ≠ (.slice Ao33 t432.length co33 : Value).ownBlock ∧ some k_ ≠ (.slice Ao39 t435.length co39 : Value).ownBlock ∧ some k_ ≠ (.slice Ao35 t443.length co35 : Value).ownBlock ∧ some k_ ≠ (.slice Ao36 t446.length co36 : Value).ownBlock ∧ some k_ ≠ (.slice Ao44 t449.length co44 : Value).ownBlock ∧ some k_ ≠ (.slice Ao41 t453.length co41 : Value).ownBlock)) (by (with_reducible repeat (first | apply Kd.R_alloc | apply Kd.R_drewN | apply Kd.R_drew)); exact Kd.R_mono HO459.out (fun _ hk => ⟨⟨hk.1.1.1.1.1.1.2, ⟨hk.1.1.1.1.1.2, ⟨hk.1.1.1.2, ⟨hk.1.1.2, ⟨hk.1.2, hk.2⟩⟩⟩⟩⟩, hk.1.1.1.1.2⟩)) hg hat); replace HB := Aside0.mk (hb); have HO462 := Aside0.mk (ho); clear HO_10; clear ho hb hg hat))
        go_ret2
        exact ⟨_, _, by first | rfl | (simp [errW_none, errW_some] <;> rfl) | (simp only [← hji5, ← hji7, ← hji20, ← hji22, ← hji27]; first | rfl | (simp [errW_none, errW_some] <;> rfl)) | (simp [*, errW_none, errW_some] <;> rfl), by (with_reducible repeat (first | apply Kd.R_alloc | apply Kd.R_drewN | apply Kd.R_drew)); exact Kd.R_mono HO462.out (fun _ hk => hk.2.2.2.2.2.2), by (with_reducible repeat (first | apply Kd.R_alloc | apply Kd.R_drewN | apply Kd.R_drew)); exact Kd.R_mono HO459.out (fun _ hk => hk.2), qS1 HB GE431⟩
       ·rw [if_neg c30] at H
        exact absurd H (by simp)
      ·rw [if_neg c26] at H
       exact absurd H (by simp)
     ·rw [if_neg c21] at H
      exact absurd H (by simp)
 ·rw [if_neg c6] at H
  exact absurd H (by simp)
def impl_isWord.l0 : Nat → ByteArray → Int → Int → Option (Bool)
 | 0, _, _, _ => none
 | k + 1, x0, x5, x6 => if x6 < x5 then (if 0 ≤ x6 then (if x6 < (x0.size : Int) then (if (bt x0 x6) < 97 then (some false) else (if (bt x0 x6) > 122 then (some false) else (impl_isWord.l0 k x0 x5 (wrap64 (x6 + 1))))) else (none)) else (none)) else ((impl_within.f (x0.size : Int) 1 32).bind fun t463 => (some t463))
def impl_isWord.f (k : Nat) (a0 : ByteArray) : Option (Bool) := impl_isWord.l0 k a0 (a0.size : Int) 0
set_option maxHeartbeats 8000000 in
set_option maxRecDepth 100000 in
theorem impl_isWord.calls (k : Nat) (a0 : ByteArray) (r : Bool) (w : World) (h : impl_isWord.f k a0 = some r) :
  Calls Tryz.prog 114 #[.string a0] w fun e w' => e = .returned (.bool r) ∧ Drawn0 w w' := by
 (have H : (impl_isWord.l0 k a0 (a0.size : Int) 0) = some r := h); clear h; (have H' := Aside0.mk H); clear H
 go_enter Tryz.func114, Tryz.ntmps114
 go_wp2
 go_loopg [6] k (fun kq v6 w' => ∃ (x6_1 : Int), v6 = .int .i64 x6_1 ∧ Aside0 (impl_isWord.l0 kq a0 (a0.size : Int) x6_1 = some r) ∧ Aside0 (kq ≤ k) ∧ Drawn0 w w')
 case atStart => exact ⟨(0), qV, H', ⟨Nat.le_refl _⟩, by repeat (first | exact Drawn0.refl _ | apply Drawn0.step)⟩
 case round =>
  clear H'; (try clear c1); (obtain ⟨x6_1, rfl, HA, HK1, ⟨m1, rfl⟩⟩ := hrel)
  cases gk with
  | zero => exact absurd HA.out (by simp [impl_isWord.l0])
  | succ k1 =>
   (have H := HA.out); clear HA; (simp only [impl_isWord.l0] at H)
   by_cases c2 : x6_1 < (a0.size : Int)
   ·rw [if_pos c2] at H
    (have c2b0 : decide (x6_1 < (a0.size : Int)) = true := decide_eq_true c2); clear c2
    by_cases c3 : 0 ≤ x6_1
    ·rw [if_pos c3] at H
     (have c3b0 : decide (0 ≤ x6_1) = true := decide_eq_true c3); clear c3
     by_cases c4 : x6_1 < (a0.size : Int)
     ·rw [if_pos c4] at H
      (have c4b0 : decide (x6_1 < (a0.size : Int)) = true := decide_eq_true c4); clear c4
      by_cases c6 : (bt a0 x6_1) < 97
      ·rw [if_pos c6] at H
       (have c6b0 : decide ((bt a0 x6_1) < 97) = true := decide_eq_true c6); clear c6; (obtain rfl := Option.some.inj H); (have p5 : 0 ≤ (x6_1 : Int) := qO); (have q5 : x6_1 < (a0.size : Int) := qO); (have hx5 := bt_at a0 x6_1); (replace p5 := eq_true p5); (replace q5 := eq_true q5)
       go_wp2
       go_ret
       exact qZ
      ·rw [if_neg c6] at H
       (have c6b0 : decide ((bt a0 x6_1) < 97) = false := decide_eq_false c6); clear c6
       by_cases c8 : (bt a0 x6_1) > 122
       ·rw [if_pos c8] at H
        (have c8b0 : decide (122 < (bt a0 x6_1)) = true := decide_eq_true c8); clear c8; (obtain rfl := Option.some.inj H); (have p5 : 0 ≤ (x6_1 : Int) := qO); (have q5 : x6_1 < (a0.size : Int) := qO); (have hx5 := bt_at a0 x6_1); (replace p5 := eq_true p5); (replace q5 := eq_true q5); (have p7 : 0 ≤ (x6_1 : Int) := qO); (have q7 : x6_1 < (a0.size : Int) := qO); (have hx7 := bt_at a0 x6_1); (replace p7 := eq_true p7); (replace q7 := eq_true q7)
        go_wp2
        go_ret
        exact qZ
       ·rw [if_neg c8] at H
        (have c8b0 : decide (122 < (bt a0 x6_1)) = false := decide_eq_false c8); clear c8; (have H' := Aside0.mk H); clear H; (have p5 : 0 ≤ (x6_1 : Int) := qO); (have q5 : x6_1 < (a0.size : Int) := qO); (have hx5 := bt_at a0 x6_1); (replace p5 := eq_true p5); (replace q5 := eq_true q5); (have p7 : 0 ≤ (x6_1 : Int) := qO); (have q7 : x6_1 < (a0.size : Int) := qO); (have hx7 := bt_at a0 x6_1); (replace p7 := eq_true p7); (replace q7 := eq_true q7)
        go_wp2
        go_roundg k1
        case measure => have := HK1.out; omega
        case rel => exact ⟨(wrap64 (x6_1 + 1)), qV, H', ⟨by have := HK1.out; omega⟩, by repeat (first | exact Drawn0.refl _ | apply Drawn0.step)⟩
     ·rw [if_neg c4] at H
      exact absurd H (by simp)
    ·rw [if_neg c3] at H
     exact absurd H (by simp)
   ·rw [if_neg c2] at H
    (have c2b0 : decide (x6_1 < (a0.size : Int)) = false := decide_eq_false c2); clear c2; (replace H := Option.bind_eq_some_iff.mp H); (obtain ⟨t463, A90, H⟩ := H); (replace H : (some t463) = some r := H); (have A9 := Aside0.mk A90); clear A90; (obtain rfl := Option.some.inj H)
    go_wp2_with (first | ((with_reducible refine gate_callee (f := 61) rfl ?_); refine goesL_ (some 22) rfl rfl Tryz.func61 (by kernel_rfl) rfl #[.int .i64 (a0.size : Int), .int .i64 1, .int .i64 32] rfl qL ?_; (with_reducible refine (impl_within.calls (a0.size : Int) 1 32 t463 _ A9.out).mono ?_); rintro e w' ⟨rfl, ⟨nd, rfl⟩⟩; refine ⟨_, rfl, ?_⟩))
    go_ret
    exact qZ
def impl_Fold.f (k : Nat) (a0 : ByteArray) : Option (ByteArray) := (strings_Map.f a0).bind fun t500 => (if (a0.size : Int) > 32 then (some (⟨#[]⟩ : ByteArray)) else ((impl_isWord.f k t500).bind fun t501 => (if t501 = true then (some t500) else (some (⟨#[]⟩ : ByteArray)))))
set_option maxHeartbeats 8000000 in
set_option maxRecDepth 100000 in
theorem impl_Fold.calls (k : Nat) (a0 : ByteArray) (r : ByteArray) (w : World) (h : impl_Fold.f k a0 = some r) (hG : TabG w) :
  Calls Tryz.prog 111 #[.string a0] w fun e w' => e = .returned (.string r) ∧ Below w.heap.size w w' := by
 (have HB := Aside0.mk (Below.refl w.heap.size w)); (have H : ((strings_Map.f a0).bind fun t500 => (if (a0.size : Int) > 32 then (some (⟨#[]⟩ : ByteArray)) else ((impl_isWord.f k t500).bind fun t501 => (if t501 = true then (some t500) else (some (⟨#[]⟩ : ByteArray)))))) = some r := h); clear h; (replace H := Option.bind_eq_some_iff.mp H); (obtain ⟨t500, A20, H⟩ := H)
 try dsimp only at H
 (have A2 := Aside0.mk A20); clear A20
 by_cases c3 : (a0.size : Int) > 32
 ·rw [if_pos c3] at H
  (have c3b0 : decide (32 < (a0.size : Int)) = true := decide_eq_true c3); (have c3b1 : decide (32 < a0.size) = true := decide_eq_true (by omega)); clear c3; (obtain rfl := Option.some.inj H)
  go_enter Tryz.func111, Tryz.ntmps111
  go_wp2_with (first | ((with_reducible refine gate_callee (f := 122) rfl ?_); refine goesL_ (some 5) rfl rfl Tryz.func122 (by kernel_rfl) rfl #[.func (.func 123) #[] #[], .string a0] rfl qL ?_; (with_reducible refine (strings_Map.calls a0 t500 _ A2.out (G_below (qS0 HB) hG)).mono ?_); rintro e w4 ⟨rfl, hb⟩; refine ⟨_, rfl, ?_⟩; replace HB := Aside0.mk (below_step (qS0 HB) hb); (try clear hb); (try clear hb2); (try clear hk); (try clear hi)))
  go_ret
  exact ⟨qE, qS0 HB⟩
 ·rw [if_neg c3] at H
  (have c3b0 : decide (32 < (a0.size : Int)) = false := decide_eq_false c3); (have c3b1 : decide (32 < a0.size) = false := decide_eq_false (by omega)); clear c3; (replace H := Option.bind_eq_some_iff.mp H); (obtain ⟨t501, A50, H⟩ := H); (replace H : (if t501 = true then (some t500) else (some (⟨#[]⟩ : ByteArray))) = some r := H); (have A5 := Aside0.mk A50); clear A50
  by_cases c6 : t501 = true
  ·subst c6
   (have H1 : (some t500) = some r := by rw [if_pos rfl] at H; exact H); clear H; (have H := H1); clear H1; (obtain rfl := Option.some.inj H)
   go_enter Tryz.func111, Tryz.ntmps111
   go_wp2_with (first | ((with_reducible refine gate_callee (f := 122) rfl ?_); refine goesL_ (some 5) rfl rfl Tryz.func122 (by kernel_rfl) rfl #[.func (.func 123) #[] #[], .string a0] rfl qL ?_; (with_reducible refine (strings_Map.calls a0 t500 _ A2.out (G_below (qS0 HB) hG)).mono ?_); rintro e w7 ⟨rfl, hb⟩; refine ⟨_, rfl, ?_⟩; replace HB := Aside0.mk (below_step (qS0 HB) hb); (try clear hb); (try clear hb2); (try clear hk); (try clear hi)) | (go_at_call 114; (with_reducible refine (impl_isWord.calls k t500 true _ A5.out).mono ?_); rintro e w' ⟨rfl, ⟨nd, rfl⟩⟩))
   go_ret
   exact ⟨qE, qS0 HB⟩
  ·replace c6 := Bool.eq_false_iff.mpr c6
   (subst c6); (have H1 : (some (⟨#[]⟩ : ByteArray)) = some r := by rw [if_neg (show ¬ (false = true) by decide)] at H; exact H); clear H; (have H := H1); clear H1; (obtain rfl := Option.some.inj H)
   go_enter Tryz.func111, Tryz.ntmps111
   go_wp2_with (first | ((with_reducible refine gate_callee (f := 122) rfl ?_); refine goesL_ (some 5) rfl rfl Tryz.func122 (by kernel_rfl) rfl #[.func (.func 123) #[] #[], .string a0] rfl qL ?_; (with_reducible refine (strings_Map.calls a0 t500 _ A2.out (G_below (qS0 HB) hG)).mono ?_); rintro e w8 ⟨rfl, hb⟩; refine ⟨_, rfl, ?_⟩; replace HB := Aside0.mk (below_step (qS0 HB) hb); (try clear hb); (try clear hb2); (try clear hk); (try clear hi)) | (go_at_call 114; (with_reducible refine (impl_isWord.calls k t500 false _ A5.out).mono ?_); rintro e w' ⟨rfl, ⟨nd, rfl⟩⟩))
   go_ret
   exact ⟨qE, qS0 HB⟩
def gapR (x : Nat) : Bool := if (x : Int) = 9 then true else if (x : Int) = 10 then true else if (x : Int) = 13 then true else decide ((x : Int) = 32)
set_option maxHeartbeats 8000000 in
set_option maxRecDepth 100000 in
theorem strings_FieldsFunc.closure (x : Nat) (w : World) : Calls Tryz.prog 125 #[.int .i32 (x : Int)] w fun e w' => e = .returned (.bool (gapR x)) ∧ Below w.heap.size w w' := by
 (have hx : ∃ z : Int, (x : Int) = z := ⟨_, rfl⟩); (obtain ⟨z, hz⟩ := hx)
 unfold gapR
 (rw [hz]); clear hz
 by_cases c2 : z = 9
 ·rw [if_pos c2]
  (have c2b0 : (z == 9) = true := by simp [c2]); clear c2
  go_enter Tryz.func125, Tryz.ntmps125
  go_wp2
  go_ret
  exact ⟨rfl, Below.refl _ _⟩
 ·rw [if_neg c2]
  (have c2b0 : (z == 9) = false := by simp [c2]); clear c2
  by_cases c3 : z = 10
  ·rw [if_pos c3]
   (have c3b0 : (z == 10) = true := by simp [c3]); clear c3
   go_enter Tryz.func125, Tryz.ntmps125
   go_wp2
   go_ret
   exact ⟨rfl, Below.refl _ _⟩
  ·rw [if_neg c3]
   (have c3b0 : (z == 10) = false := by simp [c3]); clear c3
   by_cases c4 : z = 13
   ·rw [if_pos c4]
    (have c4b0 : (z == 13) = true := by simp [c4]); clear c4
    go_enter Tryz.func125, Tryz.ntmps125
    go_wp2
    go_ret
    exact ⟨rfl, Below.refl _ _⟩
   ·rw [if_neg c4]
    (have c4b0 : (z == 13) = false := by simp [c4]); clear c4; (have c5b0 : (z == 32) = decide (z = 32) := by by_cases c5 : z = 32 <;> simp [c5])
    go_enter Tryz.func125, Tryz.ntmps125
    go_wp2
    go_ret
    exact ⟨rfl, Below.refl _ _⟩
theorem strings_FieldsFunc.enters : ∀ args w, (callFunc 125 args).run Tryz.prog w = .ok (.enter 125 args) w := enters_of Tryz.func125 (by kernel_rfl) rfl
shelf_lay Lays.n229 Nm 229 at Tryz as Tryz.lays229
def strings_FieldsFunc.f (a0 : ByteArray) : Option (List ByteArray) := if a0.size ≤ 4294967296 then some (Lib.goFieldsP gapR a0) else none
theorem strings_FieldsFunc.calls (a0 : ByteArray) (r : List ByteArray) (w : World) (h : strings_FieldsFunc.f a0 = some r) :
  Calls Tryz.prog 124 #[.string a0, .func (.func 125) #[] #[]] w fun e w' => ∃ v0_ : Value, e = .returned (v0_) ∧ Kd.R Kd.string 9 w' w.heap.size (fun _ => True) v0_ r ∧ Below w.heap.size w w' := by
 unfold strings_FieldsFunc.f at h
 split at h
 ·rename_i hr
  obtain rfl := Option.some.inj h
  refine (Any.strings_FieldsFunc_grows Tryz.lays229 125 #[] strings_FieldsFunc.enters gapR a0 w hr (fun W x hx _ => strings_FieldsFunc.closure x W) (by kernel_rfl) (by kernel_rfl)).mono ?_
  rintro e w' ⟨AA, rfl, _, hown, hb⟩
  exact ⟨_, rfl, Kd.R_of_own (enc := Value.string) (h1 := fun _ => rfl) hown (fun _ _ => trivial), hb⟩
 ·cases h
end Go.Proofs.YtppopmajclmhjaaGreatDoor.QB
namespace Go.Proofs.YtppopmajclmhjaaGreatDoor.QB
open Go.RowKit Go.Proofs.YtppopmajclmhjaaGreatDoorW.PrintWords Go.Proofs.YtppopmajclmhjaaGreatDoorW.PrintLast Go.Proofs.YtppopmajclmhjaaGreatDoorW.PrintMore
attribute [local go_sem] max2_int min2_int max_two min_two max_three min_three max_four min_four
set_option linter.unusedVariables false
set_option linter.unusedSimpArgs false
mutual
def impl_Tokens.j0 : Nat → ByteArray → Int → Bool → Option (List ByteArray × Bool)
 | 0, _, _, _ => none
 | k + 1, x0, x1, x17 => if x17 = true then (some (([] : List ByteArray), false)) else ((strings_FieldsFunc.f x0).bind fun t503 => (if (t503.length : Int) > x1 then (some (([] : List ByteArray), false)) else (if 0 ≤ x1 then (if (x1 : Int).toNat ≤ 17592186044416 then (impl_Tokens.l0 k (List.replicate (x1 : Int).toNat (⟨#[]⟩ : ByteArray)) t503 (t503.length : Int) 0) else (none)) else (none))))
def impl_Tokens.l0 : Nat → List ByteArray → List ByteArray → Int → Int → Option (List ByteArray × Bool)
 | 0, _, _, _, _ => none
 | k + 1, x7, x26, x27, x28 => if x28 < x27 then (if 0 ≤ x28 then (if x28 < (x26.length : Int) then ((impl_Fold.f k (rdOf ByteArray.empty x26 x28)).bind fun t510 => (if x28 < (x7.length : Int) then ((some (x7.set (x28 : Int).toNat t510 : List ByteArray)).bind fun y511 => (if (rdOf ByteArray.empty y511 x28).toList = ([] : List UInt8) then (impl_Tokens.l0 k (y511.set (x28 : Int).toNat (⟨#[63]⟩ : ByteArray)) x26 x27 (wrap64 (x28 + 1))) else (impl_Tokens.l0 k y511 x26 x27 (wrap64 (x28 + 1))))) else (none))) else (none)) else (none)) else (some (x7, true))
end
def impl_Tokens.f (k : Nat) (a0 : ByteArray) (a1 : Int) : Option (List ByteArray × Bool) := if (a0.size : Int) > 2000 then (impl_Tokens.j0 k a0 a1 true) else ((impl_within.f a1 1 16).bind fun t502 => (impl_Tokens.j0 k a0 a1 (!t502)))
set_option maxHeartbeats 8000000 in
set_option maxRecDepth 100000 in
theorem impl_Tokens.calls (k : Nat) (a0 : ByteArray) (a1 : Int) (r1 : List ByteArray) (r2 : Bool) (w : World) (h : impl_Tokens.f k a0 a1 = some (r1, r2)) (hG : TabG w) :
  Calls Tryz.prog 112 #[.string a0, .int .i64 a1] w fun e w' => ∃ v0_ : Value, e = .returned (.tuple #[v0_, .bool r2]) ∧ Kd.R Kd.string 9 w' w.heap.size (fun _ => True) v0_ r1 ∧ Below w.heap.size w w' := by
 (have HB := Aside0.mk (Below.refl w.heap.size w)); (have H : (if (a0.size : Int) > 2000 then (impl_Tokens.j0 k a0 a1 true) else ((impl_within.f a1 1 16).bind fun t502 => (impl_Tokens.j0 k a0 a1 (!t502)))) = some (r1, r2) := h); clear h; (have HC3 := Aside0.mk H); clear H
 go_enter Tryz.func112, Tryz.ntmps112
 go_upto_region 1 with (fail)
 go_cut [17] (fun v17 wc => ∃ (kq : Nat) (x17_2 : Bool), v17 = .bool x17_2 ∧ Aside0 (impl_Tokens.j0 kq a0 a1 x17_2 = some (r1, r2)) ∧ Aside0 (kq ≤ k) ∧ Aside0 (Below w.heap.size w wc))
 case first =>
  (have H := HC3.out); clear HC3
  by_cases c4 : (a0.size : Int) > 2000
  ·rw [if_pos c4] at H
   (have c4b0 : decide (2000 < (a0.size : Int)) = true := decide_eq_true c4); (have c4b1 : decide (2000 < a0.size) = true := decide_eq_true (by omega)); clear c4
   (first | rw [c4b0] | (simp only [i64_w, i32_w]; rw [c4b0]) | skip)
   (have H' := Aside0.mk H); clear H
   go_wp2
   go_meet
   case rel => exact ⟨_, (true), qV, H', ⟨by first | omega | exact Nat.le_refl _⟩, ⟨qS0 HB⟩⟩
  ·rw [if_neg c4] at H
   (have c4b0 : decide (2000 < (a0.size : Int)) = false := decide_eq_false c4); (have c4b1 : decide (2000 < a0.size) = false := decide_eq_false (by omega)); clear c4
   (first | rw [c4b0] | (simp only [i64_w, i32_w]; rw [c4b0]) | skip)
   (replace H := Option.bind_eq_some_iff.mp H); (obtain ⟨t502, A50, H⟩ := H); (replace H : (impl_Tokens.j0 k a0 a1 (!t502)) = some (r1, r2) := H); (have A5 := Aside0.mk A50); clear A50; (have H' := Aside0.mk H); clear H
   go_wp2_with (first | (go_at_call 61; (with_reducible refine (impl_within.calls a1 1 16 t502 _ A5.out).mono ?_); rintro e w' ⟨rfl, ⟨nd, rfl⟩⟩))
   go_meet
   case rel => exact ⟨_, (!t502), qV, H', ⟨by first | omega | exact Nat.le_refl _⟩, ⟨qS0 HB⟩⟩
 case rest =>
  clear HC3; (try clear c1); (try clear p2); (try clear c4); (try clear c4b0); (try clear c4b1); (obtain ⟨kq, x17_2, rfl, HA, HJ2, HB⟩ := hcut)
  cases kq with
  | zero => exact absurd HA.out (by simp [impl_Tokens.j0])
  | succ kj2 =>
   (have H := HA.out); clear HA; (simp only [impl_Tokens.j0] at H)
   by_cases c6 : x17_2 = true
   ·subst c6
    (have H1 : (some (([] : List ByteArray), false)) = some (r1, r2) := by rw [if_pos rfl] at H; exact H); clear H; (have H := H1); clear H1; (simp only [Option.some.injEq, Prod.mk.injEq] at H); (obtain ⟨rfl, rfl⟩ := H)
    go_wp2
    go_ret2
    exact ⟨_, qE, by first | exact Kd.R_nil _ _ _ _ _ | exact Kd.N_nil _ _ _ _ _ | exact Kd.V_nil _ _ _ _ _ | exact Kd.Q_nil _ _ _ _ _ | exact Kd.S_nil _ _ _ _ _, qS0 HB⟩
   ·replace c6 := Bool.eq_false_iff.mpr c6
    (subst c6); (have H1 : ((strings_FieldsFunc.f a0).bind fun t503 => (if (t503.length : Int) > a1 then (some (([] : List ByteArray), false)) else (if 0 ≤ a1 then (if (a1 : Int).toNat ≤ 17592186044416 then (impl_Tokens.l0 kj2 (List.replicate (a1 : Int).toNat (⟨#[]⟩ : ByteArray)) t503 (t503.length : Int) 0) else (none)) else (none)))) = some (r1, r2) := by rw [if_neg (show ¬ (false = true) by decide)] at H; exact H); clear H; (have H := H1); clear H1; (replace H := Option.bind_eq_some_iff.mp H); (obtain ⟨t503, A70, H⟩ := H)
    try dsimp only at H
    (have A7 := Aside0.mk A70); clear A70
    by_cases c8 : (t503.length : Int) > a1
    ·rw [if_pos c8] at H
     (have c8b0 : decide (a1 < (t503.length : Int)) = true := decide_eq_true c8); clear c8; (simp only [Option.some.injEq, Prod.mk.injEq] at H); (obtain ⟨rfl, rfl⟩ := H)
     go_wp2_with (first | ((with_reducible refine gate_callee (f := 124) rfl ?_); refine goesL_ (some 19) rfl rfl Tryz.func124 (by kernel_rfl) rfl #[.string a0, .func (.func 125) #[] #[]] rfl qL ?_; (with_reducible refine (strings_FieldsFunc.calls a0 t503 _ A7.out).mono ?_); rintro e w9 ⟨v504, rfl, ho0, hb⟩; refine ⟨_, rfl, ?_⟩; have HO505 := Aside0.mk (Kd.R_lower ho0 (below_size (qS0 HB))); replace HB := Aside0.mk (below_step (qS0 HB) hb); (try clear hb); (try clear hb2); (try clear hk); (try clear hi); (try clear ho0); obtain ⟨Ao10, co10, eo10⟩ := Kd.R_slice HO505.out; subst eo10))
     go_ret2
     exact ⟨_, qE, by first | exact Kd.R_nil _ _ _ _ _ | exact Kd.N_nil _ _ _ _ _ | exact Kd.V_nil _ _ _ _ _ | exact Kd.Q_nil _ _ _ _ _ | exact Kd.S_nil _ _ _ _ _, qS0 HB⟩
    ·rw [if_neg c8] at H
     (have c8b0 : decide (a1 < (t503.length : Int)) = false := decide_eq_false c8); clear c8
     by_cases c11 : 0 ≤ a1
     ·rw [if_pos c11] at H
      (have c11b0 := eq_true c11); (have c11b1 : decide (0 ≤ a1) = true := decide_eq_true c11); clear c11
      by_cases c12 : (a1 : Int).toNat ≤ 17592186044416
      ·rw [if_pos c12] at H
       (have c12b0 := eq_true c12); (have c12b1 : decide ((a1 : Int).toNat ≤ 17592186044416) = true := decide_eq_true c12); clear c12; (obtain ⟨y506, hy506⟩ : ∃ y_ : List ByteArray, y_ = (List.replicate (a1 : Int).toNat (⟨#[]⟩ : ByteArray)) := ⟨_, rfl⟩); (replace H : (impl_Tokens.l0 kj2 y506 t503 (t503.length : Int) 0) = some (r1, r2) := qY hy506 H); (have Ny506 := Aside0.mk hy506); clear hy506; (have H' := Aside0.mk H); clear H
       go_wp2_with (first | ((with_reducible refine gate_callee (f := 124) rfl ?_); refine goesL_ (some 19) rfl rfl Tryz.func124 (by kernel_rfl) rfl #[.string a0, .func (.func 125) #[] #[]] rfl qL ?_; (with_reducible refine (strings_FieldsFunc.calls a0 t503 _ A7.out).mono ?_); rintro e w13 ⟨v504, rfl, ho0, hb⟩; refine ⟨_, rfl, ?_⟩; have HO505 := Aside0.mk (Kd.R_lower ho0 (below_size (qS0 HB))); replace HB := Aside0.mk (below_step (qS0 HB) hb); (try clear hb); (try clear hb2); (try clear hk); (try clear hi); (try clear ho0); obtain ⟨Ao14, co14, eo14⟩ := Kd.R_slice HO505.out; subst eo14) | ((with_reducible refine gate_dst (N := 25) rfl ?_); refine Kd.R_make Kd.string _ 9 rfl (N := 25) rfl 80 _ _ rfl a1 rfl rfl Tryz.underlying80 (.string ⟨#[]⟩) 16 info9 rfl (by decide) (by omega) (⟨#[]⟩ : ByteArray) (ok := fun _ => True) (okp := fun _ => True) rfl (fun _ hk => hk) trivial (qO) (Nat.le_trans (Nat.mul_le_mul_right _ (qO : a1.toNat ≤ 17592186044416)) (by omega)) (Below.refl _ _) (Nat.le_refl _) ?_; intro v507 w15 ho16 hb hg_ hnew_; clear hg_ hnew_; (first | rw [← Ny506.out] at ho16 | (simp only [Int.reduceToNat] at ho16; rw [← Ny506.out] at ho16)); have HO508 := Aside0.mk (Kd.R_lower (Kd.R_new' ho16 (Kd.R_lt (qR HO505))) (below_size (qS0 HB))); replace HO505 := Aside0.mk (Kd.R_elder' (qR HO505) (Kd.R_base ho16) hb); replace HB := Aside0.mk (below_step (qS0 HB) hb); clear hb ho16))
       go_loopg [28] kj2 (fun kq v28 w' => ∃ (x7_2 : List ByteArray) (x28_2 : Int), v28 = .int .i64 x28_2 ∧ Aside0 (impl_Tokens.l0 kq x7_2 t503 (t503.length : Int) x28_2 = some (r1, r2)) ∧ Aside0 (kq ≤ kj2) ∧ Aside0 (Kd.R Kd.string 9 w' w.heap.size (fun k_ => some k_ ≠ ((.slice Ao14 t503.length co14) : Value).ownBlock) v507 x7_2) ∧ Aside0 (Kd.R Kd.string 9 w' w.heap.size (fun k_ => some k_ ≠ (v507 : Value).ownBlock) (.slice Ao14 t503.length co14) t503) ∧ Aside0 (Below w.heap.size w w'))
       case atStart => exact ⟨(y506), (0), qV, H', ⟨Nat.le_refl _⟩, ⟨by (with_reducible repeat (first | apply Kd.R_alloc | apply Kd.R_drewN | apply Kd.R_drew)); exact Kd.R_mono HO508.out (fun _ hk => hk.2)⟩, ⟨by (with_reducible repeat (first | apply Kd.R_alloc | apply Kd.R_drewN | apply Kd.R_drew)); exact Kd.R_mono HO505.out (fun _ hk => hk.2)⟩, ⟨qS0 HB⟩⟩
       case round =>
        clear H'; (try clear c1); (try clear p2); (try clear c4); (try clear c4b0); (try clear c4b1); (try clear c6); (try clear c8); (try clear c8b0); (try clear c11); (try clear c11b0); (try clear c11b1); (try clear c12); (try clear c12b0); (try clear c12b1); (try clear p2); (obtain ⟨x7_2, x28_2, rfl, HA, HK2, HO_7, HO_26, HB⟩ := hrel)
        cases gk with
        | zero => exact absurd HA.out (by simp [impl_Tokens.l0])
        | succ k2 =>
         (have H := HA.out); clear HA; (simp only [impl_Tokens.l0] at H)
         by_cases c17 : x28_2 < (t503.length : Int)
         ·rw [if_pos c17] at H
          (have c17b0 : decide (x28_2 < (t503.length : Int)) = true := decide_eq_true c17); clear c17
          by_cases c18 : 0 ≤ x28_2
          ·rw [if_pos c18] at H
           (have c18b0 : decide (0 ≤ x28_2) = true := decide_eq_true c18); clear c18
           by_cases c19 : x28_2 < (t503.length : Int)
           ·rw [if_pos c19] at H
            (have c19b0 : decide (x28_2 < (t503.length : Int)) = true := decide_eq_true c19); clear c19; (replace H := Option.bind_eq_some_iff.mp H); (obtain ⟨t510, A200, H⟩ := H)
            try dsimp only at H
            (have A20 := Aside0.mk A200); clear A200
            by_cases c21 : x28_2 < (x7_2.length : Int)
            ·rw [if_pos c21] at H
             (have c21b0 : decide (x28_2 < (x7_2.length : Int)) = true := decide_eq_true c21); clear c21; (obtain ⟨y511, hy511⟩ : ∃ y_ : List ByteArray, y_ = (x7_2.set (x28_2 : Int).toNat t510) := ⟨_, rfl⟩); (replace H : (if (rdOf ByteArray.empty y511 x28_2).toList = ([] : List UInt8) then (impl_Tokens.l0 k2 (y511.set (x28_2 : Int).toNat (⟨#[63]⟩ : ByteArray)) t503 (t503.length : Int) (wrap64 (x28_2 + 1))) else (impl_Tokens.l0 k2 y511 t503 (t503.length : Int) (wrap64 (x28_2 + 1)))) = some (r1, r2) := qY hy511 H); (have Ny511 := Aside0.mk hy511); clear hy511
             by_cases c23 : (rdOf ByteArray.empty y511 x28_2).toList = ([] : List UInt8)
             ·rw [if_pos c23] at H
              (have c23b0 : ((rdOf ByteArray.empty y511 x28_2).toList == ([] : List UInt8)) = true := beq_iff_eq.mpr c23); (have c23b1 : ((rdOf ByteArray.empty y511 x28_2).toList != ([] : List UInt8)) = false := bne_eq_false_iff_eq.mpr c23); clear c23; (obtain ⟨y513, hy513⟩ : ∃ y_ : List ByteArray, y_ = (y511.set (x28_2 : Int).toNat (⟨#[63]⟩ : ByteArray)) := ⟨_, rfl⟩); (replace H : (impl_Tokens.l0 k2 y513 t503 (t503.length : Int) (wrap64 (x28_2 + 1))) = some (r1, r2) := qY hy513 H); (have Ny513 := Aside0.mk hy513); clear hy513; (have H' := Aside0.mk H); clear H; (have p509 : 0 ≤ (x28_2 : Int) := qO); (have q509 : x28_2 < (t503.length : Int) := qO); (obtain ⟨ad509, e509, hx509_0⟩ := Kd.at_string (Kd.R_reads' HO_26.out).2.2 x28_2 p509 q509)
              cases e509
              (replace p509 := eq_true p509); (replace q509 := eq_true q509)
              go_wp2_with (first | ((with_reducible refine gate_callee (f := 111) rfl ?_); refine goesL_ (some 36) rfl rfl Tryz.func111 (by kernel_rfl) rfl #[.string (rdOf ByteArray.empty t503 x28_2)] rfl qL ?_; (with_reducible refine (impl_Fold.calls k2 (rdOf ByteArray.empty t503 x28_2) t510 _ A20.out (G_below (qS0 HB) hG)).mono ?_); rintro e w25 ⟨rfl, hb⟩; refine ⟨_, rfl, ?_⟩; replace HO_7 := Aside0.mk (Kd.R_below (qR HO_7) hb); replace HO_26 := Aside0.mk (Kd.R_below (qR HO_26) hb); replace HB := Aside0.mk (below_step (qS0 HB) hb); (try clear hb); (try clear hb2); (try clear hk); (try clear hi); have p22 : 0 ≤ (x28_2 : Int) := qO; have q22 : (x28_2 : Int) < ((x7_2.length : Int) : Int) := qO; obtain ⟨go22, co22, eo22, gb22, gl22, cl22, HG22⟩ := Kd.R_form HO_7.out (by omega); (first | cases eo22 | (injection eo22 with ea_ en_ ec_; (first | subst ea_ | (injection ea_ with ea_; subst ea_)); subst ec_; clear en_)); have GB22 := Aside0.mk gb22; have GG22 := Aside0.mk HG22; clear gb22 gl22 HG22; obtain ⟨hx22_0, hf22_0⟩ := Kd.R_celln (⟨#[]⟩ : ByteArray) HO_7.out (x28_2 : Int) p22 q22; replace p22 := eq_true p22; replace q22 := eq_true q22; obtain ⟨hy26_, hz26_⟩ := Kd.R_celln (⟨#[]⟩ : ByteArray) HO_7.out (x28_2 : Int) (qO) (qO); have HP26 := Kd.R_putg HO_7.out (x28_2 : Int) t510) | ((with_reducible refine gate_store (t := 9) (p := 37) rfl ?_); refine store_event (t := 9) (p := 37) (v := ?vo_w27) (w1 := (w25.setCell ⟨go22, (x28_2 : Int).toNat, none⟩ (.string t510))) ?hg ?ho ?hn ?hr ?_; (case ho => rfl); (case hg => rfl); (case hn => rfl); (case hr => first | (go_simp; done) | (go_simp; rfl)); intro w27 hw; have hg : w25.grownBy w27 (some go22) := (by rw [hw]; exact HP26.2); have hp_ : Kd.R Kd.string 9 w27 w.heap.size (fun k_ => some k_ ≠ (.slice (some ad509) t503.length co14 : Value).ownBlock) (.slice (some ⟨go22, 0, none⟩) x7_2.length co22) y511 := (by rw [hw, Ny511.out]; exact HP26.1); clear HP26; replace HO_7 := Aside0.mk (hp_); replace HO_26 := Aside0.mk (Kd.R_after (v := (.slice (some ⟨go22, 0, none⟩) x7_2.length co22)) (v1 := (.slice (some ⟨go22, 0, none⟩) x7_2.length co22)) (ok := (fun _ => True)) (by (with_reducible repeat (first | apply Kd.R_alloc | apply Kd.R_drewN | apply Kd.R_drew)); exact Kd.R_mono HO_26.out (fun _ hk => ⟨trivial, hk⟩)) hg (.inl rfl)); replace HB := Aside0.mk ((by rw [hw]; exact below_set (HB.out) GB22.out : Below w.heap.size w w27)); clear hg hw hp_; have p512 : 0 ≤ (x28_2 : Int) := qO; have q512 : x28_2 < (y511.length : Int) := (by have h_ : (x28_2 : Int) < ((x7_2.length : Int) : Int) := qO; first | (have e_ := (Kd.R_reads' HO_7.out).1; omega) | simpa only [Ny511.out, List.length_set] using h_); have ql512 : ((x28_2 : Int) < ((x7_2.length : Int) : Int)) = True := eq_true (qO); obtain ⟨ad512, e512, hx512_0⟩ := Kd.at_string (Kd.R_reads' HO_7.out).2.2 x28_2 p512 q512; obtain rfl : (⟨go22, 0, none⟩ : Addr) = ad512 := (by injection e512); (first | simp only [add_plain] at hx512_0 | simp only [add_at] at hx512_0 | simp only [Addr.add, Nat.zero_add] at hx512_0 | skip); replace p512 := eq_true p512; replace q512 := eq_true q512; have p24 : 0 ≤ (x28_2 : Int) := qO; have q24 : (x28_2 : Int) < ((x7_2.length : Int) : Int) := qO; obtain ⟨hx24_0, hf24_0⟩ := Kd.R_celln (⟨#[]⟩ : ByteArray) HO_7.out (x28_2 : Int) p24 q24; replace p24 := eq_true p24; replace q24 := eq_true q24; obtain ⟨hy28_, hz28_⟩ := Kd.R_celln (⟨#[]⟩ : ByteArray) HO_7.out (x28_2 : Int) (qO) (qO); have HP28 := Kd.R_putg HO_7.out (x28_2 : Int) (⟨#[63]⟩ : ByteArray)) | ((with_reducible refine gate_store (t := 9) (p := 45) rfl ?_); refine store_event (t := 9) (p := 45) (v := ?vo_w29) (w1 := (w27.setCell ⟨go22, (x28_2 : Int).toNat, none⟩ (.string (⟨#[63]⟩ : ByteArray)))) ?hg ?ho ?hn ?hr ?_; (case ho => rfl); (case hg => rfl); (case hn => rfl); (case hr => first | (go_simp; done) | (go_simp; rfl)); intro w29 hw; have hg : w27.grownBy w29 (some go22) := (by rw [hw]; exact HP28.2); have hp_ : Kd.R Kd.string 9 w29 w.heap.size (fun k_ => some k_ ≠ (.slice (some ad509) t503.length co14 : Value).ownBlock) (.slice (some ⟨go22, 0, none⟩) x7_2.length co22) y513 := (by rw [hw, Ny513.out]; exact HP28.1); clear HP28; replace HO_7 := Aside0.mk (hp_); replace HO_26 := Aside0.mk (Kd.R_after (v := (.slice (some ⟨go22, 0, none⟩) x7_2.length co22)) (v1 := (.slice (some ⟨go22, 0, none⟩) x7_2.length co22)) (ok := (fun _ => True)) (qR HO_26) hg (.inl rfl)); replace HB := Aside0.mk ((by rw [hw]; exact below_set (HB.out) GB22.out : Below w.heap.size w w29)); clear hg hw hp_))
              go_roundg k2
              case measure => have := HJ2.out; have := HK2.out; omega
              case rel => exact ⟨(y513), (wrap64 (x28_2 + 1)), qV, H', ⟨by have := HJ2.out; have := HK2.out; omega⟩, ⟨qR HO_7⟩, ⟨by (with_reducible repeat (first | apply Kd.R_alloc | apply Kd.R_drewN | apply Kd.R_drew)); exact Kd.R_mono HO_26.out (fun _ hk => hk.2)⟩, ⟨qS0 HB⟩⟩
             ·rw [if_neg c23] at H
              (have c23b0 : ((rdOf ByteArray.empty y511 x28_2).toList == ([] : List UInt8)) = false := beq_eq_false_iff_ne.mpr c23); (have c23b1 : ((rdOf ByteArray.empty y511 x28_2).toList != ([] : List UInt8)) = true := bne_iff_ne.mpr c23); (have H' := Aside0.mk H); clear H; (have p509 : 0 ≤ (x28_2 : Int) := qO); (have q509 : x28_2 < (t503.length : Int) := qO); (obtain ⟨ad509, e509, hx509_0⟩ := Kd.at_string (Kd.R_reads' HO_26.out).2.2 x28_2 p509 q509)
              cases e509
              (replace p509 := eq_true p509); (replace q509 := eq_true q509)
              go_wp2_with (first | ((with_reducible refine gate_callee (f := 111) rfl ?_); refine goesL_ (some 36) rfl rfl Tryz.func111 (by kernel_rfl) rfl #[.string (rdOf ByteArray.empty t503 x28_2)] rfl qL ?_; (with_reducible refine (impl_Fold.calls k2 (rdOf ByteArray.empty t503 x28_2) t510 _ A20.out (G_below (qS0 HB) hG)).mono ?_); rintro e w30 ⟨rfl, hb⟩; refine ⟨_, rfl, ?_⟩; replace HO_7 := Aside0.mk (Kd.R_below (qR HO_7) hb); replace HO_26 := Aside0.mk (Kd.R_below (qR HO_26) hb); replace HB := Aside0.mk (below_step (qS0 HB) hb); (try clear hb); (try clear hb2); (try clear hk); (try clear hi); have p22 : 0 ≤ (x28_2 : Int) := qO; have q22 : (x28_2 : Int) < ((x7_2.length : Int) : Int) := qO; obtain ⟨go22, co22, eo22, gb22, gl22, cl22, HG22⟩ := Kd.R_form HO_7.out (by omega); (first | cases eo22 | (injection eo22 with ea_ en_ ec_; (first | subst ea_ | (injection ea_ with ea_; subst ea_)); subst ec_; clear en_)); have GB22 := Aside0.mk gb22; have GG22 := Aside0.mk HG22; clear gb22 gl22 HG22; obtain ⟨hx22_0, hf22_0⟩ := Kd.R_celln (⟨#[]⟩ : ByteArray) HO_7.out (x28_2 : Int) p22 q22; replace p22 := eq_true p22; replace q22 := eq_true q22; obtain ⟨hy31_, hz31_⟩ := Kd.R_celln (⟨#[]⟩ : ByteArray) HO_7.out (x28_2 : Int) (qO) (qO); have HP31 := Kd.R_putg HO_7.out (x28_2 : Int) t510) | ((with_reducible refine gate_store (t := 9) (p := 37) rfl ?_); refine store_event (t := 9) (p := 37) (v := ?vo_w32) (w1 := (w30.setCell ⟨go22, (x28_2 : Int).toNat, none⟩ (.string t510))) ?hg ?ho ?hn ?hr ?_; (case ho => rfl); (case hg => rfl); (case hn => rfl); (case hr => first | (go_simp; done) | (go_simp; rfl)); intro w32 hw; have hg : w30.grownBy w32 (some go22) := (by rw [hw]; exact HP31.2); have hp_ : Kd.R Kd.string 9 w32 w.heap.size (fun k_ => some k_ ≠ (.slice (some ad509) t503.length co14 : Value).ownBlock) (.slice (some ⟨go22, 0, none⟩) x7_2.length co22) y511 := (by rw [hw, Ny511.out]; exact HP31.1); clear HP31; replace HO_7 := Aside0.mk (hp_); replace HO_26 := Aside0.mk (Kd.R_after (v := (.slice (some ⟨go22, 0, none⟩) x7_2.length co22)) (v1 := (.slice (some ⟨go22, 0, none⟩) x7_2.length co22)) (ok := (fun _ => True)) (by (with_reducible repeat (first | apply Kd.R_alloc | apply Kd.R_drewN | apply Kd.R_drew)); exact Kd.R_mono HO_26.out (fun _ hk => ⟨trivial, hk⟩)) hg (.inl rfl)); replace HB := Aside0.mk ((by rw [hw]; exact below_set (HB.out) GB22.out : Below w.heap.size w w32)); clear hg hw hp_; have p512 : 0 ≤ (x28_2 : Int) := qO; have q512 : x28_2 < (y511.length : Int) := (by have h_ : (x28_2 : Int) < ((x7_2.length : Int) : Int) := qO; first | (have e_ := (Kd.R_reads' HO_7.out).1; omega) | simpa only [Ny511.out, List.length_set] using h_); have ql512 : ((x28_2 : Int) < ((x7_2.length : Int) : Int)) = True := eq_true (qO); obtain ⟨ad512, e512, hx512_0⟩ := Kd.at_string (Kd.R_reads' HO_7.out).2.2 x28_2 p512 q512; obtain rfl : (⟨go22, 0, none⟩ : Addr) = ad512 := (by injection e512); (first | simp only [add_plain] at hx512_0 | simp only [add_at] at hx512_0 | simp only [Addr.add, Nat.zero_add] at hx512_0 | skip); replace p512 := eq_true p512; replace q512 := eq_true q512))
              go_roundg k2
              case measure => have := HJ2.out; have := HK2.out; omega
              case rel => exact ⟨(y511), (wrap64 (x28_2 + 1)), qV, H', ⟨by have := HJ2.out; have := HK2.out; omega⟩, ⟨qR HO_7⟩, ⟨by (with_reducible repeat (first | apply Kd.R_alloc | apply Kd.R_drewN | apply Kd.R_drew)); exact Kd.R_mono HO_26.out (fun _ hk => hk.2)⟩, ⟨qS0 HB⟩⟩
            ·rw [if_neg c21] at H
             exact absurd H (by simp)
           ·rw [if_neg c19] at H
            exact absurd H (by simp)
          ·rw [if_neg c18] at H
           exact absurd H (by simp)
         ·rw [if_neg c17] at H
          (have c17b0 : decide (x28_2 < (t503.length : Int)) = false := decide_eq_false c17); clear c17; (simp only [Option.some.injEq, Prod.mk.injEq] at H); (obtain ⟨rfl, rfl⟩ := H)
          go_wp2
          go_ret2
          exact ⟨_, qE, by (with_reducible repeat (first | apply Kd.R_alloc | apply Kd.R_drewN | apply Kd.R_drew)); exact Kd.R_mono HO_7.out (fun _ hk => trivial), qS0 HB⟩
      ·rw [if_neg c12] at H
       exact absurd H (by simp)
     ·rw [if_neg c11] at H
      exact absurd H (by simp)
def impl_looksOf.f (k : Nat) (a0_0 : Int) (a0_1 : ByteArray) (a0_2 : Int) (a0_3 : Int) (a0_4 : Int) (a0_5 : Int) (a0_6 : ByteArray) : Option (List ByteArray) := if a0_0 = 1 then ((impl_Fold.f k a0_1).bind fun t515 => (some (([t515] : List ByteArray)))) else (if a0_0 = 6 then ((impl_Tokens.f k a0_6 a0_5).bind fun bt519 => (if bt519.2 = true then (some bt519.1) else (if 0 ≤ a0_5 then (if (a0_5 : Int).toNat ≤ 17592186044416 then (some (List.replicate (a0_5 : Int).toNat (⟨#[]⟩ : ByteArray))) else (none)) else (none)))) else (some ([] : List ByteArray)))
set_option maxHeartbeats 8000000 in
set_option maxRecDepth 100000 in
theorem impl_looksOf.calls (k : Nat) (a0_0 : Int) (a0_1 : ByteArray) (a0_2 : Int) (a0_3 : Int) (a0_4 : Int) (a0_5 : Int) (a0_6 : ByteArray) (r : List ByteArray) (w : World) (h : impl_looksOf.f k a0_0 a0_1 a0_2 a0_3 a0_4 a0_5 a0_6 = some r) (hG : TabG w) :
  Calls Tryz.prog 74 #[.agg #[.int .i64 a0_0, .string a0_1, .int .i64 a0_2, .int .i64 a0_3, .int .i64 a0_4, .int .i64 a0_5, .string a0_6]] w fun e w' => ∃ v0_ : Value, e = .returned (v0_) ∧ Kd.R Kd.string 9 w' w.heap.size (fun _ => True) v0_ r ∧ Below w.heap.size w w' := by
 (have hu56 := Tryz.underlying56); (have HB := Aside0.mk (Below.refl w.heap.size w)); (have H : (if a0_0 = 1 then ((impl_Fold.f k a0_1).bind fun t515 => (some (([t515] : List ByteArray)))) else (if a0_0 = 6 then ((impl_Tokens.f k a0_6 a0_5).bind fun bt519 => (if bt519.2 = true then (some bt519.1) else (if 0 ≤ a0_5 then (if (a0_5 : Int).toNat ≤ 17592186044416 then (some (List.replicate (a0_5 : Int).toNat (⟨#[]⟩ : ByteArray))) else (none)) else (none)))) else (some ([] : List ByteArray)))) = some r := h); clear h
 by_cases c2 : a0_0 = 1
 ·rw [if_pos c2] at H
  (have c2b0 : (a0_0 == 1) = true := beq_iff_eq.mpr c2); (have c2b1 : (a0_0 != 1) = false := bne_eq_false_iff_eq.mpr c2); clear c2; (replace H := Option.bind_eq_some_iff.mp H); (obtain ⟨t515, A30, H⟩ := H); (replace H : (some (([t515] : List ByteArray))) = some r := H); (have A3 := Aside0.mk A30); clear A30; (obtain ⟨y516, hy516⟩ : ∃ y_ : List ByteArray, y_ = (([t515] : List ByteArray)) := ⟨_, rfl⟩); (replace H : (some y516) = some r := qY hy516 H); (have Ny516 := Aside0.mk hy516); clear hy516; (obtain rfl := Option.some.inj H)
  go_enter Tryz.func74, Tryz.ntmps74
  go_wp2_with (first | ((with_reducible refine gate_dst (N := 1) rfl ?_); refine box_event ?hg (N := 1) ?hd (cs := #[.int .i64 a0_0, .string a0_1, .int .i64 a0_2, .int .i64 a0_3, .int .i64 a0_4, .int .i64 a0_5, .string a0_6]) (t := 56) ?hr ?_; (case hd => rfl); (case hg => rfl); (case hr => first | (go_simp; done) | (go_simp; rfl)); intro gb514 hg w4 hbox hb; have BK514 := Aside0.mk (hbox); have GW514 := qG hg (below_size (qS0 HB)); have GE514 := qG hg (below_size (qS0 HB)); replace HB := Aside0.mk (below_step (qS0 HB) hb); clear hb hbox hg; obtain ⟨hcz5_0, hcz5_1, hcz5_2, hcz5_3, hcz5_4, hcz5_5, hcz5_6, hfz5_0, hfz5_1, hfz5_2, hfz5_3, hfz5_4, hfz5_5, hfz5_6⟩ := qC7 BK514) | ((with_reducible refine gate_callee (f := 111) rfl ?_); refine goesL_ (some 11) rfl rfl Tryz.func111 (by kernel_rfl) rfl #[.string a0_1] rfl qL ?_; (with_reducible refine (impl_Fold.calls k a0_1 t515 _ A3.out (G_below (qS1 HB GE514) hG)).mono ?_); rintro e w6 ⟨rfl, hb⟩; refine ⟨_, rfl, ?_⟩; replace BK514 := qD BK514 hb; replace HB := Aside0.mk (below_step (qS1 HB GE514) hb); (try clear hb); (try clear hb2); (try clear hk); (try clear hi)) | ((with_reducible refine gate_dst (N := 12) rfl ?_); refine Kd.R_lit Kd.string _ 9 ?hg (N := 12) ?hd (xs := ([t515] : List ByteArray)) (inner := [.string t515]) (ok := fun _ => True) (okp := fun _ => True) ?hr ?hp (fun _ hk => hk) trivial (Below.refl _ _) (Nat.le_refl _) (by simp) ?_; (case hd => rfl); (case hg => rfl); (case hr => first | (go_simp; done) | (go_simp; rfl)); (case hp => exact (Reps.one (show Kd.M Kd.string _ _ _ t515 [.string t515] from rfl) (Reps.none _ _))); intro v517 w7 ho8 hb hg_ hnew_; clear hg_ hnew_; (first | rw [← Ny516.out] at ho8 | (simp only [Int.reduceToNat] at ho8; rw [← Ny516.out] at ho8)); have HO518 := Aside0.mk (Kd.R_lower ho8 (below_size (qS1 HB GE514))); replace BK514 := qD BK514 hb; replace HB := Aside0.mk (below_step (qS1 HB GE514) hb); clear hb ho8))
  go_ret
  exact ⟨_, qE, qR HO518, qS1 HB GE514⟩
 ·rw [if_neg c2] at H
  (have c2b0 : (a0_0 == 1) = false := beq_eq_false_iff_ne.mpr c2); (have c2b1 : (a0_0 != 1) = true := bne_iff_ne.mpr c2)
  by_cases c9 : a0_0 = 6
  ·rw [if_pos c9] at H
   (have c9b0 : (a0_0 == 6) = true := beq_iff_eq.mpr c9); (have c9b1 : (a0_0 != 6) = false := bne_eq_false_iff_eq.mpr c9); clear c9; (replace H := Option.bind_eq_some_iff.mp H); (obtain ⟨⟨t519, t520⟩, A100, H⟩ := H)
   try dsimp only at H
   (have A10 := Aside0.mk A100); clear A100
   by_cases c11 : t520 = true
   ·subst c11
    (have H1 : (some t519) = some r := by rw [if_pos rfl] at H; exact H); clear H; (have H := H1); clear H1; (obtain rfl := Option.some.inj H)
    go_enter Tryz.func74, Tryz.ntmps74
    go_wp2_with (first | ((with_reducible refine gate_dst (N := 1) rfl ?_); refine box_event ?hg (N := 1) ?hd (cs := #[.int .i64 a0_0, .string a0_1, .int .i64 a0_2, .int .i64 a0_3, .int .i64 a0_4, .int .i64 a0_5, .string a0_6]) (t := 56) ?hr ?_; (case hd => rfl); (case hg => rfl); (case hr => first | (go_simp; done) | (go_simp; rfl)); intro gb514 hg w12 hbox hb; have BK514 := Aside0.mk (hbox); have GW514 := qG hg (below_size (qS0 HB)); have GE514 := qG hg (below_size (qS0 HB)); replace HB := Aside0.mk (below_step (qS0 HB) hb); clear hb hbox hg; obtain ⟨hcz13_0, hcz13_1, hcz13_2, hcz13_3, hcz13_4, hcz13_5, hcz13_6, hfz13_0, hfz13_1, hfz13_2, hfz13_3, hfz13_4, hfz13_5, hfz13_6⟩ := qC7 BK514) | ((with_reducible refine gate_callee (f := 112) rfl ?_); refine goesL_ (some 20) rfl rfl Tryz.func112 (by kernel_rfl) rfl #[.string a0_6, .int .i64 a0_5] rfl qL ?_; (with_reducible refine (impl_Tokens.calls k a0_6 a0_5 t519 true _ A10.out (G_below (qS1 HB GE514) hG)).mono ?_); rintro e w14 ⟨v521, rfl, ho0, hb⟩; refine ⟨_, rfl, ?_⟩; have HO522 := Aside0.mk (Kd.R_lower ho0 (below_size (qS1 HB GE514))); replace BK514 := qD BK514 hb; replace HB := Aside0.mk (below_step (qS1 HB GE514) hb); (try clear hb); (try clear hb2); (try clear hk); (try clear hi); (try clear ho0)))
    go_ret
    exact ⟨_, qE, qR HO522, qS1 HB GE514⟩
   ·replace c11 := Bool.eq_false_iff.mpr c11
    (subst c11); (have H1 : (if 0 ≤ a0_5 then (if (a0_5 : Int).toNat ≤ 17592186044416 then (some (List.replicate (a0_5 : Int).toNat (⟨#[]⟩ : ByteArray))) else (none)) else (none)) = some r := by rw [if_neg (show ¬ (false = true) by decide)] at H; exact H); clear H; (have H := H1); clear H1
    by_cases c15 : 0 ≤ a0_5
    ·rw [if_pos c15] at H
     (have c15b0 := eq_true c15); (have c15b1 : decide (0 ≤ a0_5) = true := decide_eq_true c15); clear c15
     by_cases c16 : (a0_5 : Int).toNat ≤ 17592186044416
     ·rw [if_pos c16] at H
      (have c16b0 := eq_true c16); (have c16b1 : decide ((a0_5 : Int).toNat ≤ 17592186044416) = true := decide_eq_true c16); clear c16; (obtain ⟨y523, hy523⟩ : ∃ y_ : List ByteArray, y_ = (List.replicate (a0_5 : Int).toNat (⟨#[]⟩ : ByteArray)) := ⟨_, rfl⟩); (replace H : (some y523) = some r := qY hy523 H); (have Ny523 := Aside0.mk hy523); clear hy523; (obtain rfl := Option.some.inj H)
      go_enter Tryz.func74, Tryz.ntmps74
      go_wp2_with (first | ((with_reducible refine gate_dst (N := 1) rfl ?_); refine box_event ?hg (N := 1) ?hd (cs := #[.int .i64 a0_0, .string a0_1, .int .i64 a0_2, .int .i64 a0_3, .int .i64 a0_4, .int .i64 a0_5, .string a0_6]) (t := 56) ?hr ?_; (case hd => rfl); (case hg => rfl); (case hr => first | (go_simp; done) | (go_simp; rfl)); intro gb514 hg w17 hbox hb; have BK514 := Aside0.mk (hbox); have GW514 := qG hg (below_size (qS0 HB)); have GE514 := qG hg (below_size (qS0 HB)); replace HB := Aside0.mk (below_step (qS0 HB) hb); clear hb hbox hg; obtain ⟨hcz18_0, hcz18_1, hcz18_2, hcz18_3, hcz18_4, hcz18_5, hcz18_6, hfz18_0, hfz18_1, hfz18_2, hfz18_3, hfz18_4, hfz18_5, hfz18_6⟩ := qC7 BK514) | ((with_reducible refine gate_callee (f := 112) rfl ?_); refine goesL_ (some 20) rfl rfl Tryz.func112 (by kernel_rfl) rfl #[.string a0_6, .int .i64 a0_5] rfl qL ?_; (with_reducible refine (impl_Tokens.calls k a0_6 a0_5 t519 false _ A10.out (G_below (qS1 HB GE514) hG)).mono ?_); rintro e w19 ⟨v521, rfl, ho0, hb⟩; refine ⟨_, rfl, ?_⟩; have HO522 := Aside0.mk (Kd.R_lower ho0 (below_size (qS1 HB GE514))); replace BK514 := qD BK514 hb; replace HB := Aside0.mk (below_step (qS1 HB GE514) hb); (try clear hb); (try clear hb2); (try clear hk); (try clear hi); (try clear ho0); obtain ⟨hcz20_0, hcz20_1, hcz20_2, hcz20_3, hcz20_4, hcz20_5, hcz20_6, hfz20_0, hfz20_1, hfz20_2, hfz20_3, hfz20_4, hfz20_5, hfz20_6⟩ := qC7 BK514) | ((with_reducible refine gate_dst (N := 27) rfl ?_); refine Kd.R_make Kd.string _ 9 rfl (N := 27) rfl 80 _ _ rfl a0_5 rfl rfl Tryz.underlying80 (.string ⟨#[]⟩) 16 info9 rfl (by decide) (by omega) (⟨#[]⟩ : ByteArray) (ok := fun _ => True) (okp := fun _ => True) rfl (fun _ hk => hk) trivial (qO) (Nat.le_trans (Nat.mul_le_mul_right _ (qO : a0_5.toNat ≤ 17592186044416)) (by omega)) (Below.refl _ _) (Nat.le_refl _) ?_; intro v524 w21 ho22 hb hg_ hnew_; clear hg_ hnew_; (first | rw [← Ny523.out] at ho22 | (simp only [Int.reduceToNat] at ho22; rw [← Ny523.out] at ho22)); have HO525 := Aside0.mk (Kd.R_lower (Kd.R_new' ho22 (Kd.R_lt (qR HO522))) (below_size (qS1 HB GE514))); replace HO522 := Aside0.mk (Kd.R_elder' (qR HO522) (Kd.R_base ho22) hb); replace BK514 := qD BK514 hb; replace HB := Aside0.mk (below_step (qS1 HB GE514) hb); clear hb ho22))
      go_ret
      exact ⟨_, qE, by (with_reducible repeat (first | apply Kd.R_alloc | apply Kd.R_drewN | apply Kd.R_drew)); exact Kd.R_mono HO525.out (fun _ hk => trivial), qS1 HB GE514⟩
     ·rw [if_neg c16] at H
      exact absurd H (by simp)
    ·rw [if_neg c15] at H
     exact absurd H (by simp)
  ·rw [if_neg c9] at H
   (have c9b0 : (a0_0 == 6) = false := beq_eq_false_iff_ne.mpr c9); (have c9b1 : (a0_0 != 6) = true := bne_iff_ne.mpr c9); (obtain rfl := Option.some.inj H)
   go_enter Tryz.func74, Tryz.ntmps74
   go_wp2_with (first | ((with_reducible refine gate_dst (N := 1) rfl ?_); refine box_event ?hg (N := 1) ?hd (cs := #[.int .i64 a0_0, .string a0_1, .int .i64 a0_2, .int .i64 a0_3, .int .i64 a0_4, .int .i64 a0_5, .string a0_6]) (t := 56) ?hr ?_; (case hd => rfl); (case hg => rfl); (case hr => first | (go_simp; done) | (go_simp; rfl)); intro gb514 hg w23 hbox hb; have BK514 := Aside0.mk (hbox); have GW514 := qG hg (below_size (qS0 HB)); have GE514 := qG hg (below_size (qS0 HB)); replace HB := Aside0.mk (below_step (qS0 HB) hb); clear hb hbox hg; obtain ⟨hcz24_0, hcz24_1, hcz24_2, hcz24_3, hcz24_4, hcz24_5, hcz24_6, hfz24_0, hfz24_1, hfz24_2, hfz24_3, hfz24_4, hfz24_5, hfz24_6⟩ := qC7 BK514))
   go_ret
   exact ⟨_, qE, by first | exact Kd.R_nil _ _ _ _ _ | exact Kd.N_nil _ _ _ _ _ | exact Kd.V_nil _ _ _ _ _ | exact Kd.Q_nil _ _ _ _ _ | exact Kd.S_nil _ _ _ _ _, qS1 HB GE514⟩
theorem wpList_copy_str {P : Program} {w : World} {ops : Array Oper} {rest : List Oper} {o : Oper} {a : Act} {Q : Exit → Act → World → Prop} (hgd : o.guard = none) (d s : Operand) (dT sT : TypeId)
  (ho : o.op = .call { callee := .builtin .copy, args := #[d, s], argTypes := #[dT, sT] }) (elem : TypeId) (hu : P.underlying dT = some (.slice elem)) (hsz : (P.info? elem).map (·.size) = some 1)
  (g off dLen dCap : Nat) (str : ByteArray) (hd : a.eval d = .slice (some ⟨g, off, none⟩) dLen dCap) (hs : a.eval s = .string str)
  (cur : Array Value) (t : TypeId) (hg : w.heap[g]? = some (.cells cur t (0, 0))) (hle : str.size ≤ dLen) (hfit : off + str.size ≤ cur.size)
  (h : wpList P ops Q rest (a.put o.dst (goInt str.size)) (w.setRow g (cur.toList.take off ++ Lib.byteCells str.data.toList ++ cur.toList.drop (off + str.size)).toArray)) : wpList P ops Q (o :: rest) a w := by
 refine wpList_plain hgd fun K hK => ?_
 have hrun := Lib.run_copy_row_string (P := P) w dT sT o.type elem g off dLen dCap str cur t hu hsz hg hle hfit
 unfold Oper.wp
 simp [execOp, ho, resolve, invoke, builtin, hd, hs, hrun, Result.andThen]
 exact hK _ _ (by simpa using h)
theorem byteCells_nums (s : ByteArray) : Lib.byteCells s.data.toList = nums .u8 (bytesOf s) := by simp [nums, bytesOf, Lib.byteCells]
theorem made_nums (k : IntKind) (m : Nat) : (madeCells #[Value.int k 0] m).toList = nums k (List.replicate m 0) := by
 apply List.ext_getElem
 ·simp [nums, madeCells]
 ·intro i h1 h2
  simp [nums, madeCells, Nat.mod_one]
theorem made33 : (madeCells #[Value.int IntKind.u8 0] 33).toList = nums .u8 (List.replicate 33 0) := made_nums .u8 33
theorem pad_cells (s : ByteArray) (hs : s.size ≤ 32) : ((nums .u8 (List.replicate 33 0)).set 0 (Value.int .u8 (s.size : Int))).take 1 ++ nums .u8 (bytesOf s) ++ ((nums .u8 (List.replicate 33 0)).set 0 (Value.int .u8 (s.size : Int))).drop (1 + s.size) = nums .u8 ((s.size : Int) :: (bytesOf s ++ List.replicate (32 - s.size) 0)) := by
 (have e : nums .u8 (List.replicate 33 0) = Value.int .u8 0 :: List.replicate 32 (Value.int .u8 0) := by simp [nums, List.replicate_succ]); (rw [e, List.set_cons_zero, Nat.add_comm 1 s.size, List.drop_succ_cons, List.drop_replicate])
 simp [nums]
def impl_pad.f (k : Nat) (a0 : ByteArray) : Option (List Int) := (impl_isWord.f k a0).bind fun b => if b = true then (if a0.size ≤ 32 then some ((a0.size : Int) :: (bytesOf a0 ++ List.replicate (32 - a0.size) 0)) else none) else some (List.replicate 33 0)
theorem impl_pad.hi : (Tryz.prog.info? 5).map (fun i => (i.zero, i.size, i.bytes)) = some (some (.int .u8 0), 1, 1) := by kernel_rfl
set_option maxHeartbeats 8000000 in
set_option maxRecDepth 100000 in
theorem impl_pad.calls (k : Nat) (a0 : ByteArray) (r : List Int) (w : World) (h : impl_pad.f k a0 = some r) :
  Calls Tryz.prog 141 #[.string a0] w fun e w' => ∃ v0_ : Value, e = .returned (v0_) ∧ Kd.R (Kd.int .u8) 5 w' w.heap.size (fun _ => True) v0_ r ∧ Below w.heap.size w w' := by
 unfold impl_pad.f at h
 (obtain ⟨b, hb, h2⟩ := Option.bind_eq_some_iff.mp h); clear h; (have HA := Aside0.mk hb); clear hb; (have hmk : ∀ W : World, (Instr.makeSlice 42 (.int .i64 33) (.int .i64 33)).run Tryz.prog W = .ok (.slice (some ⟨W.heap.size, 0, none⟩) 33 33) (W.alloc (.cells (madeCells #[.int .u8 0] 33) 5)) := print_make (P := Tryz.prog) 42 5 .u8 1 Tryz.underlying42 impl_pad.hi (by decide) 33 (by decide))
 cases b with
 | true =>
  simp only [if_true] at h2
  by_cases hs : a0.size ≤ 32
  ·rw [if_pos hs] at h2
   (obtain rfl := Option.some.inj h2); clear h2; (have hz5 : (Tryz.prog.info? 5).map (·.size) = some 1 := by kernel_rfl); (have HZ := Aside0.mk hz5); clear hz5; (have hm0 : (madeCells #[Value.int IntKind.u8 0] 33)[0]? = some (.int .u8 0) := by simp [madeCells])
   go_enter Tryz.func141, Tryz.ntmps141
   go_wp2_with (first | (go_at_call 114; refine (impl_isWord.calls k a0 true _ HA.out).mono ?_; rintro e w' ⟨rfl, ⟨n, rfl⟩⟩) | (with_reducible refine wpList_copy_str rfl (.tmp 13) (.tmp 14) 42 9 rfl 5 Tryz.underlying42 HZ.out w.heap.size 1 32 32 a0 rfl rfl ((madeCells #[.int .u8 0] 33).setIfInBounds 0 (.int .u8 (a0.size : Int))) 5 ?hg hs ?hfit ?_))
   case hg => exact blk_set (blk_drewN (blk_new w _) n) 0 _
   case hfit => simp only [Array.size_setIfInBounds, size_madeCells, List.size_toArray, List.length_singleton]; omega
   go_ret
   have hr : ∀ c W, ((((w.alloc (.cells (madeCells #[Value.int IntKind.u8 0] 33) 5)).drewN n).setCell ⟨w.heap.size, 0, none⟩ (.int .u8 (a0.size : Int))).setRow w.heap.size c).heap[w.heap.size]? = W → W = some (.cells c 5 (0, 0)) := by
    intro c W h
    rw [← h]
    exact setRow_heap _ _ _ _ _ _ (blk_set (blk_drewN (blk_new w _) n) 0 _)
   refine ⟨_, rfl, Kd.R_of_own (enc := Value.int .u8) ?_ (fun _ _ => trivial), ?_⟩
   ·refine ⟨by simp [encs], .inr ⟨w.heap.size, 33, _, ?_, Nat.le_refl _, hr _ _ rfl, ?_, by simp [maxLen], ?_, ?_⟩⟩
    ·simp [bytesOf_length]; omega
    ·simp [bytesOf_length]; omega
    ·simp [Lib.byteCells, made33, nums, data_length]; omega
    ·rw [show ((a0.size : Int) :: (bytesOf a0 ++ List.replicate (32 - a0.size) 0)).length * 1 = 33 by simp [bytesOf_length]; omega]
     (rw [List.take_of_length_le (by simp [Lib.byteCells, made33, nums, data_length]; omega)]); (have := pad_cells a0 hs)
     simpa [made33, byteCells_nums, encs, nums] using this
   ·refine below_setRow (Below.setCell (p := ⟨w.heap.size, 0, none⟩) ?_ (Nat.le_refl _) _) (Nat.le_refl _) _
    exact pw_below_drewN ((Below.refl _ w).alloc (Nat.le_refl _) _) n
  ·rw [if_neg hs] at h2; cases h2
 | false =>
  (simp only [Bool.false_eq_true, if_false] at h2); (obtain rfl := Option.some.inj h2); clear h2
  go_enter Tryz.func141, Tryz.ntmps141
  go_wp2_with (go_at_call 114; refine (impl_isWord.calls k a0 false _ HA.out).mono ?_; rintro e w' ⟨rfl, ⟨n, rfl⟩⟩)
  go_ret
  refine ⟨_, rfl, Kd.R_of_own (enc := Value.int .u8) ?_ (fun _ _ => trivial), pw_below_drewN ((Below.refl _ w).alloc (Nat.le_refl _) _) n⟩
  (have := own_made w w.heap.size 5 .u8 33 (Nat.le_refl _) (by decide)); (rw [List.length_replicate])
  exact own_move this (fun _ _ => rfl)
end Go.Proofs.YtppopmajclmhjaaGreatDoor.QB
