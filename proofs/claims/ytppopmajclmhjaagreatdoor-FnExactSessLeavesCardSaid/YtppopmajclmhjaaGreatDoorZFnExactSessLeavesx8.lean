/- Part of the proof of the law FnExactSessLeaves: what it uses of the texts that this session and the kit's print wrote. -/
import Derived.Test.YtppopmajclmhjaaGreatDoorZFnExactSessLeavesx2
import Derived.Test.YtppopmajclmhjaaGreatDoorZFnExactSessLeavesx5
import Derived.Test.YtppopmajclmhjaaGreatDoorZFnExactSessLeavesx6
import Derived.Test.YtppopmajclmhjaaGreatDoorZFnExactSessLeavesx7
namespace Go.Proofs.YtppopmajclmhjaaGreatDoor.QB
open Go.RowKit Go.Proofs.YtppopmajclmhjaaGreatDoorW.PrintWords Go.Proofs.YtppopmajclmhjaaGreatDoorW.PrintLast Go.Proofs.YtppopmajclmhjaaGreatDoorW.PrintMore
attribute [local go_sem] max2_int min2_int max_two min_two max_three min_three max_four min_four
set_option linter.unusedVariables false
set_option linter.unusedSimpArgs false
def impl_hashWord.l0 : Nat → Int → List Int → Int → Int → Option (Int)
 | 0, _, _, _, _ => none
 | k + 1, x5, x11, x12, x13 => if x13 < x12 then (if 0 ≤ x13 then (if x13 < (x11.length : Int) then (impl_hashWord.l0 k (((Go.bits .xor .u32 x5 ((rd x11 x13) % 4294967296)) * 16777619) % 4294967296) x11 x12 (wrap64 (x13 + 1))) else (none)) else (none)) else (some (wrap64 (Go.bits .xor .u32 x5 (x5 / 65536))))
def impl_hashWord.f (k : Nat) (a0 : Int) (a1 : ByteArray) : Option (Int) := (impl_pad.f k a1).bind fun t526 => (impl_hashWord.l0 k ((a0) % 4294967296) t526 (t526.length : Int) 0)
set_option maxHeartbeats 8000000 in
set_option maxRecDepth 100000 in
theorem impl_hashWord.calls (k : Nat) (a0 : Int) (a1 : ByteArray) (r : Int) (w : World) (h : impl_hashWord.f k a0 a1 = some r) :
  Calls Tryz.prog 136 #[.int .i64 a0, .string a1] w fun e w' => e = .returned (.int .i64 r) ∧ Below w.heap.size w w' := by
 (have HB := Aside0.mk (Below.refl w.heap.size w)); (have H : ((impl_pad.f k a1).bind fun t526 => (impl_hashWord.l0 k ((a0) % 4294967296) t526 (t526.length : Int) 0)) = some r := h); clear h; (replace H := Option.bind_eq_some_iff.mp H); (obtain ⟨t526, A30, H⟩ := H); (replace H : (impl_hashWord.l0 k ((a0) % 4294967296) t526 (t526.length : Int) 0) = some r := H); (have A3 := Aside0.mk A30); clear A30; (have H' := Aside0.mk H); clear H
 go_enter Tryz.func136, Tryz.ntmps136
 go_wp2_with (first | ((with_reducible refine gate_callee (f := 141) rfl ?_); refine goesL_ (some 11) rfl rfl Tryz.func141 (by kernel_rfl) rfl #[.string a1] rfl qL ?_; (with_reducible refine (impl_pad.calls k a1 t526 _ A3.out).mono ?_); rintro e w4 ⟨v527, rfl, ho0, hb⟩; refine ⟨_, rfl, ?_⟩; have HO528 := Aside0.mk (Kd.R_lower ho0 (below_size (qS0 HB))); replace HB := Aside0.mk (below_step (qS0 HB) hb); (try clear hb); (try clear hb2); (try clear hk); (try clear hi); (try clear ho0); obtain ⟨Ao5, co5, eo5⟩ := Kd.R_slice HO528.out; subst eo5))
 go_loopg [5, 13] k (fun kq v5 v13 w' => ∃ (x5_1 : Int) (x13_1 : Int), v5 = .int .u32 x5_1 ∧ v13 = .int .i64 x13_1 ∧ Aside0 (impl_hashWord.l0 kq x5_1 t526 (t526.length : Int) x13_1 = some r) ∧ Aside0 (kq ≤ k) ∧ Aside0 (Kd.R (Kd.int .u8) 5 w' w.heap.size (fun _ => True) (.slice Ao5 t526.length co5) t526) ∧ Aside0 (Below w.heap.size w w'))
 case atStart => exact ⟨((a0) % 4294967296), (0), qV, qV, H', ⟨Nat.le_refl _⟩, ⟨qR HO528⟩, ⟨qS0 HB⟩⟩
 case round =>
  clear H'; (try clear c1); (try clear p2); (obtain ⟨x5_1, x13_1, rfl, rfl, HA, HK1, HO_11, HB⟩ := hrel)
  cases gk with
  | zero => exact absurd HA.out (by simp [impl_hashWord.l0])
  | succ k1 =>
   (have H := HA.out); clear HA; (simp only [impl_hashWord.l0] at H)
   by_cases c6 : x13_1 < (t526.length : Int)
   ·rw [if_pos c6] at H
    (have c6b0 : decide (x13_1 < (t526.length : Int)) = true := decide_eq_true c6); clear c6
    by_cases c7 : 0 ≤ x13_1
    ·rw [if_pos c7] at H
     (have c7b0 : decide (0 ≤ x13_1) = true := decide_eq_true c7); clear c7
     by_cases c8 : x13_1 < (t526.length : Int)
     ·rw [if_pos c8] at H
      (have c8b0 : decide (x13_1 < (t526.length : Int)) = true := decide_eq_true c8); clear c8; (have H' := Aside0.mk H); clear H; (have p529 : 0 ≤ (x13_1 : Int) := qO); (have q529 : x13_1 < (t526.length : Int) := qO); (obtain ⟨ad529, e529, hx529_0⟩ := Kd.at_int (Kd.R_reads' HO_11.out).2.2 x13_1 p529 q529)
      cases e529
      (replace p529 := eq_true p529); (replace q529 := eq_true q529)
      go_wp2
      go_roundg k1
      case measure => have := HK1.out; omega
      case rel => exact ⟨(((Go.bits .xor .u32 x5_1 ((rd t526 x13_1) % 4294967296)) * 16777619) % 4294967296), (wrap64 (x13_1 + 1)), qV, qV, H', ⟨by have := HK1.out; omega⟩, ⟨qR HO_11⟩, ⟨qS0 HB⟩⟩
     ·rw [if_neg c8] at H
      exact absurd H (by simp)
    ·rw [if_neg c7] at H
     exact absurd H (by simp)
   ·rw [if_neg c6] at H
    (have c6b0 : decide (x13_1 < (t526.length : Int)) = false := decide_eq_false c6); clear c6; (obtain rfl := Option.some.inj H)
    go_wp2
    go_ret
    exact ⟨qE, qS0 HB⟩
def impl_shelfFor.f (k : Nat) (a0 : Int) (a1 : ByteArray) (a2 : Int) : Option (Int) := (impl_hashWord.f k a0 a1).bind fun t530 => (if 0 ≤ a2 then (some (Go.bits .and .i64 t530 (wrap64 ((shl .i64 1 a2) - 1)))) else (none))
def impl_shelfFor.T1 : Bool × List (List Nat × List Nat) := (true, [([], []), ([], []), ([0, 1], [0, 1]), ([], []), ([3], [3]), ([4], [4]), ([2, 5], [2, 5]), ([6, 2, 0, 1, 2, 3, 4, 5, 6], [6])])
def impl_shelfFor.B1 : List Nat := [0, 0, 3, 0, 8, 24, 63, 127]
theorem impl_shelfFor.tab1 : rtab .any (opsOf Tryz.f126 1) = impl_shelfFor.T1 := by kernel_rfl
theorem impl_shelfFor.bits1 : waitsOk impl_shelfFor.T1.2 impl_shelfFor.B1 = true := by kernel_rfl
set_option maxHeartbeats 8000000 in
set_option maxRecDepth 100000 in
theorem impl_shelfFor.calls (k : Nat) (a0 : Int) (a1 : ByteArray) (a2 : Int) (r : Int) (w : World) (h : impl_shelfFor.f k a0 a1 a2 = some r) :
  Calls Tryz.prog 126 #[.int .i64 a0, .string a1, .int .i64 a2] w fun e w' => e = .returned (.int .i64 r) ∧ Below w.heap.size w w' := by
 (have HB := Aside0.mk (Below.refl w.heap.size w)); (have H : ((impl_hashWord.f k a0 a1).bind fun t530 => (if 0 ≤ a2 then (some (Go.bits .and .i64 t530 (wrap64 ((shl .i64 1 a2) - 1)))) else (none))) = some r := h); clear h; (replace H := Option.bind_eq_some_iff.mp H); (obtain ⟨t530, A40, H⟩ := H); (replace H : (if 0 ≤ a2 then (some (Go.bits .and .i64 t530 (wrap64 ((shl .i64 1 a2) - 1)))) else (none)) = some r := H); (have A4 := Aside0.mk A40); clear A40
 by_cases c5 : 0 ≤ a2
 ·rw [if_pos c5] at H
  (have c5b0 := eq_true c5); (have c5b1 : decide (0 ≤ a2) = true := decide_eq_true c5); clear c5; (obtain ⟨ji6, hji6⟩ : ∃ j_ : Int, (shl .i64 1 a2) = j_ := ⟨_, rfl⟩); (replace H : (some (Go.bits .and .i64 t530 (wrap64 ((ji6) - 1)))) = some r := by first | (rw [hji6] at H; exact H) | (simp only [hji6] at H ⊢; exact H)); (try rw [hji6] at A4); (have hji6_ : (IntKind.i64.wrap (1 * 2 ^ min a2.toNat 64)) = ji6 := hji6); (have hji6z : a2 ≤ 64 → (IntKind.i64.wrap (1 * 2 ^ a2.toNat)) = ji6 := shl_small hji6); (have hji6u : (IntKind.i64.wrap (2 ^ min a2.toNat 64)) = ji6 := by have h_ := hji6_; rw [Int.one_mul] at h_; exact h_); (have hji6v : a2 ≤ 64 → (IntKind.i64.wrap (2 ^ a2.toNat)) = ji6 := fun hle_ => by have h_ := hji6z hle_; rw [Int.one_mul] at h_; exact h_); (have hji6y : (wrap64 (1 * 2 ^ min a2.toNat 64)) = ji6 := (i64_w _).symm.trans hji6_); (have hji6x : a2 ≤ 64 → (wrap64 (1 * 2 ^ a2.toNat)) = ji6 := fun h_ => (i64_w _).symm.trans (hji6z h_)); (obtain rfl := Option.some.inj H)
  go_enter Tryz.func126, Tryz.ntmps126
  try go_wp2
  replace HB := Aside0.mk (below_drew1 HB.out)
  refine start_ (n := 8) (S := fun w' => True) (ds := []) #[false, false, false, false, false, false, false, false] (by kernel_rfl) rfl rfl trivial (fun hHeld => ?_); refine with_tabW impl_shelfFor.tab1 impl_shelfFor.bits1 (fun HT_ HW_ => ?_)
  generalize w.drew = w7 at HB hHeld ⊢
  refine pure_ (i := 0) (N := some 7) (v := ?_) (a' := ?_) #[true, false, false, false, false, false, false, false] rfl rfl (any_of HT_.out (by kernel_rfl)) (fun _ _ _ h => h) (Or.inl ⟨by rfl, ?_⟩) ?_ ?_
  rotate_left
  ·intro w'
   go_simp
   with_reducible rfl
  rotate_left
  ·simp only [Act.put, List.setIfInBounds_toArray, List.set_cons_zero, List.set_cons_succ, i64_w, i32_w]
   rfl
  refine pure_ (i := 1) (N := some 8) (v := ?_) (a' := ?_) #[true, true, false, false, false, false, false, false] rfl rfl (any_of HT_.out (by kernel_rfl)) (fun _ _ _ h => h) (Or.inl ⟨by rfl, ?_⟩) ?_ ?_
  rotate_left
  ·intro w'
   go_simp
   with_reducible rfl
  rotate_left
  ·simp only [Act.put, List.setIfInBounds_toArray, List.set_cons_zero, List.set_cons_succ, i64_w, i32_w]
   rfl
  refine pure_ (i := 3) (N := some 10) (v := ?_) (a' := ?_) #[true, true, false, true, false, false, false, false] rfl rfl (any_of HT_.out (by kernel_rfl)) (fun _ _ _ h => h) (Or.inl ⟨by rfl, ?_⟩) ?_ ?_
  rotate_left
  ·intro w'
   go_simp
   with_reducible rfl
  rotate_left
  ·simp only [Act.put, List.setIfInBounds_toArray, List.set_cons_zero, List.set_cons_succ, i64_w, i32_w]
   rfl
  refine pure_ (i := 4) (N := some 11) (v := ?_) (a' := ?_) #[true, true, false, true, true, false, false, false] rfl rfl (any_of HT_.out (by kernel_rfl)) (fun _ _ _ h => h) (Or.inl ⟨by rfl, ?_⟩) ?_ ?_
  rotate_left
  ·intro w'
   go_simp
   with_reducible rfl
  rotate_left
  ·simp only [Act.put, List.setIfInBounds_toArray, List.set_cons_zero, List.set_cons_succ, i64_w, i32_w]
   rfl
  refine pure_ (i := 5) (N := some 12) (v := ?_) (a' := ?_) #[true, true, false, true, true, true, false, false] rfl rfl (any_of HT_.out (by kernel_rfl)) (fun _ _ _ h => h) (Or.inl ⟨by rfl, ?_⟩) ?_ ?_
  rotate_left
  ·intro w'
   go_simp
   with_reducible rfl
  rotate_left
  ·simp only [Act.put, List.setIfInBounds_toArray, List.set_cons_zero, List.set_cons_succ, i64_w, i32_w]
   rfl
  refine one_ (i := 2) (N := some 9) #[true, true, true, true, true, true, false, false] rfl rfl (one_of HT_.out (by kernel_rfl)) (by decide) (fun K hK => ?_)
  refine goes_ Tryz.func136 (by kernel_rfl) rfl #[.int .i64 a0, .string a1] (by rfl) rfl rfl qL ?_
  with_reducible refine (impl_hashWord.calls k a0 a1 t530 _ A4.out).mono ?_
  rintro e w8 ⟨rfl, hb⟩
  refine ⟨_, rfl, ?_⟩
  (replace HB := Aside0.mk (below_step (qS0 HB) hb)); (try clear hb); (try clear hb2); (try clear hk); (try clear hi)
  refine hK.out _ _ trivial (fun hHeld => ?_)
  clear hK K
  refine norm_ (a' := ?_) ?_ ?_
  rotate_left
  ·show Act.put _ (some 9) _ = _
   simp only [Act.put, List.setIfInBounds_toArray, List.set_cons_zero, List.set_cons_succ, i64_w, i32_w]
   rfl
  refine pure_ (i := 6) (N := some 13) (v := ?_) (a' := ?_) #[true, true, true, true, true, true, true, false] rfl rfl (any_of HT_.out (by kernel_rfl)) (fun _ _ _ h => h) (Or.inl ⟨by rfl, ?_⟩) ?_ ?_
  rotate_left
  ·intro w'
   go_simp
   with_reducible rfl
  rotate_left
  ·simp only [Act.put, List.setIfInBounds_toArray, List.set_cons_zero, List.set_cons_succ, i64_w, i32_w]
   rfl
  refine pure_ (i := 7) (N := some 6) (v := ?_) (a' := ?_) #[true, true, true, true, true, true, true, true] rfl rfl (any_of HT_.out (by kernel_rfl)) (fun _ _ _ h => h) (Or.inl ⟨by rfl, ?_⟩) ?_ ?_
  rotate_left
  ·intro w'
   go_simp
   with_reducible rfl
  rotate_left
  ·simp only [Act.put, List.setIfInBounds_toArray, List.set_cons_zero, List.set_cons_succ, i64_w, i32_w]
   rfl
  refine done_ (done_of HT_.out (by kernel_rfl)) ?_
  try go_wp2
  go_ret
  exact ⟨by first | rfl | (simp [errW_none, errW_some] <;> rfl) | (simp only [← hji6]; first | rfl | (simp [errW_none, errW_some] <;> rfl)) | (simp [*, errW_none, errW_some] <;> rfl), qS0 HB⟩
 ·rw [if_neg c5] at H
  exact absurd H (by simp)
def impl_ShelfFor.f (k : Nat) (a0 : Int) (a1 : ByteArray) (a2 : Int) : Option (Int) := (impl_within.f a0 0 4294967295).bind fun t531 => (if t531 = true then ((impl_isWord.f k a1).bind fun t532 => (if t532 = true then ((impl_isLog.f a2).bind fun t533 => (if t533 = true then ((impl_shelfFor.f k a0 a1 a2).bind fun t534 => (some t534)) else (some (-1)))) else (some (-1)))) else (some (-1)))
set_option maxHeartbeats 8000000 in
set_option maxRecDepth 100000 in
theorem impl_ShelfFor.calls (k : Nat) (a0 : Int) (a1 : ByteArray) (a2 : Int) (r : Int) (w : World) (h : impl_ShelfFor.f k a0 a1 a2 = some r) :
  Calls Tryz.prog 113 #[.int .i64 a0, .string a1, .int .i64 a2] w fun e w' => e = .returned (.int .i64 r) ∧ Below w.heap.size w w' := by
 (have HB := Aside0.mk (Below.refl w.heap.size w)); (have H : ((impl_within.f a0 0 4294967295).bind fun t531 => (if t531 = true then ((impl_isWord.f k a1).bind fun t532 => (if t532 = true then ((impl_isLog.f a2).bind fun t533 => (if t533 = true then ((impl_shelfFor.f k a0 a1 a2).bind fun t534 => (some t534)) else (some (-1)))) else (some (-1)))) else (some (-1)))) = some r := h); clear h; (replace H := Option.bind_eq_some_iff.mp H); (obtain ⟨t531, A40, H⟩ := H)
 try dsimp only at H
 (have A4 := Aside0.mk A40); clear A40
 by_cases c5 : t531 = true
 ·subst c5
  (have H1 : ((impl_isWord.f k a1).bind fun t532 => (if t532 = true then ((impl_isLog.f a2).bind fun t533 => (if t533 = true then ((impl_shelfFor.f k a0 a1 a2).bind fun t534 => (some t534)) else (some (-1)))) else (some (-1)))) = some r := by rw [if_pos rfl] at H; exact H); clear H; (have H := H1); clear H1; (replace H := Option.bind_eq_some_iff.mp H); (obtain ⟨t532, A60, H⟩ := H)
  try dsimp only at H
  (have A6 := Aside0.mk A60); clear A60
  by_cases c7 : t532 = true
  ·subst c7
   (have H1 : ((impl_isLog.f a2).bind fun t533 => (if t533 = true then ((impl_shelfFor.f k a0 a1 a2).bind fun t534 => (some t534)) else (some (-1)))) = some r := by rw [if_pos rfl] at H; exact H); clear H; (have H := H1); clear H1; (replace H := Option.bind_eq_some_iff.mp H); (obtain ⟨t533, A80, H⟩ := H)
   try dsimp only at H
   (have A8 := Aside0.mk A80); clear A80
   by_cases c9 : t533 = true
   ·subst c9
    (have H1 : ((impl_shelfFor.f k a0 a1 a2).bind fun t534 => (some t534)) = some r := by rw [if_pos rfl] at H; exact H); clear H; (have H := H1); clear H1; (replace H := Option.bind_eq_some_iff.mp H); (obtain ⟨t534, A100, H⟩ := H); (replace H : (some t534) = some r := H); (have A10 := Aside0.mk A100); clear A100; (obtain rfl := Option.some.inj H)
    go_enter Tryz.func113, Tryz.ntmps113
    go_wp2_with (first | ((with_reducible refine gate_callee (f := 61) rfl ?_); refine goesL_ (some 8) rfl rfl Tryz.func61 (by kernel_rfl) rfl #[.int .i64 a0, .int .i64 0, .int .i64 4294967295] rfl qL ?_; (with_reducible refine (impl_within.calls a0 0 4294967295 true _ A4.out).mono ?_); rintro e w' ⟨rfl, ⟨nd, rfl⟩⟩; refine ⟨_, rfl, ?_⟩) | (go_at_call 114; (with_reducible refine (impl_isWord.calls k a1 true _ A6.out).mono ?_); rintro e w' ⟨rfl, ⟨nd, rfl⟩⟩) | (go_at_call 109; (with_reducible refine (impl_isLog.calls a2 true _ A8.out).mono ?_); rintro e w' ⟨rfl, ⟨nd, rfl⟩⟩) | ((with_reducible refine gate_callee (f := 126) rfl ?_); refine goesL_ (some 23) rfl rfl Tryz.func126 (by kernel_rfl) rfl #[.int .i64 a0, .string a1, .int .i64 a2] rfl qL ?_; (with_reducible refine (impl_shelfFor.calls k a0 a1 a2 t534 _ A10.out).mono ?_); rintro e w11 ⟨rfl, hb⟩; refine ⟨_, rfl, ?_⟩; replace HB := Aside0.mk (below_step (qS0 HB) hb); (try clear hb); (try clear hb2); (try clear hk); (try clear hi)))
    go_ret
    exact ⟨qE, qS0 HB⟩
   ·replace c9 := Bool.eq_false_iff.mpr c9
    (subst c9); (have H1 : (some (-1)) = some r := by rw [if_neg (show ¬ (false = true) by decide)] at H; exact H); clear H; (have H := H1); clear H1; (obtain rfl := Option.some.inj H)
    go_enter Tryz.func113, Tryz.ntmps113
    go_wp2_with (first | ((with_reducible refine gate_callee (f := 61) rfl ?_); refine goesL_ (some 8) rfl rfl Tryz.func61 (by kernel_rfl) rfl #[.int .i64 a0, .int .i64 0, .int .i64 4294967295] rfl qL ?_; (with_reducible refine (impl_within.calls a0 0 4294967295 true _ A4.out).mono ?_); rintro e w' ⟨rfl, ⟨nd, rfl⟩⟩; refine ⟨_, rfl, ?_⟩) | (go_at_call 114; (with_reducible refine (impl_isWord.calls k a1 true _ A6.out).mono ?_); rintro e w' ⟨rfl, ⟨nd, rfl⟩⟩) | (go_at_call 109; (with_reducible refine (impl_isLog.calls a2 false _ A8.out).mono ?_); rintro e w' ⟨rfl, ⟨nd, rfl⟩⟩))
    go_ret
    exact ⟨qE, qS0 HB⟩
  ·replace c7 := Bool.eq_false_iff.mpr c7
   (subst c7); (have H1 : (some (-1)) = some r := by rw [if_neg (show ¬ (false = true) by decide)] at H; exact H); clear H; (have H := H1); clear H1; (obtain rfl := Option.some.inj H)
   go_enter Tryz.func113, Tryz.ntmps113
   go_wp2_with (first | ((with_reducible refine gate_callee (f := 61) rfl ?_); refine goesL_ (some 8) rfl rfl Tryz.func61 (by kernel_rfl) rfl #[.int .i64 a0, .int .i64 0, .int .i64 4294967295] rfl qL ?_; (with_reducible refine (impl_within.calls a0 0 4294967295 true _ A4.out).mono ?_); rintro e w' ⟨rfl, ⟨nd, rfl⟩⟩; refine ⟨_, rfl, ?_⟩) | (go_at_call 114; (with_reducible refine (impl_isWord.calls k a1 false _ A6.out).mono ?_); rintro e w' ⟨rfl, ⟨nd, rfl⟩⟩))
   go_ret
   exact ⟨qE, qS0 HB⟩
 ·replace c5 := Bool.eq_false_iff.mpr c5
  (subst c5); (have H1 : (some (-1)) = some r := by rw [if_neg (show ¬ (false = true) by decide)] at H; exact H); clear H; (have H := H1); clear H1; (obtain rfl := Option.some.inj H)
  go_enter Tryz.func113, Tryz.ntmps113
  go_wp2_with (first | ((with_reducible refine gate_callee (f := 61) rfl ?_); refine goesL_ (some 8) rfl rfl Tryz.func61 (by kernel_rfl) rfl #[.int .i64 a0, .int .i64 0, .int .i64 4294967295] rfl qL ?_; (with_reducible refine (impl_within.calls a0 0 4294967295 false _ A4.out).mono ?_); rintro e w' ⟨rfl, ⟨nd, rfl⟩⟩; refine ⟨_, rfl, ?_⟩))
  go_ret
  exact ⟨qE, qS0 HB⟩
def impl_bucketOf.f (k : Nat) (a0_0 : Int) (a0_1 : Int) (a0_2 : Int) (a0_3 : Int) (a1 : ByteArray) : Option (Int) := (impl_ShelfFor.f k a0_0 a1 a0_1).bind fun t536 => (some t536)
set_option maxHeartbeats 8000000 in
set_option maxRecDepth 100000 in
theorem impl_bucketOf.calls (k : Nat) (a0_0 : Int) (a0_1 : Int) (a0_2 : Int) (a0_3 : Int) (a1 : ByteArray) (r : Int) (w : World) (h : impl_bucketOf.f k a0_0 a0_1 a0_2 a0_3 a1 = some r) :
  Calls Tryz.prog 75 #[.agg #[.int .i64 a0_0, .int .i64 a0_1, .int .i64 a0_2, .int .i64 a0_3], .string a1] w fun e w' => e = .returned (.int .i64 r) ∧ Below w.heap.size w w' := by
 (have hu29 := Tryz.underlying29); (have HB := Aside0.mk (Below.refl w.heap.size w)); (have H : ((impl_ShelfFor.f k a0_0 a1 a0_1).bind fun t536 => (some t536)) = some r := h); clear h; (replace H := Option.bind_eq_some_iff.mp H); (obtain ⟨t536, A30, H⟩ := H); (replace H : (some t536) = some r := H); (have A3 := Aside0.mk A30); clear A30; (obtain rfl := Option.some.inj H)
 go_enter Tryz.func75, Tryz.ntmps75
 go_wp2_with (first | ((with_reducible refine gate_dst (N := 2) rfl ?_); refine box_event ?hg (N := 2) ?hd (cs := #[.int .i64 a0_0, .int .i64 a0_1, .int .i64 a0_2, .int .i64 a0_3]) (t := 29) ?hr ?_; (case hd => rfl); (case hg => rfl); (case hr => first | (go_simp; done) | (go_simp; rfl)); intro gb535 hg w4 hbox hb; have BK535 := Aside0.mk (hbox); have GW535 := qG hg (below_size (qS0 HB)); have GE535 := qG hg (below_size (qS0 HB)); replace HB := Aside0.mk (below_step (qS0 HB) hb); clear hb hbox hg; obtain ⟨hcz5_0, hcz5_1, hcz5_2, hcz5_3, hfz5_0, hfz5_1, hfz5_2, hfz5_3⟩ := qC4 BK535) | ((with_reducible refine gate_callee (f := 113) rfl ?_); refine goesL_ (some 10) rfl rfl Tryz.func113 (by kernel_rfl) rfl #[.int .i64 a0_0, .string a1, .int .i64 a0_1] rfl qL ?_; (with_reducible refine (impl_ShelfFor.calls k a0_0 a1 a0_1 t536 _ A3.out).mono ?_); rintro e w6 ⟨rfl, hb⟩; refine ⟨_, rfl, ?_⟩; replace BK535 := qD BK535 hb; replace HB := Aside0.mk (below_step (qS1 HB GE535) hb); (try clear hb); (try clear hb2); (try clear hk); (try clear hi)))
 go_ret
 exact ⟨qE, qS1 HB GE535⟩
def impl_changeOf.f (k : Nat) (a0_0 : Int) (a0_1 : ByteArray) (a0_2 : Int) (a0_3 : Int) (a0_4 : Int) (a0_5 : Int) (a0_6 : ByteArray) : Option (ByteArray × Int) := (impl_Fold.f k a0_1).bind fun t539 => (if a0_0 = 4 then (some (t539, 0)) else (some (t539, a0_2)))
def impl_changeOf.T1 : Bool × List (List Nat × List Nat) := (true, [([], []), ([0], [0]), ([1], [1]), ([], []), ([3], [3]), ([2, 4], [2, 4]), ([], []), ([6, 5, 2, 0, 1, 2, 3, 4, 5, 6], [5, 6])])
def impl_changeOf.B1 : List Nat := [0, 1, 3, 0, 8, 31, 0, 127]
theorem impl_changeOf.tab1 : rtab .any (opsOf Tryz.f77 1) = impl_changeOf.T1 := by kernel_rfl
theorem impl_changeOf.bits1 : waitsOk impl_changeOf.T1.2 impl_changeOf.B1 = true := by kernel_rfl
set_option maxHeartbeats 8000000 in
set_option maxRecDepth 100000 in
theorem impl_changeOf.calls (k : Nat) (a0_0 : Int) (a0_1 : ByteArray) (a0_2 : Int) (a0_3 : Int) (a0_4 : Int) (a0_5 : Int) (a0_6 : ByteArray) (r1 : ByteArray) (r2 : Int) (w : World) (h : impl_changeOf.f k a0_0 a0_1 a0_2 a0_3 a0_4 a0_5 a0_6 = some (r1, r2)) (hG : TabG w) :
  Calls Tryz.prog 77 #[.agg #[.int .i64 a0_0, .string a0_1, .int .i64 a0_2, .int .i64 a0_3, .int .i64 a0_4, .int .i64 a0_5, .string a0_6]] w fun e w' => e = .returned (.agg #[.string r1, .int .i64 r2]) ∧ Below w.heap.size w w' := by
 (have hu56 := Tryz.underlying56); (have hu94 := Tryz.underlying94); (have HB := Aside0.mk (Below.refl w.heap.size w)); (have H : ((impl_Fold.f k a0_1).bind fun t539 => (if a0_0 = 4 then (some (t539, 0)) else (some (t539, a0_2)))) = some (r1, r2) := h); clear h; (replace H := Option.bind_eq_some_iff.mp H); (obtain ⟨t539, A20, H⟩ := H); (replace H : (if a0_0 = 4 then (some (t539, 0)) else (some (t539, a0_2))) = some (r1, r2) := H); (have A2 := Aside0.mk A20); clear A20
 by_cases c3 : a0_0 = 4
 ·rw [if_pos c3] at H
  (have c3b0 : (a0_0 == 4) = true := beq_iff_eq.mpr c3); (have c3b1 : (a0_0 != 4) = false := bne_eq_false_iff_eq.mpr c3); clear c3; (simp only [Option.some.injEq, Prod.mk.injEq] at H); (obtain ⟨rfl, rfl⟩ := H)
  go_enter Tryz.func77, Tryz.ntmps77
  try go_wp2_with (first | ((with_reducible refine gate_dst (N := 1) rfl ?_); refine box_event ?hg (N := 1) ?hd (cs := #[.int .i64 a0_0, .string a0_1, .int .i64 a0_2, .int .i64 a0_3, .int .i64 a0_4, .int .i64 a0_5, .string a0_6]) (t := 56) ?hr ?_; (case hd => rfl); (case hg => rfl); (case hr => first | (go_simp; done) | (go_simp; rfl)); intro gb537 hg w4 hbox hb; have BK537 := Aside0.mk (hbox); have GW537 := qG hg (below_size (qS0 HB)); have GE537 := qG hg (below_size (qS0 HB)); replace HB := Aside0.mk (below_step (qS0 HB) hb); clear hb hbox hg) | ((with_reducible refine gate_dst (N := 2) rfl ?_); refine box_event ?hg (N := 2) ?hd (cs := #[.string (⟨#[]⟩ : ByteArray), .int .i64 0]) (t := 94) ?hr ?_; (case hd => rfl); (case hg => rfl); (case hr => first | (go_simp; done) | (go_simp; rfl)); intro gb538 hg w5 hbox hb; have BK538 := Aside0.mk (hbox); have GW538 := qG hg (below_size (qS1 HB GE537)); have GE538 := qG hg (below_size (qS1 HB GE537)); replace HB := Aside0.mk (below_step (qS1 HB GE537) hb); have NB537_538 := qN hg (blk_lt (qB BK537)); have NB538_537 := qM hg (blk_lt (qB BK537)); replace BK537 := qD BK537 hb; clear hb hbox hg))
  (replace BK537 := Aside0.mk (blk_drew BK537.out)); (replace BK538 := Aside0.mk (blk_drew BK538.out)); (replace HB := Aside0.mk (below_drew1 HB.out))
  refine start_ (n := 8) (S := fun w' => w'.cell? ⟨gb537, 0, none⟩ = some (.int .i64 a0_0) ∧ w'.cell? ⟨gb537, 1, none⟩ = some (.string a0_1) ∧ w'.cell? ⟨gb537, 2, none⟩ = some (.int .i64 a0_2) ∧ w'.cell? ⟨gb537, 3, none⟩ = some (.int .i64 a0_3) ∧ w'.cell? ⟨gb537, 4, none⟩ = some (.int .i64 a0_4) ∧ w'.cell? ⟨gb537, 5, none⟩ = some (.int .i64 a0_5) ∧ w'.cell? ⟨gb537, 6, none⟩ = some (.string a0_6)) (ds := []) #[false, false, false, false, false, false, false, false] (by kernel_rfl) rfl rfl ⟨(blk_cell BK537.out 0).trans rfl, (blk_cell BK537.out 1).trans rfl, (blk_cell BK537.out 2).trans rfl, (blk_cell BK537.out 3).trans rfl, (blk_cell BK537.out 4).trans rfl, (blk_cell BK537.out 5).trans rfl, (blk_cell BK537.out 6).trans rfl⟩ (fun hHeld => ?_); refine with_tabW impl_changeOf.tab1 impl_changeOf.bits1 (fun HT_ HW_ => ?_)
  generalize w5.drew = w6 at BK537 BK538 HB hHeld ⊢
  refine pure_ (i := 0) (N := some 4) (v := ?_) (a' := ?_) #[true, false, false, false, false, false, false, false] rfl rfl (any_of HT_.out (by kernel_rfl)) (fun _ _ _ h => h) (Or.inl ⟨by rfl, ?_⟩) ?_ ?_
  rotate_left
  ·intro w'
   go_simp
   with_reducible rfl
  rotate_left
  ·simp only [Act.put, List.setIfInBounds_toArray, List.set_cons_zero, List.set_cons_succ, i64_w, i32_w]
   rfl
  refine pure_ (i := 3) (N := some 7) (v := ?_) (a' := ?_) #[true, false, false, true, false, false, false, false] rfl rfl (any_of HT_.out (by kernel_rfl)) (fun _ _ _ h => h) (Or.inl ⟨by rfl, ?_⟩) ?_ ?_
  rotate_left
  ·intro w'
   go_simp
   with_reducible rfl
  rotate_left
  ·simp only [Act.put, List.setIfInBounds_toArray, List.set_cons_zero, List.set_cons_succ, i64_w, i32_w]
   rfl
  refine take_ (i := 1) (N := some 5) (v := ?_) (a' := ?_) #[true, true, false, true, false, false, false, false] rfl rfl (take_ofW HT_.out HW_.out (by kernel_rfl)) (fun _ _ _ h => h) (Or.inl ⟨by rfl, ?_⟩) hHeld ?_ ?_
  rotate_left
  ·rintro w' ⟨s0, s1, s2, s3, s4, s5, s6⟩
   go_simp
   with_reducible rfl
  rotate_left
  ·simp only [Act.put, List.setIfInBounds_toArray, List.set_cons_zero, List.set_cons_succ, i64_w, i32_w]
   rfl
  refine take_ (i := 4) (N := some 8) (v := ?_) (a' := ?_) #[true, true, false, true, true, false, false, false] rfl rfl (take_ofW HT_.out HW_.out (by kernel_rfl)) (fun _ _ _ h => h) (Or.inl ⟨by rfl, ?_⟩) hHeld ?_ ?_
  rotate_left
  ·rintro w' ⟨s0, s1, s2, s3, s4, s5, s6⟩
   go_simp
   with_reducible rfl
  rotate_left
  ·simp only [Act.put, List.setIfInBounds_toArray, List.set_cons_zero, List.set_cons_succ, i64_w, i32_w]
   rfl
  refine join_ (σ := Nat) 1 #[true, true, true, true, true, true, true, false] (fun s_ => [(6, .string t539), (3, .pointer (some ⟨s_, 0, none⟩)), (9, .agg #[.string t539, .int .i64 a0_2])]) (fun s_ w' => (w'.cell? ⟨gb537, 0, none⟩ = some (.int .i64 a0_0) ∧ w'.cell? ⟨gb537, 1, none⟩ = some (.string a0_1) ∧ w'.cell? ⟨gb537, 2, none⟩ = some (.int .i64 a0_2) ∧ w'.cell? ⟨gb537, 3, none⟩ = some (.int .i64 a0_3) ∧ w'.cell? ⟨gb537, 4, none⟩ = some (.int .i64 a0_4) ∧ w'.cell? ⟨gb537, 5, none⟩ = some (.int .i64 a0_5) ∧ w'.cell? ⟨gb537, 6, none⟩ = some (.string a0_6)) ∧ (w'.heap[gb537]? = some (.cells #[.int .i64 a0_0, .string a0_1, .int .i64 a0_2, .int .i64 a0_3, .int .i64 a0_4, .int .i64 a0_5, .string a0_6] 56 (0, 0))) ∧ (w'.heap[gb538]? = some (.cells #[.string (⟨#[]⟩ : ByteArray), .int .i64 0] 94 (0, 0))) ∧ (w'.heap[s_]? = some (.cells #[.string (⟨#[]⟩ : ByteArray), .int .i64 0] 94 (0, 0))) ∧ (w.heap.size ≤ s_) ∧ (w.heap.size ≤ s_) ∧ (gb537 ≠ s_) ∧ (s_ ≠ gb537) ∧ (gb538 ≠ s_) ∧ (s_ ≠ gb538) ∧ (Below w.heap.size w w')) ?_ ?_
  rotate_left
  ·intro hCont
   refine two_ (i := 2) (j := 6) (Ni := some 6) (Nj := some 3) #[true, true, true, true, true, false, false, false] #[true, true, false, true, true, false, true, false] rfl rfl rfl rfl (two_of HT_.out (by kernel_rfl)) (by decide) (by decide) (fun K hK => ?_) (fun K hK => ?_)
   ·skip
    refine goes_ Tryz.func111 (by kernel_rfl) rfl #[.string a0_1] (by rfl) rfl rfl qL ?_
    with_reducible refine (impl_Fold.calls k a0_1 t539 _ A2.out (G_below (qS0 HB) hG)).mono ?_
    rintro e w7 ⟨rfl, hb⟩
    refine ⟨_, rfl, ?_⟩
    (replace BK537 := qD BK537 hb); (replace BK538 := qD BK538 hb); (replace HB := Aside0.mk (below_step (qS2 HB GE537 GE538) hb)); (try clear hb); (try clear hb2); (try clear hk); (try clear hi)
    refine hK.out _ _ ⟨(blk_cell BK537.out 0).trans rfl, (blk_cell BK537.out 1).trans rfl, (blk_cell BK537.out 2).trans rfl, (blk_cell BK537.out 3).trans rfl, (blk_cell BK537.out 4).trans rfl, (blk_cell BK537.out 5).trans rfl, (blk_cell BK537.out 6).trans rfl⟩ (fun hHeld => ?_)
    clear hK K
    refine norm_ (a' := ?_) ?_ ?_
    rotate_left
    ·show Act.put _ (some 6) _ = _
     simp only [Act.put, List.setIfInBounds_toArray, List.set_cons_zero, List.set_cons_succ, i64_w, i32_w]
     rfl
    refine pure_ (i := 5) (N := some 9) (v := ?_) (a' := ?_) #[true, true, true, true, true, true, false, false] rfl rfl (any_of HT_.out (by kernel_rfl)) (fun _ _ _ h => h) (Or.inl ⟨by rfl, ?_⟩) ?_ ?_
    rotate_left
    ·intro w'
     go_simp
     with_reducible rfl
    rotate_left
    ·simp only [Act.put, List.setIfInBounds_toArray, List.set_cons_zero, List.set_cons_succ, i64_w, i32_w]
     rfl
    refine one_ (i := 6) (N := some 3) #[true, true, true, true, true, true, true, false] rfl rfl (one_of HT_.out (by kernel_rfl)) (by decide) (fun K hK => ?_)
    refine box_step ?hg (N := 3) ?hd (cs := #[.string (⟨#[]⟩ : ByteArray), .int .i64 0]) (t := 94) ?hr ?_; (case hd => rfl); (case hg => rfl); (case hr => first | (go_simp; done) | (go_simp; rfl))
    intro gb540 hg w8 hbox hb
    (have BK540 := Aside0.mk (hbox)); (have GW540 := qG hg (below_size (qS2 HB GE537 GE538))); (have GE540 := qG hg (below_size (qS2 HB GE537 GE538))); (replace HB := Aside0.mk (below_step (qS2 HB GE537 GE538) hb)); (have NB537_540 := qN hg (blk_lt (qB BK537))); (have NB540_537 := qM hg (blk_lt (qB BK537))); (replace BK537 := qD BK537 hb); (have NB538_540 := qN hg (blk_lt (qB BK538))); (have NB540_538 := qM hg (blk_lt (qB BK538))); (replace BK538 := qD BK538 hb); clear hb hbox hg
    refine hK.out _ _ ⟨(blk_cell BK537.out 0).trans rfl, (blk_cell BK537.out 1).trans rfl, (blk_cell BK537.out 2).trans rfl, (blk_cell BK537.out 3).trans rfl, (blk_cell BK537.out 4).trans rfl, (blk_cell BK537.out 5).trans rfl, (blk_cell BK537.out 6).trans rfl⟩ (fun hHeld => ?_)
    clear hK K
    refine norm_ (a' := ?_) ?_ ?_
    rotate_left
    ·show Act.put _ (some 3) _ = _
     simp only [Act.put, List.setIfInBounds_toArray, List.set_cons_zero, List.set_cons_succ, i64_w, i32_w]
     rfl
    exact norm_ (by simp only [putAll, Act.put, List.setIfInBounds_toArray, List.set_cons_zero, List.set_cons_succ]) (hCont (gb540) _ ⟨hHeld, (qB BK537), (qB BK538), (qB BK540), GW540.out, GE540.out, NB537_540.out, NB540_537.out, NB538_540.out, NB540_538.out, (qS3 HB GE537 GE538 GE540)⟩)
   ·skip
    refine box_step ?hg (N := 3) ?hd (cs := #[.string (⟨#[]⟩ : ByteArray), .int .i64 0]) (t := 94) ?hr ?_; (case hd => rfl); (case hg => rfl); (case hr => first | (go_simp; done) | (go_simp; rfl))
    intro gb540 hg w7 hbox hb
    (have BK540 := Aside0.mk (hbox)); (have GW540 := qG hg (below_size (qS2 HB GE537 GE538))); (have GE540 := qG hg (below_size (qS2 HB GE537 GE538))); (replace HB := Aside0.mk (below_step (qS2 HB GE537 GE538) hb)); (have NB537_540 := qN hg (blk_lt (qB BK537))); (have NB540_537 := qM hg (blk_lt (qB BK537))); (replace BK537 := qD BK537 hb); (have NB538_540 := qN hg (blk_lt (qB BK538))); (have NB540_538 := qM hg (blk_lt (qB BK538))); (replace BK538 := qD BK538 hb); clear hb hbox hg
    refine hK.out _ _ ⟨(blk_cell BK537.out 0).trans rfl, (blk_cell BK537.out 1).trans rfl, (blk_cell BK537.out 2).trans rfl, (blk_cell BK537.out 3).trans rfl, (blk_cell BK537.out 4).trans rfl, (blk_cell BK537.out 5).trans rfl, (blk_cell BK537.out 6).trans rfl⟩ (fun hHeld => ?_)
    clear hK K
    refine norm_ (a' := ?_) ?_ ?_
    rotate_left
    ·show Act.put _ (some 3) _ = _
     simp only [Act.put, List.setIfInBounds_toArray, List.set_cons_zero, List.set_cons_succ, i64_w, i32_w]
     rfl
    refine one_ (i := 2) (N := some 6) #[true, true, true, true, true, false, true, false] rfl rfl (one_of HT_.out (by kernel_rfl)) (by decide) (fun K hK => ?_)
    refine goes_ Tryz.func111 (by kernel_rfl) rfl #[.string a0_1] (by rfl) rfl rfl qL ?_
    with_reducible refine (impl_Fold.calls k a0_1 t539 _ A2.out (G_below (qS0 HB) hG)).mono ?_
    rintro e w8 ⟨rfl, hb⟩
    refine ⟨_, rfl, ?_⟩
    (replace BK537 := qD BK537 hb); (replace BK538 := qD BK538 hb); (replace BK540 := qD BK540 hb); (replace HB := Aside0.mk (below_step (qS3 HB GE537 GE538 GE540) hb)); (try clear hb); (try clear hb2); (try clear hk); (try clear hi)
    refine hK.out _ _ ⟨(blk_cell BK537.out 0).trans rfl, (blk_cell BK537.out 1).trans rfl, (blk_cell BK537.out 2).trans rfl, (blk_cell BK537.out 3).trans rfl, (blk_cell BK537.out 4).trans rfl, (blk_cell BK537.out 5).trans rfl, (blk_cell BK537.out 6).trans rfl⟩ (fun hHeld => ?_)
    clear hK K
    refine norm_ (a' := ?_) ?_ ?_
    rotate_left
    ·show Act.put _ (some 6) _ = _
     simp only [Act.put, List.setIfInBounds_toArray, List.set_cons_zero, List.set_cons_succ, i64_w, i32_w]
     rfl
    refine pure_ (i := 5) (N := some 9) (v := ?_) (a' := ?_) #[true, true, true, true, true, true, true, false] rfl rfl (any_of HT_.out (by kernel_rfl)) (fun _ _ _ h => h) (Or.inl ⟨by rfl, ?_⟩) ?_ ?_
    rotate_left
    ·intro w'
     go_simp
     with_reducible rfl
    rotate_left
    ·simp only [Act.put, List.setIfInBounds_toArray, List.set_cons_zero, List.set_cons_succ, i64_w, i32_w]
     rfl
    exact norm_ (by simp only [putAll, Act.put, List.setIfInBounds_toArray, List.set_cons_zero, List.set_cons_succ]) (hCont (gb540) _ ⟨hHeld, (qB BK537), (qB BK538), (qB BK540), GW540.out, GE540.out, NB537_540.out, NB540_537.out, NB538_540.out, NB540_538.out, (qS3 HB GE537 GE538 GE540)⟩)
  rintro gb540 w9 ⟨hS_, h0_, h1_, h2_, h3_, h4_, h5_, h6_, h7_, h8_, h9_⟩
  (have n0_ : Aside0 (w9.heap[gb537]? = some (.cells #[.int .i64 a0_0, .string a0_1, .int .i64 a0_2, .int .i64 a0_3, .int .i64 a0_4, .int .i64 a0_5, .string a0_6] 56 (0, 0))) := ⟨h0_⟩); (have n1_ : Aside0 (w9.heap[gb538]? = some (.cells #[.string (⟨#[]⟩ : ByteArray), .int .i64 0] 94 (0, 0))) := ⟨h1_⟩); (have n2_ : Aside0 (w9.heap[gb540]? = some (.cells #[.string (⟨#[]⟩ : ByteArray), .int .i64 0] 94 (0, 0))) := ⟨h2_⟩); (have n3_ : Aside0 (w.heap.size ≤ gb540) := ⟨h3_⟩); (have n4_ : Aside0 (w.heap.size ≤ gb540) := ⟨h4_⟩); (have n5_ : Aside0 (gb537 ≠ gb540) := ⟨h5_⟩); (have n6_ : Aside0 (gb540 ≠ gb537) := ⟨h6_⟩); (have n7_ : Aside0 (gb538 ≠ gb540) := ⟨h7_⟩); (have n8_ : Aside0 (gb540 ≠ gb538) := ⟨h8_⟩); (have n9_ : Aside0 (Below w.heap.size w w9) := ⟨h9_⟩); clear BK537 BK538 HB h0_ h1_ h2_ h3_ h4_ h5_ h6_ h7_ h8_ h9_; (have BK537 := n0_); (have BK538 := n1_); (have BK540 := n2_); (have GW540 := n3_); (have GE540 := n4_); (have NB537_540 := n5_); (have NB540_537 := n6_); (have NB538_540 := n7_); (have NB540_538 := n8_); (have HB := n9_); clear n0_ n1_ n2_ n3_ n4_ n5_ n6_ n7_ n8_ n9_; (have hHeld : w9.cell? ⟨gb537, 0, none⟩ = some (.int .i64 a0_0) ∧ w9.cell? ⟨gb537, 1, none⟩ = some (.string a0_1) ∧ w9.cell? ⟨gb537, 2, none⟩ = some (.int .i64 a0_2) ∧ w9.cell? ⟨gb537, 3, none⟩ = some (.int .i64 a0_3) ∧ w9.cell? ⟨gb537, 4, none⟩ = some (.int .i64 a0_4) ∧ w9.cell? ⟨gb537, 5, none⟩ = some (.int .i64 a0_5) ∧ w9.cell? ⟨gb537, 6, none⟩ = some (.string a0_6) := hS_)
  refine norm_ (a' := ?_) ?_ ?_
  rotate_left
  ·simp only [putAll, Act.put, List.setIfInBounds_toArray, List.set_cons_zero, List.set_cons_succ]
   rfl
  refine one_ (i := 7) (N := none) #[true, true, true, true, true, true, true, true] rfl rfl (one_of HT_.out (by kernel_rfl)) (by decide) (fun K hK => ?_)
  (have hs10 : w9.cell? ⟨gb540, 0, none⟩ = some (.string (⟨#[]⟩ : ByteArray)) := (blk_cell BK540.out 0).trans rfl); (have hfs10 := blk_frozen BK540.out 0); (have hns10_0 := NB537_540.out); (have hns10_1 := NB538_540.out); (have hms10_0 := NB540_537.out); (have hms10_1 := NB540_538.out); (have hs11 : w9.cell? ⟨gb540, 1, none⟩ = some (.int .i64 0) := (blk_cell BK540.out 1).trans rfl); (have hfs11 := blk_frozen BK540.out 1); (have hns11_0 := NB537_540.out); (have hns11_1 := NB538_540.out); (have hms11_0 := NB540_537.out); (have hms11_1 := NB540_538.out)
  refine skip_ (w1 := ?_) (by rfl) rfl ?_ ?_
  rotate_left
  ·go_simp
   rfl
  refine hK.out _ _ ⟨((cell_far (p := ⟨gb540, _, none⟩) NB537_540.out _).trans (((cell_far (p := ⟨gb540, _, none⟩) NB537_540.out _).trans (hHeld.1)))), ((cell_far (p := ⟨gb540, _, none⟩) NB537_540.out _).trans (((cell_far (p := ⟨gb540, _, none⟩) NB537_540.out _).trans (hHeld.2.1)))), ((cell_far (p := ⟨gb540, _, none⟩) NB537_540.out _).trans (((cell_far (p := ⟨gb540, _, none⟩) NB537_540.out _).trans (hHeld.2.2.1)))), ((cell_far (p := ⟨gb540, _, none⟩) NB537_540.out _).trans (((cell_far (p := ⟨gb540, _, none⟩) NB537_540.out _).trans (hHeld.2.2.2.1)))), ((cell_far (p := ⟨gb540, _, none⟩) NB537_540.out _).trans (((cell_far (p := ⟨gb540, _, none⟩) NB537_540.out _).trans (hHeld.2.2.2.2.1)))), ((cell_far (p := ⟨gb540, _, none⟩) NB537_540.out _).trans (((cell_far (p := ⟨gb540, _, none⟩) NB537_540.out _).trans (hHeld.2.2.2.2.2.1)))), ((cell_far (p := ⟨gb540, _, none⟩) NB537_540.out _).trans (((cell_far (p := ⟨gb540, _, none⟩) NB537_540.out _).trans (hHeld.2.2.2.2.2.2))))⟩ (fun hHeld => ?_)
  clear hK K
  refine done_ (done_of HT_.out (by kernel_rfl)) ?_
  (have hnb12 := NB537_538.out); (have hnc12 := NB538_537.out); (have hnb13 := NB537_540.out); (have hnc13 := NB540_537.out); (obtain ⟨hcz14_0, hcz14_1, hcz14_2, hcz14_3, hcz14_4, hcz14_5, hcz14_6, hfz14_0, hfz14_1, hfz14_2, hfz14_3, hfz14_4, hfz14_5, hfz14_6⟩ := qC7 BK537); (have hnb15 := NB540_538.out); (have hnc15 := NB538_540.out); (obtain ⟨hcz16_0, hcz16_1, hfz16_0, hfz16_1⟩ := qC2 BK540); (obtain ⟨hcz17_0, hcz17_1, hfz17_0, hfz17_1⟩ := qC2 BK538); (have hd1_ : ((w9.setCell ⟨gb540, 0, none⟩ (.string t539)).setCell ⟨gb540, 1, none⟩ (.int .i64 a0_2)).cell? ⟨gb540, 1, none⟩ = some (.int .i64 a0_2) := (blk_cell (blk_set (blk_set BK540.out 0 (.string t539)) 1 (.int .i64 a0_2)) 1).trans rfl); (have hd2_ : (((w9.setCell ⟨gb540, 0, none⟩ (.string t539)).setCell ⟨gb540, 1, none⟩ (.int .i64 a0_2)).setCell ⟨gb540, 1, none⟩ (.int .i64 0)).cell? ⟨gb540, 1, none⟩ = some (.int .i64 0) := (blk_cell (blk_set (blk_set (blk_set BK540.out 0 (.string t539)) 1 (.int .i64 a0_2)) 1 (.int .i64 0)) 1).trans rfl)
  try go_wp2
  refine bodyPost_ret (results_cell_row rfl _ _ gb538 94 #[.string t539, .int .i64 0] (0, 0) _ rfl (by (with_reducible repeat (first | refine blk_drewN ?_ _ | refine blk_drew ?_ | refine blk_alloc ?_ _)); refine blk_put (cs := #[.string t539, .int .i64 0]) ?_ 1 _ rfl; (with_reducible repeat (first | refine blk_drewN ?_ _ | refine blk_drew ?_ | refine blk_alloc ?_ _)); refine blk_put (cs := #[.string (⟨#[]⟩ : ByteArray), .int .i64 0]) ?_ 0 _ rfl; (with_reducible repeat (first | refine blk_drewN ?_ _ | refine blk_drew ?_ | refine blk_alloc ?_ _)); refine blk_far ?_ NB538_540.out _; (with_reducible repeat (first | refine blk_drewN ?_ _ | refine blk_drew ?_ | refine blk_alloc ?_ _)); refine blk_far ?_ NB538_540.out _; (with_reducible repeat (first | refine blk_drewN ?_ _ | refine blk_drew ?_ | refine blk_alloc ?_ _)); refine blk_far ?_ NB538_540.out _; (with_reducible repeat (first | refine blk_drewN ?_ _ | refine blk_drew ?_ | refine blk_alloc ?_ _)); exact BK538.out) Tryz.underlying94 rfl (by kernel_rfl)) rfl ?_
  exact ⟨qE, qS3 HB GE537 GE538 GE540⟩
 ·rw [if_neg c3] at H
  (have c3b0 : (a0_0 == 4) = false := beq_eq_false_iff_ne.mpr c3); (have c3b1 : (a0_0 != 4) = true := bne_iff_ne.mpr c3); (simp only [Option.some.injEq, Prod.mk.injEq] at H); (obtain ⟨rfl, rfl⟩ := H)
  go_enter Tryz.func77, Tryz.ntmps77
  try go_wp2_with (first | ((with_reducible refine gate_dst (N := 1) rfl ?_); refine box_event ?hg (N := 1) ?hd (cs := #[.int .i64 a0_0, .string a0_1, .int .i64 a0_2, .int .i64 a0_3, .int .i64 a0_4, .int .i64 a0_5, .string a0_6]) (t := 56) ?hr ?_; (case hd => rfl); (case hg => rfl); (case hr => first | (go_simp; done) | (go_simp; rfl)); intro gb537 hg w18 hbox hb; have BK537 := Aside0.mk (hbox); have GW537 := qG hg (below_size (qS0 HB)); have GE537 := qG hg (below_size (qS0 HB)); replace HB := Aside0.mk (below_step (qS0 HB) hb); clear hb hbox hg) | ((with_reducible refine gate_dst (N := 2) rfl ?_); refine box_event ?hg (N := 2) ?hd (cs := #[.string (⟨#[]⟩ : ByteArray), .int .i64 0]) (t := 94) ?hr ?_; (case hd => rfl); (case hg => rfl); (case hr => first | (go_simp; done) | (go_simp; rfl)); intro gb538 hg w19 hbox hb; have BK538 := Aside0.mk (hbox); have GW538 := qG hg (below_size (qS1 HB GE537)); have GE538 := qG hg (below_size (qS1 HB GE537)); replace HB := Aside0.mk (below_step (qS1 HB GE537) hb); have NB537_538 := qN hg (blk_lt (qB BK537)); have NB538_537 := qM hg (blk_lt (qB BK537)); replace BK537 := qD BK537 hb; clear hb hbox hg))
  (replace BK537 := Aside0.mk (blk_drew BK537.out)); (replace BK538 := Aside0.mk (blk_drew BK538.out)); (replace HB := Aside0.mk (below_drew1 HB.out))
  refine start_ (n := 8) (S := fun w' => w'.cell? ⟨gb537, 0, none⟩ = some (.int .i64 a0_0) ∧ w'.cell? ⟨gb537, 1, none⟩ = some (.string a0_1) ∧ w'.cell? ⟨gb537, 2, none⟩ = some (.int .i64 a0_2) ∧ w'.cell? ⟨gb537, 3, none⟩ = some (.int .i64 a0_3) ∧ w'.cell? ⟨gb537, 4, none⟩ = some (.int .i64 a0_4) ∧ w'.cell? ⟨gb537, 5, none⟩ = some (.int .i64 a0_5) ∧ w'.cell? ⟨gb537, 6, none⟩ = some (.string a0_6)) (ds := []) #[false, false, false, false, false, false, false, false] (by kernel_rfl) rfl rfl ⟨(blk_cell BK537.out 0).trans rfl, (blk_cell BK537.out 1).trans rfl, (blk_cell BK537.out 2).trans rfl, (blk_cell BK537.out 3).trans rfl, (blk_cell BK537.out 4).trans rfl, (blk_cell BK537.out 5).trans rfl, (blk_cell BK537.out 6).trans rfl⟩ (fun hHeld => ?_); refine with_tabW impl_changeOf.tab1 impl_changeOf.bits1 (fun HT_ HW_ => ?_)
  generalize w19.drew = w20 at BK537 BK538 HB hHeld ⊢
  refine pure_ (i := 0) (N := some 4) (v := ?_) (a' := ?_) #[true, false, false, false, false, false, false, false] rfl rfl (any_of HT_.out (by kernel_rfl)) (fun _ _ _ h => h) (Or.inl ⟨by rfl, ?_⟩) ?_ ?_
  rotate_left
  ·intro w'
   go_simp
   with_reducible rfl
  rotate_left
  ·simp only [Act.put, List.setIfInBounds_toArray, List.set_cons_zero, List.set_cons_succ, i64_w, i32_w]
   rfl
  refine pure_ (i := 3) (N := some 7) (v := ?_) (a' := ?_) #[true, false, false, true, false, false, false, false] rfl rfl (any_of HT_.out (by kernel_rfl)) (fun _ _ _ h => h) (Or.inl ⟨by rfl, ?_⟩) ?_ ?_
  rotate_left
  ·intro w'
   go_simp
   with_reducible rfl
  rotate_left
  ·simp only [Act.put, List.setIfInBounds_toArray, List.set_cons_zero, List.set_cons_succ, i64_w, i32_w]
   rfl
  refine take_ (i := 1) (N := some 5) (v := ?_) (a' := ?_) #[true, true, false, true, false, false, false, false] rfl rfl (take_ofW HT_.out HW_.out (by kernel_rfl)) (fun _ _ _ h => h) (Or.inl ⟨by rfl, ?_⟩) hHeld ?_ ?_
  rotate_left
  ·rintro w' ⟨s0, s1, s2, s3, s4, s5, s6⟩
   go_simp
   with_reducible rfl
  rotate_left
  ·simp only [Act.put, List.setIfInBounds_toArray, List.set_cons_zero, List.set_cons_succ, i64_w, i32_w]
   rfl
  refine take_ (i := 4) (N := some 8) (v := ?_) (a' := ?_) #[true, true, false, true, true, false, false, false] rfl rfl (take_ofW HT_.out HW_.out (by kernel_rfl)) (fun _ _ _ h => h) (Or.inl ⟨by rfl, ?_⟩) hHeld ?_ ?_
  rotate_left
  ·rintro w' ⟨s0, s1, s2, s3, s4, s5, s6⟩
   go_simp
   with_reducible rfl
  rotate_left
  ·simp only [Act.put, List.setIfInBounds_toArray, List.set_cons_zero, List.set_cons_succ, i64_w, i32_w]
   rfl
  refine join_ (σ := Nat) 1 #[true, true, true, true, true, true, true, false] (fun s_ => [(6, .string t539), (3, .pointer (some ⟨s_, 0, none⟩)), (9, .agg #[.string t539, .int .i64 a0_2])]) (fun s_ w' => (w'.cell? ⟨gb537, 0, none⟩ = some (.int .i64 a0_0) ∧ w'.cell? ⟨gb537, 1, none⟩ = some (.string a0_1) ∧ w'.cell? ⟨gb537, 2, none⟩ = some (.int .i64 a0_2) ∧ w'.cell? ⟨gb537, 3, none⟩ = some (.int .i64 a0_3) ∧ w'.cell? ⟨gb537, 4, none⟩ = some (.int .i64 a0_4) ∧ w'.cell? ⟨gb537, 5, none⟩ = some (.int .i64 a0_5) ∧ w'.cell? ⟨gb537, 6, none⟩ = some (.string a0_6)) ∧ (w'.heap[gb537]? = some (.cells #[.int .i64 a0_0, .string a0_1, .int .i64 a0_2, .int .i64 a0_3, .int .i64 a0_4, .int .i64 a0_5, .string a0_6] 56 (0, 0))) ∧ (w'.heap[gb538]? = some (.cells #[.string (⟨#[]⟩ : ByteArray), .int .i64 0] 94 (0, 0))) ∧ (w'.heap[s_]? = some (.cells #[.string (⟨#[]⟩ : ByteArray), .int .i64 0] 94 (0, 0))) ∧ (w.heap.size ≤ s_) ∧ (w.heap.size ≤ s_) ∧ (gb537 ≠ s_) ∧ (s_ ≠ gb537) ∧ (gb538 ≠ s_) ∧ (s_ ≠ gb538) ∧ (Below w.heap.size w w')) ?_ ?_
  rotate_left
  ·intro hCont
   refine two_ (i := 2) (j := 6) (Ni := some 6) (Nj := some 3) #[true, true, true, true, true, false, false, false] #[true, true, false, true, true, false, true, false] rfl rfl rfl rfl (two_of HT_.out (by kernel_rfl)) (by decide) (by decide) (fun K hK => ?_) (fun K hK => ?_)
   ·skip
    refine goes_ Tryz.func111 (by kernel_rfl) rfl #[.string a0_1] (by rfl) rfl rfl qL ?_
    with_reducible refine (impl_Fold.calls k a0_1 t539 _ A2.out (G_below (qS0 HB) hG)).mono ?_
    rintro e w21 ⟨rfl, hb⟩
    refine ⟨_, rfl, ?_⟩
    (replace BK537 := qD BK537 hb); (replace BK538 := qD BK538 hb); (replace HB := Aside0.mk (below_step (qS2 HB GE537 GE538) hb)); (try clear hb); (try clear hb2); (try clear hk); (try clear hi)
    refine hK.out _ _ ⟨(blk_cell BK537.out 0).trans rfl, (blk_cell BK537.out 1).trans rfl, (blk_cell BK537.out 2).trans rfl, (blk_cell BK537.out 3).trans rfl, (blk_cell BK537.out 4).trans rfl, (blk_cell BK537.out 5).trans rfl, (blk_cell BK537.out 6).trans rfl⟩ (fun hHeld => ?_)
    clear hK K
    refine norm_ (a' := ?_) ?_ ?_
    rotate_left
    ·show Act.put _ (some 6) _ = _
     simp only [Act.put, List.setIfInBounds_toArray, List.set_cons_zero, List.set_cons_succ, i64_w, i32_w]
     rfl
    refine pure_ (i := 5) (N := some 9) (v := ?_) (a' := ?_) #[true, true, true, true, true, true, false, false] rfl rfl (any_of HT_.out (by kernel_rfl)) (fun _ _ _ h => h) (Or.inl ⟨by rfl, ?_⟩) ?_ ?_
    rotate_left
    ·intro w'
     go_simp
     with_reducible rfl
    rotate_left
    ·simp only [Act.put, List.setIfInBounds_toArray, List.set_cons_zero, List.set_cons_succ, i64_w, i32_w]
     rfl
    refine one_ (i := 6) (N := some 3) #[true, true, true, true, true, true, true, false] rfl rfl (one_of HT_.out (by kernel_rfl)) (by decide) (fun K hK => ?_)
    refine box_step ?hg (N := 3) ?hd (cs := #[.string (⟨#[]⟩ : ByteArray), .int .i64 0]) (t := 94) ?hr ?_; (case hd => rfl); (case hg => rfl); (case hr => first | (go_simp; done) | (go_simp; rfl))
    intro gb540 hg w22 hbox hb
    (have BK540 := Aside0.mk (hbox)); (have GW540 := qG hg (below_size (qS2 HB GE537 GE538))); (have GE540 := qG hg (below_size (qS2 HB GE537 GE538))); (replace HB := Aside0.mk (below_step (qS2 HB GE537 GE538) hb)); (have NB537_540 := qN hg (blk_lt (qB BK537))); (have NB540_537 := qM hg (blk_lt (qB BK537))); (replace BK537 := qD BK537 hb); (have NB538_540 := qN hg (blk_lt (qB BK538))); (have NB540_538 := qM hg (blk_lt (qB BK538))); (replace BK538 := qD BK538 hb); clear hb hbox hg
    refine hK.out _ _ ⟨(blk_cell BK537.out 0).trans rfl, (blk_cell BK537.out 1).trans rfl, (blk_cell BK537.out 2).trans rfl, (blk_cell BK537.out 3).trans rfl, (blk_cell BK537.out 4).trans rfl, (blk_cell BK537.out 5).trans rfl, (blk_cell BK537.out 6).trans rfl⟩ (fun hHeld => ?_)
    clear hK K
    refine norm_ (a' := ?_) ?_ ?_
    rotate_left
    ·show Act.put _ (some 3) _ = _
     simp only [Act.put, List.setIfInBounds_toArray, List.set_cons_zero, List.set_cons_succ, i64_w, i32_w]
     rfl
    exact norm_ (by simp only [putAll, Act.put, List.setIfInBounds_toArray, List.set_cons_zero, List.set_cons_succ]) (hCont (gb540) _ ⟨hHeld, (qB BK537), (qB BK538), (qB BK540), GW540.out, GE540.out, NB537_540.out, NB540_537.out, NB538_540.out, NB540_538.out, (qS3 HB GE537 GE538 GE540)⟩)
   ·skip
    refine box_step ?hg (N := 3) ?hd (cs := #[.string (⟨#[]⟩ : ByteArray), .int .i64 0]) (t := 94) ?hr ?_; (case hd => rfl); (case hg => rfl); (case hr => first | (go_simp; done) | (go_simp; rfl))
    intro gb540 hg w21 hbox hb
    (have BK540 := Aside0.mk (hbox)); (have GW540 := qG hg (below_size (qS2 HB GE537 GE538))); (have GE540 := qG hg (below_size (qS2 HB GE537 GE538))); (replace HB := Aside0.mk (below_step (qS2 HB GE537 GE538) hb)); (have NB537_540 := qN hg (blk_lt (qB BK537))); (have NB540_537 := qM hg (blk_lt (qB BK537))); (replace BK537 := qD BK537 hb); (have NB538_540 := qN hg (blk_lt (qB BK538))); (have NB540_538 := qM hg (blk_lt (qB BK538))); (replace BK538 := qD BK538 hb); clear hb hbox hg
    refine hK.out _ _ ⟨(blk_cell BK537.out 0).trans rfl, (blk_cell BK537.out 1).trans rfl, (blk_cell BK537.out 2).trans rfl, (blk_cell BK537.out 3).trans rfl, (blk_cell BK537.out 4).trans rfl, (blk_cell BK537.out 5).trans rfl, (blk_cell BK537.out 6).trans rfl⟩ (fun hHeld => ?_)
    clear hK K
    refine norm_ (a' := ?_) ?_ ?_
    rotate_left
    ·show Act.put _ (some 3) _ = _
     simp only [Act.put, List.setIfInBounds_toArray, List.set_cons_zero, List.set_cons_succ, i64_w, i32_w]
     rfl
    refine one_ (i := 2) (N := some 6) #[true, true, true, true, true, false, true, false] rfl rfl (one_of HT_.out (by kernel_rfl)) (by decide) (fun K hK => ?_)
    refine goes_ Tryz.func111 (by kernel_rfl) rfl #[.string a0_1] (by rfl) rfl rfl qL ?_
    with_reducible refine (impl_Fold.calls k a0_1 t539 _ A2.out (G_below (qS0 HB) hG)).mono ?_
    rintro e w22 ⟨rfl, hb⟩
    refine ⟨_, rfl, ?_⟩
    (replace BK537 := qD BK537 hb); (replace BK538 := qD BK538 hb); (replace BK540 := qD BK540 hb); (replace HB := Aside0.mk (below_step (qS3 HB GE537 GE538 GE540) hb)); (try clear hb); (try clear hb2); (try clear hk); (try clear hi)
    refine hK.out _ _ ⟨(blk_cell BK537.out 0).trans rfl, (blk_cell BK537.out 1).trans rfl, (blk_cell BK537.out 2).trans rfl, (blk_cell BK537.out 3).trans rfl, (blk_cell BK537.out 4).trans rfl, (blk_cell BK537.out 5).trans rfl, (blk_cell BK537.out 6).trans rfl⟩ (fun hHeld => ?_)
    clear hK K
    refine norm_ (a' := ?_) ?_ ?_
    rotate_left
    ·show Act.put _ (some 6) _ = _
     simp only [Act.put, List.setIfInBounds_toArray, List.set_cons_zero, List.set_cons_succ, i64_w, i32_w]
     rfl
    refine pure_ (i := 5) (N := some 9) (v := ?_) (a' := ?_) #[true, true, true, true, true, true, true, false] rfl rfl (any_of HT_.out (by kernel_rfl)) (fun _ _ _ h => h) (Or.inl ⟨by rfl, ?_⟩) ?_ ?_
    rotate_left
    ·intro w'
     go_simp
     with_reducible rfl
    rotate_left
    ·simp only [Act.put, List.setIfInBounds_toArray, List.set_cons_zero, List.set_cons_succ, i64_w, i32_w]
     rfl
    exact norm_ (by simp only [putAll, Act.put, List.setIfInBounds_toArray, List.set_cons_zero, List.set_cons_succ]) (hCont (gb540) _ ⟨hHeld, (qB BK537), (qB BK538), (qB BK540), GW540.out, GE540.out, NB537_540.out, NB540_537.out, NB538_540.out, NB540_538.out, (qS3 HB GE537 GE538 GE540)⟩)
  rintro gb540 w23 ⟨hS_, h0_, h1_, h2_, h3_, h4_, h5_, h6_, h7_, h8_, h9_⟩
  (have n0_ : Aside0 (w23.heap[gb537]? = some (.cells #[.int .i64 a0_0, .string a0_1, .int .i64 a0_2, .int .i64 a0_3, .int .i64 a0_4, .int .i64 a0_5, .string a0_6] 56 (0, 0))) := ⟨h0_⟩); (have n1_ : Aside0 (w23.heap[gb538]? = some (.cells #[.string (⟨#[]⟩ : ByteArray), .int .i64 0] 94 (0, 0))) := ⟨h1_⟩); (have n2_ : Aside0 (w23.heap[gb540]? = some (.cells #[.string (⟨#[]⟩ : ByteArray), .int .i64 0] 94 (0, 0))) := ⟨h2_⟩); (have n3_ : Aside0 (w.heap.size ≤ gb540) := ⟨h3_⟩); (have n4_ : Aside0 (w.heap.size ≤ gb540) := ⟨h4_⟩); (have n5_ : Aside0 (gb537 ≠ gb540) := ⟨h5_⟩); (have n6_ : Aside0 (gb540 ≠ gb537) := ⟨h6_⟩); (have n7_ : Aside0 (gb538 ≠ gb540) := ⟨h7_⟩); (have n8_ : Aside0 (gb540 ≠ gb538) := ⟨h8_⟩); (have n9_ : Aside0 (Below w.heap.size w w23) := ⟨h9_⟩); clear BK537 BK538 HB h0_ h1_ h2_ h3_ h4_ h5_ h6_ h7_ h8_ h9_; (have BK537 := n0_); (have BK538 := n1_); (have BK540 := n2_); (have GW540 := n3_); (have GE540 := n4_); (have NB537_540 := n5_); (have NB540_537 := n6_); (have NB538_540 := n7_); (have NB540_538 := n8_); (have HB := n9_); clear n0_ n1_ n2_ n3_ n4_ n5_ n6_ n7_ n8_ n9_; (have hHeld : w23.cell? ⟨gb537, 0, none⟩ = some (.int .i64 a0_0) ∧ w23.cell? ⟨gb537, 1, none⟩ = some (.string a0_1) ∧ w23.cell? ⟨gb537, 2, none⟩ = some (.int .i64 a0_2) ∧ w23.cell? ⟨gb537, 3, none⟩ = some (.int .i64 a0_3) ∧ w23.cell? ⟨gb537, 4, none⟩ = some (.int .i64 a0_4) ∧ w23.cell? ⟨gb537, 5, none⟩ = some (.int .i64 a0_5) ∧ w23.cell? ⟨gb537, 6, none⟩ = some (.string a0_6) := hS_)
  refine norm_ (a' := ?_) ?_ ?_
  rotate_left
  ·simp only [putAll, Act.put, List.setIfInBounds_toArray, List.set_cons_zero, List.set_cons_succ]
   rfl
  refine one_ (i := 7) (N := none) #[true, true, true, true, true, true, true, true] rfl rfl (one_of HT_.out (by kernel_rfl)) (by decide) (fun K hK => ?_)
  (have hs24 : w23.cell? ⟨gb540, 0, none⟩ = some (.string (⟨#[]⟩ : ByteArray)) := (blk_cell BK540.out 0).trans rfl); (have hfs24 := blk_frozen BK540.out 0); (have hns24_0 := NB537_540.out); (have hns24_1 := NB538_540.out); (have hms24_0 := NB540_537.out); (have hms24_1 := NB540_538.out); (have hs25 : w23.cell? ⟨gb540, 1, none⟩ = some (.int .i64 0) := (blk_cell BK540.out 1).trans rfl); (have hfs25 := blk_frozen BK540.out 1); (have hns25_0 := NB537_540.out); (have hns25_1 := NB538_540.out); (have hms25_0 := NB540_537.out); (have hms25_1 := NB540_538.out)
  refine skip_ (w1 := ?_) (by rfl) rfl ?_ ?_
  rotate_left
  ·go_simp
   rfl
  refine hK.out _ _ ⟨((cell_far (p := ⟨gb540, _, none⟩) NB537_540.out _).trans (((cell_far (p := ⟨gb540, _, none⟩) NB537_540.out _).trans (hHeld.1)))), ((cell_far (p := ⟨gb540, _, none⟩) NB537_540.out _).trans (((cell_far (p := ⟨gb540, _, none⟩) NB537_540.out _).trans (hHeld.2.1)))), ((cell_far (p := ⟨gb540, _, none⟩) NB537_540.out _).trans (((cell_far (p := ⟨gb540, _, none⟩) NB537_540.out _).trans (hHeld.2.2.1)))), ((cell_far (p := ⟨gb540, _, none⟩) NB537_540.out _).trans (((cell_far (p := ⟨gb540, _, none⟩) NB537_540.out _).trans (hHeld.2.2.2.1)))), ((cell_far (p := ⟨gb540, _, none⟩) NB537_540.out _).trans (((cell_far (p := ⟨gb540, _, none⟩) NB537_540.out _).trans (hHeld.2.2.2.2.1)))), ((cell_far (p := ⟨gb540, _, none⟩) NB537_540.out _).trans (((cell_far (p := ⟨gb540, _, none⟩) NB537_540.out _).trans (hHeld.2.2.2.2.2.1)))), ((cell_far (p := ⟨gb540, _, none⟩) NB537_540.out _).trans (((cell_far (p := ⟨gb540, _, none⟩) NB537_540.out _).trans (hHeld.2.2.2.2.2.2))))⟩ (fun hHeld => ?_)
  clear hK K
  refine done_ (done_of HT_.out (by kernel_rfl)) ?_
  (have hnb26 := NB537_538.out); (have hnc26 := NB538_537.out); (have hnb27 := NB537_540.out); (have hnc27 := NB540_537.out); (obtain ⟨hcz28_0, hcz28_1, hcz28_2, hcz28_3, hcz28_4, hcz28_5, hcz28_6, hfz28_0, hfz28_1, hfz28_2, hfz28_3, hfz28_4, hfz28_5, hfz28_6⟩ := qC7 BK537); (have hnb29 := NB540_538.out); (have hnc29 := NB538_540.out); (obtain ⟨hcz30_0, hcz30_1, hfz30_0, hfz30_1⟩ := qC2 BK540); (obtain ⟨hcz31_0, hcz31_1, hfz31_0, hfz31_1⟩ := qC2 BK538)
  try go_wp2
  refine bodyPost_ret (results_cell_row rfl _ _ gb538 94 #[.string t539, .int .i64 a0_2] (0, 0) _ rfl (by (with_reducible repeat (first | refine blk_drewN ?_ _ | refine blk_drew ?_ | refine blk_alloc ?_ _)); refine blk_put (cs := #[.string t539, .int .i64 0]) ?_ 1 _ rfl; (with_reducible repeat (first | refine blk_drewN ?_ _ | refine blk_drew ?_ | refine blk_alloc ?_ _)); refine blk_put (cs := #[.string (⟨#[]⟩ : ByteArray), .int .i64 0]) ?_ 0 _ rfl; (with_reducible repeat (first | refine blk_drewN ?_ _ | refine blk_drew ?_ | refine blk_alloc ?_ _)); refine blk_far ?_ NB538_540.out _; (with_reducible repeat (first | refine blk_drewN ?_ _ | refine blk_drew ?_ | refine blk_alloc ?_ _)); refine blk_far ?_ NB538_540.out _; (with_reducible repeat (first | refine blk_drewN ?_ _ | refine blk_drew ?_ | refine blk_alloc ?_ _)); exact BK538.out) Tryz.underlying94 rfl (by kernel_rfl)) rfl ?_
  exact ⟨qE, qS3 HB GE537 GE538 GE540⟩
def impl_isEntry.f (k : Nat) (a0_0 : ByteArray) (a0_1 : Int) : Option (Bool) := (impl_isWord.f k a0_0).bind fun t542 => (if t542 = true then ((impl_within.f a0_1 0 65535).bind fun t543 => (some t543)) else (some false))
set_option maxHeartbeats 8000000 in
set_option maxRecDepth 100000 in
theorem impl_isEntry.calls (k : Nat) (a0_0 : ByteArray) (a0_1 : Int) (r : Bool) (w : World) (h : impl_isEntry.f k a0_0 a0_1 = some r) :
  Calls Tryz.prog 78 #[.agg #[.string a0_0, .int .i64 a0_1]] w fun e w' => e = .returned (.bool r) ∧ Below w.heap.size w w' := by
 (have hu94 := Tryz.underlying94); (have HB := Aside0.mk (Below.refl w.heap.size w)); (have H : ((impl_isWord.f k a0_0).bind fun t542 => (if t542 = true then ((impl_within.f a0_1 0 65535).bind fun t543 => (some t543)) else (some false))) = some r := h); clear h; (replace H := Option.bind_eq_some_iff.mp H); (obtain ⟨t542, A20, H⟩ := H)
 try dsimp only at H
 (have A2 := Aside0.mk A20); clear A20
 by_cases c3 : t542 = true
 ·subst c3
  (have H1 : ((impl_within.f a0_1 0 65535).bind fun t543 => (some t543)) = some r := by rw [if_pos rfl] at H; exact H); clear H; (have H := H1); clear H1; (replace H := Option.bind_eq_some_iff.mp H); (obtain ⟨t543, A40, H⟩ := H); (replace H : (some t543) = some r := H); (have A4 := Aside0.mk A40); clear A40; (obtain rfl := Option.some.inj H)
  go_enter Tryz.func78, Tryz.ntmps78
  go_wp2_with (first | ((with_reducible refine gate_dst (N := 1) rfl ?_); refine box_event ?hg (N := 1) ?hd (cs := #[.string a0_0, .int .i64 a0_1]) (t := 94) ?hr ?_; (case hd => rfl); (case hg => rfl); (case hr => first | (go_simp; done) | (go_simp; rfl)); intro gb541 hg w5 hbox hb; have BK541 := Aside0.mk (hbox); have GW541 := qG hg (below_size (qS0 HB)); have GE541 := qG hg (below_size (qS0 HB)); replace HB := Aside0.mk (below_step (qS0 HB) hb); clear hb hbox hg; obtain ⟨hcz6_0, hcz6_1, hfz6_0, hfz6_1⟩ := qC2 BK541) | ((with_reducible refine gate_callee (f := 114) rfl ?_); refine goesL_ (some 5) rfl rfl Tryz.func114 (by kernel_rfl) rfl #[.string a0_0] rfl qL ?_; (with_reducible refine (impl_isWord.calls k a0_0 true _ A2.out).mono ?_); rintro e w' ⟨rfl, ⟨nd, rfl⟩⟩; refine ⟨_, rfl, ?_⟩) | (go_at_call 61; (with_reducible refine (impl_within.calls a0_1 0 65535 t543 _ A4.out).mono ?_); rintro e w' ⟨rfl, ⟨nd, rfl⟩⟩))
  go_ret
  exact ⟨qE, qS1 HB GE541⟩
 ·replace c3 := Bool.eq_false_iff.mpr c3
  (subst c3); (have H1 : (some false) = some r := by rw [if_neg (show ¬ (false = true) by decide)] at H; exact H); clear H; (have H := H1); clear H1; (obtain rfl := Option.some.inj H)
  go_enter Tryz.func78, Tryz.ntmps78
  go_wp2_with (first | ((with_reducible refine gate_dst (N := 1) rfl ?_); refine box_event ?hg (N := 1) ?hd (cs := #[.string a0_0, .int .i64 a0_1]) (t := 94) ?hr ?_; (case hd => rfl); (case hg => rfl); (case hr => first | (go_simp; done) | (go_simp; rfl)); intro gb541 hg w7 hbox hb; have BK541 := Aside0.mk (hbox); have GW541 := qG hg (below_size (qS0 HB)); have GE541 := qG hg (below_size (qS0 HB)); replace HB := Aside0.mk (below_step (qS0 HB) hb); clear hb hbox hg; obtain ⟨hcz8_0, hcz8_1, hfz8_0, hfz8_1⟩ := qC2 BK541) | ((with_reducible refine gate_callee (f := 114) rfl ?_); refine goesL_ (some 5) rfl rfl Tryz.func114 (by kernel_rfl) rfl #[.string a0_0] rfl qL ?_; (with_reducible refine (impl_isWord.calls k a0_0 false _ A2.out).mono ?_); rintro e w' ⟨rfl, ⟨nd, rfl⟩⟩; refine ⟨_, rfl, ?_⟩))
  go_ret
  exact ⟨qE, qS1 HB GE541⟩
mutual
def impl_sessIds.l0 : Nat → List Int → List (S56) → Int → Int → Int → Int → Int → Int → Option (List Int)
 | 0, _, _, _, _, _, _, _, _ => none
 | k + 1, x5, x12, x13, x14, x545000, x545001, x545002, x545003 => if x14 < x13 then (if 0 ≤ x14 then (if x14 < (x12.length : Int) then ((impl_looksOf.f k ((rd_T56 x12 x14).f0) ((rd_T56 x12 x14).f1) ((rd_T56 x12 x14).f2) ((rd_T56 x12 x14).f3) ((rd_T56 x12 x14).f4) ((rd_T56 x12 x14).f5) ((rd_T56 x12 x14).f6)).bind fun t547 => (impl_sessIds.l1 k x5 x12 x13 x14 t547 (t547.length : Int) 0 x545000 x545001 x545002 x545003 ((rd_T56 x12 x14).f0) ((rd_T56 x12 x14).f1) ((rd_T56 x12 x14).f2) ((rd_T56 x12 x14).f3) ((rd_T56 x12 x14).f4) ((rd_T56 x12 x14).f5) ((rd_T56 x12 x14).f6))) else (none)) else (none)) else (some x5)
def impl_sessIds.l1 : Nat → List Int → List (S56) → Int → Int → List ByteArray → Int → Int → Int → Int → Int → Int → Int → ByteArray → Int → Int → Int → Int → ByteArray → Option (List Int)
 | 0, _, _, _, _, _, _, _, _, _, _, _, _, _, _, _, _, _, _ => none
 | k + 1, x5, x12, x13, x14, x19, x20, x21, x545000, x545001, x545002, x545003, x547000, x547001, x547002, x547003, x547004, x547005, x547006 => if x21 < x20 then (if 0 ≤ x21 then (if x21 < (x19.length : Int) then ((impl_bucketOf.f k x545000 x545001 x545002 x545003 (rdOf ByteArray.empty x19 x21)).bind fun t551 => (if x5.length < 17592186044416 then (impl_sessIds.l1 k (x5 ++ [t551]) x12 x13 x14 x19 x20 (wrap64 (x21 + 1)) x545000 x545001 x545002 x545003 x547000 x547001 x547002 x547003 x547004 x547005 x547006) else (none))) else (none)) else (none)) else ((impl_isChange.f x547000).bind fun t555 => (if t555 = true then ((impl_changeOf.f k x547000 x547001 x547002 x547003 x547004 x547005 x547006).bind fun bt556 => ((impl_isEntry.f k bt556.1 bt556.2).bind fun t559 => (if t559 = true then ((impl_bucketOf.f k x545000 x545001 x545002 x545003 bt556.1).bind fun t560 => ((some (([t560, t560] : List Int) : List Int)).bind fun y561 => (if x5.length + y561.length < 17592186044416 then (impl_sessIds.l0 k (x5 ++ y561) x12 x13 (wrap64 (x14 + 1)) x545000 x545001 x545002 x545003) else (none)))) else ((some (([(-1), (-1)] : List Int) : List Int)).bind fun y567 => (if x5.length + y567.length < 17592186044416 then (impl_sessIds.l0 k (x5 ++ y567) x12 x13 (wrap64 (x14 + 1)) x545000 x545001 x545002 x545003) else (none)))))) else (impl_sessIds.l0 k x5 x12 x13 (wrap64 (x14 + 1)) x545000 x545001 x545002 x545003)))
end
def impl_sessIds.f (k : Nat) (a0_0 : Int) (a0_1 : Int) (a0_2 : Int) (a0_3 : Int) (l1 : List (S56)) : Option (List Int) := impl_sessIds.l0 k ([] : List Int) l1 (l1.length : Int) 0 a0_0 a0_1 a0_2 a0_3
set_option maxHeartbeats 8000000 in
set_option maxRecDepth 100000 in
theorem impl_sessIds.calls (k : Nat) (a0_0 : Int) (a0_1 : Int) (a0_2 : Int) (a0_3 : Int) (A1 : Option Addr) (c1 : Nat) (l1 : List (S56)) (r : List Int) (w : World) (hr1 : Kd.C k56 w A1 l1.length l1) (hc1 : l1.length ≤ c1) (h : impl_sessIds.f k a0_0 a0_1 a0_2 a0_3 l1 = some r) (hG : TabG w) :
  Calls Tryz.prog 39 #[.agg #[.int .i64 a0_0, .int .i64 a0_1, .int .i64 a0_2, .int .i64 a0_3], .slice A1 l1.length c1] w fun e w' => ∃ v0_ : Value, e = .returned (v0_) ∧ Kd.R (Kd.int .i64) 3 w' w.heap.size (fun _ => True) v0_ r ∧ Below w.heap.size w w' := by
 (have hu29 := Tryz.underlying29); (have hu56 := Tryz.underlying56); (have hu94 := Tryz.underlying94); (have HR1 := Aside0.mk hr1); (have HC1 := Aside0.mk hc1); clear hr1 hc1; (have HB := Aside0.mk (Below.refl w.heap.size w)); (have H : (impl_sessIds.l0 k ([] : List Int) l1 (l1.length : Int) 0 a0_0 a0_1 a0_2 a0_3) = some r := h); clear h; (have H' := Aside0.mk H); clear H
 go_enter Tryz.func39, Tryz.ntmps39
 go_wp2_with (first | ((with_reducible refine gate_dst (N := 2) rfl ?_); refine box_event ?hg (N := 2) ?hd (cs := #[.int .i64 a0_0, .int .i64 a0_1, .int .i64 a0_2, .int .i64 a0_3]) (t := 29) ?hr ?_; (case hd => rfl); (case hg => rfl); (case hr => first | (go_simp; done) | (go_simp; rfl)); intro gb544 hg w3 hbox hb; have BK544 := Aside0.mk (hbox); have GW544 := qG hg (below_size (qS0 HB)); have GE544 := qG hg (below_size (qS0 HB)); replace HB := Aside0.mk (below_step (qS0 HB) hb); clear hb hbox hg))
 go_loopg [5, 14] k (fun kq v5 v14 w' => ∃ (x5_1 : List Int) (x14_1 : Int), v14 = .int .i64 x14_1 ∧ Aside0 (impl_sessIds.l0 kq x5_1 l1 (l1.length : Int) x14_1 a0_0 a0_1 a0_2 a0_3 = some r) ∧ Aside0 (kq ≤ k) ∧ Aside0 (Kd.R (Kd.int .i64) 3 w' w.heap.size (fun _ => True) v5 x5_1) ∧ Aside0 (w'.heap[gb544]? = some (.cells #[.int .i64 a0_0, .int .i64 a0_1, .int .i64 a0_2, .int .i64 a0_3] 29 (0, 0))) ∧ Aside0 (Below w.heap.size w w'))
 case atStart => exact ⟨(([] : List Int)), (0), qV, H', ⟨Nat.le_refl _⟩, ⟨by first | exact Kd.R_nil _ _ _ _ _ | exact Kd.N_nil _ _ _ _ _ | exact Kd.V_nil _ _ _ _ _ | exact Kd.Q_nil _ _ _ _ _ | exact Kd.S_nil _ _ _ _ _⟩, ⟨qB BK544⟩, ⟨qS1 HB GE544⟩⟩
 case round =>
  clear H'; (try clear c1); (try clear p2); (try clear c3); (obtain ⟨x5_1, x14_1, rfl, HA, HK1, HO_5, BK544, HB⟩ := hrel)
  cases gk with
  | zero => exact absurd HA.out (by simp [impl_sessIds.l0])
  | succ k1 =>
   (have H := HA.out); clear HA; (simp only [impl_sessIds.l0] at H)
   by_cases c4 : x14_1 < (l1.length : Int)
   ·rw [if_pos c4] at H
    (have c4b0 : decide (x14_1 < (l1.length : Int)) = true := decide_eq_true c4); clear c4
    by_cases c5 : 0 ≤ x14_1
    ·rw [if_pos c5] at H
     (have c5b0 : decide (0 ≤ x14_1) = true := decide_eq_true c5); clear c5
     by_cases c6 : x14_1 < (l1.length : Int)
     ·rw [if_pos c6] at H
      (have c6b0 : decide (x14_1 < (l1.length : Int)) = true := decide_eq_true c6); clear c6; (replace H := Option.bind_eq_some_iff.mp H); (obtain ⟨t547, A70, H⟩ := H)
      try dsimp only at H
      (have A7 := Aside0.mk A70); clear A70; (have H' := Aside0.mk H); clear H; (have p545 : 0 ≤ (x14_1 : Int) := qO); (have q545 : x14_1 < (l1.length : Int) := qO); (obtain ⟨ad545, e545, hx545_0, hx545_1, hx545_2, hx545_3, hx545_4, hx545_5, hx545_6⟩ := at_T56 HR1.out x14_1 p545 q545)
      cases e545
      (replace hx545_0 := (HB.out.cell (World.block_lt_of_cell? w _ hx545_0)).trans hx545_0); (replace hx545_1 := (HB.out.cell (World.block_lt_of_cell? w _ hx545_1)).trans hx545_1); (replace hx545_2 := (HB.out.cell (World.block_lt_of_cell? w _ hx545_2)).trans hx545_2); (replace hx545_3 := (HB.out.cell (World.block_lt_of_cell? w _ hx545_3)).trans hx545_3); (replace hx545_4 := (HB.out.cell (World.block_lt_of_cell? w _ hx545_4)).trans hx545_4); (replace hx545_5 := (HB.out.cell (World.block_lt_of_cell? w _ hx545_5)).trans hx545_5); (replace hx545_6 := (HB.out.cell (World.block_lt_of_cell? w _ hx545_6)).trans hx545_6); (replace p545 := eq_true p545); (replace q545 := eq_true q545)
      go_wp2_with (first | ((with_reducible refine gate_dst (N := 7) rfl ?_); refine box_event ?hg (N := 7) ?hd (cs := #[.int .i64 0, .string (⟨#[]⟩ : ByteArray), .int .i64 0, .int .i64 0, .int .i64 0, .int .i64 0, .string (⟨#[]⟩ : ByteArray)]) (t := 56) ?hr ?_; (case hd => rfl); (case hg => rfl); (case hr => first | (go_simp; done) | (go_simp; rfl)); intro gb546 hg w8 hbox hb; replace HO_5 := Aside0.mk (Kd.R_below (qR HO_5) hb); have BK546 := Aside0.mk (hbox); have GW546 := qG hg (below_size (qS1 HB GE544)); have GE546 := qG hg (below_size (qS1 HB GE544)); replace HB := Aside0.mk (below_step (qS1 HB GE544) hb); have NB544_546 := qN hg (blk_lt (qB BK544)); have NB546_544 := qM hg (blk_lt (qB BK544)); replace BK544 := qD BK544 hb; clear hb hbox hg; have hnb9 := NB546_544.out; have hnc9 := NB544_546.out; obtain ⟨hcz10_0, hcz10_1, hcz10_2, hcz10_3, hcz10_4, hcz10_5, hcz10_6, hfz10_0, hfz10_1, hfz10_2, hfz10_3, hfz10_4, hfz10_5, hfz10_6⟩ := qC7 BK546) | ((with_reducible refine gate_callee (f := 74) rfl ?_); refine goesL_ (some 19) rfl rfl Tryz.func74 (by kernel_rfl) rfl #[.agg #[.int .i64 ((rd_T56 l1 x14_1).f0), .string ((rd_T56 l1 x14_1).f1), .int .i64 ((rd_T56 l1 x14_1).f2), .int .i64 ((rd_T56 l1 x14_1).f3), .int .i64 ((rd_T56 l1 x14_1).f4), .int .i64 ((rd_T56 l1 x14_1).f5), .string ((rd_T56 l1 x14_1).f6)]] rfl qL ?_; (with_reducible refine (impl_looksOf.calls k1 ((rd_T56 l1 x14_1).f0) ((rd_T56 l1 x14_1).f1) ((rd_T56 l1 x14_1).f2) ((rd_T56 l1 x14_1).f3) ((rd_T56 l1 x14_1).f4) ((rd_T56 l1 x14_1).f5) ((rd_T56 l1 x14_1).f6) t547 _ A7.out (G_below (qS2 HB GE544 GE546) hG)).mono ?_); rintro e w11 ⟨v548, rfl, ho0, hb⟩; refine ⟨_, rfl, ?_⟩; replace HO_5 := Aside0.mk (Kd.R_below (by (with_reducible repeat (first | apply Kd.R_alloc | apply Kd.R_drewN | apply Kd.R_drew)); exact (Kd.R_mono (Kd.R_far (p := ⟨gb546, 6, none⟩) (Kd.R_far (p := ⟨gb546, 5, none⟩) (Kd.R_far (p := ⟨gb546, 4, none⟩) (Kd.R_far (p := ⟨gb546, 3, none⟩) (Kd.R_far (p := ⟨gb546, 2, none⟩) (Kd.R_far (p := ⟨gb546, 1, none⟩) (Kd.R_far (p := ⟨gb546, 0, none⟩) (Kd.R_types HO_5.out BK546.out (by decide)) (fun _ hk => hk.2) (.int .i64 ((rd_T56 l1 x14_1).f0))) (fun _ hk => hk.2) (.string ((rd_T56 l1 x14_1).f1))) (fun _ hk => hk.2) (.int .i64 ((rd_T56 l1 x14_1).f2))) (fun _ hk => hk.2) (.int .i64 ((rd_T56 l1 x14_1).f3))) (fun _ hk => hk.2) (.int .i64 ((rd_T56 l1 x14_1).f4))) (fun _ hk => hk.2) (.int .i64 ((rd_T56 l1 x14_1).f5))) (fun _ hk => hk.2) (.string ((rd_T56 l1 x14_1).f6))) (fun _ h_ => h_.1))) hb); have HO549 := Aside0.mk (Kd.R_lower ho0 (below_size (qS2 HB GE544 GE546))); replace BK544 := Aside0.mk (blk_below (g := gb544) (o := .cells #[.int .i64 a0_0, .int .i64 a0_1, .int .i64 a0_2, .int .i64 a0_3] 29 (0, 0)) (by (with_reducible repeat (first | refine blk_drewN ?_ _ | refine blk_drew ?_ | refine blk_alloc ?_ _)); refine blk_far ?_ NB544_546.out _; (with_reducible repeat (first | refine blk_drewN ?_ _ | refine blk_drew ?_ | refine blk_alloc ?_ _)); refine blk_far ?_ NB544_546.out _; (with_reducible repeat (first | refine blk_drewN ?_ _ | refine blk_drew ?_ | refine blk_alloc ?_ _)); refine blk_far ?_ NB544_546.out _; (with_reducible repeat (first | refine blk_drewN ?_ _ | refine blk_drew ?_ | refine blk_alloc ?_ _)); refine blk_far ?_ NB544_546.out _; (with_reducible repeat (first | refine blk_drewN ?_ _ | refine blk_drew ?_ | refine blk_alloc ?_ _)); refine blk_far ?_ NB544_546.out _; (with_reducible repeat (first | refine blk_drewN ?_ _ | refine blk_drew ?_ | refine blk_alloc ?_ _)); refine blk_far ?_ NB544_546.out _; (with_reducible repeat (first | refine blk_drewN ?_ _ | refine blk_drew ?_ | refine blk_alloc ?_ _)); refine blk_far ?_ NB544_546.out _; (with_reducible repeat (first | refine blk_drewN ?_ _ | refine blk_drew ?_ | refine blk_alloc ?_ _)); exact BK544.out) hb); replace BK546 := Aside0.mk (blk_below (g := gb546) (o := .cells #[.int .i64 ((rd_T56 l1 x14_1).f0), .string ((rd_T56 l1 x14_1).f1), .int .i64 ((rd_T56 l1 x14_1).f2), .int .i64 ((rd_T56 l1 x14_1).f3), .int .i64 ((rd_T56 l1 x14_1).f4), .int .i64 ((rd_T56 l1 x14_1).f5), .string ((rd_T56 l1 x14_1).f6)] 56 (0, 0)) (by (with_reducible repeat (first | refine blk_drewN ?_ _ | refine blk_drew ?_ | refine blk_alloc ?_ _)); refine blk_put (cs := #[.int .i64 ((rd_T56 l1 x14_1).f0), .string ((rd_T56 l1 x14_1).f1), .int .i64 ((rd_T56 l1 x14_1).f2), .int .i64 ((rd_T56 l1 x14_1).f3), .int .i64 ((rd_T56 l1 x14_1).f4), .int .i64 ((rd_T56 l1 x14_1).f5), .string (⟨#[]⟩ : ByteArray)]) ?_ 6 _ rfl; (with_reducible repeat (first | refine blk_drewN ?_ _ | refine blk_drew ?_ | refine blk_alloc ?_ _)); refine blk_put (cs := #[.int .i64 ((rd_T56 l1 x14_1).f0), .string ((rd_T56 l1 x14_1).f1), .int .i64 ((rd_T56 l1 x14_1).f2), .int .i64 ((rd_T56 l1 x14_1).f3), .int .i64 ((rd_T56 l1 x14_1).f4), .int .i64 0, .string (⟨#[]⟩ : ByteArray)]) ?_ 5 _ rfl; (with_reducible repeat (first | refine blk_drewN ?_ _ | refine blk_drew ?_ | refine blk_alloc ?_ _)); refine blk_put (cs := #[.int .i64 ((rd_T56 l1 x14_1).f0), .string ((rd_T56 l1 x14_1).f1), .int .i64 ((rd_T56 l1 x14_1).f2), .int .i64 ((rd_T56 l1 x14_1).f3), .int .i64 0, .int .i64 0, .string (⟨#[]⟩ : ByteArray)]) ?_ 4 _ rfl; (with_reducible repeat (first | refine blk_drewN ?_ _ | refine blk_drew ?_ | refine blk_alloc ?_ _)); refine blk_put (cs := #[.int .i64 ((rd_T56 l1 x14_1).f0), .string ((rd_T56 l1 x14_1).f1), .int .i64 ((rd_T56 l1 x14_1).f2), .int .i64 0, .int .i64 0, .int .i64 0, .string (⟨#[]⟩ : ByteArray)]) ?_ 3 _ rfl; (with_reducible repeat (first | refine blk_drewN ?_ _ | refine blk_drew ?_ | refine blk_alloc ?_ _)); refine blk_put (cs := #[.int .i64 ((rd_T56 l1 x14_1).f0), .string ((rd_T56 l1 x14_1).f1), .int .i64 0, .int .i64 0, .int .i64 0, .int .i64 0, .string (⟨#[]⟩ : ByteArray)]) ?_ 2 _ rfl; (with_reducible repeat (first | refine blk_drewN ?_ _ | refine blk_drew ?_ | refine blk_alloc ?_ _)); refine blk_put (cs := #[.int .i64 ((rd_T56 l1 x14_1).f0), .string (⟨#[]⟩ : ByteArray), .int .i64 0, .int .i64 0, .int .i64 0, .int .i64 0, .string (⟨#[]⟩ : ByteArray)]) ?_ 1 _ rfl; (with_reducible repeat (first | refine blk_drewN ?_ _ | refine blk_drew ?_ | refine blk_alloc ?_ _)); refine blk_put (cs := #[.int .i64 0, .string (⟨#[]⟩ : ByteArray), .int .i64 0, .int .i64 0, .int .i64 0, .int .i64 0, .string (⟨#[]⟩ : ByteArray)]) ?_ 0 _ rfl; (with_reducible repeat (first | refine blk_drewN ?_ _ | refine blk_drew ?_ | refine blk_alloc ?_ _)); exact BK546.out) hb); replace HB := Aside0.mk (below_step (qS2 HB GE544 GE546) hb); (try clear hb); (try clear hb2); (try clear hk); (try clear hi); (try clear ho0); obtain ⟨Ao12, co12, eo12⟩ := Kd.R_slice HO549.out; subst eo12))
      go_loopg [5, 21] k1 (fun kq v5 v21 w' => ∃ (x5_2 : List Int) (x21_2 : Int), v21 = .int .i64 x21_2 ∧ Aside0 (impl_sessIds.l1 kq x5_2 l1 (l1.length : Int) x14_1 t547 (t547.length : Int) x21_2 a0_0 a0_1 a0_2 a0_3 ((rd_T56 l1 x14_1).f0) ((rd_T56 l1 x14_1).f1) ((rd_T56 l1 x14_1).f2) ((rd_T56 l1 x14_1).f3) ((rd_T56 l1 x14_1).f4) ((rd_T56 l1 x14_1).f5) ((rd_T56 l1 x14_1).f6) = some r) ∧ Aside0 (kq ≤ k1) ∧ Aside0 (Kd.R (Kd.int .i64) 3 w' w.heap.size (fun _ => True) v5 x5_2) ∧ Aside0 (Kd.R Kd.string 9 w' w.heap.size (fun _ => True) (.slice Ao12 t547.length co12) t547) ∧ Aside0 (w'.heap[gb544]? = some (.cells #[.int .i64 a0_0, .int .i64 a0_1, .int .i64 a0_2, .int .i64 a0_3] 29 (0, 0))) ∧ Aside0 (w'.heap[gb546]? = some (.cells #[.int .i64 ((rd_T56 l1 x14_1).f0), .string ((rd_T56 l1 x14_1).f1), .int .i64 ((rd_T56 l1 x14_1).f2), .int .i64 ((rd_T56 l1 x14_1).f3), .int .i64 ((rd_T56 l1 x14_1).f4), .int .i64 ((rd_T56 l1 x14_1).f5), .string ((rd_T56 l1 x14_1).f6)] 56 (0, 0))) ∧ Aside0 (Below w.heap.size w w'))
      case atStart => exact ⟨(x5_1), (0), qV, H', ⟨Nat.le_refl _⟩, ⟨qR HO_5⟩, ⟨qR HO549⟩, ⟨qB BK544⟩, ⟨qB BK546⟩, ⟨qS2 HB GE544 GE546⟩⟩
      case round =>
       clear H'; (try clear c1); (try clear p2); (try clear c3); (try clear c4); (try clear c4b0); (try clear c5); (try clear c5b0); (try clear p5); (try clear q5); (try clear hx5); (try clear c6); (try clear c6b0); (try clear c7); (try clear c9); (try clear hcz10_0); (try clear hcz10_1); (try clear hcz10_2); (try clear hcz10_3); (try clear hcz10_4); (try clear hcz10_5); (try clear hcz10_6); (try clear hfz10_0); (try clear hfz10_1); (try clear hfz10_2); (try clear hfz10_3); (try clear hfz10_4); (try clear hfz10_5); (try clear hfz10_6); (try clear hx545_0); (try clear hx545_1); (try clear hx545_2); (try clear hx545_3); (try clear hx545_4); (try clear hx545_5); (try clear hx545_6); (try clear p2); (try clear p545); (try clear q545); (obtain ⟨x5_2, x21_2, rfl, HA, HK2, HO_5, HO_19, BK544, BK546, HB⟩ := hrel)
       cases gk with
       | zero => exact absurd HA.out (by simp [impl_sessIds.l1])
       | succ k2 =>
        (have H := HA.out); clear HA; (simp only [impl_sessIds.l1] at H)
        by_cases c13 : x21_2 < (t547.length : Int)
        ·rw [if_pos c13] at H
         (have c13b0 : decide (x21_2 < (t547.length : Int)) = true := decide_eq_true c13); clear c13
         by_cases c14 : 0 ≤ x21_2
         ·rw [if_pos c14] at H
          (have c14b0 : decide (0 ≤ x21_2) = true := decide_eq_true c14); clear c14
          by_cases c15 : x21_2 < (t547.length : Int)
          ·rw [if_pos c15] at H
           (have c15b0 : decide (x21_2 < (t547.length : Int)) = true := decide_eq_true c15); clear c15; (replace H := Option.bind_eq_some_iff.mp H); (obtain ⟨t551, A160, H⟩ := H)
           try dsimp only at H
           (have A16 := Aside0.mk A160); clear A160
           by_cases c17 : x5_2.length < 17592186044416
           ·rw [if_pos c17] at H
            (have LMc17 := Aside0.mk c17); clear c17; (obtain ⟨y552, hy552⟩ : ∃ y_ : List Int, y_ = (x5_2 ++ [t551]) := ⟨_, rfl⟩); (replace H : (impl_sessIds.l1 k2 y552 l1 (l1.length : Int) x14_1 t547 (t547.length : Int) (wrap64 (x21_2 + 1)) a0_0 a0_1 a0_2 a0_3 ((rd_T56 l1 x14_1).f0) ((rd_T56 l1 x14_1).f1) ((rd_T56 l1 x14_1).f2) ((rd_T56 l1 x14_1).f3) ((rd_T56 l1 x14_1).f4) ((rd_T56 l1 x14_1).f5) ((rd_T56 l1 x14_1).f6)) = some r := qY hy552 H); (have Ny552 := Aside0.mk hy552); clear hy552; (have H' := Aside0.mk H); clear H; (have p550 : 0 ≤ (x21_2 : Int) := qO); (have q550 : x21_2 < (t547.length : Int) := qO); (obtain ⟨ad550, e550, hx550_0⟩ := Kd.at_string (Kd.R_reads' HO_19.out).2.2 x21_2 p550 q550)
            cases e550
            (replace p550 := eq_true p550); (replace q550 := eq_true q550); (have hnb18 := NB544_546.out); (have hnc18 := NB546_544.out); (obtain ⟨hcz19_0, hcz19_1, hcz19_2, hcz19_3, hfz19_0, hfz19_1, hfz19_2, hfz19_3⟩ := qC4 BK544)
            go_wp2_with (first | ((with_reducible refine gate_callee (f := 75) rfl ?_); refine goesL_ (some 28) rfl rfl Tryz.func75 (by kernel_rfl) rfl #[.agg #[.int .i64 a0_0, .int .i64 a0_1, .int .i64 a0_2, .int .i64 a0_3], .string (rdOf ByteArray.empty t547 x21_2)] rfl qL ?_; (with_reducible refine (impl_bucketOf.calls k2 a0_0 a0_1 a0_2 a0_3 (rdOf ByteArray.empty t547 x21_2) t551 _ A16.out).mono ?_); rintro e w20 ⟨rfl, hb⟩; refine ⟨_, rfl, ?_⟩; replace HO_5 := Aside0.mk (Kd.R_below (qR HO_5) hb); replace HO_19 := Aside0.mk (Kd.R_below (qR HO_19) hb); replace BK544 := qD BK544 hb; replace BK546 := qD BK546 hb; replace HB := Aside0.mk (below_step (qS2 HB GE544 GE546) hb); (try clear hb); (try clear hb2); (try clear hk); (try clear hi)) | ((with_reducible refine gate_builtin (b := .append) (xs := #[.tmp 25, .tmp 29]) rfl ?_); at_builtin; refine Kd.R_append (Kd.int .i64) (w0 := w) w.heap.size rfl (.tmp 25) (.tmp 29) 25 3 (.int .i64 0) 8 rfl Tryz.underlying25 info3 rfl (by decide) (by omega) u5 x5_2 t551 [.int .i64 t551] (fun _ => True) (fun _ => False) rfl rfl ?aP (fun _ hk => hk.elim) ?aF ?aO ?aB ?aS ?aL ?_; (case aP => exact rfl); (case aB => exact (qS2 HB GE544 GE546)); (case aF => exact (fun _ _ => trivial)); (case aO => exact (qR HO_5)); (case aS => exact (below_size (qS2 HB GE544 GE546))); (case aL => have := LMc17.out; omega); intro v553 w21 ho hb hg hat; rw [← Ny552.out] at ho; replace HO_19 := Aside0.mk (Kd.R_over' (qR HO_19) (Kd.R_typed (qR HO_5)) (by decide) hg); replace BK544 := Aside0.mk (blk_grown (qB BK544) hg (Kd.R_ne HO_5.out BK544.out (by decide))); replace BK546 := Aside0.mk (blk_grown (qB BK546) hg (Kd.R_ne HO_5.out BK546.out (by decide))); replace HB := Aside0.mk (hb); have HO554 := Aside0.mk (ho); clear HO_5; clear ho hb hg hat))
            go_roundg k2
            case measure => have := HK1.out; have := HK2.out; omega
            case rel => exact ⟨(y552), (wrap64 (x21_2 + 1)), qV, H', ⟨by have := HK1.out; have := HK2.out; omega⟩, ⟨qR HO554⟩, ⟨qR HO_19⟩, ⟨qB BK544⟩, ⟨qB BK546⟩, ⟨qS2 HB GE544 GE546⟩⟩
           ·rw [if_neg c17] at H
            exact absurd H (by simp)
          ·rw [if_neg c15] at H
           exact absurd H (by simp)
         ·rw [if_neg c14] at H
          exact absurd H (by simp)
        ·rw [if_neg c13] at H
         (have c13b0 : decide (x21_2 < (t547.length : Int)) = false := decide_eq_false c13); clear c13; (replace H := Option.bind_eq_some_iff.mp H); (obtain ⟨t555, A220, H⟩ := H)
         try dsimp only at H
         (have A22 := Aside0.mk A220); clear A220
         by_cases c23 : t555 = true
         ·subst c23
          (have H1 : ((impl_changeOf.f k2 ((rd_T56 l1 x14_1).f0) ((rd_T56 l1 x14_1).f1) ((rd_T56 l1 x14_1).f2) ((rd_T56 l1 x14_1).f3) ((rd_T56 l1 x14_1).f4) ((rd_T56 l1 x14_1).f5) ((rd_T56 l1 x14_1).f6)).bind fun bt556 => ((impl_isEntry.f k2 bt556.1 bt556.2).bind fun t559 => (if t559 = true then ((impl_bucketOf.f k2 a0_0 a0_1 a0_2 a0_3 bt556.1).bind fun t560 => ((some (([t560, t560] : List Int) : List Int)).bind fun y561 => (if x5_2.length + y561.length < 17592186044416 then (impl_sessIds.l0 k2 (x5_2 ++ y561) l1 (l1.length : Int) (wrap64 (x14_1 + 1)) a0_0 a0_1 a0_2 a0_3) else (none)))) else ((some (([(-1), (-1)] : List Int) : List Int)).bind fun y567 => (if x5_2.length + y567.length < 17592186044416 then (impl_sessIds.l0 k2 (x5_2 ++ y567) l1 (l1.length : Int) (wrap64 (x14_1 + 1)) a0_0 a0_1 a0_2 a0_3) else (none)))))) = some r := by rw [if_pos rfl] at H; exact H); clear H; (have H := H1); clear H1; (replace H := Option.bind_eq_some_iff.mp H); (obtain ⟨⟨t556, t557⟩, A240, H⟩ := H)
          try dsimp only at H
          (have A24 := Aside0.mk A240); clear A240; (replace H := Option.bind_eq_some_iff.mp H); (obtain ⟨t559, A250, H⟩ := H)
          try dsimp only at H
          (have A25 := Aside0.mk A250); clear A250
          by_cases c26 : t559 = true
          ·subst c26
           (have H1 : ((impl_bucketOf.f k2 a0_0 a0_1 a0_2 a0_3 t556).bind fun t560 => ((some (([t560, t560] : List Int) : List Int)).bind fun y561 => (if x5_2.length + y561.length < 17592186044416 then (impl_sessIds.l0 k2 (x5_2 ++ y561) l1 (l1.length : Int) (wrap64 (x14_1 + 1)) a0_0 a0_1 a0_2 a0_3) else (none)))) = some r := by rw [if_pos rfl] at H; exact H); clear H; (have H := H1); clear H1; (replace H := Option.bind_eq_some_iff.mp H); (obtain ⟨t560, A270, H⟩ := H)
           try dsimp only at H
           (have A27 := Aside0.mk A270); clear A270; (obtain ⟨y561, hy561⟩ : ∃ y_ : List Int, y_ = (([t560, t560] : List Int)) := ⟨_, rfl⟩); (replace H : (if x5_2.length + y561.length < 17592186044416 then (impl_sessIds.l0 k2 (x5_2 ++ y561) l1 (l1.length : Int) (wrap64 (x14_1 + 1)) a0_0 a0_1 a0_2 a0_3) else (none)) = some r := qY hy561 H); (have Ny561 := Aside0.mk hy561); clear hy561
           by_cases c28 : x5_2.length + y561.length < 17592186044416
           ·rw [if_pos c28] at H
            (have LMc28 := Aside0.mk c28); clear c28; (obtain ⟨y564, hy564⟩ : ∃ y_ : List Int, y_ = (x5_2 ++ y561) := ⟨_, rfl⟩); (replace H : (impl_sessIds.l0 k2 y564 l1 (l1.length : Int) (wrap64 (x14_1 + 1)) a0_0 a0_1 a0_2 a0_3) = some r := qY hy564 H); (have Ny564 := Aside0.mk hy564); clear hy564; (have H' := Aside0.mk H); clear H; (have hnb29 := NB546_544.out); (have hnc29 := NB544_546.out); (obtain ⟨hcz30_0, hcz30_1, hcz30_2, hcz30_3, hcz30_4, hcz30_5, hcz30_6, hfz30_0, hfz30_1, hfz30_2, hfz30_3, hfz30_4, hfz30_5, hfz30_6⟩ := qC7 BK546)
            go_wp2_with (first | ((with_reducible refine gate_callee (f := 76) rfl ?_); refine goesL_ (some 34) rfl rfl Tryz.func76 (by kernel_rfl) rfl #[.int .i64 ((rd_T56 l1 x14_1).f0)] rfl qL ?_; (with_reducible refine (impl_isChange.calls ((rd_T56 l1 x14_1).f0) true _ A22.out).mono ?_); rintro e w' ⟨rfl, ⟨nd, rfl⟩⟩; refine ⟨_, rfl, ?_⟩; (try (rw [drewN_self wr]; generalize hq_ : World.drewN wr _ = wr; have n0_ : Aside0 (Kd.R Kd.string 9 wr w.heap.size (fun _ => True) (.slice Ao12 t547.length co12) t547) := ⟨by rw [← hq_]; exact (qR HO_19)⟩; have n1_ : Aside0 (Kd.R (Kd.int .i64) 3 wr w.heap.size (fun _ => True) u5 x5_2) := ⟨by rw [← hq_]; exact (qR HO_5)⟩; have n2_ : Aside0 (wr.heap[gb544]? = some (.cells #[.int .i64 a0_0, .int .i64 a0_1, .int .i64 a0_2, .int .i64 a0_3] 29 (0, 0))) := ⟨by rw [← hq_]; exact (qB BK544)⟩; have n3_ : Aside0 (wr.heap[gb546]? = some (.cells #[.int .i64 ((rd_T56 l1 x14_1).f0), .string ((rd_T56 l1 x14_1).f1), .int .i64 ((rd_T56 l1 x14_1).f2), .int .i64 ((rd_T56 l1 x14_1).f3), .int .i64 ((rd_T56 l1 x14_1).f4), .int .i64 ((rd_T56 l1 x14_1).f5), .string ((rd_T56 l1 x14_1).f6)] 56 (0, 0))) := ⟨by rw [← hq_]; exact (qB BK546)⟩; have n4_ : Aside0 (Below w.heap.size w wr) := ⟨by rw [← hq_]; exact (qS2 HB GE544 GE546)⟩; clear HO_19 HO_5 BK544 BK546 HB hq_; have HO_19 := n0_; have HO_5 := n1_; have BK544 := n2_; have BK546 := n3_; have HB := n4_; clear n0_ n1_ n2_ n3_ n4_)); (try (obtain ⟨hcz30_0, hcz30_1, hcz30_2, hcz30_3, hcz30_4, hcz30_5, hcz30_6, hfz30_0, hfz30_1, hfz30_2, hfz30_3, hfz30_4, hfz30_5, hfz30_6⟩ := qC7 BK546))) | ((with_reducible refine gate_callee (f := 77) rfl ?_); refine goesL_ (some 36) rfl rfl Tryz.func77 (by kernel_rfl) rfl #[.agg #[.int .i64 ((rd_T56 l1 x14_1).f0), .string ((rd_T56 l1 x14_1).f1), .int .i64 ((rd_T56 l1 x14_1).f2), .int .i64 ((rd_T56 l1 x14_1).f3), .int .i64 ((rd_T56 l1 x14_1).f4), .int .i64 ((rd_T56 l1 x14_1).f5), .string ((rd_T56 l1 x14_1).f6)]] rfl qL ?_; (with_reducible refine (impl_changeOf.calls k2 ((rd_T56 l1 x14_1).f0) ((rd_T56 l1 x14_1).f1) ((rd_T56 l1 x14_1).f2) ((rd_T56 l1 x14_1).f3) ((rd_T56 l1 x14_1).f4) ((rd_T56 l1 x14_1).f5) ((rd_T56 l1 x14_1).f6) t556 t557 _ A24.out (G_below (qS2 HB GE544 GE546) hG)).mono ?_); rintro e w31 ⟨rfl, hb⟩; refine ⟨_, rfl, ?_⟩; replace HO_5 := Aside0.mk (Kd.R_below (qR HO_5) hb); replace HO_19 := Aside0.mk (Kd.R_below (qR HO_19) hb); replace BK544 := qD BK544 hb; replace BK546 := qD BK546 hb; replace HB := Aside0.mk (below_step (qS2 HB GE544 GE546) hb); (try clear hb); (try clear hb2); (try clear hk); (try clear hi)) | ((with_reducible refine gate_dst (N := 11) rfl ?_); refine box_event ?hg (N := 11) ?hd (cs := #[.string (⟨#[]⟩ : ByteArray), .int .i64 0]) (t := 94) ?hr ?_; (case hd => rfl); (case hg => rfl); (case hr => first | (go_simp; done) | (go_simp; rfl)); intro gb558 hg w32 hbox hb; replace HO_5 := Aside0.mk (Kd.R_below (qR HO_5) hb); replace HO_19 := Aside0.mk (Kd.R_below (qR HO_19) hb); have BK558 := Aside0.mk (hbox); have GW558 := qG hg (below_size (qS2 HB GE544 GE546)); have GE558 := qG hg (below_size (qS2 HB GE544 GE546)); replace HB := Aside0.mk (below_step (qS2 HB GE544 GE546) hb); have NB544_558 := qN hg (blk_lt (qB BK544)); have NB558_544 := qM hg (blk_lt (qB BK544)); replace BK544 := qD BK544 hb; have NB546_558 := qN hg (blk_lt (qB BK546)); have NB558_546 := qM hg (blk_lt (qB BK546)); replace BK546 := qD BK546 hb; clear hb hbox hg; have hnb33 := NB558_544.out; have hnc33 := NB544_558.out; have hnb34 := NB558_546.out; have hnc34 := NB546_558.out; obtain ⟨hcz35_0, hcz35_1, hfz35_0, hfz35_1⟩ := qC2 BK558) | ((with_reducible refine gate_callee (f := 78) rfl ?_); refine goesL_ (some 38) rfl rfl Tryz.func78 (by kernel_rfl) rfl #[.agg #[.string t556, .int .i64 t557]] rfl qL ?_; (with_reducible refine (impl_isEntry.calls k2 t556 t557 true _ A25.out).mono ?_); rintro e w36 ⟨rfl, hb⟩; refine ⟨_, rfl, ?_⟩; replace HO_5 := Aside0.mk (Kd.R_below (by (with_reducible repeat (first | apply Kd.R_alloc | apply Kd.R_drewN | apply Kd.R_drew)); exact (Kd.R_mono (Kd.R_far (p := ⟨gb558, 1, none⟩) (Kd.R_far (p := ⟨gb558, 0, none⟩) (Kd.R_types HO_5.out BK558.out (by decide)) (fun _ hk => hk.2) (.string t556)) (fun _ hk => hk.2) (.int .i64 t557)) (fun _ h_ => h_.1))) hb); replace HO_19 := Aside0.mk (Kd.R_below (by (with_reducible repeat (first | apply Kd.R_alloc | apply Kd.R_drewN | apply Kd.R_drew)); exact (Kd.R_mono (Kd.R_far (p := ⟨gb558, 1, none⟩) (Kd.R_far (p := ⟨gb558, 0, none⟩) (Kd.R_types HO_19.out BK558.out (by decide)) (fun _ hk => hk.2) (.string t556)) (fun _ hk => hk.2) (.int .i64 t557)) (fun _ h_ => h_.1))) hb); replace BK544 := Aside0.mk (blk_below (g := gb544) (o := .cells #[.int .i64 a0_0, .int .i64 a0_1, .int .i64 a0_2, .int .i64 a0_3] 29 (0, 0)) (by (with_reducible repeat (first | refine blk_drewN ?_ _ | refine blk_drew ?_ | refine blk_alloc ?_ _)); refine blk_far ?_ NB544_558.out _; (with_reducible repeat (first | refine blk_drewN ?_ _ | refine blk_drew ?_ | refine blk_alloc ?_ _)); refine blk_far ?_ NB544_558.out _; (with_reducible repeat (first | refine blk_drewN ?_ _ | refine blk_drew ?_ | refine blk_alloc ?_ _)); exact BK544.out) hb); replace BK546 := Aside0.mk (blk_below (g := gb546) (o := .cells #[.int .i64 ((rd_T56 l1 x14_1).f0), .string ((rd_T56 l1 x14_1).f1), .int .i64 ((rd_T56 l1 x14_1).f2), .int .i64 ((rd_T56 l1 x14_1).f3), .int .i64 ((rd_T56 l1 x14_1).f4), .int .i64 ((rd_T56 l1 x14_1).f5), .string ((rd_T56 l1 x14_1).f6)] 56 (0, 0)) (by (with_reducible repeat (first | refine blk_drewN ?_ _ | refine blk_drew ?_ | refine blk_alloc ?_ _)); refine blk_far ?_ NB546_558.out _; (with_reducible repeat (first | refine blk_drewN ?_ _ | refine blk_drew ?_ | refine blk_alloc ?_ _)); refine blk_far ?_ NB546_558.out _; (with_reducible repeat (first | refine blk_drewN ?_ _ | refine blk_drew ?_ | refine blk_alloc ?_ _)); exact BK546.out) hb); replace BK558 := Aside0.mk (blk_below (g := gb558) (o := .cells #[.string t556, .int .i64 t557] 94 (0, 0)) (by (with_reducible repeat (first | refine blk_drewN ?_ _ | refine blk_drew ?_ | refine blk_alloc ?_ _)); refine blk_put (cs := #[.string t556, .int .i64 0]) ?_ 1 _ rfl; (with_reducible repeat (first | refine blk_drewN ?_ _ | refine blk_drew ?_ | refine blk_alloc ?_ _)); refine blk_put (cs := #[.string (⟨#[]⟩ : ByteArray), .int .i64 0]) ?_ 0 _ rfl; (with_reducible repeat (first | refine blk_drewN ?_ _ | refine blk_drew ?_ | refine blk_alloc ?_ _)); exact BK558.out) hb); replace HB := Aside0.mk (below_step (qS3 HB GE544 GE546 GE558) hb); (try clear hb); (try clear hb2); (try clear hk); (try clear hi); obtain ⟨hcz37_0, hcz37_1, hcz37_2, hcz37_3, hfz37_0, hfz37_1, hfz37_2, hfz37_3⟩ := qC4 BK544; obtain ⟨hcz38_0, hcz38_1, hfz38_0, hfz38_1⟩ := qC2 BK558) | ((with_reducible refine gate_callee (f := 75) rfl ?_); refine goesL_ (some 42) rfl rfl Tryz.func75 (by kernel_rfl) rfl #[.agg #[.int .i64 a0_0, .int .i64 a0_1, .int .i64 a0_2, .int .i64 a0_3], .string t556] rfl qL ?_; (with_reducible refine (impl_bucketOf.calls k2 a0_0 a0_1 a0_2 a0_3 t556 t560 _ A27.out).mono ?_); rintro e w39 ⟨rfl, hb⟩; refine ⟨_, rfl, ?_⟩; replace HO_5 := Aside0.mk (Kd.R_below (qR HO_5) hb); replace HO_19 := Aside0.mk (Kd.R_below (qR HO_19) hb); replace BK544 := qD BK544 hb; replace BK546 := qD BK546 hb; replace BK558 := qD BK558 hb; replace HB := Aside0.mk (below_step (qS3 HB GE544 GE546 GE558) hb); (try clear hb); (try clear hb2); (try clear hk); (try clear hi)) | ((with_reducible refine gate_dst (N := 46) rfl ?_); refine Kd.R_lit (Kd.int .i64) _ 3 ?hg (N := 46) ?hd (xs := ([t560, t560] : List Int)) (inner := [.int .i64 t560, .int .i64 t560]) (ok := fun _ => True) (okp := fun _ => True) ?hr ?hp (fun _ hk => hk) trivial (Below.refl _ _) (Nat.le_refl _) (by simp) ?_; (case hd => rfl); (case hg => rfl); (case hr => first | (go_simp; done) | (go_simp; rfl)); (case hp => exact (Reps.one (show Kd.M (Kd.int .i64) _ _ _ t560 [.int .i64 t560] from rfl) (Reps.one (show Kd.M (Kd.int .i64) _ _ _ t560 [.int .i64 t560] from rfl) (Reps.none _ _)))); intro v562 w40 ho41 hb hg_ hnew_; clear hg_ hnew_; (first | rw [← Ny561.out] at ho41 | (simp only [Int.reduceToNat] at ho41; rw [← Ny561.out] at ho41)); replace HO_19 := Aside0.mk (Kd.R_below (qR HO_19) hb); have HO563 := Aside0.mk (Kd.R_lower (Kd.R_new' ho41 (Kd.R_lt (qR HO_5))) (below_size (qS3 HB GE544 GE546 GE558))); replace HO_5 := Aside0.mk (Kd.R_elder' (qR HO_5) (Kd.R_base ho41) hb); replace BK544 := qD BK544 hb; replace BK546 := qD BK546 hb; replace BK558 := qD BK558 hb; replace HB := Aside0.mk (below_step (qS3 HB GE544 GE546 GE558) hb); clear hb ho41; obtain ⟨Ao43, co43, eo43⟩ := Kd.R_slice HO563.out; subst eo43) | ((with_reducible refine gate_builtin (b := .append) (xs := #[.tmp 43, .tmp 46]) rfl ?_); at_builtin; refine Kd.R_append_rows (Kd.int .i64) (w0 := w) w.heap.size rfl (.tmp 43) (.tmp 46) 25 3 (.int .i64 0) 8 rfl Tryz.underlying25 info3 rfl (by decide) (by omega) u5 x5_2 y561 _ _ _ (fun k_ => some k_ ≠ (.slice Ao43 y561.length co43 : Value).ownBlock) (fun _ => False) rfl rfl ?aO ?aR (fun _ _ h => h) (fun _ h => h.elim) ?aF ?aB ?aS ?aL ?_; (case aR => repeat (first | exact (Kd.R_reads' HO563.out).2.2 | (with_reducible refine Kd.C_alloc ?_ _) | (with_reducible refine Kd.C_drewN ?_ _) | (with_reducible refine Kd.C_drew ?_))); (case aB => exact (qS3 HB GE544 GE546 GE558)); (case aF => exact (fun k_ hk => Kd.fresh' (Kd.R_lt (qR HO563)) k_ hk)); (case aO => exact (by (with_reducible repeat (first | apply Kd.R_alloc | apply Kd.R_drewN | apply Kd.R_drew)); exact Kd.R_mono HO_5.out (fun _ hk => hk.2))); (case aS => exact (below_size (qS3 HB GE544 GE546 GE558))); (case aL => have := LMc28.out; omega); intro v565 w42 ho hb hg hat; rw [← Ny564.out] at ho; replace HO_19 := Aside0.mk (Kd.R_over' (qR HO_19) (Kd.R_typed (qR HO_5)) (by decide) hg); replace BK544 := Aside0.mk (blk_grown (qB BK544) hg (Kd.R_ne HO_5.out BK544.out (by decide))); replace BK546 := Aside0.mk (blk_grown (qB BK546) hg (Kd.R_ne HO_5.out BK546.out (by decide))); replace BK558 := Aside0.mk (blk_grown (qB BK558) hg (Kd.R_ne HO_5.out BK558.out (by decide))); replace HO563 := Aside0.mk (Kd.R_after (ok := (fun _ => True)) (qR HO563) hg hat); replace HB := Aside0.mk (hb); have HO566 := Aside0.mk (ho); clear HO_5; clear ho hb hg hat))
            go_roundg k2
            case measure => have := HK1.out; have := HK2.out; omega
            case rel => exact ⟨(y564), (wrap64 (x14_1 + 1)), qV, H', ⟨by have := HK1.out; have := HK2.out; omega⟩, ⟨by (with_reducible repeat (first | apply Kd.R_alloc | apply Kd.R_drewN | apply Kd.R_drew)); exact Kd.R_mono HO566.out (fun _ hk => trivial)⟩, ⟨qB BK544⟩, ⟨qS3 HB GE544 GE546 GE558⟩⟩
           ·rw [if_neg c28] at H
            exact absurd H (by simp)
          ·replace c26 := Bool.eq_false_iff.mpr c26
           (subst c26); (have H1 : ((some (([(-1), (-1)] : List Int) : List Int)).bind fun y567 => (if x5_2.length + y567.length < 17592186044416 then (impl_sessIds.l0 k2 (x5_2 ++ y567) l1 (l1.length : Int) (wrap64 (x14_1 + 1)) a0_0 a0_1 a0_2 a0_3) else (none))) = some r := by rw [if_neg (show ¬ (false = true) by decide)] at H; exact H); clear H; (have H := H1); clear H1; (obtain ⟨y567, hy567⟩ : ∃ y_ : List Int, y_ = (([(-1), (-1)] : List Int)) := ⟨_, rfl⟩); (replace H : (if x5_2.length + y567.length < 17592186044416 then (impl_sessIds.l0 k2 (x5_2 ++ y567) l1 (l1.length : Int) (wrap64 (x14_1 + 1)) a0_0 a0_1 a0_2 a0_3) else (none)) = some r := qY hy567 H); (have Ny567 := Aside0.mk hy567); clear hy567
           by_cases c44 : x5_2.length + y567.length < 17592186044416
           ·rw [if_pos c44] at H
            (have LMc44 := Aside0.mk c44); clear c44; (obtain ⟨y570, hy570⟩ : ∃ y_ : List Int, y_ = (x5_2 ++ y567) := ⟨_, rfl⟩); (replace H : (impl_sessIds.l0 k2 y570 l1 (l1.length : Int) (wrap64 (x14_1 + 1)) a0_0 a0_1 a0_2 a0_3) = some r := qY hy570 H); (have Ny570 := Aside0.mk hy570); clear hy570; (have H' := Aside0.mk H); clear H; (have hnb45 := NB546_544.out); (have hnc45 := NB544_546.out); (obtain ⟨hcz46_0, hcz46_1, hcz46_2, hcz46_3, hcz46_4, hcz46_5, hcz46_6, hfz46_0, hfz46_1, hfz46_2, hfz46_3, hfz46_4, hfz46_5, hfz46_6⟩ := qC7 BK546)
            go_wp2_with (first | ((with_reducible refine gate_callee (f := 76) rfl ?_); refine goesL_ (some 34) rfl rfl Tryz.func76 (by kernel_rfl) rfl #[.int .i64 ((rd_T56 l1 x14_1).f0)] rfl qL ?_; (with_reducible refine (impl_isChange.calls ((rd_T56 l1 x14_1).f0) true _ A22.out).mono ?_); rintro e w' ⟨rfl, ⟨nd, rfl⟩⟩; refine ⟨_, rfl, ?_⟩; (try (rw [drewN_self wr]; generalize hq_ : World.drewN wr _ = wr; have n0_ : Aside0 (Kd.R Kd.string 9 wr w.heap.size (fun _ => True) (.slice Ao12 t547.length co12) t547) := ⟨by rw [← hq_]; exact (qR HO_19)⟩; have n1_ : Aside0 (Kd.R (Kd.int .i64) 3 wr w.heap.size (fun _ => True) u5 x5_2) := ⟨by rw [← hq_]; exact (qR HO_5)⟩; have n2_ : Aside0 (wr.heap[gb544]? = some (.cells #[.int .i64 a0_0, .int .i64 a0_1, .int .i64 a0_2, .int .i64 a0_3] 29 (0, 0))) := ⟨by rw [← hq_]; exact (qB BK544)⟩; have n3_ : Aside0 (wr.heap[gb546]? = some (.cells #[.int .i64 ((rd_T56 l1 x14_1).f0), .string ((rd_T56 l1 x14_1).f1), .int .i64 ((rd_T56 l1 x14_1).f2), .int .i64 ((rd_T56 l1 x14_1).f3), .int .i64 ((rd_T56 l1 x14_1).f4), .int .i64 ((rd_T56 l1 x14_1).f5), .string ((rd_T56 l1 x14_1).f6)] 56 (0, 0))) := ⟨by rw [← hq_]; exact (qB BK546)⟩; have n4_ : Aside0 (Below w.heap.size w wr) := ⟨by rw [← hq_]; exact (qS2 HB GE544 GE546)⟩; clear HO_19 HO_5 BK544 BK546 HB hq_; have HO_19 := n0_; have HO_5 := n1_; have BK544 := n2_; have BK546 := n3_; have HB := n4_; clear n0_ n1_ n2_ n3_ n4_)); (try (obtain ⟨hcz46_0, hcz46_1, hcz46_2, hcz46_3, hcz46_4, hcz46_5, hcz46_6, hfz46_0, hfz46_1, hfz46_2, hfz46_3, hfz46_4, hfz46_5, hfz46_6⟩ := qC7 BK546))) | ((with_reducible refine gate_callee (f := 77) rfl ?_); refine goesL_ (some 36) rfl rfl Tryz.func77 (by kernel_rfl) rfl #[.agg #[.int .i64 ((rd_T56 l1 x14_1).f0), .string ((rd_T56 l1 x14_1).f1), .int .i64 ((rd_T56 l1 x14_1).f2), .int .i64 ((rd_T56 l1 x14_1).f3), .int .i64 ((rd_T56 l1 x14_1).f4), .int .i64 ((rd_T56 l1 x14_1).f5), .string ((rd_T56 l1 x14_1).f6)]] rfl qL ?_; (with_reducible refine (impl_changeOf.calls k2 ((rd_T56 l1 x14_1).f0) ((rd_T56 l1 x14_1).f1) ((rd_T56 l1 x14_1).f2) ((rd_T56 l1 x14_1).f3) ((rd_T56 l1 x14_1).f4) ((rd_T56 l1 x14_1).f5) ((rd_T56 l1 x14_1).f6) t556 t557 _ A24.out (G_below (qS2 HB GE544 GE546) hG)).mono ?_); rintro e w47 ⟨rfl, hb⟩; refine ⟨_, rfl, ?_⟩; replace HO_5 := Aside0.mk (Kd.R_below (qR HO_5) hb); replace HO_19 := Aside0.mk (Kd.R_below (qR HO_19) hb); replace BK544 := qD BK544 hb; replace BK546 := qD BK546 hb; replace HB := Aside0.mk (below_step (qS2 HB GE544 GE546) hb); (try clear hb); (try clear hb2); (try clear hk); (try clear hi)) | ((with_reducible refine gate_dst (N := 11) rfl ?_); refine box_event ?hg (N := 11) ?hd (cs := #[.string (⟨#[]⟩ : ByteArray), .int .i64 0]) (t := 94) ?hr ?_; (case hd => rfl); (case hg => rfl); (case hr => first | (go_simp; done) | (go_simp; rfl)); intro gb558 hg w48 hbox hb; replace HO_5 := Aside0.mk (Kd.R_below (qR HO_5) hb); replace HO_19 := Aside0.mk (Kd.R_below (qR HO_19) hb); have BK558 := Aside0.mk (hbox); have GW558 := qG hg (below_size (qS2 HB GE544 GE546)); have GE558 := qG hg (below_size (qS2 HB GE544 GE546)); replace HB := Aside0.mk (below_step (qS2 HB GE544 GE546) hb); have NB544_558 := qN hg (blk_lt (qB BK544)); have NB558_544 := qM hg (blk_lt (qB BK544)); replace BK544 := qD BK544 hb; have NB546_558 := qN hg (blk_lt (qB BK546)); have NB558_546 := qM hg (blk_lt (qB BK546)); replace BK546 := qD BK546 hb; clear hb hbox hg; have hnb49 := NB558_544.out; have hnc49 := NB544_558.out; have hnb50 := NB558_546.out; have hnc50 := NB546_558.out; obtain ⟨hcz51_0, hcz51_1, hfz51_0, hfz51_1⟩ := qC2 BK558) | ((with_reducible refine gate_callee (f := 78) rfl ?_); refine goesL_ (some 38) rfl rfl Tryz.func78 (by kernel_rfl) rfl #[.agg #[.string t556, .int .i64 t557]] rfl qL ?_; (with_reducible refine (impl_isEntry.calls k2 t556 t557 false _ A25.out).mono ?_); rintro e w52 ⟨rfl, hb⟩; refine ⟨_, rfl, ?_⟩; replace HO_5 := Aside0.mk (Kd.R_below (by (with_reducible repeat (first | apply Kd.R_alloc | apply Kd.R_drewN | apply Kd.R_drew)); exact (Kd.R_mono (Kd.R_far (p := ⟨gb558, 1, none⟩) (Kd.R_far (p := ⟨gb558, 0, none⟩) (Kd.R_types HO_5.out BK558.out (by decide)) (fun _ hk => hk.2) (.string t556)) (fun _ hk => hk.2) (.int .i64 t557)) (fun _ h_ => h_.1))) hb); replace HO_19 := Aside0.mk (Kd.R_below (by (with_reducible repeat (first | apply Kd.R_alloc | apply Kd.R_drewN | apply Kd.R_drew)); exact (Kd.R_mono (Kd.R_far (p := ⟨gb558, 1, none⟩) (Kd.R_far (p := ⟨gb558, 0, none⟩) (Kd.R_types HO_19.out BK558.out (by decide)) (fun _ hk => hk.2) (.string t556)) (fun _ hk => hk.2) (.int .i64 t557)) (fun _ h_ => h_.1))) hb); replace BK544 := Aside0.mk (blk_below (g := gb544) (o := .cells #[.int .i64 a0_0, .int .i64 a0_1, .int .i64 a0_2, .int .i64 a0_3] 29 (0, 0)) (by (with_reducible repeat (first | refine blk_drewN ?_ _ | refine blk_drew ?_ | refine blk_alloc ?_ _)); refine blk_far ?_ NB544_558.out _; (with_reducible repeat (first | refine blk_drewN ?_ _ | refine blk_drew ?_ | refine blk_alloc ?_ _)); refine blk_far ?_ NB544_558.out _; (with_reducible repeat (first | refine blk_drewN ?_ _ | refine blk_drew ?_ | refine blk_alloc ?_ _)); exact BK544.out) hb); replace BK546 := Aside0.mk (blk_below (g := gb546) (o := .cells #[.int .i64 ((rd_T56 l1 x14_1).f0), .string ((rd_T56 l1 x14_1).f1), .int .i64 ((rd_T56 l1 x14_1).f2), .int .i64 ((rd_T56 l1 x14_1).f3), .int .i64 ((rd_T56 l1 x14_1).f4), .int .i64 ((rd_T56 l1 x14_1).f5), .string ((rd_T56 l1 x14_1).f6)] 56 (0, 0)) (by (with_reducible repeat (first | refine blk_drewN ?_ _ | refine blk_drew ?_ | refine blk_alloc ?_ _)); refine blk_far ?_ NB546_558.out _; (with_reducible repeat (first | refine blk_drewN ?_ _ | refine blk_drew ?_ | refine blk_alloc ?_ _)); refine blk_far ?_ NB546_558.out _; (with_reducible repeat (first | refine blk_drewN ?_ _ | refine blk_drew ?_ | refine blk_alloc ?_ _)); exact BK546.out) hb); replace BK558 := Aside0.mk (blk_below (g := gb558) (o := .cells #[.string t556, .int .i64 t557] 94 (0, 0)) (by (with_reducible repeat (first | refine blk_drewN ?_ _ | refine blk_drew ?_ | refine blk_alloc ?_ _)); refine blk_put (cs := #[.string t556, .int .i64 0]) ?_ 1 _ rfl; (with_reducible repeat (first | refine blk_drewN ?_ _ | refine blk_drew ?_ | refine blk_alloc ?_ _)); refine blk_put (cs := #[.string (⟨#[]⟩ : ByteArray), .int .i64 0]) ?_ 0 _ rfl; (with_reducible repeat (first | refine blk_drewN ?_ _ | refine blk_drew ?_ | refine blk_alloc ?_ _)); exact BK558.out) hb); replace HB := Aside0.mk (below_step (qS3 HB GE544 GE546 GE558) hb); (try clear hb); (try clear hb2); (try clear hk); (try clear hi)) | ((with_reducible refine gate_dst (N := 46) rfl ?_); refine Kd.R_lit (Kd.int .i64) _ 3 ?hg (N := 46) ?hd (xs := ([(-1), (-1)] : List Int)) (inner := [.int .i64 (-1), .int .i64 (-1)]) (ok := fun _ => True) (okp := fun _ => True) ?hr ?hp (fun _ hk => hk) trivial (Below.refl _ _) (Nat.le_refl _) (by simp) ?_; (case hd => rfl); (case hg => rfl); (case hr => first | (go_simp; done) | (go_simp; rfl)); (case hp => exact (Reps.one (show Kd.M (Kd.int .i64) _ _ _ (-1) [.int .i64 (-1)] from rfl) (Reps.one (show Kd.M (Kd.int .i64) _ _ _ (-1) [.int .i64 (-1)] from rfl) (Reps.none _ _)))); intro v568 w53 ho54 hb hg_ hnew_; clear hg_ hnew_; (first | rw [← Ny567.out] at ho54 | (simp only [Int.reduceToNat] at ho54; rw [← Ny567.out] at ho54)); replace HO_19 := Aside0.mk (Kd.R_below (qR HO_19) hb); have HO569 := Aside0.mk (Kd.R_lower (Kd.R_new' ho54 (Kd.R_lt (qR HO_5))) (below_size (qS3 HB GE544 GE546 GE558))); replace HO_5 := Aside0.mk (Kd.R_elder' (qR HO_5) (Kd.R_base ho54) hb); replace BK544 := qD BK544 hb; replace BK546 := qD BK546 hb; replace BK558 := qD BK558 hb; replace HB := Aside0.mk (below_step (qS3 HB GE544 GE546 GE558) hb); clear hb ho54; obtain ⟨Ao56, co56, eo56⟩ := Kd.R_slice HO569.out; subst eo56) | ((with_reducible refine gate_builtin (b := .append) (xs := #[.tmp 43, .tmp 46]) rfl ?_); at_builtin; refine Kd.R_append_rows (Kd.int .i64) (w0 := w) w.heap.size rfl (.tmp 43) (.tmp 46) 25 3 (.int .i64 0) 8 rfl Tryz.underlying25 info3 rfl (by decide) (by omega) u5 x5_2 y567 _ _ _ (fun k_ => some k_ ≠ (.slice Ao56 y567.length co56 : Value).ownBlock) (fun _ => False) rfl rfl ?aO ?aR (fun _ _ h => h) (fun _ h => h.elim) ?aF ?aB ?aS ?aL ?_; (case aR => repeat (first | exact (Kd.R_reads' HO569.out).2.2 | (with_reducible refine Kd.C_alloc ?_ _) | (with_reducible refine Kd.C_drewN ?_ _) | (with_reducible refine Kd.C_drew ?_))); (case aB => exact (qS3 HB GE544 GE546 GE558)); (case aF => exact (fun k_ hk => Kd.fresh' (Kd.R_lt (qR HO569)) k_ hk)); (case aO => exact (by (with_reducible repeat (first | apply Kd.R_alloc | apply Kd.R_drewN | apply Kd.R_drew)); exact Kd.R_mono HO_5.out (fun _ hk => hk.2))); (case aS => exact (below_size (qS3 HB GE544 GE546 GE558))); (case aL => have := LMc44.out; omega); intro v571 w55 ho hb hg hat; rw [← Ny570.out] at ho; replace HO_19 := Aside0.mk (Kd.R_over' (qR HO_19) (Kd.R_typed (qR HO_5)) (by decide) hg); replace BK544 := Aside0.mk (blk_grown (qB BK544) hg (Kd.R_ne HO_5.out BK544.out (by decide))); replace BK546 := Aside0.mk (blk_grown (qB BK546) hg (Kd.R_ne HO_5.out BK546.out (by decide))); replace BK558 := Aside0.mk (blk_grown (qB BK558) hg (Kd.R_ne HO_5.out BK558.out (by decide))); replace HO569 := Aside0.mk (Kd.R_after (ok := (fun _ => True)) (qR HO569) hg hat); replace HB := Aside0.mk (hb); have HO572 := Aside0.mk (ho); clear HO_5; clear ho hb hg hat))
            go_roundg k2
            case measure => have := HK1.out; have := HK2.out; omega
            case rel => exact ⟨(y570), (wrap64 (x14_1 + 1)), qV, H', ⟨by have := HK1.out; have := HK2.out; omega⟩, ⟨by (with_reducible repeat (first | apply Kd.R_alloc | apply Kd.R_drewN | apply Kd.R_drew)); exact Kd.R_mono HO572.out (fun _ hk => trivial)⟩, ⟨qB BK544⟩, ⟨qS3 HB GE544 GE546 GE558⟩⟩
           ·rw [if_neg c44] at H
            exact absurd H (by simp)
         ·replace c23 := Bool.eq_false_iff.mpr c23
          (subst c23); (have H1 : (impl_sessIds.l0 k2 x5_2 l1 (l1.length : Int) (wrap64 (x14_1 + 1)) a0_0 a0_1 a0_2 a0_3) = some r := by rw [if_neg (show ¬ (false = true) by decide)] at H; exact H); clear H; (have H := H1); clear H1; (have H' := Aside0.mk H); clear H; (have hnb57 := NB546_544.out); (have hnc57 := NB544_546.out); (obtain ⟨hcz58_0, hcz58_1, hcz58_2, hcz58_3, hcz58_4, hcz58_5, hcz58_6, hfz58_0, hfz58_1, hfz58_2, hfz58_3, hfz58_4, hfz58_5, hfz58_6⟩ := qC7 BK546)
          go_wp2_with (first | ((with_reducible refine gate_callee (f := 76) rfl ?_); refine goesL_ (some 34) rfl rfl Tryz.func76 (by kernel_rfl) rfl #[.int .i64 ((rd_T56 l1 x14_1).f0)] rfl qL ?_; (with_reducible refine (impl_isChange.calls ((rd_T56 l1 x14_1).f0) false _ A22.out).mono ?_); rintro e w' ⟨rfl, ⟨nd, rfl⟩⟩; refine ⟨_, rfl, ?_⟩))
          go_roundg k2
          case measure => have := HK1.out; have := HK2.out; omega
          case rel => exact ⟨(x5_2), (wrap64 (x14_1 + 1)), qV, H', ⟨by have := HK1.out; have := HK2.out; omega⟩, ⟨qR HO_5⟩, ⟨qB BK544⟩, ⟨qS2 HB GE544 GE546⟩⟩
     ·rw [if_neg c6] at H
      exact absurd H (by simp)
    ·rw [if_neg c5] at H
     exact absurd H (by simp)
   ·rw [if_neg c4] at H
    (have c4b0 : decide (x14_1 < (l1.length : Int)) = false := decide_eq_false c4); clear c4; (obtain rfl := Option.some.inj H)
    go_wp2
    go_ret
    exact ⟨_, qE, qR HO_5, qS1 HB GE544⟩
end Go.Proofs.YtppopmajclmhjaaGreatDoor.QB
