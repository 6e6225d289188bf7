/- Part of the proof of the law FnExactShapeScan: what it uses of the texts that this session and the kit's print wrote. -/
import Derived.Test.YtpkmhdeimedhgaaZFnExactShapeScanQASFnExactShapeScan
import Derived.Test.YtpkmhdeimedhgaaZFnExactShapeScanLShapesS
import Derived.Test.YtpkmhdeimedhgaaZFnExactShapeScanLSzShapes
import Derived.Test.YtpkmhdeimedhgaaZFnExactShapeScanLConf
import Derived.Test.YtpkmhdeimedhgaaZFnExactShapeScanQAx5
import Derived.Test.YtpkmhdeimedhgaaZFnExactShapeScanQAx6
import Derived.Test.YtpkmhdeimedhgaaZFnExactShapeScanQAx7
namespace Go.Proofs.Ytpkmhdeimedhgaa.Pure
open Go.RowKit Go.Proofs.Ytpkmhdeimedhgaa.QA Go.Proofs.YtpkmhdeimedhgaaW.PrintWords Go.Proofs.YtpkmhdeimedhgaaW.PrintLast Go.Proofs.Ytpkmhdeimedhgaa.L
set_option linter.unusedVariables false
set_option linter.unusedSimpArgs false
def chg (a : Int) : Bool := a == 3 || (a == 4 || a == 5)
theorem l20Op_eq (a : Int) : spec_l20Op.f a = some (chg a) := by
  unfold spec_l20Op.f chg
  by_cases h3 : a = 3
  · simp [h3]
  · have e3 : (a == 3) = false := beq_eq_false_iff_ne.mpr h3
    by_cases h4 : a = 4
    · simp [h3, h4]
    · have e4 : (a == 4) = false := beq_eq_false_iff_ne.mpr h4
      simp [h3, h4, e3, e4]
theorem isChange_eq (a : Int) : impl_isChange.f a = some (chg a) := by
  unfold impl_isChange.f chg
  by_cases h3 : a = 3
  · simp [h3]
  · have e3 : (a == 3) = false := beq_eq_false_iff_ne.mpr h3
    by_cases h4 : a = 4
    · simp [h3, h4]
    · have e4 : (a == 4) = false := beq_eq_false_iff_ne.mpr h4
      simp [h3, h4, e3, e4]
def cellL (a : Int) (j : Nat) : List S76 := (if a = 2 ∨ chg a = true then [⟨1, (j : Int), 37⟩] else []) ++ (if chg a = true then [⟨2, (j : Int), 37⟩] else [])
theorem cellL_len (a : Int) (j : Nat) : (cellL a j).length ≤ 2 := by
  unfold cellL
  split <;> split <;> simp
def rowL (a : Int) (n : Nat) : List S76 := (List.range n).flatMap (cellL a)
theorem rowL_succ (a : Int) (n : Nat) : rowL a (n + 1) = rowL a n ++ cellL a n := by
  unfold rowL
  rw [List.range_succ, List.flatMap_append]
  simp
theorem rowL_len (a : Int) (n : Nat) : (rowL a n).length ≤ 2 * n := by
  induction n with
  | zero => simp [rowL]
  | succ n ih => rw [rowL_succ, List.length_append]; have := cellL_len a n; omega
def scanL (l : List S68) (n : Nat) : List S76 := l.flatMap fun s => rowL s.f0 n
theorem scanL_take (l : List S68) (n i : Nat) (h : i < l.length) : scanL (l.take (i + 1)) n = scanL (l.take i) n ++ rowL (l.getD i z68).f0 n := by
  unfold scanL
  rw [List.take_succ_eq_append_getElem h, List.flatMap_append, getD_lt _ h]
  simp
theorem scanL_len (l : List S68) (n : Nat) : (scanL l n).length ≤ l.length * (2 * n) := by
  induction l with
  | nil => simp [scanL]
  | cons x xs ih =>
    have h := rowL_len x.f0 n
    unfold scanL at ih ⊢
    rw [List.flatMap_cons, List.length_append, List.length_cons, Nat.add_mul]
    omega
theorem specScan_ev (a b c : Int) (n : Nat) (hn : n ≤ 64) (l : List S68) (hl : l.length ≤ 40) : Ev (fun k => spec_ShapeScan.l0 k l ([] : List S76) 0 a b c (n : Int)) (scanL l n) := by
  refine evVal (loop_ev l.length (fun k s i => spec_ShapeScan.l0 k l s i a b c (n : Int)) (fun i => scanL (l.take i) n) (scanL (l.take l.length) n) ?_ ?_) (by rw [List.take_length])
  · intro i hi hr
    have hb : (scanL (l.take i) n).length ≤ 5120 := by
      have h1 := scanL_len (l.take i) n
      have h2 : (l.take i).length * (2 * n) ≤ 40 * 128 := Nat.mul_le_mul (by rw [List.length_take]; omega) (by omega)
      omega
    rw [scanL_take l n i hi] at hr
    generalize scanL (l.take i) n = X at hr hb
    refine Ev.step (fun k => rfl) ?_
    simp only [spec_ShapeScan.l0, if_pos (show (i : Int) < (l.length : Int) by omega)]
    have e0 : X = X ++ rowL (l.getD i z68).f0 0 := by simp [rowL]
    rw [e0]
    refine loop_ev n (fun k s j => spec_ShapeScan.l1 k l s (i : Int) j a b c (n : Int)) (fun j => X ++ rowL (l.getD i z68).f0 j) _ ?_ ?_
    · intro j hj hr'
      have h2 := rowL_len (l.getD i z68).f0 j
      rw [rowL_succ, ← List.append_assoc] at hr'
      have hY : (X ++ rowL (l.getD i z68).f0 j).length ≤ 6000 := by rw [List.length_append]; omega
      generalize X ++ rowL (l.getD i z68).f0 j = Y at hr' hY
      have hrd : (rd_T68 l (i : Int)).f0 = (l.getD i z68).f0 := by simp only [rd_T68, Int.toNat_natCast]
      generalize (l.getD i z68).f0 = t at hr' hrd
      refine Ev.step (fun k => rfl) ?_
      simp only [spec_ShapeScan.l1, if_pos (show (j : Int) < (n : Int) by omega), if_pos (show (0 : Int) ≤ (i : Int) by omega), if_pos (show (i : Int) < (l.length : Int) by omega), hrd, l20Op_eq, Option.bind_some]
      have hj3 : ∀ b1 : Bool, (b1 = true ↔ (t = 2 ∨ chg t = true)) → Ev (fun k => spec_ShapeScan.j3 k l Y (i : Int) (j : Int) b1 a b c (n : Int)) (scanL (l.take l.length) n) := by
        intro b1 hb1
        refine Ev.step (fun k => rfl) ?_
        simp only [spec_ShapeScan.j3, if_pos (show (0 : Int) ≤ (i : Int) by omega), if_pos (show (i : Int) < (l.length : Int) by omega), hrd, l20Op_eq, Option.bind_some, if_pos (show Y.length < 5864062014805 by omega), wrap_nat_succ (show j < 9223372036854775807 by omega), List.length_append, List.length_singleton, if_pos (show Y.length + 1 < 5864062014805 by omega)]
        unfold cellL at hr'
        cases hc : chg t with
        | true =>
          have : b1 = true := hb1.mpr (.inr hc)
          simp only [this, if_true, hc, or_true, List.append_assoc] at hr' ⊢
          exact hr'
        | false =>
          simp only [hc, Bool.false_eq_true, if_false, or_false, List.append_nil] at hr' hb1 ⊢
          by_cases h2 : t = 2
          · simp only [hb1.mpr h2, if_true, if_pos h2] at hr' ⊢
            exact hr'
          · have : b1 = false := by cases b1 with | true => exact absurd (hb1.mp rfl) h2 | false => rfl
            simp only [this, Bool.false_eq_true, if_false, if_neg h2, List.append_nil] at hr' ⊢
            exact hr'
      by_cases h2 : t = 2
      · simp only [if_pos h2]
        exact hj3 true ⟨fun _ => .inl h2, fun _ => rfl⟩
      · simp only [if_neg h2]
        exact hj3 (chg t) ⟨fun h => .inr h, fun h => h.resolve_left h2⟩
    · refine Ev.step (fun k => rfl) ?_
      simp only [spec_ShapeScan.l1, if_neg (show ¬ (n : Int) < (n : Int) by omega), wrap_nat_succ (show i < 9223372036854775807 by omega)]
      exact hr
  · refine Ev.step (fun k => rfl) ?_
    simp only [spec_ShapeScan.l0, if_neg (show ¬ (l.length : Int) < (l.length : Int) by omega)]
    exact Ev.now _
theorem implScan_ev (a b c : Int) (n : Nat) (hn : n ≤ 64) (l : List S68) (hl : l.length ≤ 40) : Ev (fun k => impl_ShapeScan.l0 k ([] : List S76) l (l.length : Int) 0 a b c (n : Int)) (scanL l n) := by
  refine evVal (loop_ev l.length (fun k s i => impl_ShapeScan.l0 k s l (l.length : Int) i a b c (n : Int)) (fun i => scanL (l.take i) n) (scanL (l.take l.length) n) ?_ ?_) (by rw [List.take_length])
  · intro i hi hr
    have hb : (scanL (l.take i) n).length ≤ 5120 := by
      have h1 := scanL_len (l.take i) n
      have h2 : (l.take i).length * (2 * n) ≤ 40 * 128 := Nat.mul_le_mul (by rw [List.length_take]; omega) (by omega)
      omega
    rw [scanL_take l n i hi] at hr
    generalize scanL (l.take i) n = X at hr hb
    refine Ev.step (fun k => rfl) ?_
    have hrd : (rd_T68 l (i : Int)).f0 = (l.getD i z68).f0 := by simp only [rd_T68, Int.toNat_natCast]
    simp only [impl_ShapeScan.l0, if_pos (show (i : Int) < (l.length : Int) by omega), if_pos (show (0 : Int) ≤ (i : Int) by omega), hrd]
    generalize (rd_T68 l (i : Int)).f1 = t1
    generalize (l.getD i z68).f0 = t at hr
    have e0 : X = X ++ rowL t 0 := by simp [rowL]
    rw [e0]
    refine loop_ev n (fun k s j => impl_ShapeScan.l1 k s l (l.length : Int) (i : Int) (n : Int) j a b c (n : Int) t t1) (fun j => X ++ rowL t j) _ ?_ ?_
    · intro j hj hr'
      have h2 := rowL_len t j
      rw [rowL_succ, ← List.append_assoc] at hr'
      have hY : (X ++ rowL t j).length ≤ 6000 := by rw [List.length_append]; omega
      generalize X ++ rowL t j = Y at hr' hY
      refine Ev.step (fun k => rfl) ?_
      simp only [impl_ShapeScan.l1, if_pos (show (j : Int) < (n : Int) by omega), isChange_eq, Option.bind_some]
      have hj3 : ∀ b1 : Bool, (b1 = true ↔ (t = 2 ∨ chg t = true)) → Ev (fun k => impl_ShapeScan.j3 k Y (j : Int) l (l.length : Int) (i : Int) (n : Int) (j : Int) b1 a b c (n : Int) t t1) (scanL (l.take l.length) n) := by
        intro b1 hb1
        refine Ev.step (fun k => rfl) ?_
        simp only [impl_ShapeScan.j3, isChange_eq, Option.bind_some, if_pos (show Y.length < 5864062014805 by omega), wrap_nat_succ (show j < 9223372036854775807 by omega), List.length_append, List.length_singleton, if_pos (show Y.length + 1 < 5864062014805 by omega)]
        unfold cellL at hr'
        cases hc : chg t with
        | true =>
          have : b1 = true := hb1.mpr (.inr hc)
          simp only [this, if_true, hc, or_true, List.append_assoc] at hr' ⊢
          exact hr'
        | false =>
          simp only [hc, Bool.false_eq_true, if_false, or_false, List.append_nil] at hr' hb1 ⊢
          by_cases h2 : t = 2
          · simp only [hb1.mpr h2, if_true, if_pos h2] at hr' ⊢
            exact hr'
          · have : b1 = false := by cases b1 with | true => exact absurd (hb1.mp rfl) h2 | false => rfl
            simp only [this, Bool.false_eq_true, if_false, if_neg h2, List.append_nil] at hr' ⊢
            exact hr'
      by_cases h2 : t = 2
      · simp only [if_pos h2]
        exact hj3 true ⟨fun _ => .inl h2, fun _ => rfl⟩
      · simp only [if_neg h2]
        exact hj3 (chg t) ⟨fun h => .inr h, fun h => h.resolve_left h2⟩
    · refine Ev.step (fun k => rfl) ?_
      simp only [impl_ShapeScan.l1, if_neg (show ¬ (n : Int) < (n : Int) by omega), wrap_nat_succ (show i < 9223372036854775807 by omega)]
      exact hr
  · refine Ev.step (fun k => rfl) ?_
    simp only [impl_ShapeScan.l0, if_neg (show ¬ (l.length : Int) < (l.length : Int) by omega)]
    exact Ev.now _
def scanR (a b c d : Int) (l : List S68) : List S76 := if confB a b c d && shapesB l then scanL l d.toNat else []
theorem specShapeScan_ev (a b c d : Int) (l : List S68) (hl : l.length ≤ 9223372036854775807) : Ev (fun k => spec_ShapeScan.f k a b c d l) (scanR a b c d l) := by
  unfold spec_ShapeScan.f scanR
  simp only [confOk_eq, Option.bind_some]
  cases hc : confB a b c d with
  | false =>
    simp only [Bool.false_eq_true, if_false, Bool.false_and]
    refine Ev.step (fun k => rfl) ?_
    simp only [spec_ShapeScan.j0, if_true]
    exact Ev.now _
  | true =>
    simp only [if_true, Bool.true_and]
    refine Ev.bind (specShapesOk_ev l hl) ?_
    cases hs : shapesB l with
    | false =>
      simp only [Bool.false_eq_true, if_false]
      refine Ev.step (fun k => rfl) ?_
      simp only [spec_ShapeScan.j0, Bool.not_false, if_true]
      exact Ev.now _
    | true =>
      simp only [if_true]
      have hb := confB_log hc
      have h40 : l.length ≤ 40 := by
        unfold shapesB at hs
        rw [Bool.and_eq_true] at hs
        exact of_decide_eq_true hs.1
      have hd : d = (d.toNat : Int) := by omega
      refine Ev.step (fun k => rfl) ?_
      simp only [spec_ShapeScan.j0, Bool.not_true, Bool.false_eq_true, if_false]
      have := specScan_ev a b c d.toNat (by omega) l h40
      rw [← hd] at this
      exact this
theorem implShapeScan_ev (a b c d : Int) (l : List S68) (hl : l.length ≤ 9223372036854775807) : Ev (fun k => impl_ShapeScan.f k a b c d l) (scanR a b c d l) := by
  unfold impl_ShapeScan.f scanR
  simp only [isConf_eq, areShapes_eq, Option.bind_some]
  cases hc : confB a b c d with
  | false =>
    simp only [Bool.false_eq_true, if_false, Bool.false_and]
    refine Ev.step (fun k => rfl) ?_
    simp only [impl_ShapeScan.j0, if_true]
    exact Ev.now _
  | true =>
    simp only [if_true, Bool.true_and]
    cases hs : shapesB l with
    | false =>
      simp only [Bool.false_eq_true, if_false]
      refine Ev.step (fun k => rfl) ?_
      simp only [impl_ShapeScan.j0, Bool.not_false, if_true]
      exact Ev.now _
    | true =>
      simp only [if_true]
      have hb := confB_log hc
      have h40 : l.length ≤ 40 := by
        unfold shapesB at hs
        rw [Bool.and_eq_true] at hs
        exact of_decide_eq_true hs.1
      have hd : d = (d.toNat : Int) := by omega
      refine Ev.step (fun k => rfl) ?_
      simp only [impl_ShapeScan.j0, Bool.not_true, Bool.false_eq_true, if_false]
      have := implScan_ev a b c d.toNat (by omega) l h40
      rw [← hd] at this
      exact this
theorem scanR_len (a b c d : Int) (l : List S68) : (scanR a b c d l).length ≤ 5120 := by
  unfold scanR
  split
  · rename_i h
    rw [Bool.and_eq_true] at h
    have hb := confB_log h.1
    have h40 : l.length ≤ 40 := by
      have hs := h.2
      unfold shapesB at hs
      rw [Bool.and_eq_true] at hs
      exact of_decide_eq_true hs.1
    have h1 := scanL_len l d.toNat
    have h2 : l.length * (2 * d.toNat) ≤ 40 * 128 := Nat.mul_le_mul h40 (by omega)
    omega
  · simp
theorem FnExactShapeScan : laws_FnExactShapeScan.Pure := by
  rintro ⟨c0, c1, c2, c3⟩ l _ ⟨hl, hx⟩
  apply Ev.rounds
  unfold laws_FnExactShapeScan.f
  simp only [szShapeS_eq l hl, Option.bind_some, laws_toConf.f]
  by_cases h : l.length ≤ 1048576
  · simp only [if_pos h, show ¬ (1048576 - (l.length : Int) < 0) by omega, if_false]
    have hm : (l.map toShape_).length ≤ 1048576 := by simpa using h
    have t0 := toShapeS_ev l h
    have q0 := eqShapeS_ev (l.map toShape_) (by omega)
    have hr := scanR_len c0 c1 c2 c3 (l.map toShape_)
    refine Ev.bind t0 (Ev.bind (specShapeScan_ev c0 c1 c2 c3 _ (by omega)) (Ev.bind t0 (Ev.bind (implShapeScan_ev c0 c1 c2 c3 _ (by omega)) ?_)))
    have i0 := implShapeScan_ev c0 c1 c2 c3 (l.map toShape_) (by omega)
    generalize scanR c0 c1 c2 c3 (l.map toShape_) = R at hr i0
    have es := eqTouchS_ev R (by omega)
    have ms := markTouchS_ev R 1 (by omega) (by omega)
    have hs := heldTouchS_ev R.length 1 (by omega) (by omega)
    refine Ev.bind es ?_
    simp only [if_true]
    refine Ev.bind t0 (Ev.bind q0 ?_)
    simp only [if_true]
    refine Ev.bind (markShapeS_ev (l.map toShape_) 1 (by omega) (by omega)) ?_
    simp only [if_neg (show ¬ ((1 : Int) + 2 * ((l.map toShape_).length : Int) < 0) by omega)]
    refine Ev.bind es ?_
    simp only [Bool.not_true]
    refine Ev.step (fun k => rfl) ?_
    simp only [laws_FnExactShapeScan.j0, Bool.false_eq_true, if_false, laws_toConf.f, Option.bind_some]
    refine Ev.bind ms (Ev.bind hs ?_)
    simp only [if_neg (show ¬ ((1 : Int) + 3 * (R.length : Int) < 0) by omega), if_true]
    refine Ev.bind t0 (Ev.bind i0 (Ev.bind es ?_))
    simp only [if_true]
    refine Ev.bind hs ?_
    simp only [if_neg (show ¬ ((1 : Int) + 3 * (R.length : Int) < 0) by omega), if_true]
    exact Ev.now _
  · simp only [if_neg h, show ((-1 : Int) < 0) by omega, if_true]
    exact Ev.now _
end Go.Proofs.Ytpkmhdeimedhgaa.Pure
