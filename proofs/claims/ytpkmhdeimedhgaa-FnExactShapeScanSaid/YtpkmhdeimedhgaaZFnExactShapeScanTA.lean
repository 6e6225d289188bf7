/- Part of the proof of the law FnExactShapeScan: what it uses of the texts that this session and the kit's print wrote. -/
import Derived.Test.YtpkmhdeimedhgaaZFnExactShapeScanLBase
import Derived.Test.YtpkmhdeimedhgaaZFnExactShapeScanQAx3
import Derived.Test.YtpkmhdeimedhgaaZFnExactShapeScanQAx0
import Derived.Test.YtpkmhdeimedhgaaZFnExactShapeScanQAx1
import Derived.Test.YtpkmhdeimedhgaaZFnExactShapeScanQAx6
import Derived.Test.YtpkmhdeimedhgaaZFnExactShapeScanQAx7
import Derived.Test.YtpkmhdeimedhgaaZFnExactShapeScanQAx8
import Derived.Test.YtpkmhdeimedhgaaZFnExactShapeScanQAx9
namespace Go.Proofs.Ytpkmhdeimedhgaa.L
open Go.RowKit Go.Proofs.Ytpkmhdeimedhgaa.QA Go.Proofs.YtpkmhdeimedhgaaW.PrintWords Go.Proofs.YtpkmhdeimedhgaaW.PrintLast Go.Proofs.YtpkmhdeimedhgaaW.PrintMore
set_option linter.unusedVariables false
set_option linter.unusedSimpArgs false
theorem getD_set_self {α : Type} (l : List α) {i : Nat} (z a : α) (h : i < l.length) : (l.set i a).getD i z = a := by simp [List.getD, h]
theorem eqShapeS_ev (l : List S68) (h : l.length ≤ 9223372036854775807) : Ev (fun k => laws_eqShapeS.f k l l) true := by
  unfold laws_eqShapeS.f
  simp only [if_true]
  refine loop_ev l.length (fun k (_ : Unit) i => laws_eqShapeS.l0 k l l i) (fun _ => ()) true ?_ ?_
  · intro i hi hr
    refine Ev.step (fun k => ?_) hr
    simp only [laws_eqShapeS.l0, laws_eqShape.f, if_true, Option.bind_some]
    rw [if_pos (by omega), if_pos (by omega), if_pos (by omega), wrap_nat_succ (by omega)]
  · refine Ev.step (f := fun _ => some true) (fun k => ?_) (Ev.now _)
    simp only [laws_eqShapeS.l0]
    rw [if_neg (by omega)]
theorem eqTouchS_ev (l : List S76) (h : l.length ≤ 9223372036854775807) : Ev (fun k => laws_eqTouchS.f k l l) true := by
  unfold laws_eqTouchS.f
  simp only [if_true]
  refine loop_ev l.length (fun k (_ : Unit) i => laws_eqTouchS.l0 k l l i) (fun _ => ()) true ?_ ?_
  · intro i hi hr
    refine Ev.step (fun k => ?_) hr
    simp only [laws_eqTouchS.l0, laws_eqTouch.f, if_true, Option.bind_some]
    rw [if_pos (by omega), if_pos (by omega), if_pos (by omega), wrap_nat_succ (by omega)]
  · refine Ev.step (f := fun _ => some true) (fun k => ?_) (Ev.now _)
    simp only [laws_eqTouchS.l0]
    rw [if_neg (by omega)]
def toShape_ (x : S78) : S68 := (⟨x.f0, x.f1⟩ : S68)
theorem toShapeS_ev (l : List S78) (h : l.length ≤ 1048576) : Ev (fun k => laws_toShapeS.f k l) (l.map toShape_) := by
  unfold laws_toShapeS.f
  simp only [Int.natCast_nonneg, if_true, Int.toNat_natCast, show l.length ≤ 17592186044416 by omega]
  rw [← map_range l z78 toShape_]
  refine fill_ev l.length z68 (fun k x3 i => laws_toShapeS.l0 k l x3 i) (fun i => toShape_ (l.getD i z78)) ?_ ?_
  · intro i x3 hi hl r hr
    refine Ev.step (fun k => ?_) hr
    simp only [laws_toShapeS.l0, laws_toShape.f, Option.bind_some]
    rw [if_pos (by omega), if_pos (by omega), if_pos (by omega), wrap_nat_succ (by omega)]
    rfl
  · intro x3 hl
    refine Ev.step (f := fun _ => some x3) (fun k => ?_) (Ev.now _)
    simp only [laws_toShapeS.l0]
    rw [if_neg (by omega)]
noncomputable def markShape_ (k0 : Int) (i : Nat) : S68 := (⟨k0 + 2 * (i : Int), k0 + 2 * (i : Int) + 1⟩ : S68)
theorem markShapeS_ev (l : List S68) (k0 : Int) (h0 : 0 ≤ k0) (hk : k0 + 2 * (l.length : Int) ≤ 4611686018427387000) : Ev (fun k => laws_markShapeS.f k l k0) (k0 + 2 * (l.length : Int), (List.range l.length).map (markShape_ k0)) := by
  unfold laws_markShapeS.f
  have key : ∀ d (i : Nat) (x0 : List S68), i + d = l.length → x0.length = l.length → (∀ j, j < i → x0[j]? = some (markShape_ k0 j)) → Ev (fun k => laws_markShapeS.l0 k x0 (k0 + 2 * (i : Int)) (i : Int)) (k0 + 2 * (l.length : Int), (List.range l.length).map (markShape_ k0)) := by
    intro d
    induction d with
    | zero =>
      intro i x0 h hl hx
      obtain rfl : i = l.length := by omega
      refine Ev.step (f := fun _ => some (k0 + 2 * (l.length : Int), x0)) (fun k => ?_) (evVal (Ev.now _) ?_)
      · simp only [laws_markShapeS.l0]
        rw [if_neg (by omega)]
      · congr 1
        apply List.ext_getElem?
        intro j
        by_cases hj : j < l.length
        · rw [hx j hj]; simp [hj]
        · rw [List.getElem?_eq_none (by omega), List.getElem?_eq_none (by simp; omega)]
    | succ d ih =>
      intro i x0 h hl hx
      have hi : i < x0.length := by omega
      have e1 : k0 + 2 * ((i + 1 : Nat) : Int) = k0 + 2 * (i : Int) + 1 + 1 := by omega
      have hnext := ih (i + 1) (x0.set i (markShape_ k0 i)) (by omega) (by simpa using hl) (fun j hj => by
        by_cases e : j = i
        · subst e; rw [List.getElem?_set_self (by omega)]
        · rw [List.getElem?_set_ne (by omega)]; exact hx j (by omega))
      rw [e1] at hnext

      refine Ev.step (fun k => ?_) hnext
      simp only [laws_markShapeS.l0, Int.toNat_natCast, List.set_set, rd_T68, getD_set_self _ _ _ hi, Option.bind_some]
      rw [if_pos (by omega), if_pos (by omega), wrap_id (x := k0 + 2 * (i : Int) + 1) (by omega) (by omega), wrap_id (x := k0 + 2 * (i : Int) + 1 + 1) (by omega) (by omega), wrap_nat_succ (by omega)]
      rfl
  have := key l.length 0 l (by omega) rfl (fun j hj => absurd hj (Nat.not_lt_zero _))
  simpa using this
noncomputable def markTouch_ (k0 : Int) (i : Nat) : S76 := (⟨k0 + 3 * (i : Int), k0 + 3 * (i : Int) + 1, k0 + 3 * (i : Int) + 1 + 1⟩ : S76)
theorem markTouchS_ev (l : List S76) (k0 : Int) (h0 : 0 ≤ k0) (hk : k0 + 3 * (l.length : Int) ≤ 4611686018427387000) : Ev (fun k => laws_markTouchS.f k l k0) (k0 + 3 * (l.length : Int), (List.range l.length).map (markTouch_ k0)) := by
  unfold laws_markTouchS.f
  have key : ∀ d (i : Nat) (x0 : List S76), i + d = l.length → x0.length = l.length → (∀ j, j < i → x0[j]? = some (markTouch_ k0 j)) → Ev (fun k => laws_markTouchS.l0 k x0 (k0 + 3 * (i : Int)) (i : Int)) (k0 + 3 * (l.length : Int), (List.range l.length).map (markTouch_ k0)) := by
    intro d
    induction d with
    | zero =>
      intro i x0 h hl hx
      obtain rfl : i = l.length := by omega
      refine Ev.step (f := fun _ => some (k0 + 3 * (l.length : Int), x0)) (fun k => ?_) (evVal (Ev.now _) ?_)
      · simp only [laws_markTouchS.l0]
        rw [if_neg (by omega)]
      · congr 1
        apply List.ext_getElem?
        intro j
        by_cases hj : j < l.length
        · rw [hx j hj]; simp [hj]
        · rw [List.getElem?_eq_none (by omega), List.getElem?_eq_none (by simp; omega)]
    | succ d ih =>
      intro i x0 h hl hx
      have hi : i < x0.length := by omega
      have e1 : k0 + 3 * ((i + 1 : Nat) : Int) = k0 + 3 * (i : Int) + 1 + 1 + 1 := by omega
      have hnext := ih (i + 1) (x0.set i (markTouch_ k0 i)) (by omega) (by simpa using hl) (fun j hj => by
        by_cases e : j = i
        · subst e; rw [List.getElem?_set_self (by omega)]
        · rw [List.getElem?_set_ne (by omega)]; exact hx j (by omega))
      rw [e1] at hnext

      refine Ev.step (fun k => ?_) hnext
      simp only [laws_markTouchS.l0, Int.toNat_natCast, List.set_set, rd_T76, getD_set_self _ _ _ hi, Option.bind_some]
      rw [if_pos (by omega), if_pos (by omega), wrap_id (x := k0 + 3 * (i : Int) + 1) (by omega) (by omega), wrap_id (x := k0 + 3 * (i : Int) + 1 + 1) (by omega) (by omega), wrap_id (x := k0 + 3 * (i : Int) + 1 + 1 + 1) (by omega) (by omega), wrap_nat_succ (by omega)]
      rfl
  have := key l.length 0 l (by omega) rfl (fun j hj => absurd hj (Nat.not_lt_zero _))
  simpa using this
theorem heldTouchS_ev (n : Nat) (k0 : Int) (h0 : 0 ≤ k0) (hk : k0 + 3 * (n : Int) ≤ 4611686018427387000) : Ev (fun k => laws_heldTouchS.f k ((List.range n).map (markTouch_ k0)) k0) (k0 + 3 * (n : Int)) := by
  unfold laws_heldTouchS.f
  have hl : ((List.range n).map (markTouch_ k0)).length = n := by simp
  refine evVal (r := k0 + 3 * (n : Int)) ?_ rfl
  have e0 : k0 = k0 + 3 * ((0 : Nat) : Int) := by omega
  have := loop_ev n (fun k s i => laws_heldTouchS.l0 k ((List.range n).map (markTouch_ k0)) s i) (fun i => k0 + 3 * (i : Int)) (k0 + 3 * (n : Int)) ?_ ?_
  · simpa using this
  · intro i hi hr
    have e1 : k0 + 3 * ((i + 1 : Nat) : Int) = k0 + 3 * (i : Int) + 1 + 1 + 1 := by omega
    have hg : ((List.range n).map (markTouch_ k0)).getD i z76 = markTouch_ k0 i := by simp [List.getD, hi]
    rw [e1] at hr

    refine Ev.step (fun k => ?_) hr
    simp only [laws_heldTouchS.l0, rd_T76, Int.toNat_natCast, hg, markTouch_]
    rw [if_pos (by omega), if_pos (by omega), wrap_id (x := k0 + 3 * (i : Int) + 1) (by omega) (by omega), wrap_id (x := k0 + 3 * (i : Int) + 1 + 1) (by omega) (by omega), wrap_id (x := k0 + 3 * (i : Int) + 1 + 1 + 1) (by omega) (by omega), wrap_nat_succ (by omega)]
    simp

  · refine Ev.step (f := fun _ => some _) (fun k => ?_) (Ev.now _)
    simp only [laws_heldTouchS.l0, hl]
    rw [if_neg (by omega)]
end Go.Proofs.Ytpkmhdeimedhgaa.L
