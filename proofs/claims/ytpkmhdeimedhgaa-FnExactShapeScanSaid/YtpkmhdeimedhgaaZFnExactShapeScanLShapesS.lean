/- Part of the proof of the law FnExactShapeScan: what it uses of the texts that this session and the kit's print wrote. -/
import Derived.Test.YtpkmhdeimedhgaaZFnExactShapeScanLShapes
import Derived.Test.YtpkmhdeimedhgaaZFnExactShapeScanTA
import Derived.Test.YtpkmhdeimedhgaaZFnExactShapeScanQAx5
import Derived.Test.YtpkmhdeimedhgaaZFnExactShapeScanQAx7
namespace Go.Proofs.Ytpkmhdeimedhgaa.L
open Go.RowKit Go.Proofs.Ytpkmhdeimedhgaa.QA Go.Proofs.YtpkmhdeimedhgaaW.PrintWords Go.Proofs.YtpkmhdeimedhgaaW.PrintLast Go.Proofs.YtpkmhdeimedhgaaW.PrintMore
set_option linter.unusedVariables false
set_option linter.unusedSimpArgs false
def shapesB (l : List S68) : Bool := decide (l.length ≤ 40) && l.all fun x => shapeB x.f0 x.f1
theorem specShapesOk_ev (l : List S68) (h : l.length ≤ 9223372036854775807) : Ev (fun k => spec_ShapesOk.f k l) (shapesB l) := by
  unfold spec_ShapesOk.f shapesB
  by_cases h4 : (l.length : Int) > 40
  · simp only [if_pos h4, show ¬ l.length ≤ 40 by omega, decide_false, Bool.false_and]
    exact Ev.now _
  · simp only [if_neg h4, show l.length ≤ 40 by omega, decide_true, Bool.true_and]
    rw [← all_range l z68 (fun x => shapeB x.f0 x.f1)]
    refine evVal (search_ev l.length (fun k i => spec_ShapesOk.l0 k l i) (fun i => shapeB (l.getD i z68).f0 (l.getD i z68).f1) false true ?_ ?_ ?_) ?_
    · intro i hi hp r hr
      refine Ev.step (fun k => ?_) hr
      simp only [spec_ShapesOk.l0, l18Shape_eq, Option.bind_some, rd_T68, Int.toNat_natCast, hp, if_true]
      rw [if_pos (by omega), if_pos (by omega), wrap_nat_succ (by omega)]
    · intro i hi hp
      refine Ev.step (f := fun _ => some false) (fun k => ?_) (Ev.now _)
      simp only [spec_ShapesOk.l0, l18Shape_eq, Option.bind_some, rd_T68, Int.toNat_natCast, hp]
      rw [if_pos (by omega), if_pos (by omega)]
      rfl
    · refine Ev.step (f := fun _ => some true) (fun k => ?_) (Ev.now _)
      simp only [spec_ShapesOk.l0]
      rw [if_neg (by omega)]
    · cases (List.range l.length).all _ <;> rfl
theorem idxF_some {α : Type} {p : α → Option Bool} {q : α → Bool} : ∀ (l : List α) (i : Nat), (∀ x, x ∈ l → p x = some (q x)) → ∃ j : Int, idxF p l i = some j ∧ (decide (0 ≤ j) = l.any q)
  | [], _, _ => ⟨-1, rfl, rfl⟩
  | x :: xs, i, h => by
    unfold idxF
    rw [h x (List.mem_cons_self ..), Option.bind_some]
    cases hq : q x with
    | true => exact ⟨i, by simp, by simp [hq]⟩
    | false =>
      obtain ⟨j, h1, h2⟩ := idxF_some xs (i + 1) (fun y hy => h y (List.mem_cons_of_mem _ hy))
      exact ⟨j, by simpa using h1, by simpa [hq] using h2⟩
theorem contF_some {α : Type} {p : α → Option Bool} {q : α → Bool} (l : List α) (h : ∀ x, x ∈ l → p x = some (q x)) : contF p l = some (l.any q) := by
  obtain ⟨j, h1, h2⟩ := idxF_some l 0 h
  unfold contF
  rw [h1, Option.bind_some, h2]
theorem areShapes_eq (l : List S68) : impl_areShapes.f l = some (shapesB l) := by
  unfold impl_areShapes.f shapesB
  rw [contF_some (q := fun x => !shapeB x.f0 x.f1) l (fun x _ => by unfold impl_areShapes_1.f; rw [isShape_eq]; rfl)]
  by_cases h : (l.length : Int) ≤ 40
  · rw [if_pos h, Option.bind_some]
    simp only [show l.length ≤ 40 by omega, decide_true, Bool.true_and]
    congr 1
    rw [List.not_any_eq_all_not]
    simp
  · rw [if_neg h]
    simp only [show ¬ l.length ≤ 40 by omega, decide_false, Bool.false_and]
end Go.Proofs.Ytpkmhdeimedhgaa.L
