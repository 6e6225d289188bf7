/- Part of the proof of the law FnExactShapesOf: what it uses of the texts that this session and the kit's print wrote. -/
import Derived.Test.YtpkmhdeimedhgaaZFnExactShapesOfLShapes
import Derived.Test.YtpkmhdeimedhgaaZFnExactShapesOfTA
import Derived.Test.YtpkmhdeimedhgaaZFnExactShapesOfQAx0
import Derived.Test.YtpkmhdeimedhgaaZFnExactShapesOfQAx2
import Derived.Test.YtpkmhdeimedhgaaZFnExactShapesOfQAx3
import Derived.Test.YtpkmhdeimedhgaaZFnExactShapesOfQAx4
namespace Go.Proofs.Ytpkmhdeimedhgaa.L
open Go.RowKit Go.Proofs.Ytpkmhdeimedhgaa.QA Go.Proofs.YtpkmhdeimedhgaaW.PrintWords Go.Proofs.YtpkmhdeimedhgaaW.PrintLast Go.Proofs.YtpkmhdeimedhgaaW.PrintMore
set_option linter.unusedVariables false
set_option linter.unusedSimpArgs false
theorem idxF_some {α : Type} {p : α → Option Bool} {q : α → Bool} : ∀ (l : List α) (i : Nat), (∀ x, x ∈ l → p x = some (q x)) → ∃ j : Int, idxF p l i = some j ∧ (decide (0 ≤ j) = l.any q)
  | [], _, _ => ⟨-1, rfl, rfl⟩
  | x :: xs, i, h => by
    unfold idxF
    rw [h x (List.mem_cons_self ..), Option.bind_some]
    cases hq : q x with
    | true => exact ⟨i, by simp, by simp [hq]⟩
    | false =>
      obtain ⟨j, h1, h2⟩ := idxF_some xs (i + 1) (fun y hy => h y (List.mem_cons_of_mem _ hy))
      exact ⟨j, by simpa using h1, by simpa [hq] using h2⟩
theorem contF_some {α : Type} {p : α → Option Bool} {q : α → Bool} (l : List α) (h : ∀ x, x ∈ l → p x = some (q x)) : contF p l = some (l.any q) := by
  obtain ⟨j, h1, h2⟩ := idxF_some l 0 h
  unfold contF
  rw [h1, Option.bind_some, h2]
end Go.Proofs.Ytpkmhdeimedhgaa.L
