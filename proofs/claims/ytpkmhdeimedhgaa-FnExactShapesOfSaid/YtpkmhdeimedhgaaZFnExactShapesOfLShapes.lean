/- Part of the proof of the law FnExactShapesOf: what it uses of the texts that this session and the kit's print wrote. -/
import Derived.Test.YtpkmhdeimedhgaaZFnExactShapesOfLBase
import Derived.Test.YtpkmhdeimedhgaaZFnExactShapesOfQAx2
import Derived.Test.YtpkmhdeimedhgaaZFnExactShapesOfQAx3
namespace Go.Proofs.Ytpkmhdeimedhgaa.L
open Go.RowKit Go.Proofs.Ytpkmhdeimedhgaa.QA Go.Proofs.YtpkmhdeimedhgaaW.PrintWords Go.Proofs.YtpkmhdeimedhgaaW.PrintLast
set_option linter.unusedVariables false
set_option linter.unusedSimpArgs false
def shapeB (a b : Int) : Bool := if a = 6 then decide (1 ≤ b ∧ b ≤ 16) else decide (1 ≤ a ∧ a ≤ 5 ∧ b = 0)
theorem within_eq (n lo hi : Int) : impl_within.f n lo hi = some (decide (lo ≤ n ∧ n ≤ hi)) := by
  unfold impl_within.f
  by_cases h : n ≥ lo
  · rw [if_pos h]
    by_cases h2 : n ≤ hi <;> simp [h2] <;> omega
  · rw [if_neg h]
    simp
    omega
theorem isShape_eq (a b : Int) : impl_isShape.f a b = some (shapeB a b) := by
  unfold impl_isShape.f shapeB
  simp only [within_eq, Option.bind_some]
  by_cases h6 : a = 6
  · simp [h6]
  · by_cases h1 : 1 ≤ a ∧ a ≤ 5
    · simp [h6, h1]
      by_cases hb : b = 0 <;> simp [hb]
    · simp [h6, h1]
      omega
theorem l18Shape_eq (a b : Int) : spec_l18Shape.f a b = some (shapeB a b) := by
  unfold spec_l18Shape.f shapeB
  by_cases h6 : a = 6
  · simp only [h6, if_true]
    by_cases h1 : b ≥ 1
    · have h1' : 1 ≤ b := h1
      by_cases h2 : b ≤ 16 <;> simp [h1', h2]
    · have h1' : ¬ 1 ≤ b := h1
      simp [h1']
  · rw [if_neg h6, if_neg h6]
    by_cases h1 : a ≥ 1
    · rw [if_pos h1]
      by_cases h2 : a ≤ 6
      · rw [if_pos h2]
        have h3 : a ≤ 5 := by omega
        have h1' : 1 ≤ a := h1
        by_cases hb : b = 0 <;> simp [hb, h1', h3]
      · rw [if_neg h2]
        have h3 : ¬ a ≤ 5 := by omega
        simp [h3]
    · rw [if_neg h1]
      have h1' : ¬ 1 ≤ a := h1
      simp [h1']
end Go.Proofs.Ytpkmhdeimedhgaa.L
