/- Plain facts on the functions of shapes: the program's and the reference's tests of a shape, and how many accesses a shape takes. -/
import Derived.Test.YtlfplcfhkhihiaaLBase
import Derived.Test.YtlfplcfhkhihiaaQBx1
import Derived.Test.YtlfplcfhkhihiaaQBx3
import Derived.Test.YtlfplcfhkhihiaaQBx4
namespace Go.Proofs.Ytlfplcfhkhihiaa.L
open Go.RowKit Go.Proofs.Ytlfplcfhkhihiaa.QB Go.Proofs.YtlfplcfhkhihiaaW.PrintWords Go.Proofs.YtlfplcfhkhihiaaW.PrintLast
set_option linter.unusedVariables false
set_option linter.unusedSimpArgs false

def shapeB (a b : Int) : Bool := if a = 6 then decide (1 ≤ b ∧ b ≤ 16) else decide (1 ≤ a ∧ a ≤ 5 ∧ b = 0)
def takesI (a b : Int) : Int := if a = 1 then 1 else if a = 3 ∨ a = 4 ∨ a = 5 then 2 else b

theorem within_eq (n lo hi : Int) : impl_within.f n lo hi = some (decide (lo ≤ n ∧ n ≤ hi)) := by
  unfold impl_within.f
  by_cases h : n ≥ lo
  · rw [if_pos h]
    by_cases h2 : n ≤ hi <;> simp [h2] <;> omega
  · rw [if_neg h]
    simp
    omega

theorem isShape_eq (a b : Int) : impl_isShape.f a b = some (shapeB a b) := by
  unfold impl_isShape.f shapeB
  simp only [within_eq, Option.bind_some]
  by_cases h6 : a = 6
  · simp [h6]
  · by_cases h1 : 1 ≤ a ∧ a ≤ 5
    · simp [h6, h1]
      by_cases hb : b = 0 <;> simp [hb]
    · simp [h6, h1]
      omega

theorem l18Shape_eq (a b : Int) : spec_l18Shape.f a b = some (shapeB a b) := by
  unfold spec_l18Shape.f shapeB
  by_cases h6 : a = 6
  · simp only [h6, if_true]
    by_cases h1 : b ≥ 1
    · have h1' : 1 ≤ b := h1
      by_cases h2 : b ≤ 16 <;> simp [h1', h2]
    · have h1' : ¬ 1 ≤ b := h1
      simp [h1']
  · rw [if_neg h6, if_neg h6]
    by_cases h1 : a ≥ 1
    · rw [if_pos h1]
      by_cases h2 : a ≤ 6
      · rw [if_pos h2]
        have h3 : a ≤ 5 := by omega
        have h1' : 1 ≤ a := h1
        by_cases hb : b = 0 <;> simp [hb, h1', h3]
      · rw [if_neg h2]
        have h3 : ¬ a ≤ 5 := by omega
        simp [h3]
    · rw [if_neg h1]
      have h1' : ¬ 1 ≤ a := h1
      simp [h1']

theorem shape_range {a b : Int} (h : shapeB a b = true) : 1 ≤ a ∧ a ≤ 6 ∧ 0 ≤ b ∧ b ≤ 16 ∧ (a ≠ 6 → b = 0) ∧ (a = 6 → 1 ≤ b) := by
  unfold shapeB at h
  by_cases h6 : a = 6
  · rw [if_pos h6] at h
    have := of_decide_eq_true h
    omega
  · rw [if_neg h6] at h
    have := of_decide_eq_true h
    omega

theorem takes_eq (a b : Int) : impl_takes.f a b = some (takesI a b) := by
  unfold impl_takes.f impl_isChange.f takesI
  by_cases h1 : a = 1
  · simp [h1]
  · by_cases h3 : a = 3
    · simp [h3]
    · by_cases h4 : a = 4
      · simp [h4]
      · by_cases h5 : a = 5
        · simp [h5]
        · simp [h1, h3, h4, h5]

theorem l22Takes_eq (k : Nat) {a b : Int} (h : shapeB a b = true) : spec_l22Takes.f (k + 1) a b = some (takesI a b) := by
  have hr := shape_range h
  unfold spec_l22Takes.f takesI
  simp only [spec_l22Takes.j0]
  by_cases h1 : a = 1
  · simp [h1]
  · by_cases h3 : a = 3
    · simp [h3]
    · by_cases h4 : a = 4
      · simp [h4]
      · by_cases h5 : a = 5
        · simp [h5]
        · by_cases h6 : a = 6
          · simp [h6]
          · have hb : b = 0 := hr.2.2.2.2.1 h6
            simp [h1, h3, h4, h5, h6, hb]

theorem takesI_range {a b : Int} (h : shapeB a b = true) : 0 ≤ takesI a b ∧ takesI a b ≤ 16 := by
  have hr := shape_range h
  unfold takesI
  split
  · omega
  · split <;> omega

theorem shapeTakes_ev (a b : Int) : Ev (fun k => spec_ShapeTakes.f k a b) (if shapeB a b then takesI a b else -1) := by
  unfold spec_ShapeTakes.f
  simp only [l18Shape_eq, Option.bind_some]
  cases h : shapeB a b with
  | true => exact Ev.step (fun k => by simp only [if_true, l22Takes_eq k h, Option.bind_some]) (Ev.now _)
  | false => exact evConst (by simp)
end Go.Proofs.Ytlfplcfhkhihiaa.L
