/- The program's ShapeBytes and the reference's answer alike for all arguments, and leave the list as it was: a statement over numbers and lists. -/
import Derived.Test.YtlfplcfhkhihiaaQBSFnExactShapeBytes
import Derived.Test.YtlfplcfhkhihiaaLShapesB
namespace Go.Proofs.Ytlfplcfhkhihiaa.Pure
open Go.RowKit Go.Proofs.Ytlfplcfhkhihiaa.QB Go.Proofs.YtlfplcfhkhihiaaW.PrintWords Go.Proofs.YtlfplcfhkhihiaaW.PrintLast Go.Proofs.Ytlfplcfhkhihiaa.L

theorem FnExactShapeBytes : laws_FnExactShapeBytes.Pure := by
  rintro l ⟨hl, hx⟩
  apply Ev.rounds
  unfold laws_FnExactShapeBytes.f
  simp only [szShapeS_eq l hl, Option.bind_some]
  by_cases h : l.length ≤ 1048576
  · simp only [if_pos h, show ¬ (1048576 - (l.length : Int) < 0) by omega, if_false]
    have hm : (l.map toSh).length ≤ 9223372036854775807 := by simpa using hl
    refine Ev.bind (toShapeS_ev l h) ?_
    refine Ev.bind (specShapeBytes_ev _ hm) ?_
    refine Ev.bind (toShapeS_ev l h) ?_
    refine Ev.bind (implShapeBytes_ev _ hm) ?_
    simp only [if_true]
    refine Ev.bind (toShapeS_ev l h) ?_
    refine Ev.bind (eqShapeS_ev _ hm) ?_
    exact Ev.now _
  · simp only [if_neg h, show ((-1 : Int) < 0) by omega, if_true]
    exact Ev.now _
end Go.Proofs.Ytlfplcfhkhihiaa.Pure
