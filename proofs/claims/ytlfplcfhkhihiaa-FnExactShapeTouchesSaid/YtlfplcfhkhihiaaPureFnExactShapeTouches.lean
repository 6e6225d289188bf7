/- The program's ShapeTouches and the reference's answer alike for all arguments, and leave the list as it was: a statement over numbers and lists. -/
import Derived.Test.YtlfplcfhkhihiaaQBSFnExactShapeTouches
import Derived.Test.YtlfplcfhkhihiaaLShapesT
namespace Go.Proofs.Ytlfplcfhkhihiaa.Pure
open Go.RowKit Go.Proofs.Ytlfplcfhkhihiaa.QB Go.Proofs.YtlfplcfhkhihiaaW.PrintWords Go.Proofs.YtlfplcfhkhihiaaW.PrintLast Go.Proofs.Ytlfplcfhkhihiaa.L

theorem FnExactShapeTouches : laws_FnExactShapeTouches.Pure := by
  rintro ⟨c0, c1, c2, c3⟩ l _ ⟨hl, hx⟩
  apply Ev.rounds
  unfold laws_FnExactShapeTouches.f
  simp only [szShapeS_eq l hl, Option.bind_some, laws_toConf.f]
  by_cases h : l.length ≤ 1048576
  · simp only [if_pos h, show ¬ (1048576 - (l.length : Int) < 0) by omega, if_false]
    have hm : (l.map toSh).length ≤ 9223372036854775807 := by simpa using hl
    refine Ev.bind (toShapeS_ev l h) ?_
    refine Ev.bind (specShapeTouches_ev c0 c1 c2 c3 _ hm) ?_
    refine Ev.bind (toShapeS_ev l h) ?_
    refine Ev.bind (implShapeTouches_ev c0 c1 c2 c3 _ hm) ?_
    simp only [if_true, bne_self_eq_false]
    refine Ev.step (fun k => by simp only [laws_FnExactShapeTouches.j0, Bool.false_eq_true, if_false]; exact rfl) ?_
    refine Ev.bind (toShapeS_ev l h) ?_
    refine Ev.bind (eqShapeS_ev _ hm) ?_
    exact Ev.now _
  · simp only [if_neg h, show ((-1 : Int) < 0) by omega, if_true]
    exact Ev.now _
end Go.Proofs.Ytlfplcfhkhihiaa.Pure
