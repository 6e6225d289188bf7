/- The program's ShapeTakes and the reference's return the same number for every shape: a statement over two integers. -/
import Derived.Test.YtlfplcfhkhihiaaQASFnExactShapeTakes
import Derived.Test.YtlfplcfhkhihiaaLShapes
namespace Go.Proofs.Ytlfplcfhkhihiaa.Pure
open Go.RowKit Go.Proofs.Ytlfplcfhkhihiaa.QA Go.Proofs.YtlfplcfhkhihiaaW.PrintWords Go.Proofs.YtlfplcfhkhihiaaW.PrintLast Go.Proofs.Ytlfplcfhkhihiaa.L

theorem FnExactShapeTakes : laws_FnExactShapeTakes.Pure := by
  rintro ⟨a, b⟩ _
  refine ⟨1, ?_⟩
  unfold laws_FnExactShapeTakes.f laws_toShape.f spec_ShapeTakes.f impl_ShapeTakes.f
  simp only [l18Shape_eq, isShape_eq, takes_eq, Option.bind_some]
  cases h : shapeB a b with
  | true => simp [l22Takes_eq 0 h]
  | false => simp

end Go.Proofs.Ytlfplcfhkhihiaa.Pure
