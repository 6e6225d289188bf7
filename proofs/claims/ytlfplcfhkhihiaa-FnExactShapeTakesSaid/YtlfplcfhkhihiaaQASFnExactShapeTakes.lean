/- What is left of the law FnExactShapeTakes: a statement over numbers and lists. Written by this session's program (wip/drive.py). -/
import Derived.Test.YtlfplcfhkhihiaaQAx1
import Derived.Test.YtlfplcfhkhihiaaQAxO
namespace Go.Proofs.Ytlfplcfhkhihiaa.QA
open Go.RowKit Go.Proofs.YtlfplcfhkhihiaaW.PrintWords Go.Proofs.YtlfplcfhkhihiaaW.PrintLast Go.Proofs.Ytlfplcfhkhihiaa
def laws_FnExactShapeTakes.Pure : Prop := ∀ (y0 : S23), W23 y0 → ∃ k, laws_FnExactShapeTakes.f k y0.f0 y0.f1 = some true
end Go.Proofs.Ytlfplcfhkhihiaa.QA
