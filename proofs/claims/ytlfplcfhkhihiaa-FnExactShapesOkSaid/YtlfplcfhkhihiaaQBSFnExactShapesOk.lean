/- What is left of the law FnExactShapesOk: a statement over numbers and lists. Written by this session's program (wip/drive.py). -/
import Derived.Test.YtlfplcfhkhihiaaQBx2
import Derived.Test.YtlfplcfhkhihiaaQBxO
namespace Go.Proofs.Ytlfplcfhkhihiaa.QB
open Go.RowKit Go.Proofs.YtlfplcfhkhihiaaW.PrintWords Go.Proofs.YtlfplcfhkhihiaaW.PrintLast Go.Proofs.Ytlfplcfhkhihiaa
def laws_FnExactShapesOk.Pure : Prop := ∀ (y0 : List (S23)), Open.InL (fun z => W23 z) y0 → ∃ k, laws_FnExactShapesOk.f k y0 = some true
end Go.Proofs.Ytlfplcfhkhihiaa.QB
