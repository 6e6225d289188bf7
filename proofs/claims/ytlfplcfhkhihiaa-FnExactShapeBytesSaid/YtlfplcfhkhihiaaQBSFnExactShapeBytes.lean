/- What is left of the law FnExactShapeBytes: a statement over numbers and lists. Written by this session's program (wip/drive.py). -/
import Derived.Test.YtlfplcfhkhihiaaQBx3
import Derived.Test.YtlfplcfhkhihiaaQBxO
namespace Go.Proofs.Ytlfplcfhkhihiaa.QB
open Go.RowKit Go.Proofs.YtlfplcfhkhihiaaW.PrintWords Go.Proofs.YtlfplcfhkhihiaaW.PrintLast Go.Proofs.Ytlfplcfhkhihiaa
def laws_FnExactShapeBytes.Pure : Prop := ∀ (y0 : List (S23)), Open.InL (fun z => W23 z) y0 → ∃ k, laws_FnExactShapeBytes.f k y0 = some true
end Go.Proofs.Ytlfplcfhkhihiaa.QB
