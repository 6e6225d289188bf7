/- What is left of the law FnExactShapeTouches: a statement over numbers and lists. Written by this session's program (wip/drive.py). -/
import Derived.Test.YtlfplcfhkhihiaaQBx4
import Derived.Test.YtlfplcfhkhihiaaQBxO
namespace Go.Proofs.Ytlfplcfhkhihiaa.QB
open Go.RowKit Go.Proofs.YtlfplcfhkhihiaaW.PrintWords Go.Proofs.YtlfplcfhkhihiaaW.PrintLast Go.Proofs.Ytlfplcfhkhihiaa
def laws_FnExactShapeTouches.Pure : Prop := ∀ (y0 : S37) (y1 : List (S23)), W37 y0 → Open.InL (fun z => W23 z) y1 → ∃ k, laws_FnExactShapeTouches.f k y0.f0 y0.f1 y0.f2 y0.f3 y1 = some true
end Go.Proofs.Ytlfplcfhkhihiaa.QB
