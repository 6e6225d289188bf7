/- Part of the proof of the law FnExactSameShape: what it uses of the texts that this session and the kit's print wrote. -/
import Derived.Test.YtpkmhdeimedhgaaZFnExactSameShapeQAx5
import Derived.Test.YtpkmhdeimedhgaaZFnExactSameShapeQAxO
namespace Go.Proofs.Ytpkmhdeimedhgaa.QA
open Go.RowKit Go.Proofs.YtpkmhdeimedhgaaW.PrintWords Go.Proofs.YtpkmhdeimedhgaaW.PrintLast Go.Proofs.Ytpkmhdeimedhgaa
def laws_FnExactSameShape.Pure : Prop := ∀ (y0 : List (S66)) (y1 : List (S66)), Open.InL (fun z => W66 z) y0 → Open.InL (fun z => W66 z) y1 → ∃ k, laws_FnExactSameShape.f k y0 y1 = some true
end Go.Proofs.Ytpkmhdeimedhgaa.QA
