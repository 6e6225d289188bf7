/- Part of the proof of the law FnExactShapesOf: what it uses of the texts that this session and the kit's print wrote. -/
import Derived.Test.YtpkmhdeimedhgaaZFnExactShapesOfQAx11
import Derived.Test.YtpkmhdeimedhgaaZFnExactShapesOfQAxO
namespace Go.Proofs.Ytpkmhdeimedhgaa.QA
open Go.RowKit Go.Proofs.YtpkmhdeimedhgaaW.PrintWords Go.Proofs.YtpkmhdeimedhgaaW.PrintLast Go.Proofs.Ytpkmhdeimedhgaa
def laws_FnExactShapesOf.Pure : Prop := ∀ (y0 : List (S66)), Open.InL (fun z => W66 z) y0 → ∃ k, laws_FnExactShapesOf.f k y0 = some true
end Go.Proofs.Ytpkmhdeimedhgaa.QA
