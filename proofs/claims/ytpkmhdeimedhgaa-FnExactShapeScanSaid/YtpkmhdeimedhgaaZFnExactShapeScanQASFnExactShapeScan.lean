/- Part of the proof of the law FnExactShapeScan: what it uses of the texts that this session and the kit's print wrote. -/
import Derived.Test.YtpkmhdeimedhgaaZFnExactShapeScanQAx9
import Derived.Test.YtpkmhdeimedhgaaZFnExactShapeScanQAxO
namespace Go.Proofs.Ytpkmhdeimedhgaa.QA
open Go.RowKit Go.Proofs.YtpkmhdeimedhgaaW.PrintWords Go.Proofs.YtpkmhdeimedhgaaW.PrintLast Go.Proofs.Ytpkmhdeimedhgaa
def laws_FnExactShapeScan.Pure : Prop := ∀ (y0 : S29) (y1 : List (S78)), W29 y0 → Open.InL (fun z => W78 z) y1 → ∃ k, laws_FnExactShapeScan.f k y0.f0 y0.f1 y0.f2 y0.f3 y1 = some true
end Go.Proofs.Ytpkmhdeimedhgaa.QA
