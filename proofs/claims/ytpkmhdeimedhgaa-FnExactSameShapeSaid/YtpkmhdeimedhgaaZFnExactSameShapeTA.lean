/- Part of the proof of the law FnExactSameShape: what it uses of the texts that this session and the kit's print wrote. -/
import Derived.Test.YtpkmhdeimedhgaaZFnExactSameShapeLBase
import Derived.Test.YtpkmhdeimedhgaaZFnExactSameShapeQAx3
import Derived.Test.YtpkmhdeimedhgaaZFnExactSameShapeQAx4
import Derived.Test.YtpkmhdeimedhgaaZFnExactSameShapeQAx0
import Derived.Test.YtpkmhdeimedhgaaZFnExactSameShapeQAx5
namespace Go.Proofs.Ytpkmhdeimedhgaa.L
open Go.RowKit Go.Proofs.Ytpkmhdeimedhgaa.QA Go.Proofs.YtpkmhdeimedhgaaW.PrintWords Go.Proofs.YtpkmhdeimedhgaaW.PrintLast Go.Proofs.YtpkmhdeimedhgaaW.PrintMore
set_option linter.unusedVariables false
set_option linter.unusedSimpArgs false
theorem eqReqS_ev (l : List S69) (h : l.length ≤ 9223372036854775807) : Ev (fun k => laws_eqReqS.f k l l) true := by
  unfold laws_eqReqS.f
  simp only [if_true]
  refine loop_ev l.length (fun k (_ : Unit) i => laws_eqReqS.l0 k l l i) (fun _ => ()) true ?_ ?_
  · intro i hi hr
    refine Ev.step (fun k => ?_) hr
    simp only [laws_eqReqS.l0, laws_eqReq.f, if_true, Option.bind_some]
    rw [if_pos (by omega), if_pos (by omega), if_pos (by omega), wrap_nat_succ (by omega)]
  · refine Ev.step (f := fun _ => some true) (fun k => ?_) (Ev.now _)
    simp only [laws_eqReqS.l0]
    rw [if_neg (by omega)]
def toReq_ (x : S66) : S69 := (⟨x.f0, x.f1, x.f2, x.f3, x.f4, x.f5, x.f6⟩ : S69)
theorem toReqS_ev (l : List S66) (h : l.length ≤ 1048576) : Ev (fun k => laws_toReqS.f k l) (l.map toReq_) := by
  unfold laws_toReqS.f
  simp only [Int.natCast_nonneg, if_true, Int.toNat_natCast, show l.length ≤ 3909374676536 by omega]
  rw [← map_range l z66 toReq_]
  refine fill_ev l.length z69 (fun k x3 i => laws_toReqS.l0 k l x3 i) (fun i => toReq_ (l.getD i z66)) ?_ ?_
  · intro i x3 hi hl r hr
    refine Ev.step (fun k => ?_) hr
    simp only [laws_toReqS.l0, laws_toReq.f, Option.bind_some]
    rw [if_pos (by omega), if_pos (by omega), if_pos (by omega), wrap_nat_succ (by omega)]
    rfl
  · intro x3 hl
    refine Ev.step (f := fun _ => some x3) (fun k => ?_) (Ev.now _)
    simp only [laws_toReqS.l0]
    rw [if_neg (by omega)]
end Go.Proofs.Ytpkmhdeimedhgaa.L
