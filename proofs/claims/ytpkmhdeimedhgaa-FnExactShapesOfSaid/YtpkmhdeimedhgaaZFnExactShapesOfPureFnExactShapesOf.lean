/- Part of the proof of the law FnExactShapesOf: what it uses of the texts that this session and the kit's print wrote. -/
import Derived.Test.YtpkmhdeimedhgaaZFnExactShapesOfQASFnExactShapesOf
import Derived.Test.YtpkmhdeimedhgaaZFnExactShapesOfLReqs
namespace Go.Proofs.Ytpkmhdeimedhgaa.Pure
open Go.RowKit Go.Proofs.Ytpkmhdeimedhgaa.QA Go.Proofs.YtpkmhdeimedhgaaW.PrintWords Go.Proofs.YtpkmhdeimedhgaaW.PrintLast Go.Proofs.Ytpkmhdeimedhgaa.L
set_option linter.unusedVariables false
set_option linter.unusedSimpArgs false
theorem FnExactShapesOf : laws_FnExactShapesOf.Pure := by
  rintro l ⟨hl, hx⟩
  apply Ev.rounds
  unfold laws_FnExactShapesOf.f
  obtain ⟨r0, e0, c0⟩ := szReqS_ev l 1048576 (by omega) (by omega) hl (fun x hm => ⟨(hx x hm).2.1, (hx x hm).2.2.2.2.2.2⟩)
  refine Ev.bind e0 ?_
  rcases c0 with rfl | ⟨c0, c1, c2, _⟩
  · simp only [show ((-1 : Int) < 0) by omega, if_true]; exact Ev.now _
  simp only [if_neg (show ¬ r0 < 0 by omega)]
  have t0 := toReqS_ev l (by omega)
  have q0 := eqReqS_ev (l.map toReq_) (by simpa using hl)
  have hm : (l.map toReq_).length ≤ 1048576 := by simp; omega
  refine Ev.bind t0 (Ev.bind (specShapesOf_ev _ (by omega)) (Ev.bind t0 (Ev.bind (implShapesOfX_ev _) ?_)))
  generalize hr : (if reqsB (l.map toReq_) = true then ((l.map toReq_).map shOf, true) else ([], false)) = r
  have hrl : r.1.length ≤ 1048576 := by
    rw [← hr]
    split
    · simpa using hm
    · simp
  have es := eqShapeS_ev r.1 (by omega)
  have ms := markShapeS_ev r.1 1 (by omega) (by omega)
  have hs := heldShapeS_ev r.1.length 1 (by omega) (by omega)
  refine Ev.bind es ?_
  simp only [if_true, bne_self_eq_false]
  refine Ev.step (fun k => rfl) ?_
  simp only [laws_FnExactShapesOf.j0, Bool.false_eq_true, if_false]
  refine Ev.bind t0 (Ev.bind q0 ?_)
  simp only [if_true]
  refine Ev.bind (markReqS_ev (l.map toReq_) 1 (by omega) (by omega)) ?_
  simp only [if_neg (show ¬ ((1 : Int) + 7 * ((l.map toReq_).length : Int) < 0) by omega)]
  refine Ev.bind es ?_
  simp only [if_true, bne_self_eq_false]
  refine Ev.step (fun k => rfl) ?_
  simp only [laws_FnExactShapesOf.j1, Bool.false_eq_true, if_false]
  refine Ev.bind ms (Ev.bind hs ?_)
  simp only [if_neg (show ¬ ((1 : Int) + 2 * (r.1.length : Int) < 0) by omega), if_true]
  refine Ev.bind t0 (Ev.bind (implShapesOfX_ev _) ?_)
  simp only [hr]
  refine Ev.bind es ?_
  simp only [if_true, bne_self_eq_false]
  refine Ev.step (fun k => rfl) ?_
  simp only [laws_FnExactShapesOf.j2, Bool.false_eq_true, if_false]
  refine Ev.bind hs ?_
  simp only [if_neg (show ¬ ((1 : Int) + 2 * (r.1.length : Int) < 0) by omega), if_true]
  exact Ev.now _
end Go.Proofs.Ytpkmhdeimedhgaa.Pure
