/- Part of the proof of the law FnExactSameShape: what it uses of the texts that this session and the kit's print wrote. -/
import Derived.Test.YtpkmhdeimedhgaaZFnExactSameShapeQASFnExactSameShape
import Derived.Test.YtpkmhdeimedhgaaZFnExactSameShapeLReqs
namespace Go.Proofs.Ytpkmhdeimedhgaa.Pure
open Go.RowKit Go.Proofs.Ytpkmhdeimedhgaa.QA Go.Proofs.YtpkmhdeimedhgaaW.PrintWords Go.Proofs.YtpkmhdeimedhgaaW.PrintLast Go.Proofs.Ytpkmhdeimedhgaa.L
set_option linter.unusedVariables false
set_option linter.unusedSimpArgs false
def sameAt (p q : List S68) (i : Nat) : Bool := !((!((rd_T68 p (i : Int)).f0 == (rd_T68 q (i : Int)).f0)) || (!((rd_T68 p (i : Int)).f1 == (rd_T68 q (i : Int)).f1)))
def sameB (p q : List S68) : Bool := decide (p.length = q.length) && (if (List.range p.length).all (sameAt p q) then true else false)
theorem eqShapes_ev (p q : List S68) (hp : p.length ≤ 9223372036854775807) : Ev (fun k => impl_Shape_80.f k p q) (sameB p q) := by
  unfold impl_Shape_80.f sameB
  by_cases h : p.length = q.length
  · simp only [h, if_true, decide_true, Bool.true_and]
    rw [← h]
    refine search_ev p.length (fun k i => impl_Shape_80.l0 k p q (p.length : Int) i) (sameAt p q) false true ?_ ?_ ?_
    · intro i hi hs r hr
      refine Ev.step (fun k => ?_) hr
      simp only [impl_Shape_80.l0]
      rw [if_pos (by omega), if_pos (by omega), if_pos (by omega), if_pos (by omega), wrap_nat_succ (by omega), if_neg (by unfold sameAt at hs; intro hc; rw [hc] at hs; simp at hs)]
    · intro i hi hs
      refine Ev.step (f := fun _ => some false) (fun k => ?_) (Ev.now _)
      simp only [impl_Shape_80.l0]
      rw [if_pos (by omega), if_pos (by omega), if_pos (by omega), if_pos (by omega), if_pos (by unfold sameAt at hs; exact (by simpa only [Bool.not_eq_false'] using hs))]
    · refine Ev.step (f := fun _ => some true) (fun k => ?_) (Ev.now _)
      simp only [impl_Shape_80.l0]
      rw [if_neg (by omega)]
  · simp only [if_neg (show ¬ (p.length : Int) = (q.length : Int) by omega), h, decide_false, Bool.false_and]
    exact Ev.now _
theorem specSame_ev (a b : List S69) (ha : a.length ≤ 9223372036854775807) (hb : b.length ≤ 9223372036854775807) : Ev (fun k => spec_SameShape.f k a b) (reqsB a && (reqsB b && sameB (a.map shOf) (b.map shOf))) := by
  unfold spec_SameShape.f
  refine Ev.bind (specShapesOf_ev a ha) ?_
  refine Ev.bind (specShapesOf_ev b hb) ?_
  cases h1 : reqsB a with
  | false =>
    simp only [Bool.false_eq_true, if_false, Bool.false_and]
    refine Ev.step (fun k => rfl) ?_
    simp only [spec_SameShape.j0, if_true]
    exact Ev.now _
  | true =>
    cases h2 : reqsB b with
    | false =>
      simp only [Bool.false_eq_true, if_false, Bool.false_and, if_true, Bool.true_and]
      refine Ev.step (fun k => rfl) ?_
      simp only [spec_SameShape.j0, if_true]
      exact Ev.now _
    | true =>
      obtain ⟨h40, _⟩ := reqs_all h1
      simp only [if_true, Bool.true_and]
      generalize hp : a.map shOf = p
      generalize hq : b.map shOf = q
      have hpl : p.length ≤ 40 := by rw [← hp]; simpa using h40
      refine Ev.step (fun k => rfl) ?_
      unfold sameB
      by_cases h : p.length = q.length
      · simp only [spec_SameShape.j0, h, bne_self_eq_false, Bool.false_eq_true, if_false, decide_true, Bool.true_and]
        rw [← h]
        refine search_ev p.length (fun k i => spec_SameShape.l0 k p q i) (sameAt p q) false true ?_ ?_ ?_
        · intro i hi hs r hr
          refine Ev.step (fun k => ?_) hr
          simp only [spec_SameShape.l0]
          rw [if_pos (by omega), if_pos (by omega), if_pos (by omega), wrap_nat_succ (by omega), if_neg (by unfold sameAt at hs; intro hc; rw [hc] at hs; simp at hs)]
        · intro i hi hs
          refine Ev.step (f := fun _ => some false) (fun k => ?_) (Ev.now _)
          simp only [spec_SameShape.l0]
          rw [if_pos (by omega), if_pos (by omega), if_pos (by omega), if_pos (by unfold sameAt at hs; exact (by simpa only [Bool.not_eq_false'] using hs))]
        · refine Ev.step (f := fun _ => some true) (fun k => ?_) (Ev.now _)
          simp only [spec_SameShape.l0]
          rw [if_neg (by omega)]
      · have hne : ((p.length : Int) != (q.length : Int)) = true := by simp; omega
        simp only [spec_SameShape.j0, hne, if_true, h, decide_false, Bool.false_and]
        exact Ev.now _
theorem implSame_ev (a b : List S69) : Ev (fun k => impl_SameShape.f k a b) (reqsB a && (reqsB b && sameB (a.map shOf) (b.map shOf))) := by
  unfold impl_SameShape.f impl_sameShape.f
  simp only [areReqs_eq, Option.bind_some]
  cases h1 : reqsB a with
  | false => simp only [Bool.false_eq_true, if_false, Bool.false_and]; exact Ev.now _
  | true =>
    cases h2 : reqsB b with
    | false => simp only [Bool.false_eq_true, if_false, Bool.false_and, if_true, Bool.true_and]; exact Ev.now _
    | true =>
      simp only [if_true, Bool.true_and]
      have ha := (reqs_all h1).1
      refine Ev.bind (Ev.bind (implShapesOf_ev a ha) ?_) (Ev.now _)
      refine Ev.bind (implShapesOf_ev b (reqs_all h2).1) ?_
      refine Ev.bind (eqShapes_ev _ _ (by simp; omega)) (Ev.now _)
theorem FnExactSameShape : laws_FnExactSameShape.Pure := by
  rintro l0 l1 ⟨hl0, hx0⟩ ⟨hl1, hx1⟩
  apply Ev.rounds
  unfold laws_FnExactSameShape.f
  have hw : ∀ l : List S66, (∀ x, x ∈ l → W66 x) → ∀ x, x ∈ l → x.f1.size ≤ 9223372036854775807 ∧ x.f6.size ≤ 9223372036854775807 := fun l h x hx => ⟨(h x hx).2.1, (h x hx).2.2.2.2.2.2⟩
  obtain ⟨r0, e0, c0⟩ := szReqS_ev l0 1048576 (by omega) (by omega) hl0 (hw l0 hx0)
  refine Ev.bind e0 ?_
  rcases c0 with rfl | ⟨c0, c1, c2, _⟩
  · simp only [show ((-1 : Int) < 0) by omega, if_true]; exact Ev.now _
  simp only [if_neg (show ¬ r0 < 0 by omega)]
  obtain ⟨r1, e1, d0⟩ := szReqS_ev l1 r0 (by omega) (by omega) hl1 (hw l1 hx1)
  refine Ev.bind e1 ?_
  rcases d0 with rfl | ⟨d0, d1, d2, _⟩
  · simp only [show ((-1 : Int) < 0) by omega, if_true]; exact Ev.now _
  simp only [if_neg (show ¬ r1 < 0 by omega)]
  have t0 := toReqS_ev l0 (by omega)
  have t1 := toReqS_ev l1 (by omega)
  have q0 := eqReqS_ev (l0.map toReq_) (by simpa using hl0)
  have q1 := eqReqS_ev (l1.map toReq_) (by simpa using hl1)
  refine Ev.bind t0 (Ev.bind t1 (Ev.bind (specSame_ev _ _ (by simpa using hl0) (by simpa using hl1)) (Ev.bind t0 (Ev.bind t1 (Ev.bind (implSame_ev _ _) ?_)))))
  simp only [bne_self_eq_false, Bool.false_eq_true, if_false]
  refine Ev.bind t0 (Ev.bind q0 ?_)
  simp only [if_true]
  refine Ev.bind t1 (Ev.bind q1 ?_)
  simp only [if_true]
  exact Ev.now _
end Go.Proofs.Ytpkmhdeimedhgaa.Pure
