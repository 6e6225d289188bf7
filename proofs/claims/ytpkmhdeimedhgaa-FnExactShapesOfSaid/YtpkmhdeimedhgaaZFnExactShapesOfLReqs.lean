/- Part of the proof of the law FnExactShapesOf: what it uses of the texts that this session and the kit's print wrote. -/
import Derived.Test.YtpkmhdeimedhgaaZFnExactShapesOfLShapesS
import Derived.Test.YtpkmhdeimedhgaaZFnExactShapesOfTA
import Derived.Test.YtpkmhdeimedhgaaZFnExactShapesOfQAx2
import Derived.Test.YtpkmhdeimedhgaaZFnExactShapesOfQAx3
import Derived.Test.YtpkmhdeimedhgaaZFnExactShapesOfQAx9
namespace Go.Proofs.Ytpkmhdeimedhgaa.L
open Go.RowKit Go.Proofs.Ytpkmhdeimedhgaa.QA Go.Proofs.YtpkmhdeimedhgaaW.PrintWords Go.Proofs.YtpkmhdeimedhgaaW.PrintLast Go.Proofs.YtpkmhdeimedhgaaW.PrintMore
set_option linter.unusedVariables false
set_option linter.unusedSimpArgs false
theorem szReq_eq (x : S66) (left : Int) (h0 : 0 ≤ left) (hl : left ≤ 1048576) (h1 : x.f1.size ≤ 9223372036854775807) (h6 : x.f6.size ≤ 9223372036854775807) :
    ∃ r : Int, laws_szReq.f x.f0 x.f1 x.f2 x.f3 x.f4 x.f5 x.f6 left = some r ∧ (r = -1 ∨ (0 ≤ r ∧ r ≤ left ∧ (x.f1.size : Int) ≤ left ∧ (x.f6.size : Int) ≤ left)) := by
  unfold laws_szReq.f
  rw [wrap_id (x := left - (x.f1.size : Int)) (by omega) (by omega)]
  by_cases h : left - (x.f1.size : Int) < 0
  · rw [if_pos h]; exact ⟨_, rfl, .inl rfl⟩
  · rw [if_neg h, wrap_id (by omega) (by omega)]
    by_cases h' : left - (x.f1.size : Int) - (x.f6.size : Int) < 0
    · rw [if_pos h']; exact ⟨_, rfl, .inl rfl⟩
    · rw [if_neg h']; exact ⟨_, rfl, .inr ⟨by omega, by omega, by omega, by omega⟩⟩
theorem szReqS_ev (l : List S66) (left : Int) (h0 : 0 ≤ left) (hl : left ≤ 1048576) (hn : l.length ≤ 9223372036854775807) (hx : ∀ x, x ∈ l → x.f1.size ≤ 9223372036854775807 ∧ x.f6.size ≤ 9223372036854775807) :
    ∃ r : Int, Ev (fun k => laws_szReqS.f k l left) r ∧ (r = -1 ∨ (0 ≤ r ∧ r ≤ left ∧ (l.length : Int) ≤ left ∧ ∀ x, x ∈ l → (x.f1.size : Int) ≤ left ∧ (x.f6.size : Int) ≤ left)) := by
  unfold laws_szReqS.f
  rw [wrap_id (x := left - (l.length : Int)) (by omega) (by omega)]
  by_cases h : left - (l.length : Int) < 0
  · simp only [if_pos h]; exact ⟨_, Ev.now _, .inl rfl⟩
  simp only [if_neg h]
  have key : ∀ d i (left' : Int), i + d = l.length → 0 ≤ left' → left' ≤ left → ∃ r : Int, Ev (fun k => laws_szReqS.l0 k l left' (i : Int)) r ∧ (r = -1 ∨ (0 ≤ r ∧ r ≤ left' ∧ ∀ j, i ≤ j → ∀ x, l[j]? = some x → (x.f1.size : Int) ≤ left' ∧ (x.f6.size : Int) ≤ left')) := by
    intro d
    induction d with
    | zero =>
      intro i left' hi h1 h2
      refine ⟨left', Ev.step (f := fun _ => some left') (fun k => ?_) (Ev.now _), .inr ⟨h1, Int.le_refl _, fun j hj x hx => ?_⟩⟩
      · simp only [laws_szReqS.l0]; rw [if_neg (by omega)]
      · rw [List.getElem?_eq_none (by omega)] at hx; cases hx
    | succ d ih =>
      intro i left' hi h1 h2
      have hlt : i < l.length := by omega
      have hmem : l.getD i z66 ∈ l := by rw [getD_lt _ hlt]; exact List.getElem_mem _
      obtain ⟨r1, e1, c1⟩ := szReq_eq (l.getD i z66) left' h1 (by omega) (hx _ hmem).1 (hx _ hmem).2
      rcases c1 with rfl | ⟨c1, c2, c3, c4⟩
      · refine ⟨-1, Ev.step (f := fun _ => some (-1)) (fun k => ?_) (Ev.now _), .inl rfl⟩
        simp only [laws_szReqS.l0, rd_T66, Int.toNat_natCast, e1, Option.bind_some]
        rw [if_pos (by omega), if_pos (by omega), if_pos (by omega)]
      · obtain ⟨r, hr, hc⟩ := ih (i + 1) r1 (by omega) c1 (by omega)
        refine ⟨r, Ev.step (fun k => ?_) hr, ?_⟩
        · simp only [laws_szReqS.l0, rd_T66, Int.toNat_natCast, e1, Option.bind_some]
          rw [if_pos (by omega), if_pos (by omega), if_neg (by omega), wrap_nat_succ (by omega)]
        · rcases hc with rfl | ⟨b0, b1, b2⟩
          · exact .inl rfl
          · refine .inr ⟨b0, by omega, fun j hj x hx => ?_⟩
            by_cases e : j = i
            · subst e
              rw [List.getElem?_eq_getElem hlt] at hx
              injection hx with hx
              rw [getD_lt _ hlt, hx] at c3 c4
              exact ⟨c3, c4⟩
            · have := b2 j (by omega) x hx
              omega
  obtain ⟨r, hr, hc⟩ := key l.length 0 (left - (l.length : Int)) (by omega) (by omega) (by omega)
  refine ⟨r, hr, ?_⟩
  rcases hc with rfl | ⟨b0, b1, b2⟩
  · exact .inl rfl
  · refine .inr ⟨b0, by omega, by omega, fun x hx => ?_⟩
    obtain ⟨j, hj, rfl⟩ := List.getElem_of_mem hx
    have := b2 j (Nat.zero_le _) _ (List.getElem?_eq_getElem hj)
    omega
def reqB (x : S69) : Bool := shapeB x.f0 x.f5 && (decide (x.f1.size ≤ 100) && decide (x.f6.size ≤ 2000))
def reqsB (l : List S69) : Bool := decide (l.length ≤ 40) && l.all reqB
theorem specReqOk_eq (x : S69) : spec_ReqOk.f x.f0 x.f1 x.f2 x.f3 x.f4 x.f5 x.f6 = some (reqB x) := by
  unfold spec_ReqOk.f reqB
  rw [l18Shape_eq, Option.bind_some]
  cases shapeB x.f0 x.f5 with
  | false => rfl
  | true =>
    simp only [if_true, Bool.true_and]
    by_cases h : x.f1.size ≤ 100
    · rw [if_pos (by omega)]
      simp only [h, decide_true, Bool.true_and]
      congr 2
      simp; omega
    · rw [if_neg (by omega)]
      simp [h]
theorem isReq_eq (x : S69) : impl_isReq.f x.f0 x.f1 x.f2 x.f3 x.f4 x.f5 x.f6 = some (reqB x) := by
  unfold impl_isReq.f reqB
  rw [isShape_eq, Option.bind_some]
  cases shapeB x.f0 x.f5 with
  | false => rfl
  | true =>
    simp only [if_true, Bool.true_and]
    by_cases h : x.f1.size ≤ 100
    · rw [if_pos (by omega)]
      simp only [h, decide_true, Bool.true_and]
      congr 2
      simp; omega
    · rw [if_neg (by omega)]
      simp [h]
theorem specReqsOk_ev (l : List S69) (h : l.length ≤ 9223372036854775807) : Ev (fun k => spec_ReqsOk.f k l) (reqsB l) := by
  unfold spec_ReqsOk.f reqsB
  by_cases h4 : (l.length : Int) > 40
  · simp only [if_pos h4, show ¬ l.length ≤ 40 by omega, decide_false, Bool.false_and]
    exact Ev.now _
  · simp only [if_neg h4, show l.length ≤ 40 by omega, decide_true, Bool.true_and]
    rw [← all_range l z69 reqB]
    refine evVal (search_ev l.length (fun k i => spec_ReqsOk.l0 k l i) (fun i => reqB (l.getD i z69)) false true ?_ ?_ ?_) ?_
    · intro i hi hp r hr
      refine Ev.step (fun k => ?_) hr
      simp only [spec_ReqsOk.l0, specReqOk_eq, Option.bind_some, rd_T69, Int.toNat_natCast, hp, if_true]
      rw [if_pos (by omega), if_pos (by omega), wrap_nat_succ (by omega)]
    · intro i hi hp
      refine Ev.step (f := fun _ => some false) (fun k => ?_) (Ev.now _)
      simp only [spec_ReqsOk.l0, specReqOk_eq, Option.bind_some, rd_T69, Int.toNat_natCast, hp]
      rw [if_pos (by omega), if_pos (by omega)]
      rfl
    · refine Ev.step (f := fun _ => some true) (fun k => ?_) (Ev.now _)
      simp only [spec_ReqsOk.l0]
      rw [if_neg (by omega)]
    · cases (List.range l.length).all _ <;> rfl
theorem areReqs_eq (l : List S69) : impl_areReqs.f l = some (reqsB l) := by
  unfold impl_areReqs.f reqsB
  rw [contF_some (q := fun x => !reqB x) l (fun x _ => by unfold impl_areReqs_1.f; rw [isReq_eq]; rfl)]
  by_cases h : (l.length : Int) ≤ 40
  · rw [if_pos h, Option.bind_some]
    simp only [show l.length ≤ 40 by omega, decide_true, Bool.true_and]
    congr 1
    rw [List.not_any_eq_all_not]
    simp
  · rw [if_neg h]
    simp only [show ¬ l.length ≤ 40 by omega, decide_false, Bool.false_and]
theorem reqs_all {l : List S69} (h : reqsB l = true) : l.length ≤ 40 ∧ ∀ x, x ∈ l → reqB x = true := by
  unfold reqsB at h
  rw [Bool.and_eq_true] at h
  exact ⟨of_decide_eq_true h.1, fun x hx => List.all_eq_true.1 h.2 x hx⟩
def shOf (x : S69) : S68 := ⟨x.f0, x.f5⟩
theorem implShapesOf_ev (l : List S69) (h : l.length ≤ 40) : Ev (fun k => impl_shapesOf.f k l) (l.map shOf) := by
  unfold impl_shapesOf.f
  refine evVal (loop_ev l.length (fun k s i => impl_shapesOf.l0 k s l (l.length : Int) i) (fun i => (l.take i).map shOf) ((l.take l.length).map shOf) ?_ ?_) (by rw [List.take_length])
  · intro i hi hr
    refine Ev.step (fun k => ?_) hr
    simp only [impl_shapesOf.l0, rd_T69, Int.toNat_natCast]
    rw [if_pos (by omega), if_pos (by omega), if_pos (by omega), if_pos (by simp; omega), wrap_nat_succ (by omega), List.take_succ_eq_append_getElem hi, List.map_append, getD_lt _ hi]
    rfl
  · refine Ev.step (f := fun _ => some _) (fun k => ?_) (Ev.now _)
    simp only [impl_shapesOf.l0]
    rw [if_neg (by omega)]
theorem specShapesOf_ev (l : List S69) (h : l.length ≤ 9223372036854775807) : Ev (fun k => spec_ShapesOf.f k l) (if reqsB l then (l.map shOf, true) else ([], false)) := by
  unfold spec_ShapesOf.f
  refine Ev.bind (specReqsOk_ev l h) ?_
  cases hb : reqsB l with
  | false => simp only [Bool.false_eq_true, if_false]; exact Ev.now _
  | true =>
    obtain ⟨h40, _⟩ := reqs_all hb
    simp only [if_true]
    refine evVal (loop_ev l.length (fun k s i => spec_ShapesOf.l0 k l s i) (fun i => (l.take i).map shOf) ((l.take l.length).map shOf, true) ?_ ?_) (by rw [List.take_length])
    · intro i hi hr
      refine Ev.step (fun k => ?_) hr
      simp only [spec_ShapesOf.l0, rd_T69, Int.toNat_natCast]
      rw [if_pos (by omega), if_pos (by omega), if_pos (by simp; omega), wrap_nat_succ (by omega), List.take_succ_eq_append_getElem hi, List.map_append, getD_lt _ hi]
      rfl
    · refine Ev.step (f := fun _ => some _) (fun k => ?_) (Ev.now _)
      simp only [spec_ShapesOf.l0]
      rw [if_neg (by omega)]
theorem implShapesOfX_ev (l : List S69) : Ev (fun k => impl_ShapesOf.f k l) (if reqsB l then (l.map shOf, true) else ([], false)) := by
  unfold impl_ShapesOf.f
  simp only [areReqs_eq, Option.bind_some]
  cases hb : reqsB l with
  | false => simp only [Bool.false_eq_true, if_false]; exact Ev.now _
  | true =>
    simp only [if_true]
    exact Ev.bind (implShapesOf_ev l (reqs_all hb).1) (Ev.now _)
end Go.Proofs.Ytpkmhdeimedhgaa.L
