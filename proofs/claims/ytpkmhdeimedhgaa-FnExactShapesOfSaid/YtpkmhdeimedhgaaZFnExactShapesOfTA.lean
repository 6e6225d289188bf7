/- Part of the proof of the law FnExactShapesOf: what it uses of the texts that this session and the kit's print wrote. -/
import Derived.Test.YtpkmhdeimedhgaaZFnExactShapesOfLBase
import Derived.Test.YtpkmhdeimedhgaaZFnExactShapesOfQAx3
import Derived.Test.YtpkmhdeimedhgaaZFnExactShapesOfQAx4
import Derived.Test.YtpkmhdeimedhgaaZFnExactShapesOfQAx0
import Derived.Test.YtpkmhdeimedhgaaZFnExactShapesOfQAx2
import Derived.Test.YtpkmhdeimedhgaaZFnExactShapesOfQAx8
import Derived.Test.YtpkmhdeimedhgaaZFnExactShapesOfQAx9
import Derived.Test.YtpkmhdeimedhgaaZFnExactShapesOfQAx10
namespace Go.Proofs.Ytpkmhdeimedhgaa.L
open Go.RowKit Go.Proofs.Ytpkmhdeimedhgaa.QA Go.Proofs.YtpkmhdeimedhgaaW.PrintWords Go.Proofs.YtpkmhdeimedhgaaW.PrintLast Go.Proofs.YtpkmhdeimedhgaaW.PrintMore
set_option linter.unusedVariables false
set_option linter.unusedSimpArgs false
theorem getD_set_self {α : Type} (l : List α) {i : Nat} (z a : α) (h : i < l.length) : (l.set i a).getD i z = a := by simp [List.getD, h]
theorem markText_ex (n : Int) (h0 : 0 ≤ n) (hn : n ≤ 4611686018427387904) : ∃ s, Ev (fun k => laws_markText.f k n) s := by
  have key : ∀ d : Nat, ∀ x : Int, 0 ≤ x → x ≤ 4611686018427387904 → x.toNat ≤ d → ∀ t : ByteArray, t.size + d ≤ 4611686018427387910 → ∃ s, Ev (fun k => laws_markText.l0 k x t) s := by
    intro d
    induction d using Nat.strongRecOn with
    | _ d ih =>
      intro x h0 hx hd t ht
      by_cases h : x > 0
      · have hdiv : Int.tdiv x 10 = x / 10 := Int.tdiv_eq_ediv_of_nonneg h0
        have hs : ∀ c : Int, (strOfNums [c]).size = 1 := fun c => by simp [strOfNums, ByteArray.size]
        obtain ⟨s, hs'⟩ := ih (x / 10).toNat (by omega) (x / 10) (by omega) (by omega) (Nat.le_refl _) (strOfNums [(wrap64 (48 + (Int.tmod x 10))) % 256] ++ t) (by rw [ByteArray.size_append, hs]; omega)
        refine ⟨s, Ev.step (fun k => ?_) hs'⟩
        simp only [laws_markText.l0]
        rw [if_pos h, Option.bind_some, hs, if_pos (by omega), hdiv, wrap_id (x := x / 10) (by omega) (by omega)]
      · refine ⟨_, Ev.step (f := fun _ => some ((⟨#[109]⟩ : ByteArray) ++ t)) (fun k => ?_) (Ev.now _)⟩
        simp only [laws_markText.l0]
        rw [if_neg h, if_pos (by omega)]
  unfold laws_markText.f
  by_cases h : n ≤ 0
  · simp only [if_pos h]; exact ⟨_, Ev.now _⟩
  · simp only [if_neg h]; exact key n.toNat n h0 hn (Nat.le_refl _) _ (by simp [ByteArray.size]; omega)
noncomputable def mtext (n : Int) : ByteArray := Classical.epsilon (fun s => Ev (fun k => laws_markText.f k n) s)
theorem mtext_ev {n : Int} (h0 : 0 ≤ n) (hn : n ≤ 4611686018427387904) : Ev (fun k => laws_markText.f k n) (mtext n) := Classical.epsilon_spec (markText_ex n h0 hn)
theorem eqReqS_ev (l : List S69) (h : l.length ≤ 9223372036854775807) : Ev (fun k => laws_eqReqS.f k l l) true := by
  unfold laws_eqReqS.f
  simp only [if_true]
  refine loop_ev l.length (fun k (_ : Unit) i => laws_eqReqS.l0 k l l i) (fun _ => ()) true ?_ ?_
  · intro i hi hr
    refine Ev.step (fun k => ?_) hr
    simp only [laws_eqReqS.l0, laws_eqReq.f, if_true, Option.bind_some]
    rw [if_pos (by omega), if_pos (by omega), if_pos (by omega), wrap_nat_succ (by omega)]
  · refine Ev.step (f := fun _ => some true) (fun k => ?_) (Ev.now _)
    simp only [laws_eqReqS.l0]
    rw [if_neg (by omega)]
theorem eqShapeS_ev (l : List S68) (h : l.length ≤ 9223372036854775807) : Ev (fun k => laws_eqShapeS.f k l l) true := by
  unfold laws_eqShapeS.f
  simp only [if_true]
  refine loop_ev l.length (fun k (_ : Unit) i => laws_eqShapeS.l0 k l l i) (fun _ => ()) true ?_ ?_
  · intro i hi hr
    refine Ev.step (fun k => ?_) hr
    simp only [laws_eqShapeS.l0, laws_eqShape.f, if_true, Option.bind_some]
    rw [if_pos (by omega), if_pos (by omega), if_pos (by omega), wrap_nat_succ (by omega)]
  · refine Ev.step (f := fun _ => some true) (fun k => ?_) (Ev.now _)
    simp only [laws_eqShapeS.l0]
    rw [if_neg (by omega)]
def toReq_ (x : S66) : S69 := (⟨x.f0, x.f1, x.f2, x.f3, x.f4, x.f5, x.f6⟩ : S69)
theorem toReqS_ev (l : List S66) (h : l.length ≤ 1048576) : Ev (fun k => laws_toReqS.f k l) (l.map toReq_) := by
  unfold laws_toReqS.f
  simp only [Int.natCast_nonneg, if_true, Int.toNat_natCast, show l.length ≤ 3909374676536 by omega]
  rw [← map_range l z66 toReq_]
  refine fill_ev l.length z69 (fun k x3 i => laws_toReqS.l0 k l x3 i) (fun i => toReq_ (l.getD i z66)) ?_ ?_
  · intro i x3 hi hl r hr
    refine Ev.step (fun k => ?_) hr
    simp only [laws_toReqS.l0, laws_toReq.f, Option.bind_some]
    rw [if_pos (by omega), if_pos (by omega), if_pos (by omega), wrap_nat_succ (by omega)]
    rfl
  · intro x3 hl
    refine Ev.step (f := fun _ => some x3) (fun k => ?_) (Ev.now _)
    simp only [laws_toReqS.l0]
    rw [if_neg (by omega)]
noncomputable def markReq_ (k0 : Int) (i : Nat) : S69 := (⟨k0 + 7 * (i : Int), mtext (k0 + 7 * (i : Int) + 1), k0 + 7 * (i : Int) + 1 + 1, k0 + 7 * (i : Int) + 1 + 1 + 1, k0 + 7 * (i : Int) + 1 + 1 + 1 + 1, k0 + 7 * (i : Int) + 1 + 1 + 1 + 1 + 1, mtext (k0 + 7 * (i : Int) + 1 + 1 + 1 + 1 + 1 + 1)⟩ : S69)
theorem markReqS_ev (l : List S69) (k0 : Int) (h0 : 0 ≤ k0) (hk : k0 + 7 * (l.length : Int) ≤ 4611686018427387000) : Ev (fun k => laws_markReqS.f k l k0) (k0 + 7 * (l.length : Int), (List.range l.length).map (markReq_ k0)) := by
  unfold laws_markReqS.f
  have key : ∀ d (i : Nat) (x0 : List S69), i + d = l.length → x0.length = l.length → (∀ j, j < i → x0[j]? = some (markReq_ k0 j)) → Ev (fun k => laws_markReqS.l0 k x0 (k0 + 7 * (i : Int)) (i : Int)) (k0 + 7 * (l.length : Int), (List.range l.length).map (markReq_ k0)) := by
    intro d
    induction d with
    | zero =>
      intro i x0 h hl hx
      obtain rfl : i = l.length := by omega
      refine Ev.step (f := fun _ => some (k0 + 7 * (l.length : Int), x0)) (fun k => ?_) (evVal (Ev.now _) ?_)
      · simp only [laws_markReqS.l0]
        rw [if_neg (by omega)]
      · congr 1
        apply List.ext_getElem?
        intro j
        by_cases hj : j < l.length
        · rw [hx j hj]; simp [hj]
        · rw [List.getElem?_eq_none (by omega), List.getElem?_eq_none (by simp; omega)]
    | succ d ih =>
      intro i x0 h hl hx
      have hi : i < x0.length := by omega
      have e1 : k0 + 7 * ((i + 1 : Nat) : Int) = k0 + 7 * (i : Int) + 1 + 1 + 1 + 1 + 1 + 1 + 1 := by omega
      have hnext := ih (i + 1) (x0.set i (markReq_ k0 i)) (by omega) (by simpa using hl) (fun j hj => by
        by_cases e : j = i
        · subst e; rw [List.getElem?_set_self (by omega)]
        · rw [List.getElem?_set_ne (by omega)]; exact hx j (by omega))
      rw [e1] at hnext

      refine Ev.step (f := fun k => (laws_markText.f k (k0 + 7 * (i : Int) + 1)).bind fun s1 => (laws_markText.f k (k0 + 7 * (i : Int) + 1 + 1 + 1 + 1 + 1 + 1)).bind fun s6 => laws_markReqS.l0 k (x0.set i (⟨k0 + 7 * (i : Int), s1, k0 + 7 * (i : Int) + 1 + 1, k0 + 7 * (i : Int) + 1 + 1 + 1, k0 + 7 * (i : Int) + 1 + 1 + 1 + 1, k0 + 7 * (i : Int) + 1 + 1 + 1 + 1 + 1, s6⟩ : S69)) (k0 + 7 * (i : Int) + 1 + 1 + 1 + 1 + 1 + 1 + 1) ((i + 1 : Nat) : Int)) (fun k => ?_) ?_
      · simp only [laws_markReqS.l0, Int.toNat_natCast, List.set_set, rd_T69, getD_set_self _ _ _ hi, Option.bind_some]
        rw [if_pos (by omega), if_pos (by omega), wrap_id (x := k0 + 7 * (i : Int) + 1) (by omega) (by omega), wrap_id (x := k0 + 7 * (i : Int) + 1 + 1) (by omega) (by omega), wrap_id (x := k0 + 7 * (i : Int) + 1 + 1 + 1) (by omega) (by omega), wrap_id (x := k0 + 7 * (i : Int) + 1 + 1 + 1 + 1) (by omega) (by omega), wrap_id (x := k0 + 7 * (i : Int) + 1 + 1 + 1 + 1 + 1) (by omega) (by omega), wrap_id (x := k0 + 7 * (i : Int) + 1 + 1 + 1 + 1 + 1 + 1) (by omega) (by omega), wrap_id (x := k0 + 7 * (i : Int) + 1 + 1 + 1 + 1 + 1 + 1 + 1) (by omega) (by omega), wrap_nat_succ (by omega)]
        all_goals rfl
      · skip
        refine Ev.bind (mtext_ev (by omega) (by omega)) ?_
        refine Ev.bind (mtext_ev (by omega) (by omega)) ?_
        exact hnext
  have := key l.length 0 l (by omega) rfl (fun j hj => absurd hj (Nat.not_lt_zero _))
  simpa using this
noncomputable def markShape_ (k0 : Int) (i : Nat) : S68 := (⟨k0 + 2 * (i : Int), k0 + 2 * (i : Int) + 1⟩ : S68)
theorem markShapeS_ev (l : List S68) (k0 : Int) (h0 : 0 ≤ k0) (hk : k0 + 2 * (l.length : Int) ≤ 4611686018427387000) : Ev (fun k => laws_markShapeS.f k l k0) (k0 + 2 * (l.length : Int), (List.range l.length).map (markShape_ k0)) := by
  unfold laws_markShapeS.f
  have key : ∀ d (i : Nat) (x0 : List S68), i + d = l.length → x0.length = l.length → (∀ j, j < i → x0[j]? = some (markShape_ k0 j)) → Ev (fun k => laws_markShapeS.l0 k x0 (k0 + 2 * (i : Int)) (i : Int)) (k0 + 2 * (l.length : Int), (List.range l.length).map (markShape_ k0)) := by
    intro d
    induction d with
    | zero =>
      intro i x0 h hl hx
      obtain rfl : i = l.length := by omega
      refine Ev.step (f := fun _ => some (k0 + 2 * (l.length : Int), x0)) (fun k => ?_) (evVal (Ev.now _) ?_)
      · simp only [laws_markShapeS.l0]
        rw [if_neg (by omega)]
      · congr 1
        apply List.ext_getElem?
        intro j
        by_cases hj : j < l.length
        · rw [hx j hj]; simp [hj]
        · rw [List.getElem?_eq_none (by omega), List.getElem?_eq_none (by simp; omega)]
    | succ d ih =>
      intro i x0 h hl hx
      have hi : i < x0.length := by omega
      have e1 : k0 + 2 * ((i + 1 : Nat) : Int) = k0 + 2 * (i : Int) + 1 + 1 := by omega
      have hnext := ih (i + 1) (x0.set i (markShape_ k0 i)) (by omega) (by simpa using hl) (fun j hj => by
        by_cases e : j = i
        · subst e; rw [List.getElem?_set_self (by omega)]
        · rw [List.getElem?_set_ne (by omega)]; exact hx j (by omega))
      rw [e1] at hnext

      refine Ev.step (fun k => ?_) hnext
      simp only [laws_markShapeS.l0, Int.toNat_natCast, List.set_set, rd_T68, getD_set_self _ _ _ hi, Option.bind_some]
      rw [if_pos (by omega), if_pos (by omega), wrap_id (x := k0 + 2 * (i : Int) + 1) (by omega) (by omega), wrap_id (x := k0 + 2 * (i : Int) + 1 + 1) (by omega) (by omega), wrap_nat_succ (by omega)]
      rfl
  have := key l.length 0 l (by omega) rfl (fun j hj => absurd hj (Nat.not_lt_zero _))
  simpa using this
theorem heldShapeS_ev (n : Nat) (k0 : Int) (h0 : 0 ≤ k0) (hk : k0 + 2 * (n : Int) ≤ 4611686018427387000) : Ev (fun k => laws_heldShapeS.f k ((List.range n).map (markShape_ k0)) k0) (k0 + 2 * (n : Int)) := by
  unfold laws_heldShapeS.f
  have hl : ((List.range n).map (markShape_ k0)).length = n := by simp
  refine evVal (r := k0 + 2 * (n : Int)) ?_ rfl
  have e0 : k0 = k0 + 2 * ((0 : Nat) : Int) := by omega
  have := loop_ev n (fun k s i => laws_heldShapeS.l0 k ((List.range n).map (markShape_ k0)) s i) (fun i => k0 + 2 * (i : Int)) (k0 + 2 * (n : Int)) ?_ ?_
  · simpa using this
  · intro i hi hr
    have e1 : k0 + 2 * ((i + 1 : Nat) : Int) = k0 + 2 * (i : Int) + 1 + 1 := by omega
    have hg : ((List.range n).map (markShape_ k0)).getD i z68 = markShape_ k0 i := by simp [List.getD, hi]
    rw [e1] at hr

    refine Ev.step (fun k => ?_) hr
    simp only [laws_heldShapeS.l0, rd_T68, Int.toNat_natCast, hg, markShape_]
    rw [if_pos (by omega), if_pos (by omega), wrap_id (x := k0 + 2 * (i : Int) + 1) (by omega) (by omega), wrap_id (x := k0 + 2 * (i : Int) + 1 + 1) (by omega) (by omega), wrap_nat_succ (by omega)]
    simp

  · refine Ev.step (f := fun _ => some _) (fun k => ?_) (Ev.now _)
    simp only [laws_heldShapeS.l0, hl]
    rw [if_neg (by omega)]
end Go.Proofs.Ytpkmhdeimedhgaa.L
