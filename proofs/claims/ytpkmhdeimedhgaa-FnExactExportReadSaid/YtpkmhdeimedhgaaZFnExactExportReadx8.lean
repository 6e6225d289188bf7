/- Part of the proof of the law FnExactExportRead: what it uses of the texts that this session and the kit's print wrote. -/
import Derived.Test.YtpkmhdeimedhgaaZFnExactExportReadx2
import Derived.Test.YtpkmhdeimedhgaaZFnExactExportReadx4
import Derived.Test.YtpkmhdeimedhgaaZFnExactExportReadx6
import Derived.Test.YtpkmhdeimedhgaaZFnExactExportReadx7
namespace Go.Proofs.Ytpkmhdeimedhgaa.L
open Go.RowKit Go.Proofs.Ytpkmhdeimedhgaa.QB Go.Proofs.YtpkmhdeimedhgaaW.PrintWords Go.Proofs.YtpkmhdeimedhgaaW.PrintLast Go.Proofs.YtpkmhdeimedhgaaW.PrintMore
set_option linter.unusedVariables false
set_option linter.unusedSimpArgs false
theorem getD_set_self {α : Type} (l : List α) {i : Nat} (z a : α) (h : i < l.length) : (l.set i a).getD i z = a := by simp [List.getD, h]
theorem markText_ex (n : Int) (h0 : 0 ≤ n) (hn : n ≤ 4611686018427387904) : ∃ s, Ev (fun k => laws_markText.f k n) s := by
  have key : ∀ d : Nat, ∀ x : Int, 0 ≤ x → x ≤ 4611686018427387904 → x.toNat ≤ d → ∀ t : ByteArray, t.size + d ≤ 4611686018427387910 → ∃ s, Ev (fun k => laws_markText.l0 k x t) s := by
    intro d
    induction d using Nat.strongRecOn with
    | _ d ih =>
      intro x h0 hx hd t ht
      by_cases h : x > 0
      · have hdiv : Int.tdiv x 10 = x / 10 := Int.tdiv_eq_ediv_of_nonneg h0
        have hs : ∀ c : Int, (strOfNums [c]).size = 1 := fun c => by simp [strOfNums, ByteArray.size]
        obtain ⟨s, hs'⟩ := ih (x / 10).toNat (by omega) (x / 10) (by omega) (by omega) (Nat.le_refl _) (strOfNums [(wrap64 (48 + (Int.tmod x 10))) % 256] ++ t) (by rw [ByteArray.size_append, hs]; omega)
        refine ⟨s, Ev.step (fun k => ?_) hs'⟩
        simp only [laws_markText.l0]
        rw [if_pos h, Option.bind_some, hs, if_pos (by omega), hdiv, wrap_id (x := x / 10) (by omega) (by omega)]
      · refine ⟨_, Ev.step (f := fun _ => some ((⟨#[109]⟩ : ByteArray) ++ t)) (fun k => ?_) (Ev.now _)⟩
        simp only [laws_markText.l0]
        rw [if_neg h, if_pos (by omega)]
  unfold laws_markText.f
  by_cases h : n ≤ 0
  · simp only [if_pos h]; exact ⟨_, Ev.now _⟩
  · simp only [if_neg h]; exact key n.toNat n h0 hn (Nat.le_refl _) _ (by simp [ByteArray.size]; omega)
noncomputable def mtext (n : Int) : ByteArray := Classical.epsilon (fun s => Ev (fun k => laws_markText.f k n) s)
theorem mtext_ev {n : Int} (h0 : 0 ≤ n) (hn : n ≤ 4611686018427387904) : Ev (fun k => laws_markText.f k n) (mtext n) := Classical.epsilon_spec (markText_ex n h0 hn)
theorem eqByteS_ev (l : List Int) (h : l.length ≤ 9223372036854775807) : Ev (fun k => laws_eqByteS.f k l l) true := by
  unfold laws_eqByteS.f
  simp only [if_true]
  refine loop_ev l.length (fun k (_ : Unit) i => laws_eqByteS.l0 k l l i) (fun _ => ()) true ?_ ?_
  · intro i hi hr
    refine Ev.step (fun k => ?_) hr
    simp only [laws_eqByteS.l0, if_true, Option.bind_some]
    rw [if_pos (by omega), if_pos (by omega), if_pos (by omega), wrap_nat_succ (by omega)]
  · refine Ev.step (f := fun _ => some true) (fun k => ?_) (Ev.now _)
    simp only [laws_eqByteS.l0]
    rw [if_neg (by omega)]
theorem eqEntryS_ev (l : List S85) (h : l.length ≤ 9223372036854775807) : Ev (fun k => laws_eqEntryS.f k l l) true := by
  unfold laws_eqEntryS.f
  simp only [if_true]
  refine loop_ev l.length (fun k (_ : Unit) i => laws_eqEntryS.l0 k l l i) (fun _ => ()) true ?_ ?_
  · intro i hi hr
    refine Ev.step (fun k => ?_) hr
    simp only [laws_eqEntryS.l0, laws_eqEntry.f, if_true, Option.bind_some]
    rw [if_pos (by omega), if_pos (by omega), if_pos (by omega), wrap_nat_succ (by omega)]
  · refine Ev.step (f := fun _ => some true) (fun k => ?_) (Ev.now _)
    simp only [laws_eqEntryS.l0]
    rw [if_neg (by omega)]
def toByte_ (x : Int) : Int := x
theorem map_toByte_ (l : List Int) : l.map toByte_ = l := by unfold toByte_; simp
theorem toByteS_ev (l : List Int) (h : l.length ≤ 1048576) : Ev (fun k => laws_toByteS.f k l) (l.map toByte_) := by
  unfold laws_toByteS.f
  simp only [Int.natCast_nonneg, if_true, Int.toNat_natCast, show l.length ≤ 281474976710656 by omega]
  rw [← map_range l (0 : Int) toByte_]
  refine fill_ev l.length (0 : Int) (fun k x3 i => laws_toByteS.l0 k l x3 i) (fun i => toByte_ (l.getD i (0 : Int))) ?_ ?_
  · intro i x3 hi hl r hr
    refine Ev.step (fun k => ?_) hr
    simp only [laws_toByteS.l0, Option.bind_some]
    rw [if_pos (by omega), if_pos (by omega), if_pos (by omega), wrap_nat_succ (by omega)]
    rfl
  · intro x3 hl
    refine Ev.step (f := fun _ => some x3) (fun k => ?_) (Ev.now _)
    simp only [laws_toByteS.l0]
    rw [if_neg (by omega)]
noncomputable def markByte_ (k0 : Int) (i : Nat) : Int := (k0 + 1 * (i : Int)) % 256
theorem markByteS_ev (l : List Int) (k0 : Int) (h0 : 0 ≤ k0) (hk : k0 + 1 * (l.length : Int) ≤ 4611686018427387000) : Ev (fun k => laws_markByteS.f k l k0) (k0 + 1 * (l.length : Int), (List.range l.length).map (markByte_ k0)) := by
  unfold laws_markByteS.f
  have key : ∀ d (i : Nat) (x0 : List Int), i + d = l.length → x0.length = l.length → (∀ j, j < i → x0[j]? = some (markByte_ k0 j)) → Ev (fun k => laws_markByteS.l0 k x0 (k0 + 1 * (i : Int)) (i : Int)) (k0 + 1 * (l.length : Int), (List.range l.length).map (markByte_ k0)) := by
    intro d
    induction d with
    | zero =>
      intro i x0 h hl hx
      obtain rfl : i = l.length := by omega
      refine Ev.step (f := fun _ => some (k0 + 1 * (l.length : Int), x0)) (fun k => ?_) (evVal (Ev.now _) ?_)
      · simp only [laws_markByteS.l0]
        rw [if_neg (by omega)]
      · congr 1
        apply List.ext_getElem?
        intro j
        by_cases hj : j < l.length
        · rw [hx j hj]; simp [hj]
        · rw [List.getElem?_eq_none (by omega), List.getElem?_eq_none (by simp; omega)]
    | succ d ih =>
      intro i x0 h hl hx
      have hi : i < x0.length := by omega
      have e1 : k0 + 1 * ((i + 1 : Nat) : Int) = k0 + 1 * (i : Int) + 1 := by omega
      have hnext := ih (i + 1) (x0.set i (markByte_ k0 i)) (by omega) (by simpa using hl) (fun j hj => by
        by_cases e : j = i
        · subst e; rw [List.getElem?_set_self (by omega)]
        · rw [List.getElem?_set_ne (by omega)]; exact hx j (by omega))
      rw [e1] at hnext

      refine Ev.step (fun k => ?_) hnext
      simp only [laws_markByteS.l0, Int.toNat_natCast, List.set_set, rd, getD_set_self _ _ _ hi, Option.bind_some]
      rw [if_pos (by omega), if_pos (by omega), wrap_id (x := k0 + 1 * (i : Int) + 1) (by omega) (by omega), wrap_nat_succ (by omega)]
      rfl
  have := key l.length 0 l (by omega) rfl (fun j hj => absurd hj (Nat.not_lt_zero _))
  simpa using this
noncomputable def markEntry_ (k0 : Int) (i : Nat) : S85 := (⟨mtext (k0 + 2 * (i : Int)), k0 + 2 * (i : Int) + 1⟩ : S85)
theorem markEntryS_ev (l : List S85) (k0 : Int) (h0 : 0 ≤ k0) (hk : k0 + 2 * (l.length : Int) ≤ 4611686018427387000) : Ev (fun k => laws_markEntryS.f k l k0) (k0 + 2 * (l.length : Int), (List.range l.length).map (markEntry_ k0)) := by
  unfold laws_markEntryS.f
  have key : ∀ d (i : Nat) (x0 : List S85), i + d = l.length → x0.length = l.length → (∀ j, j < i → x0[j]? = some (markEntry_ k0 j)) → Ev (fun k => laws_markEntryS.l0 k x0 (k0 + 2 * (i : Int)) (i : Int)) (k0 + 2 * (l.length : Int), (List.range l.length).map (markEntry_ k0)) := by
    intro d
    induction d with
    | zero =>
      intro i x0 h hl hx
      obtain rfl : i = l.length := by omega
      refine Ev.step (f := fun _ => some (k0 + 2 * (l.length : Int), x0)) (fun k => ?_) (evVal (Ev.now _) ?_)
      · simp only [laws_markEntryS.l0]
        rw [if_neg (by omega)]
      · congr 1
        apply List.ext_getElem?
        intro j
        by_cases hj : j < l.length
        · rw [hx j hj]; simp [hj]
        · rw [List.getElem?_eq_none (by omega), List.getElem?_eq_none (by simp; omega)]
    | succ d ih =>
      intro i x0 h hl hx
      have hi : i < x0.length := by omega
      have e1 : k0 + 2 * ((i + 1 : Nat) : Int) = k0 + 2 * (i : Int) + 1 + 1 := by omega
      have hnext := ih (i + 1) (x0.set i (markEntry_ k0 i)) (by omega) (by simpa using hl) (fun j hj => by
        by_cases e : j = i
        · subst e; rw [List.getElem?_set_self (by omega)]
        · rw [List.getElem?_set_ne (by omega)]; exact hx j (by omega))
      rw [e1] at hnext

      refine Ev.step (f := fun k => (laws_markText.f k (k0 + 2 * (i : Int))).bind fun s0 => laws_markEntryS.l0 k (x0.set i (⟨s0, k0 + 2 * (i : Int) + 1⟩ : S85)) (k0 + 2 * (i : Int) + 1 + 1) ((i + 1 : Nat) : Int)) (fun k => ?_) ?_
      · simp only [laws_markEntryS.l0, Int.toNat_natCast, List.set_set, rd_T85, getD_set_self _ _ _ hi, Option.bind_some, if_pos (show (i : Int) < (x0.length : Int) by omega), if_pos (show (0 : Int) ≤ (i : Int) by omega), wrap_id (x := k0 + 2 * (i : Int) + 1) (by omega) (by omega), wrap_id (x := k0 + 2 * (i : Int) + 1 + 1) (by omega) (by omega), wrap_nat_succ (show i < 9223372036854775807 by omega)]
        all_goals (try rfl)
      · skip
        refine Ev.bind (mtext_ev (by omega) (by omega)) ?_
        exact hnext
  have := key l.length 0 l (by omega) rfl (fun j hj => absurd hj (Nat.not_lt_zero _))
  simpa using this
theorem heldEntryS_ev (n : Nat) (k0 : Int) (h0 : 0 ≤ k0) (hk : k0 + 2 * (n : Int) ≤ 4611686018427387000) : Ev (fun k => laws_heldEntryS.f k ((List.range n).map (markEntry_ k0)) k0) (k0 + 2 * (n : Int)) := by
  unfold laws_heldEntryS.f
  have hl : ((List.range n).map (markEntry_ k0)).length = n := by simp
  refine evVal (r := k0 + 2 * (n : Int)) ?_ rfl
  have e0 : k0 = k0 + 2 * ((0 : Nat) : Int) := by omega
  have := loop_ev n (fun k s i => laws_heldEntryS.l0 k ((List.range n).map (markEntry_ k0)) s i) (fun i => k0 + 2 * (i : Int)) (k0 + 2 * (n : Int)) ?_ ?_
  · simpa using this
  · intro i hi hr
    have e1 : k0 + 2 * ((i + 1 : Nat) : Int) = k0 + 2 * (i : Int) + 1 + 1 := by omega
    have hg : ((List.range n).map (markEntry_ k0)).getD i z85 = markEntry_ k0 i := by simp [List.getD, hi]
    rw [e1] at hr

    refine Ev.step (f := fun k => (laws_markText.f k (k0 + 2 * (i : Int))).bind fun s0 => if (mtext (k0 + 2 * (i : Int))).toList = s0.toList then (laws_heldEntryS.l0 k ((List.range n).map (markEntry_ k0)) (k0 + 2 * (i : Int) + 1 + 1) ((i + 1 : Nat) : Int)) else some (-1)) (fun k => ?_) ?_
    · simp only [laws_heldEntryS.l0, rd_T85, Int.toNat_natCast, hg, markEntry_, hl, if_pos (show (i : Int) < (n : Int) by omega), if_pos (show (0 : Int) ≤ (i : Int) by omega), wrap_id (x := k0 + 2 * (i : Int) + 1) (by omega) (by omega), wrap_id (x := k0 + 2 * (i : Int) + 1 + 1) (by omega) (by omega), wrap_nat_succ (show i < 9223372036854775807 by omega)]
      simp
    · skip
      refine Ev.bind (mtext_ev (by omega) (by omega)) ?_
      simp only [if_true]
      simpa using hr

  · refine Ev.step (f := fun _ => some _) (fun k => ?_) (Ev.now _)
    simp only [laws_heldEntryS.l0, hl]
    rw [if_neg (by omega)]
end Go.Proofs.Ytpkmhdeimedhgaa.L
namespace Go.Proofs.Ytpkmhdeimedhgaa.Pure
open Go.RowKit Go.Proofs.Ytpkmhdeimedhgaa.QB Go.Proofs.YtpkmhdeimedhgaaW.PrintWords Go.Proofs.YtpkmhdeimedhgaaW.PrintLast Go.Proofs.Ytpkmhdeimedhgaa.L
set_option linter.unusedVariables false
set_option linter.unusedSimpArgs false
theorem inK_byte {z : Int} (h : Open.InK .u8 z) : 0 ≤ z ∧ z ≤ 255 := by
  have h' : (Lit.int .u8 z).wf = true := h
  have e1 : IntKind.u8.min = 0 := by decide
  have e2 : IntKind.u8.max = 255 := by decide
  simp only [Lit.wf, e1, e2, Bool.and_eq_true, decide_eq_true_eq] at h'
  exact h'
theorem FnExactExportRead : laws_FnExactExportRead.Pure := by
  rintro d ⟨hl, hx⟩
  apply Ev.rounds
  unfold laws_FnExactExportRead.f
  by_cases hb : (d.length : Int) > 1048576
  · simp only [if_pos hb]; exact Ev.now _
  simp only [if_neg hb]
  have hd : d.length ≤ 1048576 := by omega
  have hby : Byt d := fun x hm => inK_byte (hx x hm)
  have t0 := toByteS_ev d hd
  rw [map_toByte_] at t0
  have i0 := implRead_ev d hby hd
  refine Ev.bind t0 (Ev.bind (specRead_ev d hby hd) (Ev.bind t0 (Ev.bind i0 ?_)))
  have hr := readR_ok d
  generalize readR d = R at hr i0
  obtain ⟨r, ok⟩ := R
  simp only at hr
  have es := eqEntryS_ev r (by omega)
  have ms := markEntryS_ev r 1 (by omega) (by omega)
  have hh := heldEntryS_ev r.length 1 (by omega) (by omega)
  have eo : (ok != ok) = false := by cases ok <;> rfl
  refine Ev.bind es ?_
  simp only [if_true, eo]
  refine Ev.step (fun k => rfl) ?_
  simp only [laws_FnExactExportRead.j0, Bool.false_eq_true, if_false]
  refine Ev.bind t0 (Ev.bind (eqByteS_ev d (by omega)) ?_)
  simp only [if_true]
  refine Ev.bind (markByteS_ev d 1 (by omega) (by omega)) ?_
  simp only [if_neg (show ¬ ((1 : Int) + 1 * (d.length : Int) < 0) by omega)]
  refine Ev.bind es ?_
  simp only [if_true, eo]
  refine Ev.step (fun k => rfl) ?_
  simp only [laws_FnExactExportRead.j1, Bool.false_eq_true, if_false]
  refine Ev.bind ms (Ev.bind hh ?_)
  simp only [if_neg (show ¬ ((1 : Int) + 2 * (r.length : Int) < 0) by omega), if_true]
  refine Ev.bind t0 (Ev.bind i0 (Ev.bind es ?_))
  simp only [if_true, eo]
  refine Ev.step (fun k => rfl) ?_
  simp only [laws_FnExactExportRead.j2, Bool.false_eq_true, if_false]
  refine Ev.bind hh ?_
  simp only [if_neg (show ¬ ((1 : Int) + 2 * (r.length : Int) < 0) by omega), if_true]
  exact Ev.now _
end Go.Proofs.Ytpkmhdeimedhgaa.Pure
