/- Part of the proof of the law FnExactExportOf: what it uses of the texts that this session and the kit's print wrote. -/
import Derived.Test.YtpkmhdeimedhgaaZFnExactExportOfx2
import Derived.Test.YtpkmhdeimedhgaaZFnExactExportOfx3
import Derived.Test.YtpkmhdeimedhgaaZFnExactExportOfx5
import Derived.Test.YtpkmhdeimedhgaaZFnExactExportOfx6
namespace Go.Proofs.Ytpkmhdeimedhgaa.L
open Go.RowKit Go.Proofs.Ytpkmhdeimedhgaa.QB Go.Proofs.YtpkmhdeimedhgaaW.PrintWords Go.Proofs.YtpkmhdeimedhgaaW.PrintLast Go.Proofs.YtpkmhdeimedhgaaW.PrintMore
set_option linter.unusedVariables false
set_option linter.unusedSimpArgs false
theorem szEntry_eq (x : S83) (left : Int) (h0 : 0 ≤ left) (hl : left ≤ 1048576) (h1 : x.f0.size ≤ 9223372036854775807) :
    ∃ r : Int, laws_szEntry.f x.f0 x.f1 left = some r ∧ (r = -1 ∨ (0 ≤ r ∧ r ≤ left ∧ (x.f0.size : Int) ≤ left)) := by
  unfold laws_szEntry.f
  rw [wrap_id (x := left - (x.f0.size : Int)) (by omega) (by omega)]
  by_cases h : left - (x.f0.size : Int) < 0
  · rw [if_pos h]; exact ⟨_, rfl, .inl rfl⟩
  · rw [if_neg h]; exact ⟨_, rfl, .inr ⟨by omega, by omega, by omega⟩⟩
theorem szEntryS_ev (l : List S83) (left : Int) (h0 : 0 ≤ left) (hl : left ≤ 1048576) (hn : l.length ≤ 9223372036854775807) (hx : ∀ x, x ∈ l → x.f0.size ≤ 9223372036854775807) :
    ∃ r : Int, Ev (fun k => laws_szEntryS.f k l left) r ∧ (r = -1 ∨ (0 ≤ r ∧ r ≤ left ∧ (l.length : Int) ≤ left ∧ ∀ x, x ∈ l → (x.f0.size : Int) ≤ left)) := by
  unfold laws_szEntryS.f
  rw [wrap_id (x := left - (l.length : Int)) (by omega) (by omega)]
  by_cases h : left - (l.length : Int) < 0
  · simp only [if_pos h]; exact ⟨_, Ev.now _, .inl rfl⟩
  simp only [if_neg h]
  have key : ∀ d i (left' : Int), i + d = l.length → 0 ≤ left' → left' ≤ left → ∃ r : Int, Ev (fun k => laws_szEntryS.l0 k l left' (i : Int)) r ∧ (r = -1 ∨ (0 ≤ r ∧ r ≤ left' ∧ ∀ j, i ≤ j → ∀ x, l[j]? = some x → (x.f0.size : Int) ≤ left')) := by
    intro d
    induction d with
    | zero =>
      intro i left' hi h1 h2
      refine ⟨left', Ev.step (f := fun _ => some left') (fun k => ?_) (Ev.now _), .inr ⟨h1, Int.le_refl _, fun j hj x hx => ?_⟩⟩
      · simp only [laws_szEntryS.l0]; rw [if_neg (by omega)]
      · rw [List.getElem?_eq_none (by omega)] at hx; cases hx
    | succ d ih =>
      intro i left' hi h1 h2
      have hlt : i < l.length := by omega
      have hmem : l.getD i z83 ∈ l := by rw [getD_lt _ hlt]; exact List.getElem_mem _
      obtain ⟨r1, e1, c1⟩ := szEntry_eq (l.getD i z83) left' h1 (by omega) (hx _ hmem)
      rcases c1 with rfl | ⟨c1, c2, c3⟩
      · refine ⟨-1, Ev.step (f := fun _ => some (-1)) (fun k => ?_) (Ev.now _), .inl rfl⟩
        simp only [laws_szEntryS.l0, rd_T83, Int.toNat_natCast, e1, Option.bind_some]
        rw [if_pos (by omega), if_pos (by omega), if_pos (by omega)]
      · obtain ⟨r, hr, hc⟩ := ih (i + 1) r1 (by omega) c1 (by omega)
        refine ⟨r, Ev.step (fun k => ?_) hr, ?_⟩
        · simp only [laws_szEntryS.l0, rd_T83, Int.toNat_natCast, e1, Option.bind_some]
          rw [if_pos (by omega), if_pos (by omega), if_neg (by omega), wrap_nat_succ (by omega)]
        · rcases hc with rfl | ⟨b0, b1, b2⟩
          · exact .inl rfl
          · refine .inr ⟨b0, by omega, fun j hj x hx => ?_⟩
            by_cases e : j = i
            · subst e
              rw [List.getElem?_eq_getElem hlt] at hx
              injection hx with hx
              rw [getD_lt _ hlt, hx] at c3
              exact c3
            · have := b2 j (by omega) x hx
              omega
  obtain ⟨r, hr, hc⟩ := key l.length 0 (left - (l.length : Int)) (by omega) (by omega) (by omega)
  refine ⟨r, hr, ?_⟩
  rcases hc with rfl | ⟨b0, b1, b2⟩
  · exact .inl rfl
  · refine .inr ⟨b0, by omega, by omega, fun x hx => ?_⟩
    obtain ⟨j, hj, rfl⟩ := List.getElem_of_mem hx
    have := b2 j (Nat.zero_le _) _ (List.getElem?_eq_getElem hj)
    omega
end Go.Proofs.Ytpkmhdeimedhgaa.L
namespace Go.Proofs.Ytpkmhdeimedhgaa.L
open Go.RowKit Go.Proofs.Ytpkmhdeimedhgaa.QB Go.Proofs.YtpkmhdeimedhgaaW.PrintWords Go.Proofs.YtpkmhdeimedhgaaW.PrintLast Go.Proofs.YtpkmhdeimedhgaaW.PrintMore
set_option linter.unusedVariables false
set_option linter.unusedSimpArgs false
theorem getD_set_self {α : Type} (l : List α) {i : Nat} (z a : α) (h : i < l.length) : (l.set i a).getD i z = a := by simp [List.getD, h]
theorem markText_ex (n : Int) (h0 : 0 ≤ n) (hn : n ≤ 4611686018427387904) : ∃ s, Ev (fun k => laws_markText.f k n) s := by
  have key : ∀ d : Nat, ∀ x : Int, 0 ≤ x → x ≤ 4611686018427387904 → x.toNat ≤ d → ∀ t : ByteArray, t.size + d ≤ 4611686018427387910 → ∃ s, Ev (fun k => laws_markText.l0 k x t) s := by
    intro d
    induction d using Nat.strongRecOn with
    | _ d ih =>
      intro x h0 hx hd t ht
      by_cases h : x > 0
      · have hdiv : Int.tdiv x 10 = x / 10 := Int.tdiv_eq_ediv_of_nonneg h0
        have hs : ∀ c : Int, (strOfNums [c]).size = 1 := fun c => by simp [strOfNums, ByteArray.size]
        obtain ⟨s, hs'⟩ := ih (x / 10).toNat (by omega) (x / 10) (by omega) (by omega) (Nat.le_refl _) (strOfNums [(wrap64 (48 + (Int.tmod x 10))) % 256] ++ t) (by rw [ByteArray.size_append, hs]; omega)
        refine ⟨s, Ev.step (fun k => ?_) hs'⟩
        simp only [laws_markText.l0]
        rw [if_pos h, Option.bind_some, hs, if_pos (by omega), hdiv, wrap_id (x := x / 10) (by omega) (by omega)]
      · refine ⟨_, Ev.step (f := fun _ => some ((⟨#[109]⟩ : ByteArray) ++ t)) (fun k => ?_) (Ev.now _)⟩
        simp only [laws_markText.l0]
        rw [if_neg h, if_pos (by omega)]
  unfold laws_markText.f
  by_cases h : n ≤ 0
  · simp only [if_pos h]; exact ⟨_, Ev.now _⟩
  · simp only [if_neg h]; exact key n.toNat n h0 hn (Nat.le_refl _) _ (by simp [ByteArray.size]; omega)
noncomputable def mtext (n : Int) : ByteArray := Classical.epsilon (fun s => Ev (fun k => laws_markText.f k n) s)
theorem mtext_ev {n : Int} (h0 : 0 ≤ n) (hn : n ≤ 4611686018427387904) : Ev (fun k => laws_markText.f k n) (mtext n) := Classical.epsilon_spec (markText_ex n h0 hn)
theorem eqByteS_ev (l : List Int) (h : l.length ≤ 9223372036854775807) : Ev (fun k => laws_eqByteS.f k l l) true := by
  unfold laws_eqByteS.f
  simp only [if_true]
  refine loop_ev l.length (fun k (_ : Unit) i => laws_eqByteS.l0 k l l i) (fun _ => ()) true ?_ ?_
  · intro i hi hr
    refine Ev.step (fun k => ?_) hr
    simp only [laws_eqByteS.l0, if_true, Option.bind_some]
    rw [if_pos (by omega), if_pos (by omega), if_pos (by omega), wrap_nat_succ (by omega)]
  · refine Ev.step (f := fun _ => some true) (fun k => ?_) (Ev.now _)
    simp only [laws_eqByteS.l0]
    rw [if_neg (by omega)]
theorem eqEntryS_ev (l : List S85) (h : l.length ≤ 9223372036854775807) : Ev (fun k => laws_eqEntryS.f k l l) true := by
  unfold laws_eqEntryS.f
  simp only [if_true]
  refine loop_ev l.length (fun k (_ : Unit) i => laws_eqEntryS.l0 k l l i) (fun _ => ()) true ?_ ?_
  · intro i hi hr
    refine Ev.step (fun k => ?_) hr
    simp only [laws_eqEntryS.l0, laws_eqEntry.f, if_true, Option.bind_some]
    rw [if_pos (by omega), if_pos (by omega), if_pos (by omega), wrap_nat_succ (by omega)]
  · refine Ev.step (f := fun _ => some true) (fun k => ?_) (Ev.now _)
    simp only [laws_eqEntryS.l0]
    rw [if_neg (by omega)]
def toEntry_ (x : S83) : S85 := (⟨x.f0, x.f1⟩ : S85)
theorem toEntryS_ev (l : List S83) (h : l.length ≤ 1048576) : Ev (fun k => laws_toEntryS.f k l) (l.map toEntry_) := by
  unfold laws_toEntryS.f
  simp only [Int.natCast_nonneg, if_true, Int.toNat_natCast, show l.length ≤ 11728124029610 by omega]
  rw [← map_range l z83 toEntry_]
  refine fill_ev l.length z85 (fun k x3 i => laws_toEntryS.l0 k l x3 i) (fun i => toEntry_ (l.getD i z83)) ?_ ?_
  · intro i x3 hi hl r hr
    refine Ev.step (fun k => ?_) hr
    simp only [laws_toEntryS.l0, laws_toEntry.f, Option.bind_some]
    rw [if_pos (by omega), if_pos (by omega), if_pos (by omega), wrap_nat_succ (by omega)]
    rfl
  · intro x3 hl
    refine Ev.step (f := fun _ => some x3) (fun k => ?_) (Ev.now _)
    simp only [laws_toEntryS.l0]
    rw [if_neg (by omega)]
noncomputable def markByte_ (k0 : Int) (i : Nat) : Int := (k0 + 1 * (i : Int)) % 256
theorem markByteS_ev (l : List Int) (k0 : Int) (h0 : 0 ≤ k0) (hk : k0 + 1 * (l.length : Int) ≤ 4611686018427387000) : Ev (fun k => laws_markByteS.f k l k0) (k0 + 1 * (l.length : Int), (List.range l.length).map (markByte_ k0)) := by
  unfold laws_markByteS.f
  have key : ∀ d (i : Nat) (x0 : List Int), i + d = l.length → x0.length = l.length → (∀ j, j < i → x0[j]? = some (markByte_ k0 j)) → Ev (fun k => laws_markByteS.l0 k x0 (k0 + 1 * (i : Int)) (i : Int)) (k0 + 1 * (l.length : Int), (List.range l.length).map (markByte_ k0)) := by
    intro d
    induction d with
    | zero =>
      intro i x0 h hl hx
      obtain rfl : i = l.length := by omega
      refine Ev.step (f := fun _ => some (k0 + 1 * (l.length : Int), x0)) (fun k => ?_) (evVal (Ev.now _) ?_)
      · simp only [laws_markByteS.l0]
        rw [if_neg (by omega)]
      · congr 1
        apply List.ext_getElem?
        intro j
        by_cases hj : j < l.length
        · rw [hx j hj]; simp [hj]
        · rw [List.getElem?_eq_none (by omega), List.getElem?_eq_none (by simp; omega)]
    | succ d ih =>
      intro i x0 h hl hx
      have hi : i < x0.length := by omega
      have e1 : k0 + 1 * ((i + 1 : Nat) : Int) = k0 + 1 * (i : Int) + 1 := by omega
      have hnext := ih (i + 1) (x0.set i (markByte_ k0 i)) (by omega) (by simpa using hl) (fun j hj => by
        by_cases e : j = i
        · subst e; rw [List.getElem?_set_self (by omega)]
        · rw [List.getElem?_set_ne (by omega)]; exact hx j (by omega))
      rw [e1] at hnext

      refine Ev.step (fun k => ?_) hnext
      simp only [laws_markByteS.l0, Int.toNat_natCast, List.set_set, rd, getD_set_self _ _ _ hi, Option.bind_some]
      rw [if_pos (by omega), if_pos (by omega), wrap_id (x := k0 + 1 * (i : Int) + 1) (by omega) (by omega), wrap_nat_succ (by omega)]
      rfl
  have := key l.length 0 l (by omega) rfl (fun j hj => absurd hj (Nat.not_lt_zero _))
  simpa using this
theorem heldByteS_ev (n : Nat) (k0 : Int) (h0 : 0 ≤ k0) (hk : k0 + 1 * (n : Int) ≤ 4611686018427387000) : Ev (fun k => laws_heldByteS.f k ((List.range n).map (markByte_ k0)) k0) (k0 + 1 * (n : Int)) := by
  unfold laws_heldByteS.f
  have hl : ((List.range n).map (markByte_ k0)).length = n := by simp
  refine evVal (r := k0 + 1 * (n : Int)) ?_ rfl
  have e0 : k0 = k0 + 1 * ((0 : Nat) : Int) := by omega
  have := loop_ev n (fun k s i => laws_heldByteS.l0 k ((List.range n).map (markByte_ k0)) s i) (fun i => k0 + 1 * (i : Int)) (k0 + 1 * (n : Int)) ?_ ?_
  · simpa using this
  · intro i hi hr
    have e1 : k0 + 1 * ((i + 1 : Nat) : Int) = k0 + 1 * (i : Int) + 1 := by omega
    have hg : ((List.range n).map (markByte_ k0)).getD i (0 : Int) = markByte_ k0 i := by simp [List.getD, hi]
    rw [e1] at hr

    refine Ev.step (fun k => ?_) hr
    simp only [laws_heldByteS.l0, rd, Int.toNat_natCast, hg, markByte_]
    rw [if_pos (by omega), if_pos (by omega), wrap_id (x := k0 + 1 * (i : Int) + 1) (by omega) (by omega), wrap_nat_succ (by omega)]
    simp

  · refine Ev.step (f := fun _ => some _) (fun k => ?_) (Ev.now _)
    simp only [laws_heldByteS.l0, hl]
    rw [if_neg (by omega)]
noncomputable def markEntry_ (k0 : Int) (i : Nat) : S85 := (⟨mtext (k0 + 2 * (i : Int)), k0 + 2 * (i : Int) + 1⟩ : S85)
theorem markEntryS_ev (l : List S85) (k0 : Int) (h0 : 0 ≤ k0) (hk : k0 + 2 * (l.length : Int) ≤ 4611686018427387000) : Ev (fun k => laws_markEntryS.f k l k0) (k0 + 2 * (l.length : Int), (List.range l.length).map (markEntry_ k0)) := by
  unfold laws_markEntryS.f
  have key : ∀ d (i : Nat) (x0 : List S85), i + d = l.length → x0.length = l.length → (∀ j, j < i → x0[j]? = some (markEntry_ k0 j)) → Ev (fun k => laws_markEntryS.l0 k x0 (k0 + 2 * (i : Int)) (i : Int)) (k0 + 2 * (l.length : Int), (List.range l.length).map (markEntry_ k0)) := by
    intro d
    induction d with
    | zero =>
      intro i x0 h hl hx
      obtain rfl : i = l.length := by omega
      refine Ev.step (f := fun _ => some (k0 + 2 * (l.length : Int), x0)) (fun k => ?_) (evVal (Ev.now _) ?_)
      · simp only [laws_markEntryS.l0]
        rw [if_neg (by omega)]
      · congr 1
        apply List.ext_getElem?
        intro j
        by_cases hj : j < l.length
        · rw [hx j hj]; simp [hj]
        · rw [List.getElem?_eq_none (by omega), List.getElem?_eq_none (by simp; omega)]
    | succ d ih =>
      intro i x0 h hl hx
      have hi : i < x0.length := by omega
      have e1 : k0 + 2 * ((i + 1 : Nat) : Int) = k0 + 2 * (i : Int) + 1 + 1 := by omega
      have hnext := ih (i + 1) (x0.set i (markEntry_ k0 i)) (by omega) (by simpa using hl) (fun j hj => by
        by_cases e : j = i
        · subst e; rw [List.getElem?_set_self (by omega)]
        · rw [List.getElem?_set_ne (by omega)]; exact hx j (by omega))
      rw [e1] at hnext

      refine Ev.step (f := fun k => (laws_markText.f k (k0 + 2 * (i : Int))).bind fun s0 => laws_markEntryS.l0 k (x0.set i (⟨s0, k0 + 2 * (i : Int) + 1⟩ : S85)) (k0 + 2 * (i : Int) + 1 + 1) ((i + 1 : Nat) : Int)) (fun k => ?_) ?_
      · simp only [laws_markEntryS.l0, Int.toNat_natCast, List.set_set, rd_T85, getD_set_self _ _ _ hi, Option.bind_some, if_pos (show (i : Int) < (x0.length : Int) by omega), if_pos (show (0 : Int) ≤ (i : Int) by omega), wrap_id (x := k0 + 2 * (i : Int) + 1) (by omega) (by omega), wrap_id (x := k0 + 2 * (i : Int) + 1 + 1) (by omega) (by omega), wrap_nat_succ (show i < 9223372036854775807 by omega)]
        all_goals (try rfl)
      · skip
        refine Ev.bind (mtext_ev (by omega) (by omega)) ?_
        exact hnext
  have := key l.length 0 l (by omega) rfl (fun j hj => absurd hj (Nat.not_lt_zero _))
  simpa using this
end Go.Proofs.Ytpkmhdeimedhgaa.L
namespace Go.Proofs.Ytpkmhdeimedhgaa.Pure
open Go.RowKit Go.Proofs.Ytpkmhdeimedhgaa.QB Go.Proofs.YtpkmhdeimedhgaaW.PrintWords Go.Proofs.YtpkmhdeimedhgaaW.PrintLast Go.Proofs.Ytpkmhdeimedhgaa.L
set_option linter.unusedVariables false
set_option linter.unusedSimpArgs false
theorem FnExactExportOf : laws_FnExactExportOf.Pure := by
  rintro l n ⟨hl, hx⟩ hn
  apply Ev.rounds
  unfold laws_FnExactExportOf.f
  obtain ⟨r0, e0, c0⟩ := szEntryS_ev l 1048576 (by omega) (by omega) hl (fun x hm => (hx x hm).1)
  refine Ev.bind e0 ?_
  rcases c0 with rfl | ⟨c0, c1, c2, c3⟩
  · simp only [show ((-1 : Int) < 0) by omega, if_true]; exact Ev.now _
  simp only [if_neg (show ¬ r0 < 0 by omega)]
  have t0 := toEntryS_ev l (by omega)
  have q0 := eqEntryS_ev (l.map toEntry_) (by simpa using hl)
  have hm : (l.map toEntry_).length ≤ 1048576 := by simp; omega
  have hs : ∀ x, x ∈ l.map toEntry_ → x.f0.size ≤ 1048576 := by
    intro x hx'
    obtain ⟨y, hy, rfl⟩ := List.mem_map.1 hx'
    have := c3 y hy
    unfold toEntry_
    simp only
    omega
  have i0 := implExportOf_ev (l.map toEntry_) n (by omega) hs
  refine Ev.bind t0 (Ev.bind (specExportOf_ev _ n (by omega) hs) (Ev.bind t0 (Ev.bind i0 ?_)))
  have hr := exportR_length (l.map toEntry_) n
  generalize exportR (l.map toEntry_) n = R at hr i0
  have es := eqByteS_ev R (by omega)
  have ms := markByteS_ev R 1 (by omega) (by omega)
  have hh := heldByteS_ev R.length 1 (by omega) (by omega)
  refine Ev.bind es ?_
  simp only [if_true]
  refine Ev.bind t0 (Ev.bind q0 ?_)
  simp only [if_true]
  refine Ev.bind (markEntryS_ev (l.map toEntry_) 1 (by omega) (by omega)) ?_
  simp only [if_neg (show ¬ ((1 : Int) + 2 * ((l.map toEntry_).length : Int) < 0) by omega)]
  refine Ev.bind es ?_
  simp only [Bool.not_true]
  refine Ev.step (fun k => rfl) ?_
  simp only [laws_FnExactExportOf.j0, Bool.false_eq_true, if_false]
  refine Ev.bind ms (Ev.bind hh ?_)
  simp only [if_neg (show ¬ ((1 : Int) + 1 * (R.length : Int) < 0) by omega), if_true]
  refine Ev.bind t0 (Ev.bind i0 (Ev.bind es ?_))
  simp only [if_true]
  refine Ev.bind hh ?_
  simp only [if_neg (show ¬ ((1 : Int) + 1 * (R.length : Int) < 0) by omega), if_true]
  exact Ev.now _
end Go.Proofs.Ytpkmhdeimedhgaa.Pure
