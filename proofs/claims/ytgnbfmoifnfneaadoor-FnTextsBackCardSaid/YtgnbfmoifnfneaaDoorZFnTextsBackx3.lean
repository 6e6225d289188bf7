/- Part of the proof of the law FnTextsBack: what it uses of the texts that this session and the kit's print wrote. -/
import Derived.Test.YtgnbfmoifnfneaaDoorZFnTextsBackx2
import Derived.Orders
namespace Go.Proofs.YtgnbfmoifnfneaaDoor.V
open Go
set_option linter.unusedVariables false
set_option linter.unusedSimpArgs false
theorem nodupB_spec : ∀ {l : List Nat}, nodupB l = true → l.Nodup
 | [], _ => List.nodup_nil
 | n :: l, h => by
  simp only [nodupB, Bool.and_eq_true, Bool.not_eq_true'] at h
  refine List.nodup_cons.2 ⟨fun hm => ?_, nodupB_spec h.2⟩
  (have := h.1); (rw [List.any_eq_false] at this)
  exact this n hm (by simp)
theorem disjB_spec : ∀ {l m : List Nat}, disjB l m = true → ∀ n, n ∈ l → n ∉ m
 | x :: l, m, h, n, hn => by
  simp only [disjB, Bool.and_eq_true, Bool.not_eq_true'] at h
  rcases List.mem_cons.1 hn with rfl | hn
  ·intro hm
   (have := h.1); (rw [List.any_eq_false] at this)
   exact this n hm (by simp)
  ·exact disjB_spec h.2 n hn
theorem flat_uniq {α : Type} (f : α → List Nat) : ∀ {l : List α}, (l.flatMap f).Nodup → ∀ {p q : Nat} (hp : p < l.length) (hq : q < l.length) {x : Nat}, x ∈ f l[p] → x ∈ f l[q] → p = q
 | [], _, p, _, hp, _, _, _, _ => absurd hp (Nat.not_lt_zero p)
 | a :: l, h, p, q, hp, hq, x, h1, h2 => by
  rw [List.flatMap_cons, List.nodup_append] at h
  cases p with
  | zero =>
   cases q with
   | zero => rfl
   | succ q => exact absurd rfl (h.2.2 x (by simpa using h1) x (List.mem_flatMap.2 ⟨l[q]'(by simpa using hq), List.getElem_mem _, by simpa using h2⟩))
  | succ p =>
   cases q with
   | zero => exact absurd rfl (h.2.2 x (by simpa using h2) x (List.mem_flatMap.2 ⟨l[p]'(by simpa using hp), List.getElem_mem _, by simpa using h1⟩))
   | succ q => exact congrArg (· + 1) (flat_uniq f h.2.1 (by simpa using hp) (by simpa using hq) (by simpa using h1) (by simpa using h2))
section
variable {P : Program} {L : Lay} {E : Ent} {st : St L.D} {V : Vl} {a : Act} {w : World}
theorem movs_uniq : ∀ {cs cs' : List (SV L.D)} {g : List Nat}, movsOf L st cs = some (cs', g) → g.Nodup → ∀ {j j' i : Nat} {s s' : SV L.D} {gj gj' : List Nat}, j < cs.length → j' < cs.length → movOf L st (cs.getD j .dead) = some (s, gj) → movOf L st (cs.getD j' .dead) = some (s', gj') → i ∈ gj → i ∈ gj' → j = j'
 | [], cs', g, _, _, j, _, _, _, _, _, _, hj, _, _, _, _, _ => absurd hj (Nat.not_lt_zero j)
 | c :: l, cs', g, hs, hn, j, j', i, s, s', gj, gj', hj, hj', h1, h2, hi, hi' => by
  simp only [movsOf] at hs
  split at hs
  ·rename_i x ga r gb e1 e2
   (obtain ⟨rfl, rfl⟩ := Prod.mk.inj (Option.some.inj hs)); (rw [List.nodup_append] at hn)
   have inB : ∀ {q s gq}, q < l.length → movOf L st (l.getD q .dead) = some (s, gq) → ∀ i ∈ gq, i ∈ gb := fun {q s gq} hq he i hi => by
    (obtain ⟨_, hm⟩ := (movs_len e2 q hq)); (obtain ⟨hm1, hm2⟩ := hm); (rw [he] at hm1)
    exact hm2 i ((Prod.mk.inj (Option.some.inj hm1)).2 ▸ hi)
   cases j with
   | zero =>
    cases j' with
    | zero => rfl
    | succ j' =>
     (simp only [List.getD_cons_zero, List.getD_cons_succ] at h1 h2); (rw [e1] at h1); (obtain ⟨rfl, rfl⟩ := Prod.mk.inj (Option.some.inj h1))
     exact absurd rfl (hn.2.2 i hi i (inB (by simpa using hj') h2 i hi'))
   | succ j =>
    cases j' with
    | zero =>
     (simp only [List.getD_cons_zero, List.getD_cons_succ] at h1 h2); (rw [e1] at h2); (obtain ⟨rfl, rfl⟩ := Prod.mk.inj (Option.some.inj h2))
     exact absurd rfl (hn.2.2 i hi' i (inB (by simpa using hj) h1 i hi))
    | succ j' =>
     simp only [List.getD_cons_succ] at h1 h2
     exact congrArg (· + 1) (movs_uniq e2 hn.2.1 (by simpa using hj) (by simpa using hj') h1 h2 hi hi')
  ·cases hs
where
 movs_len {cs cs' : List (SV L.D)} {g : List Nat} (hs : movsOf L st cs = some (cs', g)) (j : Nat) (hj : j < cs.length) : ∃ gj, movOf L st (cs.getD j .dead) = some (cs'.getD j .dead, gj) ∧ ∀ i ∈ gj, i ∈ g := by
  induction cs generalizing cs' g j with
  | nil => exact absurd hj (Nat.not_lt_zero j)
  | cons c l ih =>
   simp only [movsOf] at hs
   split at hs
   ·rename_i x ga r gb h1 h2
    obtain ⟨rfl, rfl⟩ := Prod.mk.inj (Option.some.inj hs)
    cases j with
    | zero => exact ⟨ga, by simpa using h1, fun i hi => List.mem_append_left _ hi⟩
    | succ j =>
     obtain ⟨gj, e, hg⟩ := ih h2 j (by simpa using hj)
     exact ⟨gj, by simpa using e, fun i hi => List.mem_append_right _ (hg i hi)⟩
   ·cases hs
def startS (p : Nat) : SV L.D → SV L.D
 | .pb _ => .ptr p 0
 | s => s
theorem startT_get : ∀ (p0 : Nat) (l : List (SV L.D)) (q : Nat), q < l.length → look (startT L p0 l) (p0 + q) = some (startS (p0 + q) (l.getD q .dead))
 | _, [], q, h => absurd h (Nat.not_lt_zero q)
 | p0, s :: l, 0, _ => by cases s <;> simp [startT, look, startS]
 | p0, s :: l, q + 1, h => by
  (have := startT_get (p0 + 1) l q (by simpa using h)); (have e : p0 + (q + 1) = p0 + 1 + q := by omega); (rw [e])
  cases s <;> (simp only [startT]; rw [look_cons, if_neg (by omega)]; simpa using this)
theorem startT_none : ∀ (p0 : Nat) (l : List (SV L.D)) (n : Nat), (n < p0 ∨ p0 + l.length ≤ n) → look (startT L p0 l) n = none
 | _, [], _, _ => rfl
 | p0, s :: l, n, h => by
  have := startT_none (p0 + 1) l n (by simp at h; omega)
  cases s <;> (simp only [startT]; rw [look_cons, if_neg (by simp at h; omega)]; exact this)
theorem startB_box : ∀ (p0 : Nat) (l : List (SV L.D)) (b : Nat) (o : Option (List (SV L.D))), look (startB L p0 l).1 b = some o → ∃ q cs, q < l.length ∧ b = p0 + q ∧ l.getD q .dead = .pb cs ∧ o = some (take_ L (700000 + 1000 * b) 0 cs).1
 | _, [], _, _, h => by cases h
 | p0, s :: l, b, o, h => by
  have key : look (startB L (p0 + 1) l).1 b = some o → ∃ q cs, q < (s :: l).length ∧ b = p0 + q ∧ (s :: l).getD q .dead = .pb cs ∧ o = some (take_ L (700000 + 1000 * b) 0 cs).1 := fun h => by
   obtain ⟨q, cs, h1, h2, h3, h4⟩ := startB_box (p0 + 1) l b o h
   exact ⟨q + 1, cs, by simpa using h1, by omega, by simpa using h3, h4⟩
  cases s with
  | pb cs =>
   (simp only [startB] at h); (rw [look_cons] at h)
   by_cases e : b = p0
   ·rw [if_pos e] at h
    exact ⟨0, cs, by simp, e, rfl, by rw [e]; exact (Option.some.inj h).symm⟩
   ·rw [if_neg e] at h; exact key h
  | _ => exact key h
theorem startB_row : ∀ (p0 : Nat) (l : List (SV L.D)) (m : Nat) (o : Option (Row L.D)), look (startB L p0 l).2 m = some o → ∃ q cs j t xs, q < l.length ∧ l.getD q .dead = .pb cs ∧ j < cs.length ∧ m = 700000 + 1000 * (p0 + q) + (0 + j) ∧ cs.getD j .dead = .fr t xs ∧ o = some ⟨t, false, xs⟩
 | _, [], _, _, h => by cases h
 | p0, s :: l, m, o, h => by
  have key : look (startB L (p0 + 1) l).2 m = some o → ∃ q cs j t xs, q < (s :: l).length ∧ (s :: l).getD q .dead = .pb cs ∧ j < cs.length ∧ m = 700000 + 1000 * (p0 + q) + (0 + j) ∧ cs.getD j .dead = .fr t xs ∧ o = some ⟨t, false, xs⟩ := fun h => by
   obtain ⟨q, cs, j, t, xs, h1, h2, h3, h4, h5⟩ := startB_row (p0 + 1) l m o h
   exact ⟨q + 1, cs, j, t, xs, by simpa using h1, by simpa using h2, h3, by omega, h5⟩
  cases s with
  | pb cs =>
   (simp only [startB] at h); (rw [look_append] at h)
   cases hl : look (take_ L (700000 + 1000 * p0) 0 cs).2 m with
   | some o' =>
    (rw [hl] at h); (obtain ⟨j, t, xs, h1, h2, h3, h4⟩ := take_look _ _ _ _ _ hl)
    exact ⟨0, cs, j, t, xs, by simp, rfl, h1, h2, h3, by rw [← Option.some.inj h]; exact h4⟩
   | none => rw [hl] at h; exact key h
  | _ => exact key h
theorem startB_imps : ∀ (p0 : Nat) {gs : List (Arg L)}, (∀ p (hp : p < gs.length), ((∀ cs, gs[p].sv ≠ .pb cs) ∧ gs[p].lent = []) ∨ ∃ cs l, gs[p].sv = .pb cs ∧ gs[p].lent = [l]) → (startB L p0 (gs.map (·.sv))).1.length = (lentOf L gs).length ∧
  ∀ q (hq : q < (startB L p0 (gs.map (·.sv))).1.length), ∃ p l, p < gs.length ∧ (startB L p0 (gs.map (·.sv))).1[q].1 = p0 + p ∧ (lentOf L gs)[q]? = some l ∧ (∃ hp : p < gs.length, gs[p].lent = [l])
 | _, [], _ => ⟨rfl, fun q hq => absurd hq (Nat.not_lt_zero q)⟩
 | p0, g :: gs, h => by
  obtain ⟨hl, hj⟩ := startB_imps (p0 + 1) (gs := gs) fun p hp => by
   have := h (p + 1) (by simpa using hp)
   simpa only [List.getElem_cons_succ] using this
  rcases h 0 (by simp) with ⟨h1, h2⟩ | ⟨cs, l, h1, h2⟩
  ·simp only [List.getElem_cons_zero] at h1 h2
   have e1 : startB L p0 ((g :: gs).map (·.sv)) = startB L (p0 + 1) (gs.map (·.sv)) := by
    simp only [List.map_cons]
    generalize g.sv = s at h1
    cases s <;> first | rfl | exact absurd rfl (h1 _)
   (have e2 : lentOf L (g :: gs) = lentOf L gs := by simp [lentOf, h2]); (rw [e1, e2])
   refine ⟨hl, fun q hq => ?_⟩
   obtain ⟨p, l, a1, a2, a3, a4, a5⟩ := hj q hq
   exact ⟨p + 1, l, by simpa using a1, by omega, a3, by simpa using a4, by simpa using a5⟩
  ·simp only [List.getElem_cons_zero] at h1 h2
   have e1 : startB L p0 ((g :: gs).map (·.sv)) = ((p0, some (take_ L (700000 + 1000 * p0) 0 cs).1) :: (startB L (p0 + 1) (gs.map (·.sv))).1, (take_ L (700000 + 1000 * p0) 0 cs).2 ++ (startB L (p0 + 1) (gs.map (·.sv))).2) := by
    simp only [List.map_cons, h1, startB]
   (have e2 : lentOf L (g :: gs) = l :: lentOf L gs := by simp [lentOf, h2]); (rw [e2]); (simp only [e1])
   refine ⟨by simp [hl], fun q hq => ?_⟩
   cases q with
   | zero => exact ⟨0, l, by simp, rfl, rfl, by simp, h2⟩
   | succ q =>
    obtain ⟨p, l', a1, a2, a3, a4, a5⟩ := hj q (by simpa using hq)
    exact ⟨p + 1, l', by simpa using a1, by simpa using (by omega : _ = p0 + (p + 1)), by simpa using a3, by simpa using a4, by simpa using a5⟩
def startV (w : World) (vals : List Value) : Vl where
 ba p := match vals.getD p undef with | .pointer (some x) => x.block | _ => 0
 bo p := match vals.getD p undef with | .pointer (some x) => x.off | _ => 0
 rv m := (w.cell? ⟨match vals.getD ((m - 700000) / 1000) undef with | .pointer (some x) => x.block | _ => 0, (match vals.getD ((m - 700000) / 1000) undef with | .pointer (some x) => x.off | _ => 0) + (m - 700000) % 1000, none⟩).getD undef
def ShownB (L : Lay) (V : Vl) (gs : List (Arg L)) (k : Nat) : Prop := (∃ j r, (j, r) ∈ shownOf L gs ∧ r.fz = false ∧ (V.rv j).ownBlock = some k) ∨ ∃ b ∈ captOf L gs, V.ba b = k
def ImpB (L : Lay) (V : Vl) (gs : List (Arg L)) (k : Nat) : Prop := (∃ l ∈ lentOf L gs, V.ba l.1 = k) ∨ ∃ j ∈ goneOf L gs, (V.rv j).ownBlock = some k
def callE (L : Lay) (E : Ent) (st : St L.D) (V : Vl) (w : World) (gs : List (Arg L)) (n : Nat) : Ent where
 nt := n
 w0 := w
 F0 k := Fz E st V w k ∨ ShownB L V gs k
 Imp := ImpB L V gs
 adr := (lentOf L gs).map fun l => (V.ba l.1, V.bo l.1 + l.2.1)
structure Lends (L : Lay) (E : Ent) (st : St L.D) (V : Vl) (w : World) (gs : List (Arg L)) (vals : List Value) : Prop where
 len : gs.length = vals.length
 arg : ∀ p (hp : p < gs.length), ArgOk L E st V w gs[p] (vals.getD p undef)
 boxes : ((lentOf L gs).map (·.1)).Nodup
 gone : (goneOf L gs).Nodup
 apart : ∀ j, j ∈ (shownOf L gs).map (·.1) → j ∉ goneOf L gs
 capt : ∀ b, b ∈ captOf L gs → b ∉ (lentOf L gs).map (·.1)
section
variable {gs : List (Arg L)} {vals : List Value}
theorem Lends.shown (H : Lends L E st V w gs vals) {j : Nat} {r : Row L.D} (h : (j, r) ∈ shownOf L gs) : st.row j = some r := by
 (obtain ⟨g, hg, hm⟩ := List.mem_flatMap.1 h); (obtain ⟨p, hp, rfl⟩ := List.getElem_of_mem hg)
 exact (H.arg p hp).shown j r hm
theorem Lends.captB (H : Lends L E st V w gs vals) {b : Nat} (h : b ∈ captOf L gs) : ∃ cs, st.box b = some cs := by
 (obtain ⟨g, hg, hm⟩ := List.mem_flatMap.1 h); (obtain ⟨p, hp, rfl⟩ := List.getElem_of_mem hg)
 exact (H.arg p hp).capt b hm
theorem Lends.lent (H : Lends L E st V w gs vals) {l : Nat × Nat × Nat × List (SV L.D)} (h : l ∈ lentOf L gs) : st.box l.1 = some l.2.2.2 ∧ l.2.1 + l.2.2.1 ≤ l.2.2.2.length := by
 (obtain ⟨g, hg, hm⟩ := List.mem_flatMap.1 h); (obtain ⟨p, hp, rfl⟩ := List.getElem_of_mem hg)
 cases (H.arg p hp).is with
 | flat _ hl => rw [hl] at hm; cases hm
 | lent b off n cs cs' _ hl hb hn =>
  (rw [hl] at hm); (obtain rfl := List.mem_singleton.1 hm)
  exact ⟨hb, hn⟩
theorem Lends.fr (h : Rel L E st V a w) (H : Lends L E st V w gs vals) {p : Nat} (hp : p < gs.length) {cs : List (SV L.D)} (hs : gs[p].sv = .pb cs) : ∃ (b off n : Nat) (ds : List (SV L.D)), gs[p].lent = [(b, off, n, ds)] ∧ st.box b = some ds ∧ off + n ≤ ds.length ∧ n ≤ 900 ∧ cs.length = n ∧ vals.getD p undef = .pointer (some ⟨V.ba b, V.bo b + off, none⟩) ∧
  ∃ xs T, w.heap[V.ba b]? = some (.cells xs T (0, 0)) ∧ V.bo b + ds.length ≤ xs.size ∧ ∀ j, j < n → ∃ u gj, xs[V.bo b + off + j]? = some u ∧ u.oneCell' = true ∧ movOf L st (ds.getD (off + j) .dead) = some (cs.getD j .dead, gj) ∧ (∀ i ∈ gj, i ∈ gs[p].gone) ∧ SR L w (Fz E st V w) st V a.tmps (ds.getD (off + j) .dead) u := by
 cases (H.arg p hp).is with
 | flat np => exact absurd hs (np cs)
 | lent b off n ds cs' hs' hl hb hn h9 hm hv =>
  (obtain rfl : cs' = cs := by rw [hs'] at hs; injection hs); (obtain ⟨ml, mj⟩ := movs_ok h hm); (have hdl : ((ds.drop off).take n).length = n := by simp; omega); (obtain ⟨xs, T, hh, hx, hc⟩ := h.box b ds hb)
  refine ⟨b, off, n, ds, hl, hb, hn, h9, by omega, hv, xs, T, hh, hx, fun j hj => ?_⟩
  (obtain ⟨gj, e1, e2⟩ := mj j (by omega)); (obtain ⟨u, hu, h1, hr⟩ := hc (off + j) (by omega))
  have e : ((ds.drop off).take n).getD j .dead = ds.getD (off + j) .dead := by
   simp only [List.getD_eq_getElem?_getD, List.getElem?_take, if_pos hj, List.getElem?_drop]
  rw [e] at e1
  exact ⟨u, gj, by rw [Nat.add_assoc]; exact hu, h1, e1, e2, hr⟩
theorem Lends.impOw (h : Rel L E st V a w) (H : Lends L E st V w gs vals) {k : Nat} (hk : ImpB L V gs k) (hg : ∀ j ∈ goneOf L gs, ∃ r, st.row j = some r ∧ r.fz = false) : Ow st V k := by
 rcases hk with ⟨l, hl, e⟩ | ⟨j, hj, e⟩
 ·exact .inl ⟨l.1, _, (H.lent hl).1, e⟩
 ·obtain ⟨r, hr, hf⟩ := hg j hj
  exact .inr ⟨j, r, hr, hf, e⟩
end
end
end Go.Proofs.YtgnbfmoifnfneaaDoor.V
namespace Go.Proofs.YtgnbfmoifnfneaaDoor.V
open Go
set_option linter.unusedVariables false
set_option linter.unusedSimpArgs false
section
variable {P : Program} {L : Lay} {E : Ent} {st : St L.D} {V : Vl} {a : Act} {w : World}
theorem mov_row {s s' : SV L.D} {g : List Nat} (hs : movOf L st s = some (s', g)) {j : Nat} (hj : j ∈ g) : ∃ r, s = .own j ∧ st.row j = some r ∧ r.fz = false ∧ s' = .fr r.t r.xs := by
 unfold movOf at hs
 split at hs
 ·obtain ⟨rfl, rfl⟩ := Prod.mk.inj (Option.some.inj hs); cases hj
 ·obtain ⟨rfl, rfl⟩ := Prod.mk.inj (Option.some.inj hs); cases hj
 ·obtain ⟨rfl, rfl⟩ := Prod.mk.inj (Option.some.inj hs); cases hj
 ·split at hs
  ·rename_i r hr
   split at hs
   ·rename_i hf
    (obtain ⟨rfl, rfl⟩ := Prod.mk.inj (Option.some.inj hs)); (obtain rfl := List.mem_singleton.1 hj)
    exact ⟨r, rfl, hr, hf, rfl⟩
   ·obtain ⟨rfl, rfl⟩ := Prod.mk.inj (Option.some.inj hs); cases hj
  ·cases hs
 ·cases hs
theorem movs_from : ∀ {cs cs' : List (SV L.D)} {g : List Nat}, movsOf L st cs = some (cs', g) → ∀ i ∈ g, ∃ r, st.row i = some r ∧ r.fz = false
 | [], cs', g, hs, i, hi => by
  obtain ⟨rfl, rfl⟩ := Prod.mk.inj (Option.some.inj hs); cases hi
 | c :: l, cs', g, hs, i, hi => by
  simp only [movsOf] at hs
  split at hs
  ·rename_i x ga r gb h1 h2
   obtain ⟨rfl, rfl⟩ := Prod.mk.inj (Option.some.inj hs)
   rcases List.mem_append.1 hi with hi | hi
   ·obtain ⟨r, _, h3, h4, _⟩ := mov_row h1 hi
    exact ⟨r, h3, h4⟩
   ·exact movs_from h2 i hi
  ·cases hs
theorem flat_nodup {α : Type} (f : α → List Nat) : ∀ {l : List α}, (l.flatMap f).Nodup → ∀ {p : Nat} (hp : p < l.length), (f l[p]).Nodup
 | [], _, p, hp => absurd hp (Nat.not_lt_zero p)
 | a :: l, h, p, hp => by
  rw [List.flatMap_cons, List.nodup_append] at h
  cases p with
  | zero => exact h.1
  | succ p => exact flat_nodup f h.2.1 (by simpa using hp)
theorem startB_get : ∀ (p0 : Nat) (l : List (SV L.D)) (q : Nat) (cs : List (SV L.D)), q < l.length → l.getD q .dead = .pb cs → look (startB L p0 l).1 (p0 + q) = some (some (take_ L (700000 + 1000 * (p0 + q)) 0 cs).1)
 | _, [], q, _, h, _ => absurd h (Nat.not_lt_zero q)
 | p0, s :: l, 0, cs, _, h => by
  (simp only [List.getD_cons_zero] at h); (subst h); (simp only [startB, Nat.add_zero]); (rw [look_cons, if_pos rfl])
 | p0, s :: l, q + 1, cs, hq, h => by
  (have := startB_get (p0 + 1) l q cs (by simpa using hq) (by simpa using h)); (have e : p0 + (q + 1) = p0 + 1 + q := by omega); (rw [e])
  cases s with
  | pb cs' =>
   (simp only [startB]); (rw [look_cons, if_neg (by omega)])
   exact this
  | _ => exact this
section
variable {gs : List (Arg L)} {vals : List Value}
theorem Lends.goneRow (H : Lends L E st V w gs vals) {j : Nat} (hj : j ∈ goneOf L gs) : ∃ r, st.row j = some r ∧ r.fz = false := by
 (obtain ⟨g, hg, hm⟩ := List.mem_flatMap.1 hj); (obtain ⟨p, hp, rfl⟩ := List.getElem_of_mem hg)
 cases (H.arg p hp).is with
 | flat _ _ hg => rw [hg] at hm; cases hm
 | lent b off n ds cs' hs' hl hb hn h9 hmv hv => exact movs_from hmv j hm
theorem Lends.f_not_imp {n : Nat} (h : Rel L E st V a w) (H : Lends L E st V w gs vals) {k : Nat} (hF : (callE L E st V w gs n).F0 k) : ¬ ImpB L V gs k := by
 intro hI
 have ho := H.impOw h hI fun j hj => H.goneRow hj
 rcases hF with hF | hS
 ·exact h.fz_not hF ho
 ·rcases hS with ⟨j, r, hm, hf, e⟩ | ⟨b, hb, e⟩
  ·have hr := H.shown hm
   rcases hI with ⟨l, hl, e'⟩ | ⟨j', hj', e'⟩
   ·exact h.br l.1 _ j r (H.lent hl).1 hr hf (by rw [e, e'])
   ·obtain ⟨r', hr', hf'⟩ := H.goneRow hj'
    obtain rfl := h.rr j j' r r' k hr hr' hf hf' e e'
    exact H.apart j (List.mem_map.2 ⟨(j, r), hm, rfl⟩) hj'
  ·obtain ⟨cs, hcs⟩ := H.captB hb
   rcases hI with ⟨l, hl, e'⟩ | ⟨j', hj', e'⟩
   ·obtain rfl := h.bb b l.1 _ _ hcs (H.lent hl).1 (e.trans e'.symm)
    exact H.capt _ hb (List.mem_map.2 ⟨l, hl, rfl⟩)
   ·obtain ⟨r', hr', hf'⟩ := H.goneRow hj'
    exact h.br b cs j' r' hcs hr' hf' (by rw [e', e])
theorem Lends.f_lt {n : Nat} (h : Rel L E st V a w) (H : Lends L E st V w gs vals) {k : Nat} (hF : (callE L E st V w gs n).F0 k) : k < w.heap.size := by
 rcases hF with hF | ⟨j, r, hm, hf, e⟩ | ⟨b, hb, e⟩
 ·exact h.fz_lt hF
 ·exact h.row_lt (H.shown hm) hf e
 ·obtain ⟨cs, hcs⟩ := H.captB hb
  rw [← e]; exact h.box_lt hcs
theorem start_ok (h : Rel L E st V a w) (H : Lends L E st V w gs vals) : Rel L (callE L E st V w gs vals.length) (start L (gs.map (·.sv))) (startV w vals) ⟨vals.toArray, []⟩ w := by
 have svs : ∀ p (hp : p < gs.length), (gs.map (·.sv)).getD p .dead = gs[p].sv := fun p hp => by
  rw [getD_lt (by simpa using hp), List.getElem_map]
 -- a box
 have BX : ∀ b cs, (start L (gs.map (·.sv))).box b = some cs → ∃ (hp : b < gs.length) (ds : List (SV L.D)), gs[b].sv = .pb ds ∧ cs = (take_ L (700000 + 1000 * b) 0 ds).1 := fun b cs hb => by
  unfold St.box at hb
  split at hb
  ·rename_i o hl
   (obtain ⟨q, ds, h1, h2, h3, h4⟩ := startB_box 0 _ b o hl); (obtain rfl : b = q := by omega); (have hp : b < gs.length := by simpa using h1); (rw [svs b hp] at h3)
   exact ⟨hp, ds, h3, by rw [h4] at hb; exact (Option.some.inj hb).symm⟩
  ·cases hb
 -- a row
 have RW : ∀ m r, (start L (gs.map (·.sv))).row m = some r → ∃ (q j b off n : Nat) (D : List (SV L.D)) (u : Value), ∃ hq : q < gs.length, j < n ∧ r.fz = false ∧ gs[q].lent = [(b, off, n, D)] ∧ m = 700000 + 1000 * q + j ∧ (startV w vals).rv m = u ∧
   ((∃ j', j' ∈ gs[q].gone ∧ u = V.rv j' ∧ (∃ r', st.row j' = some r' ∧ r'.fz = false ∧ RowOk L w (Fz E st V w) u r.t r.xs) ∧ ∃ cs gj, movsOf L st ((D.drop off).take n) = some (cs, gs[q].gone) ∧ j < ((D.drop off).take n).length ∧ movOf L st (((D.drop off).take n).getD j .dead) = some (cs.getD j .dead, gj) ∧ j' ∈ gj) ∨ (u = .slice none 0 0 ∧ r.xs = [])) := fun m r hr => by
  unfold St.row at hr
  split at hr
  ·rename_i o hl
   (obtain ⟨q, cs, j, t, xs, h1, h2, h3, h4, h5, h6⟩ := startB_row 0 _ m o hl); (have hq : q < gs.length := by simpa using h1); (rw [svs q hq] at h2); (rw [h6] at hr); (obtain rfl := Option.some.inj hr); (obtain ⟨b, off, n, ds, e1, e2, e3, e4, e5, e6, xs', T, e7, e8, e9⟩ := H.fr h hq h2); (obtain ⟨u, gj, f1, f2, f3, f4, f5⟩ := e9 j (by omega)); (have hj9 : j < 1000 := by omega)
   have hrv : (startV w vals).rv m = u := by
    (have d1 : (m - 700000) / 1000 = q := by omega); (have d2 : (m - 700000) % 1000 = j := by omega); (simp only [startV, d1, d2, e6])
    simp [World.cell?, e7, f1]
   refine ⟨q, j, b, off, n, ds, u, hq, by omega, rfl, e1, by omega, hrv, ?_⟩
   (rw [h5] at f3); (obtain ⟨g1, g2⟩ := mov_ok h f3 f5)
   by_cases hg : gj = []
   ·rcases g2 hg with ⟨t', e, ev⟩ | ⟨hne, _⟩
    ·refine .inr ⟨ev, ?_⟩
     injection e with e0 e
     subst e0
     exact eq_of_heq e
    ·exact absurd rfl (hne t xs)
   ·obtain ⟨j', hj'⟩ := List.exists_mem_of_ne_nil _ hg
    obtain ⟨r', hr', hf', es, ev, _⟩ := g1 j' hj'
    refine .inl ⟨j', f4 j' hj', ev, ⟨r', hr', hf', ?_⟩, ?_⟩
    ·injection es with e0 es
     (subst e0); (obtain rfl := eq_of_heq es); (rw [ev])
     exact (h.row j' r' hr').2 hf'
    ·cases (H.arg q hq).is with
     | flat np => exact absurd h2 (np cs)
     | lent b' off' n' ds' cs' hs' hl' hb' hn' h9' hm' hv' =>
      (obtain rfl : cs' = cs := by rw [hs'] at h2; injection h2); (rw [e1] at hl'); (simp only [List.cons.injEq, Prod.mk.injEq, and_true] at hl'); (obtain ⟨rfl, rfl, rfl, rfl⟩ := hl')
      refine ⟨_, gj, hm', by simp; omega, ?_, hj'⟩
      have e : ((ds.drop off).take n).getD j .dead = ds.getD (off + j) .dead := by
       simp only [List.getD_eq_getElem?_getD, List.getElem?_take, if_pos (by omega : j < n), List.getElem?_drop]
      rw [e, h5]; exact f3
  ·cases hr
 have OB : ∀ b cs, (start L (gs.map (·.sv))).box b = some cs → ∃ l, l ∈ lentOf L gs ∧ (startV w vals).ba b = V.ba l.1 ∧ ∃ hp : b < gs.length, gs[b].lent.map (·.1) = [l.1] := fun b cs hb => by
  (obtain ⟨hp, ds, h1, h2⟩ := BX b cs hb); (obtain ⟨b', off, n, ds', e1, e2, e3, e4, e5, e6, _⟩ := H.fr h hp h1)
  exact ⟨(b', off, n, ds'), List.mem_flatMap.2 ⟨gs[b], List.getElem_mem _, by rw [e1]; exact List.mem_singleton.2 rfl⟩, by simp only [startV, e6], hp, by rw [e1]; rfl⟩
 have OR : ∀ m r k, (start L (gs.map (·.sv))).row m = some r → ((startV w vals).rv m).ownBlock = some k → ∃ j', j' ∈ goneOf L gs ∧ (V.rv j').ownBlock = some k := fun m r k hr hk => by
  (obtain ⟨q, j, b, off, n, D, u, hq, _, _, _, _, hu, hc⟩ := RW m r hr); (rw [hu] at hk)
  rcases hc with ⟨j', hj', rfl, _⟩ | ⟨rfl, _⟩
  ·exact ⟨j', List.mem_flatMap.2 ⟨gs[q], List.getElem_mem _, hj'⟩, hk⟩
  ·cases hk
 have OW : ∀ k, Ow (start L (gs.map (·.sv))) (startV w vals) k → ImpB L V gs k := fun k hk => by
  rcases hk with ⟨b, cs, hb, e⟩ | ⟨m, r, hr, _, e⟩
  ·obtain ⟨l, hl, e', _⟩ := OB b cs hb
   exact .inl ⟨l, hl, by rw [← e', e]⟩
  ·exact .inr (OR m r k hr e)
 have lentUniq : ∀ {p q b : Nat} (hp : p < gs.length) (hq : q < gs.length), gs[p].lent.map (·.1) = [b] → gs[q].lent.map (·.1) = [b] → p = q := fun {p q b} hp hq e1 e2 => by
  (have := H.boxes); (rw [show (lentOf L gs).map (·.1) = gs.flatMap fun g => g.lent.map (·.1) by simp [lentOf, List.map_flatMap]] at this)
  exact flat_uniq (fun g : Arg L => g.lent.map (·.1)) this hp hq (x := b) (by rw [e1]; exact List.mem_singleton.2 rfl) (by rw [e2]; exact List.mem_singleton.2 rfl)
 have boxUniq : ∀ {b b' : Nat} {cs cs' : List (SV L.D)}, (start L (gs.map (·.sv))).box b = some cs → (start L (gs.map (·.sv))).box b' = some cs' → (startV w vals).ba b = (startV w vals).ba b' → b = b' := fun {b b' cs cs'} hb hb' e => by
  (obtain ⟨l, hl, e1, hp, e2⟩ := OB _ _ hb); (obtain ⟨l', hl', e1', hp', e2'⟩ := OB _ _ hb'); (have : l.1 = l'.1 := h.bb _ _ _ _ (H.lent hl).1 (H.lent hl').1 (by rw [← e1, ← e1', e]))
  exact lentUniq hp hp' e2 (by rw [this]; exact e2')
 (have notOw : ∀ k, (callE L E st V w gs vals.length).F0 k → ¬ Ow (start L (gs.map (·.sv))) (startV w vals) k := fun k hk ho => H.f_not_imp h hk (OW k ho)); (have FF : ∀ k, Fz E st V w k → Fz (callE L E st V w gs vals.length) (start L (gs.map (·.sv))) (startV w vals) w k := fun k hk => .inl (.inl hk))
 have tmpP : ∀ q, q < gs.length → (start L (gs.map (·.sv))).tmp q = startS q ((gs.map (·.sv)).getD q .dead) := fun q hq => by
  (have := startT_get 0 (gs.map (·.sv)) q (by simpa using hq)); (rw [Nat.zero_add] at this)
  unfold St.tmp start
  simp only [this]; rfl
 have shape : ∀ p (hp : p < gs.length), ((∀ cs, gs[p].sv ≠ .pb cs) ∧ gs[p].lent = []) ∨ ∃ cs l, gs[p].sv = .pb cs ∧ gs[p].lent = [l] := fun p hp => by
  cases (H.arg p hp).is with
  | flat np hl => exact .inl ⟨np, hl⟩
  | lent b off n ds cs' hs' hl => exact .inr ⟨cs', _, hs', hl⟩
 refine ⟨fun n => ?_, fun b cs hb => ?_, fun m r hr => ?_, fun b b' cs cs' => boxUniq, fun b cs m r hb hr hf e => ?_, fun m m' r r' k hr hr' _ _ e e' => ?_, fun k hk => ⟨fun hF => notOw k hF hk, .inr (OW k hk)⟩, fun k hk => H.f_lt h hk, fun k hk => H.f_not_imp h hk, Nat.le_refl _, fun _ _ _ => rfl, rfl, rfl, rfl, rfl, by simp [callE], fun q hq => ?_, ?_⟩
 ·-- the slots
  by_cases hn : n < gs.length
  ·have ev : ({ tmps := vals.toArray, defers := [] } : Act).tmps.getD n undef = vals.getD n undef := by simp [List.getD_eq_getElem?_getD]
   rw [ev, tmpP n hn, svs n hn]
   cases (H.arg n hn).is with
   | flat np hl hg hf =>
    have e : startS n gs[n].sv = gs[n].sv := by
     generalize gs[n].sv = s at np
     cases s <;> first | rfl | exact absurd rfl (np _)
    rw [e]
    refine hf _ FF (fun j r k hm hf' e' => .inl (.inr (.inl ⟨j, r, List.mem_flatMap.2 ⟨gs[n], List.getElem_mem _, hm⟩, hf', e'⟩))) (fun b hb => .inl (.inr (.inr ⟨b, List.mem_flatMap.2 ⟨gs[n], List.getElem_mem _, hb⟩, rfl⟩))) _ _ _
   | lent b off m ds cs' hs' hl hb hm h9 hmv hv =>
    rw [hs']
    refine .ptr n 0 _ fun _ _ => ?_
    (rw [hv]); (simp only [startV, hv, Nat.add_zero])
  ·have : (start L (gs.map (·.sv))).tmp n = .dead := by
    have := startT_none 0 (gs.map (·.sv)) n (.inr (by simp; omega))
    unfold St.tmp start
    simp only [this]; rfl
   rw [this]; exact .dead _
 ·-- the boxes
  (obtain ⟨hp, ds, h1, h2⟩ := BX b cs hb); (obtain ⟨b', off, n, ds', e1, e2, e3, e4, e5, e6, xs, T, e7, e8, e9⟩ := H.fr h hp h1); (subst h2); (have hlen := take_len (L := L) (700000 + 1000 * b) 0 ds); (have hba : (startV w vals).ba b = V.ba b' := by simp only [startV, e6]); (have hbo : (startV w vals).bo b = V.bo b' + off := by simp only [startV, e6])
  refine ⟨xs, T, by rw [hba]; exact e7, by rw [hbo, hlen]; omega, fun j hj => ?_⟩
  (rw [hlen] at hj); (obtain ⟨u, gj, f1, f2, f3, f4, f5⟩ := e9 j (by omega))
  refine ⟨u, by rw [hbo]; exact f1, f2, ?_⟩
  (rw [take_get _ _ _ _ hj, Nat.zero_add]); (obtain ⟨g1, g2⟩ := mov_ok h f3 f5)
  have hown : ∀ t xs', ds.getD j .dead = .fr t xs' → SR L w (Fz (callE L E st V w gs vals.length) (start L (gs.map (·.sv))) (startV w vals) w) (start L (gs.map (·.sv))) (startV w vals) vals.toArray (.own (700000 + 1000 * b + j)) u := fun t xs' _ => .own _ u fun r hr => by
   (have d1 : (700000 + 1000 * b + j - 700000) / 1000 = b := by omega); (have d2 : (700000 + 1000 * b + j - 700000) % 1000 = j := by omega); (simp only [startV, d1, d2, e6])
   simp [World.cell?, e7, f1]
  by_cases hg : gj = []
  ·rcases g2 hg with ⟨t', e, ev⟩ | ⟨hne, hcr⟩
   ·rw [e]; exact hown _ _ e
   ·have e : takeS (700000 + 1000 * b) j (ds.getD j .dead) = ds.getD j .dead := by
     generalize ds.getD j .dead = s at hne
     cases s <;> first | rfl | exact absurd rfl (hne _ _)
    rw [e]
    exact .c (hcr.mono fun k hk => ⟨FF k hk, rfl⟩)
  ·obtain ⟨j', hj'⟩ := List.exists_mem_of_ne_nil _ hg
   (obtain ⟨r', hr', hf', es, ev, _⟩ := g1 j' hj'); (rw [es]; exact hown _ _ es)
 ·-- the rows
  obtain ⟨q, j, b, off, n, D, u, hq, hj, hf, _, _, hu, hc⟩ := RW m r hr
  refine ⟨(fun hf' => by rw [hf] at hf'; cases hf'), fun _ => ?_⟩
  rw [hu]
  rcases hc with ⟨j', _, _, ⟨r', _, _, hrow⟩, _⟩ | ⟨e, hx⟩
  ·exact hrow.mono (fun k hk => ⟨FF k hk, rfl⟩) fun _ _ => rfl
  ·rw [e, hx]
   exact ⟨[], ⟨by simp, .inl ⟨rfl, rfl⟩⟩, (fun u hu => by cases hu), fun i j hi => absurd hi (Nat.not_lt_zero i)⟩
 ·obtain ⟨l, hl, e1, _⟩ := OB b cs hb
  (obtain ⟨j', hj', e2⟩ := OR m r _ hr e); (obtain ⟨r', hr', hf'⟩ := H.goneRow hj')
  exact h.br l.1 _ j' r' (H.lent hl).1 hr' hf' (by rw [e2, e1])
 ·-- no two rows in one block
  (obtain ⟨q, j, b, off, n, D, u, hq, hj, _, hD, hm, hu, hc⟩ := RW m r hr); (obtain ⟨q2, j2, b2, off2, n2, D2, u2, hq2, hj2, _, hD2, hm2, hu2, hc2⟩ := RW m' r' hr'); (rw [hu] at e); (rw [hu2] at e')
  rcases hc with ⟨x, hx, hux, ⟨rx, hrx, hfx, _⟩, cs, gj, g1, g2, g3, g4⟩ | ⟨e0, _⟩
  ·rcases hc2 with ⟨x2, hx2, hux2, ⟨rx2, hrx2, hfx2, _⟩, cs2, gj2, k1, k2, k3, k4⟩ | ⟨e0, _⟩
   ·rw [hux] at e
    (rw [hux2] at e'); (obtain rfl := h.rr x x2 rx rx2 k hrx hrx2 hfx hfx2 e e'); (have hgn := H.gone); (obtain rfl := flat_uniq (fun g : Arg L => g.gone) hgn hq hq2 hx hx2); (rw [hD] at hD2); (simp only [List.cons.injEq, Prod.mk.injEq, and_true] at hD2); (obtain ⟨rfl, rfl, rfl, rfl⟩ := hD2); (have := movs_uniq g1 (flat_nodup (fun g : Arg L => g.gone) hgn hq) g2 k2 g3 k3 g4 k4)
    omega
   ·rw [e0] at e'; cases e'
  ·rw [e0] at e; cases e
 ·-- the lent boxes
  (have hq' : q < (startB L 0 (gs.map (·.sv))).1.length := by simpa [start] using hq); (obtain ⟨p, l, hp, e1, e2, _, e3⟩ := (startB_imps 0 shape).2 q hq')
  have e0 : (start L (gs.map (·.sv))).imps[q] = p := by
   (have : (start L (gs.map (·.sv))).imps[q] = (startB L 0 (gs.map (·.sv))).1[q].1 := by simp [start]); (rw [this, e1]; omega)
  cases (H.arg p hp).is with
  | flat np hl => rw [hl] at e3; cases e3
  | lent b off n ds cs' hs' hl hb hn h9 hm hv =>
   (rw [hl] at e3); (obtain rfl := (List.cons.inj e3).1); (have hbx := startB_get 0 (gs.map (·.sv)) p cs' (by simpa using hp) (by rw [svs p hp]; exact hs')); (rw [Nat.zero_add] at hbx)
   have hb2 : (start L (gs.map (·.sv))).box p = some (take_ L (700000 + 1000 * p) 0 cs').1 := by
    have hbx' : look (start L (gs.map (·.sv))).boxes p = some (some (take_ L (700000 + 1000 * p) 0 cs').1) := hbx
    unfold St.box
    rw [hbx']
   refine ⟨_, (V.ba b, V.bo b + off), by rw [e0]; exact hb2, by simp [callE, e2], ?_, ?_, fun _ _ => rfl⟩
   ·rw [e0]; simp only [startV, hv]
   ·rw [e0]; simp only [startV, hv]
 ·have := (startB_imps 0 shape).1
  simpa [start, callE] using this
end
end
end Go.Proofs.YtgnbfmoifnfneaaDoor.V
namespace Go.Proofs.YtgnbfmoifnfneaaDoor.V
open Go
set_option linter.unusedVariables false
set_option linter.unusedSimpArgs false
def packV : List (List Sh) → List Bool → List Value → List Value
 | [], _, _ => []
 | s :: l, a, vs => (match a with
   | true :: _ => .agg (vs.take s.length).toArray
   | _ => vs.headD undef) :: packV l a.tail (vs.drop s.length)
def valueV : List Value → Value
 | [x] => x
 | l => .tuple l.toArray
section
variable {D : TypeId → Type}
def IsFr (s : SV D) : Prop := ∃ t xs, s = .fr t xs
def OwnV (cs : List (SV D)) (vs : List Value) (c k : Nat) : Prop := c < cs.length ∧ IsFr (cs.getD c .dead) ∧ (vs.getD c undef).ownBlock = some k
def PF (E : Ent) (cs : List (SV D)) (vs : List Value) (w' : World) (k : Nat) : Prop := E.F0 k ∨ ((E.w0.heap.size ≤ k ∨ E.Imp k) ∧ k < w'.heap.size ∧ (∀ c, ¬ OwnV cs vs c k) ∧ ∀ p ∈ E.adr, p.1 ≠ k)
end
structure PostV (L : Lay) (E : Ent) (s : Sig) (cs : List (SV L.D)) (vs : List Value) (v : Value) (w' : World) : Prop where
 len : vs.length = cs.length
 val : v = valueV (packV s.res s.aggs vs)
 one : ∀ u ∈ vs, u.oneCell' = true
 fr : ∀ c t xs, c < cs.length → cs.getD c .dead = .fr t xs → RowOk L w' (PF E cs vs w') (vs.getD c undef) t xs
 ro : ∀ c, c < cs.length → ¬ IsFr (cs.getD c .dead) → CR L w' (PF E cs vs w') (cs.getD c .dead) (vs.getD c undef)
 apart : ∀ c c' k, OwnV cs vs c k → OwnV cs vs c' k → c = c'
 own : ∀ c k, OwnV cs vs c k → ¬ E.F0 k ∧ (E.w0.heap.size ≤ k ∨ E.Imp k) ∧ ∀ p ∈ E.adr, p.1 ≠ k
 fin : ∀ q p, E.adr[q]? = some p → ∃ xs T, w'.heap[p.1]? = some (.cells xs T (0, 0)) ∧ p.2 + (s.fin.getD q []).length ≤ xs.size ∧ ∀ j, j < (s.fin.getD q []).length → xs[p.2 + j]? = some (vs.getD (s.res.flatten.length + (s.fin.take q).flatten.length + j) undef)
 outer : ∀ q p, E.adr[q]? = some p → ∀ o, (o < p.2 ∨ p.2 + (s.fin.getD q []).length ≤ o) → w'.cell? ⟨p.1, o, none⟩ = E.w0.cell? ⟨p.1, o, none⟩
 size : E.w0.heap.size ≤ w'.heap.size
 kept : ∀ k, k < E.w0.heap.size → ¬ E.Imp k → w'.heap[k]? = E.w0.heap[k]?
 os : w'.os = E.w0.os
 tape : w'.tape = E.w0.tape
 output : w'.output = E.w0.output
structure PostM (L : Lay) (E : Ent) (s : Sig) (cs : List (SV L.D)) (vs : List Value) (v : Value) (w' : World) : Prop where
 len : vs.length = cs.length
 one : ∀ u ∈ vs, u.oneCell' = true
 ptr : ∃ (g o : Nat) (xs : Array Value) (T : TypeId), v = .pointer (some ⟨g, o, none⟩) ∧ (E.w0.heap.size ≤ g ∨ E.Imp g) ∧ w'.heap[g]? = some (.cells xs T (0, 0)) ∧ o + cs.length ≤ xs.size ∧ (∀ j, j < cs.length → xs[o + j]? = some (vs.getD j undef)) ∧
  ∀ c, c < cs.length → CR L w' (fun k => E.F0 k ∨ ((E.w0.heap.size ≤ k ∨ E.Imp k) ∧ k < w'.heap.size ∧ k ≠ g)) (cs.getD c .dead) (vs.getD c undef)
 size : E.w0.heap.size ≤ w'.heap.size
 kept : ∀ k, k < E.w0.heap.size → ¬ E.Imp k → w'.heap[k]? = E.w0.heap[k]?
 os : w'.os = E.w0.os
 tape : w'.tape = E.w0.tape
 output : w'.output = E.w0.output
def PostA (L : Lay) (E : Ent) (s : Sig) (cs : List (SV L.D)) (vs : List Value) (v : Value) (w' : World) : Prop := match s.new with
 | true => PostM L E s cs vs v w'
 | false => PostV L E s cs vs v w'
abbrev TabP := (Nat → Prop) → World → Prop
def TabKept (T : TabP) : Prop := ∀ F F' w w', T F w → (∀ k, F k → F' k ∧ w'.heap[k]? = w.heap[k]?) → T F' w'
def Meets (P : Program) (L : Lay) (Tab : TabP) (s : Sig) (f : FuncId) (az : List (SV L.D)) (r : RT L.D s.all) : Prop := ∀ (E : Ent) (V : Vl) (vals : List Value), Tab E.F0 E.w0 → E.nt = vals.length → az.length = vals.length → Rel L E (start L az) V ⟨vals.toArray, []⟩ E.w0 →
 Calls P f vals.toArray E.w0 fun | .returned v, w' => ∃ vs, PostA L E s (enc s.all r) vs v w' | _, _ => False
section
variable {P : Program} {L : Lay} {E : Ent} {st : St L.D} {V : Vl} {a : Act} {w : World}
theorem enc_len {D : TypeId → Type} : ∀ (l : List Sh) (r : RT D l), (enc l r).length = l.length
 | [], _ => rfl
 | [s], _ => rfl
 | s :: t :: l, (x, y) => by simp [enc, enc_len (t :: l) y]
theorem enc_cell {D : TypeId → Type} : ∀ (l : List Sh) (r : RT D l) (c : Nat), c < l.length → ∃ s, l[c]? = some s ∧ ∃ x, (enc l r).getD c .dead = enc1 s x
 | [], _, c, h => absurd h (Nat.not_lt_zero c)
 | [s], x, c, h => by
  obtain rfl : c = 0 := by simp at h; omega
  exact ⟨s, rfl, x, rfl⟩
 | s :: t :: l, (x, y), 0, _ => ⟨s, rfl, x, rfl⟩
 | s :: t :: l, (x, y), c + 1, h => by
  obtain ⟨s', h1, x', h2⟩ := enc_cell (t :: l) y c (by simpa using h)
  exact ⟨s', by simpa using h1, x', by simpa [enc] using h2⟩
theorem roS_false {L : Lay} : ∀ {l : List Sh}, roS L l = false → ∀ (c : Nat) (s : Sh), l[c]? = some s → (∀ t, s ≠ .ro t) ∧ ∀ t, s = .fr t → (L.zero t).any isNl = false
 | [], _, c, s, h => by simp at h
 | x :: l, hr, 0, s, h => by
  obtain rfl : x = s := by simpa using h
  cases x <;> simp only [roS, Bool.or_eq_false_iff] at hr <;> refine ⟨fun t e => ?_, fun t e => ?_⟩ <;> first | (cases e; done) | (cases hr; done) | skip
  injection e with e; subst e; exact hr.1
 | x :: l, hr, c + 1, s, h => by
  have : roS L l = false := by
   cases x <;> simp only [roS, Bool.or_eq_false_iff] at hr <;> first | exact hr | exact hr.2 | (cases hr; done)
  exact roS_false this c s (by simpa using h)
theorem CR.plain {w : World} {F F' : Nat → Prop} {s : SV L.D} {v : Value} (h : CR L w F s v) (hs : ∃ u, s = .v u) : CR L w F' s v := by
 obtain ⟨u, rfl⟩ := hs
 cases h with
 | v _ h => exact .v _ h
theorem RowOk.plain (hL : LayOk P L) {w : World} {F F' : Nat → Prop} {v : Value} {t : TypeId} {xs : List (L.D t)} (hz : (L.zero t).any isNl = false) (h : RowOk L w F v t xs) : RowOk L w F' v t xs := by
 obtain ⟨cells, ho, h1, hr⟩ := h
 refine ⟨cells, ho, h1, fun i j hi hj => (hr i j hi hj).plain ?_⟩
 (have hl : j < (L.cell t xs[i]).length := by rw [hL.cell]; exact hj); (rw [getD_lt hl])
 exact hL.flat t _ hz _ (List.getElem_mem _)
theorem back_look : ∀ {lent : List (Nat × Nat × Nat × List (SV L.D))} {fin : List (List Sh)} {cells : List (SV L.D)}, finOk L lent fin = true → ∀ {b : Nat} {o : Option (List (SV L.D))}, look (back_ L lent cells) b = some o → ∃ q off n old, lent[q]? = some (b, off, n, old) ∧ n = (fin.getD q []).length ∧ o = some (old.take off ++ (cells.drop (fin.take q).flatten.length).take n ++ old.drop (off + n))
 | [], _, _, _, b, o, h => by cases h
 | (b0, off, n, old) :: l, [], _, hf, _, _, _ => by cases hf
 | (b0, off, n, old) :: l, s :: ss, cells, hf, b, o, h => by
  (simp only [finOk, Bool.and_eq_true] at hf); (have hn := Nat.eq_of_beq_eq_true hf.1); (simp only [back_] at h); (rw [look_cons] at h)
  by_cases e : b = b0
  ·rw [if_pos e] at h
   subst e
   exact ⟨0, off, n, old, rfl, by simpa using hn, by simpa using (Option.some.inj h).symm⟩
  ·rw [if_neg e] at h
   obtain ⟨q, off', n', old', h1, h2, h3⟩ := back_look hf.2 h
   refine ⟨q + 1, off', n', old', by simpa using h1, by simpa using h2, ?_⟩
   rw [h3, List.drop_drop, hn]
   simp
theorem back_some : ∀ {lent : List (Nat × Nat × Nat × List (SV L.D))} {cells : List (SV L.D)} {l : Nat × Nat × Nat × List (SV L.D)}, l ∈ lent → ∃ o, look (back_ L lent cells) l.1 = some o
 | (b0, off, n, old) :: r, cells, l, h => by
  (simp only [back_]); (rw [look_cons])
  by_cases e : l.1 = b0
  ·exact ⟨_, by rw [if_pos e]⟩
  ·rw [if_neg e]
   rcases List.mem_cons.1 h with rfl | h
   ·exact absurd rfl e
   ·exact back_some h
theorem look_none {α : Type} : ∀ {l : List (Nat × α)} {n : Nat}, (∀ x, (n, x) ∉ l) → look l n = none
 | [], _, _ => rfl
 | (k, x) :: l, n, h => by
  rw [look_cons]
  by_cases e : n = k
  ·subst e; exact absurd List.mem_cons_self (h x)
  ·rw [if_neg e]; exact look_none fun y hy => h y (List.mem_cons_of_mem _ hy)
end
end Go.Proofs.YtgnbfmoifnfneaaDoor.V
namespace Go.Proofs.YtgnbfmoifnfneaaDoor.V
open Go
set_option linter.unusedVariables false
set_option linter.unusedSimpArgs false
section
variable {P : Program} {L : Lay} {E : Ent} {st : St L.D} {V : Vl} {a : Act} {w : World}
def callV (L : Lay) (V : Vl) (i : Nat) (cs : List (SV L.D)) (vs : List Value) : Vl where
 ba := V.ba
 bo := V.bo
 rv m := match look (take_ L (ident i 1) 0 cs).2 m with
  | some _ => vs.getD (m - ident i 1) undef
  | none => V.rv m
section
variable {gs : List (Arg L)} {vals vs : List Value} {s : Sig} {r : RT L.D s.all} {v : Value} {w' : World} {i : Nat} {dst : Option Nat}
theorem row_call (H : Lends L E st V w gs vals) {m : Nat} {x : Row L.D} (hr : (st.put dst (after_ L i s gs r)).row m = some x) :
  (∃ j t xs, j < (enc s.all r).length ∧ m = ident i 1 + (0 + j) ∧ (enc s.all r).getD j .dead = .fr t xs ∧ x = ⟨t, false, xs⟩ ∧ (callV L V i (enc s.all r) vs).rv m = vs.getD j undef) ∨
  (m ∉ goneOf L gs ∧ (callV L V i (enc s.all r) vs).rv m = V.rv m ∧ ∃ x1, st.row m = some x1 ∧ ((x = x1 ∧ (roS L s.all = true → m ∉ (shownOf L gs).map (·.1))) ∨ (roS L s.all = true ∧ x = { x1 with fz := true } ∧ (m, x1) ∈ shownOf L gs))) := by
 (rw [row_put] at hr); (simp only [after_] at hr); (rw [look_append, look_append] at hr)
 cases h1 : look (take_ L (ident i 1) 0 (enc s.all r)).2 m with
 | some o =>
  (rw [h1] at hr); (obtain ⟨j, t, xs, h2, h3, h4, h5⟩ := take_look _ _ _ _ _ h1); (subst h5)
  refine .inl ⟨j, t, xs, h2, h3, h4, (Option.some.inj hr).symm, ?_⟩
  (simp only [callV, h1]); (rw [h3, Nat.zero_add, Nat.add_sub_cancel_left])
 | none =>
  (rw [h1] at hr); (have hv : (callV L V i (enc s.all r) vs).rv m = V.rv m := by simp only [callV, h1]); (simp only [Option.none_or] at hr)
  cases h2 : look ((goneOf L gs).map fun j => (j, (none : Option (Row L.D)))) m with
  | some o =>
   (rw [h2] at hr); (obtain ⟨j, _, e⟩ := List.mem_map.1 (look_mem h2)); (obtain ⟨_, rfl⟩ := Prod.mk.inj e)
   cases hr
  | none =>
   (rw [h2] at hr); (simp only [Option.none_or] at hr)
   have hg : m ∉ goneOf L gs := fun hm => by
    (obtain ⟨y, hy⟩ := look_of_mem (l := (goneOf L gs).map fun j => (j, (none : Option (Row L.D)))) (n := m) (x := none) (List.mem_map.2 ⟨m, hm, rfl⟩)); (rw [h2] at hy; cases hy)
   refine .inr ⟨hg, hv, ?_⟩
   cases hro : roS L s.all with
   | false => rw [hro] at hr; exact ⟨x, hr, .inl ⟨rfl, fun h => by cases h⟩⟩
   | true =>
    (rw [hro] at hr); (simp only at hr)
    cases h3 : look ((shownOf L gs).map fun p => (p.1, some { p.2 with fz := true })) m with
    | none =>
     rw [h3] at hr
     refine ⟨x, hr, .inl ⟨rfl, fun _ hm => ?_⟩⟩
     (obtain ⟨p, hp, rfl⟩ := List.mem_map.1 hm); (obtain ⟨y, hy⟩ := look_of_mem (l := (shownOf L gs).map fun p => (p.1, some { p.2 with fz := true })) (n := p.1) (x := some { p.2 with fz := true }) (List.mem_map.2 ⟨p, hp, rfl⟩)); (rw [h3] at hy; cases hy)
    | some o =>
     (rw [h3] at hr); (obtain ⟨p, hp, e⟩ := List.mem_map.1 (look_mem h3)); (obtain ⟨rfl, rfl⟩ := Prod.mk.inj e)
     exact ⟨p.2, H.shown hp, .inr ⟨rfl, (Option.some.inj hr).symm, hp⟩⟩
theorem box_call {b : Nat} {cs : List (SV L.D)} (hf : finOk L (lentOf L gs) s.fin = true) (hb : (st.put dst (after_ L i s gs r)).box b = some cs) :
  (∃ q off n old, (lentOf L gs)[q]? = some (b, off, n, old) ∧ n = (s.fin.getD q []).length ∧ cs = old.take off ++ (((take_ L (ident i 1) 0 (enc s.all r)).1.drop s.res.flatten.length).drop (s.fin.take q).flatten.length).take n ++ old.drop (off + n)) ∨
  ((∀ l ∈ lentOf L gs, l.1 ≠ b) ∧ st.box b = some cs) := by
 (rw [box_put] at hb); (simp only [after_] at hb)
 cases h1 : look (back_ L (lentOf L gs) ((take_ L (ident i 1) 0 (enc s.all r)).1.drop s.res.flatten.length)) b with
 | some o =>
  (rw [h1] at hb); (obtain ⟨q, off, n, old, h2, h3, h4⟩ := back_look hf h1); (rw [h4] at hb)
  exact .inl ⟨q, off, n, old, h2, h3, (Option.some.inj hb).symm⟩
 | none =>
  rw [h1] at hb
  refine .inr ⟨fun l hl e => ?_, hb⟩
  (obtain ⟨o, ho⟩ := back_some (cells := (take_ L (ident i 1) 0 (enc s.all r)).1.drop s.res.flatten.length) hl); (rw [e, h1] at ho; cases ho)
theorem box_call_old (H : Lends L E st V w gs vals) (hf : finOk L (lentOf L gs) s.fin = true) {b : Nat} {cs : List (SV L.D)} (hb : (st.put dst (after_ L i s gs r)).box b = some cs) : ∃ cs0, st.box b = some cs0 ∧ ((∃ l ∈ lentOf L gs, l.1 = b) ∨ (∀ l ∈ lentOf L gs, l.1 ≠ b) ∧ cs = cs0) := by
 rcases box_call hf hb with ⟨q, off, n, old, h1, _⟩ | ⟨h1, h2⟩
 ·have := List.mem_of_getElem? h1
  exact ⟨_, (H.lent this).1, .inl ⟨_, this, rfl⟩⟩
 ·exact ⟨cs, h2, .inr ⟨h1, rfl⟩⟩
section
theorem imp_ow {k : Nat} (h : Rel L E st V a w) (H : Lends L E st V w gs vals) (hk : ImpB L V gs k) : Ow st V k := H.impOw h hk fun j hj => H.goneRow hj
theorem adr_of {k : Nat} (H : Lends L E st V w gs vals) {l : Nat × Nat × Nat × List (SV L.D)} (hl : l ∈ lentOf L gs) {n : Nat} (hk : ∀ p ∈ (callE L E st V w gs n).adr, p.1 ≠ k) : V.ba l.1 ≠ k := hk _ (List.mem_map.2 ⟨l, hl, rfl⟩)
theorem newR_old {n0 : Nat} (h : Rel L E st V a w) (H : Lends L E st V w gs vals) (Q : PostV L (callE L E st V w gs n0) s (enc s.all r) vs v w') {c k : Nat} (ho : OwnV (enc s.all r) vs c k) :
  (∀ b cs, st.box b = some cs → V.ba b ≠ k) ∧ ∀ m x, m ∉ goneOf L gs → st.row m = some x → x.fz = false → (V.rv m).ownBlock ≠ some k := by
 obtain ⟨_, h2, h3⟩ := Q.own c k ho
 refine ⟨fun b cs hb e => ?_, fun m x hm hx hfz e => ?_⟩
 ·rcases h2 with h2 | ⟨l, hl, e'⟩ | ⟨j, hj, e'⟩
  ·have := h.box_lt hb
   have h2 : w.heap.size ≤ k := h2
   omega
  ·exact adr_of H hl h3 e'
  ·obtain ⟨y, hy, hyf⟩ := H.goneRow hj
   exact h.br b cs j y hb hy hyf (by rw [e', e])
 ·rcases h2 with h2 | ⟨l, hl, e'⟩ | ⟨j, hj, e'⟩
  ·have := h.row_lt hx hfz e
   have h2 : w.heap.size ≤ k := h2
   omega
  ·exact h.br l.1 _ m x (H.lent hl).1 hx hfz (by rw [e, e'])
  ·obtain ⟨y, hy, hyf⟩ := H.goneRow hj
   obtain rfl := h.rr m j x y k hx hy hfz hyf e e'
   exact hm hj
theorem ow_call {n0 : Nat} (h : Rel L E st V a w) (H : Lends L E st V w gs vals) (hf : finOk L (lentOf L gs) s.fin = true) (Q : PostV L (callE L E st V w gs n0) s (enc s.all r) vs v w') {k : Nat} (hk : Ow (st.put dst (after_ L i s gs r)) (callV L V i (enc s.all r) vs) k) :
  (∃ c, OwnV (enc s.all r) vs c k) ∨ (∃ b cs, st.box b = some cs ∧ V.ba b = k) ∨ ∃ m x, m ∉ goneOf L gs ∧ st.row m = some x ∧ x.fz = false ∧ (V.rv m).ownBlock = some k ∧ (roS L s.all = true → m ∉ (shownOf L gs).map (·.1)) := by
 rcases hk with ⟨b, cs, hb, e⟩ | ⟨m, x, hx, hfz, e⟩
 ·obtain ⟨cs0, h0, _⟩ := box_call_old H hf hb
  exact .inr (.inl ⟨b, cs0, h0, e⟩)
 ·rcases row_call (V := V) (vs := vs) H hx with ⟨j, t, xs, h1, h2, h3, h4, h5⟩ | ⟨h1, h2, x1, h3, h4⟩
  ·rw [h5] at e
   exact .inl ⟨j, h1, ⟨t, xs, h3⟩, e⟩
  ·rw [h2] at e
   rcases h4 with ⟨rfl, h5⟩ | ⟨_, rfl, _⟩
   ·exact .inr (.inr ⟨m, x, h1, h3, hfz, e, h5⟩)
   ·cases hfz
theorem pf_call {n0 : Nat} (h : Rel L E st V a w) (H : Lends L E st V w gs vals) (hf : finOk L (lentOf L gs) s.fin = true) (Q : PostV L (callE L E st V w gs n0) s (enc s.all r) vs v w') (hro : roS L s.all = true) (hcp : captOf L gs = []) {k : Nat} (hk : PF (callE L E st V w gs n0) (enc s.all r) vs w' k) :
  Fz E (st.put dst (after_ L i s gs r)) (callV L V i (enc s.all r) vs) w' k := by
 have hw : w.heap.size ≤ w'.heap.size := Q.size
 rcases hk with (hk | hk) | ⟨h1, h2, h3, h4⟩
 ·-- what stayed
  rcases hk with hk | ⟨g1, g2, g3⟩
  ·exact .inl hk
  ·refine .inr ⟨g1, by omega, fun ho => ?_⟩
   rcases ow_call h H hf Q ho with ⟨c, hc⟩ | ⟨b, cs, hb, e⟩ | ⟨m, x, _, hx, hfz, e, _⟩
   ·exact (Q.own c k hc).1 (.inl (.inr ⟨g1, g2, g3⟩))
   ·exact g3 (.inl ⟨b, cs, hb, e⟩)
   ·exact g3 (.inr ⟨m, x, hx, hfz, e⟩)
 ·rcases hk with ⟨j, x, hm, hfz, e⟩ | ⟨b, hb, _⟩
  ·have hx := H.shown hm
   have hOw : Ow st V k := .inr ⟨j, x, hx, hfz, e⟩
   refine .inr ⟨(h.own k hOw).2, by have := h.ow_lt hOw; omega, fun ho => ?_⟩
   rcases ow_call h H hf Q ho with ⟨c, hc⟩ | ⟨b, cs, hb, e'⟩ | ⟨m, x', _, hx', hfz', e', hs⟩
   ·exact (Q.own c k hc).1 (.inr (.inl ⟨j, x, hm, hfz, e⟩))
   ·exact h.br b cs j x hb hx hfz (by rw [e, e'])
   ·obtain rfl := h.rr j m x x' k hx hx' hfz hfz' e e'
    exact hs hro (List.mem_map.2 ⟨(j, x), hm, rfl⟩)
  ·rw [hcp] at hb; cases hb
 ·refine .inr ⟨?_, h2, fun ho => ?_⟩
  ·rcases h1 with h1 | h1
   ·have : w.heap.size ≤ k := h1
    exact .inl (Nat.le_trans h.size this)
   ·exact (h.own k (imp_ow h H h1)).2
  ·rcases ow_call h H hf Q ho with ⟨c, hc⟩ | ⟨b, cs, hb, e⟩ | ⟨m, x, hm, hx, hfz, e, _⟩
   ·exact h3 c hc
   ·rcases h1 with h1 | ⟨l, hl, e'⟩ | ⟨j, hj, e'⟩
    ·have := h.box_lt hb
     have h1 : w.heap.size ≤ k := h1
     omega
    ·exact adr_of H hl h4 e'
    ·obtain ⟨y, hy, hyf⟩ := H.goneRow hj
     exact h.br b cs j y hb hy hyf (by rw [e', e])
   ·rcases h1 with h1 | ⟨l, hl, e'⟩ | ⟨j, hj, e'⟩
    ·have := h.row_lt hx hfz e
     have h1 : w.heap.size ≤ k := h1
     omega
    ·exact adr_of H hl h4 e'
    ·obtain ⟨y, hy, hyf⟩ := H.goneRow hj
     obtain rfl := h.rr m j x y k hx hy hfz hyf e e'
     exact hm hj
theorem fz_call {n0 : Nat} (h : Rel L E st V a w) (H : Lends L E st V w gs vals) (hf : finOk L (lentOf L gs) s.fin = true) (Q : PostV L (callE L E st V w gs n0) s (enc s.all r) vs v w') {k : Nat} (hk : Fz E st V w k) :
  Fz E (st.put dst (after_ L i s gs r)) (callV L V i (enc s.all r) vs) w' k ∧ w'.heap[k]? = w.heap[k]? := by
 have hw : w.heap.size ≤ w'.heap.size := Q.size
 refine ⟨?_, Q.kept k (h.fz_lt hk) fun hi => h.fz_not hk (imp_ow h H hi)⟩
 rcases hk with hk | ⟨g1, g2, g3⟩
 ·exact .inl hk
 ·refine .inr ⟨g1, by omega, fun ho => ?_⟩
  rcases ow_call h H hf Q ho with ⟨c, hc⟩ | ⟨b, cs, hb, e⟩ | ⟨m, x, _, hx, hfz, e, _⟩
  ·exact (Q.own c k hc).1 (.inl (.inr ⟨g1, g2, g3⟩))
  ·exact g3 (.inl ⟨b, cs, hb, e⟩)
  ·exact g3 (.inr ⟨m, x, hx, hfz, e⟩)
theorem cell_call {n0 : Nat} (hL : LayOk P L) (h : Rel L E st V a w) (H : Lends L E st V w gs vals) (hf : finOk L (lentOf L gs) s.fin = true) (Q : PostV L (callE L E st V w gs n0) s (enc s.all r) vs v w') (hcp : captOf L gs = [] ∨ roS L s.all = false) {c : Nat} (hc : c < (enc s.all r).length) (tm : Array Value) :
  SR L w' (Fz E (st.put dst (after_ L i s gs r)) (callV L V i (enc s.all r) vs) w') (st.put dst (after_ L i s gs r)) (callV L V i (enc s.all r) vs) tm ((take_ L (ident i 1) 0 (enc s.all r)).1.getD c .dead) (vs.getD c undef) := by
 rw [take_get _ _ _ _ hc, Nat.zero_add]
 by_cases hfr : IsFr ((enc s.all r).getD c .dead)
 ·obtain ⟨t, xs, e⟩ := hfr
  (have hl := take_some (ident i 1) 0 (enc s.all r) c t xs hc e); (rw [Nat.zero_add] at hl); (rw [e])
  refine .own (ident i 1 + c) _ fun _ _ => ?_
  (simp only [callV, hl]); (rw [Nat.add_sub_cancel_left])
 ·have e : takeS (ident i 1) c ((enc s.all r).getD c .dead) = (enc s.all r).getD c .dead := by
   generalize (enc s.all r).getD c .dead = x at hfr
   cases x <;> first | rfl | exact absurd ⟨_, _, rfl⟩ hfr
  (rw [e]); (have hro := Q.ro c hc hfr)
  cases hr : roS L s.all with
  | true => exact .c (hro.mono fun k hk => ⟨pf_call h H hf Q hr (hcp.resolve_right (by rw [hr]; simp)) hk, rfl⟩)
  | false =>
   (rw [enc_len] at hc); (obtain ⟨sh, h1, x, h2⟩ := enc_cell s.all r c hc); (obtain ⟨g1, g2⟩ := roS_false hr c sh h1)
   refine .c (hro.plain ?_)
   rw [h2] at hfr ⊢
   cases sh with
   | int k => exact ⟨_, rfl⟩
   | bool => exact ⟨_, rfl⟩
   | str => exact ⟨_, rfl⟩
   | ro t => exact absurd rfl (g1 t)
   | fr t => exact absurd ⟨t, x, rfl⟩ hfr
theorem rowOk_call {n0 : Nat} (hL : LayOk P L) (h : Rel L E st V a w) (H : Lends L E st V w gs vals) (hf : finOk L (lentOf L gs) s.fin = true) (Q : PostV L (callE L E st V w gs n0) s (enc s.all r) vs v w') (hcp : captOf L gs = [] ∨ roS L s.all = false) {c : Nat} {t : TypeId} {xs : List (L.D t)} (hc : c < (enc s.all r).length) (e : (enc s.all r).getD c .dead = .fr t xs) :
  RowOk L w' (Fz E (st.put dst (after_ L i s gs r)) (callV L V i (enc s.all r) vs) w') (vs.getD c undef) t xs := by
 have hro := Q.fr c t xs hc e
 cases hr : roS L s.all with
 | true => exact hro.mono (fun k hk => ⟨pf_call h H hf Q hr (hcp.resolve_right (by rw [hr]; simp)) hk, rfl⟩) fun _ _ => rfl
 | false =>
  (rw [enc_len] at hc); (obtain ⟨sh, h1, x, h2⟩ := enc_cell s.all r c hc); (obtain ⟨g1, g2⟩ := roS_false hr c sh h1); (rw [h2] at e)
  cases sh with
  | fr t' =>
   simp only [enc1] at e
   injection e with e0 e1
   subst e0
   exact hro.plain hL (g2 _ rfl)
  | ro t' => simp only [enc1] at e; cases e
  | int k => simp only [enc1] at e; cases e
  | bool => simp only [enc1] at e; cases e
  | str => simp only [enc1] at e; cases e
end
end
end
end Go.Proofs.YtgnbfmoifnfneaaDoor.V
namespace Go.Proofs.YtgnbfmoifnfneaaDoor.V
open Go
set_option linter.unusedVariables false
set_option linter.unusedSimpArgs false
section
variable {P : Program} {L : Lay} {E : Ent} {st : St L.D} {V : Vl} {a : Act} {w : World}
theorem results_ok {w : World} {F : Nat → Prop} {V : Vl} {tm : Array Value} : ∀ (res : List (List Sh)) (az : List Bool) (cells : List (SV L.D)) (vs : List Value), cells.length = vs.length → (∀ u ∈ vs, u.oneCell' = true) → (∀ c, c < cells.length → SR L w F st V tm (cells.getD c .dead) (vs.getD c undef)) →
  (results_ L res az cells).length = (packV res az vs).length ∧ ∀ j, j < (results_ L res az cells).length → SR L w F st V tm ((results_ L res az cells).getD j .dead) ((packV res az vs).getD j undef)
 | [], _, _, _, _, _, _ => ⟨rfl, fun j hj => absurd hj (Nat.not_lt_zero j)⟩
 | s :: l, az, cells, vs, hl, h1, h => by
  obtain ⟨g1, g2⟩ := results_ok l az.tail (cells.drop s.length) (vs.drop s.length) (by simp [hl]) (fun u hu => h1 u (List.mem_of_mem_drop hu)) fun c hc => by
   have := h (s.length + c) (by simp at hc; omega)
   simpa [List.getD_eq_getElem?_getD, List.getElem?_drop] using this
  refine ⟨by simp [results_, packV, g1], fun j hj => ?_⟩
  cases j with
  | succ j =>
   have := g2 j (by simpa [results_] using hj)
   simpa [results_, packV] using this
  | zero =>
   have hag : SR L w F st V tm (.agg (cells.take s.length)) (.agg (vs.take s.length).toArray) := by
    refine .agg _ _ (by simp [hl]) (fun u hu => h1 u (List.mem_of_mem_take hu)) fun c hc => ?_
    (have hc' : c < s.length ∧ c < cells.length := by simp only [List.length_take] at hc; omega); (have := h c hc'.2)
    simpa [List.getD_eq_getElem?_getD, List.getElem?_take, hc'.1] using this
   have hone : SR L w F st V tm (cells.headD .dead) (vs.headD undef) := by
    cases cells with
    | nil => exact .dead _
    | cons x cells =>
     cases vs with
     | nil => cases hl
     | cons u vs => simpa using h 0 (by simp)
   cases az with
   | nil => cases cells <;> simpa [results_, packV] using hone
   | cons b az =>
    cases b with
    | true => simpa [results_, packV] using hag
    | false => cases cells <;> simpa [results_, packV] using hone
theorem value_ok {w : World} {F : Nat → Prop} {V : Vl} {tm : Array Value} {l : List (SV L.D)} {vs : List Value} (hl : l.length = vs.length) (h : ∀ j, j < l.length → SR L w F st V tm (l.getD j .dead) (vs.getD j undef)) : SR L w F st V tm (value_ L l) (valueV vs) := by
 match l, vs, hl with
 | [], [], _ => exact .tup [] [] rfl fun j hj => absurd hj (Nat.not_lt_zero j)
 | [s], [u], _ => simpa [value_, valueV] using h 0 (by simp)
 | s :: t :: l, u :: v :: vs, hl => exact .tup _ _ hl h
section
variable {gs : List (Arg L)} {vals vs : List Value} {s : Sig} {r : RT L.D s.all} {v : Value} {w' : World} {i : Nat} {dst : Option Nat} {n0 : Nat}
theorem same_call (h : Rel L E st V a w) (H : Lends L E st V w gs vals) (hf : finOk L (lentOf L gs) s.fin = true) (Q : PostV L (callE L E st V w gs n0) s (enc s.all r) vs v w') {ks : List Key} (hk : ∀ j, j < (enc s.all r).length → IsFr ((enc s.all r).getD j .dead) → (2, ident i 1 + j) ∈ ks) (hd : ∀ n, dst = some n → (0, n) ∈ ks) :
  Same L w w' (Fz E st V w) (Fz E (st.put dst (after_ L i s gs r)) (callV L V i (enc s.all r) vs) w') st (st.put dst (after_ L i s gs r)) V (callV L V i (enc s.all r) vs) a.tmps (a.put dst v).tmps (· ∈ ks) where
 mem := fun k hk' => fz_call h H hf Q hk'
 row := fun m x hn hx => by
  rcases row_call (V := V) (vs := vs) H hx with ⟨j, t, xs, h1, h2, h3, h4, h5⟩ | ⟨h1, h2, x1, h3, h4⟩
  ·exact absurd (by rw [h2, Nat.zero_add]; exact hk j h1 ⟨t, xs, h3⟩) hn
  ·rcases h4 with ⟨rfl, _⟩ | ⟨_, rfl, _⟩
   ·exact ⟨_, h3, h2, rfl, rfl⟩
   ·exact ⟨_, h3, h2, rfl, rfl⟩
 box := fun b cs hn hb => by
  obtain ⟨cs0, h0, _⟩ := box_call_old H hf hb
  exact ⟨cs0, h0, rfl, rfl⟩
 tmp := fun j hj => by
  cases hdst : dst with
  | none => rfl
  | some n => exact put_getD_other (fun e => hj (by rw [e]; exact hd n hdst)) v
theorem Ch.call (hL : LayOk P L) (h : Rel L E st V a w) (H : Lends L E st V w gs vals) (hf : finOk L (lentOf L gs) s.fin = true) (hcp : captOf L gs = [] ∨ roS L s.all = false) (Q : PostV L (callE L E st V w gs n0) s (enc s.all r) vs v w') {ks : List Key} (hc : clean st ks = true) (hk : ∀ j, j < (enc s.all r).length → IsFr ((enc s.all r).getD j .dead) → (2, ident i 1 + j) ∈ ks) (hd : ∀ n, dst = some n → (0, n) ∈ ks) :
  Ch L E st V w (· ∈ ks) (st.put dst (after_ L i s gs r)) (callV L V i (enc s.all r) vs) (a.put dst v).tmps w' := by
 (have hw : w.heap.size ≤ w'.heap.size := Q.size); (have S := same_call (v := v) (dst := dst) h H hf Q hk hd); (have keep : ∀ k, k < w.heap.size → ¬ ImpB L V gs k → w'.heap[k]? = w.heap[k]? := fun k hk hi => Q.kept k hk hi)
 -- a box that is not lent
 have boxKept : ∀ b cs, st.box b = some cs → (∀ l ∈ lentOf L gs, l.1 ≠ b) → w'.heap[V.ba b]? = w.heap[V.ba b]? := fun b cs hb hn => keep _ (h.box_lt hb) fun hi => by
  rcases hi with ⟨l, hl, e⟩ | ⟨j, hj, e⟩
  ·exact hn l hl (h.bb _ _ _ _ (H.lent hl).1 hb e)
  ·obtain ⟨y, hy, hyf⟩ := H.goneRow hj
   exact h.br b cs j y hb hy hyf e
 have rowKept : ∀ m x k, m ∉ goneOf L gs → st.row m = some x → x.fz = false → (V.rv m).ownBlock = some k → w'.heap[k]? = w.heap[k]? := fun m x k hm hx hfz e => keep k (h.row_lt hx hfz e) fun hi => by
  rcases hi with ⟨l, hl, e'⟩ | ⟨j, hj, e'⟩
  ·exact h.br l.1 _ m x (H.lent hl).1 hx hfz (by rw [e, e'])
  ·obtain ⟨y, hy, hyf⟩ := H.goneRow hj
   obtain rfl := h.rr m j x y k hx hy hfz hyf e e'
   exact hm hj
 have outer : ∀ (q b off n : Nat) (old : List (SV L.D)), (lentOf L gs)[q]? = some (b, off, n, old) → n = (s.fin.getD q []).length → ∀ o, (o < V.bo b + off ∨ V.bo b + off + n ≤ o) → w'.cell? ⟨V.ba b, o, none⟩ = w.cell? ⟨V.ba b, o, none⟩ := fun q b off n old hq hn o ho =>
  Q.outer q (V.ba b, V.bo b + off) (by simp [callE, hq]) o (by rw [← hn]; exact ho)
 have mix : ∀ (q b off n : Nat) (old : List (SV L.D)), (lentOf L gs)[q]? = some (b, off, n, old) → n = (s.fin.getD q []).length → st.box b = some old ∧ off + n ≤ old.length ∧ ((((take_ L (ident i 1) 0 (enc s.all r)).1.drop s.res.flatten.length).drop (s.fin.take q).flatten.length).take n).length = n := fun q b off n old hq hn => by
  obtain ⟨h1, h2⟩ := H.lent (List.mem_of_getElem? hq)
  refine ⟨h1, h2, ?_⟩
  have hq' : q < s.fin.length := by
   (have hlen : (lentOf L gs).length = s.fin.length := finOk_len hf); (have := (List.getElem?_eq_some_iff.1 hq).1)
   omega
  (have hall : (enc s.all r).length = s.res.flatten.length + s.fin.flatten.length := by rw [enc_len]; simp [Sig.all]); (have hsum : (s.fin.take q).flatten.length + (s.fin.getD q []).length ≤ s.fin.flatten.length := flatten_take hq'); (simp only [List.length_take, List.length_drop, take_len])
  omega
 exact {
  same := fun k hk => by
   by_cases hi : ImpB L V gs k
   ·exact .inr (imp_ow h H hi)
   ·exact .inl (keep k hk hi)
  owned := fun k hk' => by
   rcases ow_call h H hf Q hk' with ⟨c, hcc⟩ | ⟨b, cs, hb, e⟩ | ⟨m, x, _, hx, hfz, e, _⟩
   ·rcases (Q.own c k hcc).2.1 with h1 | h1
    ·exact .inl h1
    ·exact .inr (imp_ow h H h1)
   ·exact .inr (.inl ⟨b, cs, hb, e⟩)
   ·exact .inr (.inr ⟨m, x, hx, hfz, e⟩)
  rowS := S.row
  boxS := S.box
  box := fun b cs hb => by
   rcases box_call hf hb with ⟨q, off, n, old, h1, h2, h3⟩ | ⟨h1, h2⟩
   ·right
    (obtain ⟨m1, m2, m3⟩ := mix q b off n old h1 h2); (obtain ⟨xs, T, f1, f2, f3⟩ := Q.fin q (V.ba b, V.bo b + off) (by simp [callE, h1])); (obtain ⟨ys, T', e1, e2, e3⟩ := h.box b old m1); (have hout := outer q b off n old h1 h2); (simp only at f1 f2 f3); (rw [← h2] at f2 f3)
    have hold : ∀ j, j < old.length → ¬ (off ≤ j ∧ j < off + n) → xs[V.bo b + j]? = ys[V.bo b + j]? := fun j hj hn => by
     have := hout (V.bo b + j) (by omega)
     simpa [World.cell?, f1, e1] using this
    have hlen := length_mix old _ off n m3 m2
    have hsz : V.bo b + old.length ≤ xs.size := by
     by_cases hlast : off + n = old.length
     ·omega
     ·have := hold (old.length - 1) (by omega) (by omega)
      (rw [Array.getElem?_eq_getElem (xs := ys) (i := V.bo b + (old.length - 1)) (by omega)] at this); (have := (Array.getElem?_eq_some_iff.1 this).1)
      omega
    subst h3
    refine ⟨xs, T, f1, by rw [hlen]; exact hsz, fun j hj => ?_⟩
    (rw [hlen] at hj); (rw [getD_mix old _ off n m3 m2])
    by_cases hin : off ≤ j ∧ j < off + n
    ·rw [if_pos hin]
     (have hx := f3 (j - off) (by omega)); (rw [show V.bo b + off + (j - off) = V.bo b + j by omega] at hx)
     have hcl : s.res.flatten.length + (s.fin.take q).flatten.length + (j - off) < (enc s.all r).length := by
      (have hm := m3); (simp only [List.length_take, List.length_drop, take_len] at hm)
      omega
     refine ⟨_, hx, ?_, ?_⟩
     ·rw [getD_lt (by rw [Q.len]; exact hcl)]
      exact Q.one _ (List.getElem_mem _)
     ·have e : ((((take_ L (ident i 1) 0 (enc s.all r)).1.drop s.res.flatten.length).drop (s.fin.take q).flatten.length).take n).getD (j - off) .dead = (take_ L (ident i 1) 0 (enc s.all r)).1.getD (s.res.flatten.length + (s.fin.take q).flatten.length + (j - off)) .dead := by
       simp only [List.getD_eq_getElem?_getD, List.getElem?_take, List.getElem?_drop, if_pos (by omega : j - off < n), Nat.add_assoc]
      rw [e]
      exact cell_call hL h H hf Q hcp hcl _
    ·rw [if_neg hin]
     obtain ⟨u, hu, hu1, hs⟩ := e3 j hj
     exact ⟨u, (hold j hj hin).trans hu, hu1, hs.same S fun k hk => clean_box hc hk m1 j⟩
   ·exact .inl ⟨h2, rfl, rfl, boxKept b cs h2 h1⟩
  row := fun m x hx => by
   rcases row_call (V := V) (vs := vs) H hx with ⟨j, t, xs, h1, h2, h3, h4, h5⟩ | ⟨h1, h2, x1, h3, h4⟩
   ·right
    subst h4
    refine ⟨(fun e => by cases e), fun _ => ?_⟩
    rw [h5]
    exact rowOk_call hL h H hf Q hcp h1 h3
   ·rcases h4 with ⟨rfl, _⟩ | ⟨hro, rfl, hsh⟩
    ·exact .inl ⟨h3, h2, fun hfz k e => rowKept m _ k h1 h3 hfz e⟩
    ·right
     refine ⟨fun _ => ?_, (fun e => by cases e)⟩
     (rw [h2]); (obtain ⟨p, q⟩ := h.row m x1 h3)
     cases hfz : x1.fz with
     | true => exact (p hfz).mono fun k hk => fz_call h H hf Q hk
     | false =>
      refine ((q hfz).mono (F' := Fz E (st.put dst (after_ L i s gs r)) (callV L V i (enc s.all r) vs) w') (fun k hk => fz_call h H hf Q hk) fun k e => rowKept m x1 k h1 h3 hfz e).reads (fun k hk => hk) fun k e => ?_
      exact pf_call h H hf Q hro (hcp.resolve_right (by rw [hro]; simp)) (.inl (.inr (.inl ⟨m, x1, hsh, hfz, e⟩)))
  bb := fun b b' cs cs' h1 h2 e => by
   (obtain ⟨c1, g1, _⟩ := box_call_old H hf h1); (obtain ⟨c2, g2, _⟩ := box_call_old H hf h2)
   exact h.bb b b' c1 c2 g1 g2 e
  br := fun b cs m x hb hx hfz e => by
   obtain ⟨c1, g1, _⟩ := box_call_old H hf hb
   rcases row_call (V := V) (vs := vs) H hx with ⟨j, t, xs, h1, h2, h3, h4, h5⟩ | ⟨h1, h2, x1, h3, h4⟩
   ·rw [h5] at e
    exact (newR_old h H Q ⟨h1, ⟨t, xs, h3⟩, e⟩).1 b c1 g1 rfl
   ·rw [h2] at e
    rcases h4 with ⟨rfl, _⟩ | ⟨_, rfl, _⟩
    ·exact h.br b c1 m _ g1 h3 hfz e
    ·cases hfz
  rr := fun m m' x x' k hx hx' hfz hfz' e e' => by
   rcases row_call (V := V) (vs := vs) H hx with ⟨j, t, xs, h1, h2, h3, h4, h5⟩ | ⟨h1, h2, x1, h3, h4⟩ <;> rcases row_call (V := V) (vs := vs) H hx' with ⟨j', t', xs', k1, k2, k3, k4, k5⟩ | ⟨k1, k2, x1', k3, k4⟩
   ·rw [h5] at e
    (rw [k5] at e'); (have := Q.apart j j' k ⟨h1, ⟨t, xs, h3⟩, e⟩ ⟨k1, ⟨t', xs', k3⟩, e'⟩); (rw [h2, k2, this])
   ·rw [h5] at e
    rw [k2] at e'
    rcases k4 with ⟨rfl, _⟩ | ⟨_, rfl, _⟩
    ·exact absurd e' ((newR_old h H Q ⟨h1, ⟨t, xs, h3⟩, e⟩).2 m' _ k1 k3 hfz')
    ·cases hfz'
   ·rw [h2] at e
    rw [k5] at e'
    rcases h4 with ⟨rfl, _⟩ | ⟨_, rfl, _⟩
    ·exact absurd e ((newR_old h H Q ⟨k1, ⟨t', xs', k3⟩, e'⟩).2 m _ h1 h3 hfz)
    ·cases hfz
   ·rw [h2] at e
    rw [k2] at e'
    rcases h4 with ⟨rfl, _⟩ | ⟨_, rfl, _⟩
    ·rcases k4 with ⟨rfl, _⟩ | ⟨_, rfl, _⟩
     ·exact h.rr m m' _ _ k h3 k3 hfz hfz' e e'
     ·cases hfz'
    ·cases hfz
  size := hw
  os := Q.os
  tape := Q.tape
  output := Q.output
  imps := rfl
  impB := fun b hb cs h1 => by
   by_cases hl : ∃ l ∈ lentOf L gs, l.1 = b
   ·obtain ⟨l, hl, rfl⟩ := hl
    (obtain ⟨o, ho⟩ := back_some (cells := (take_ L (ident i 1) 0 (enc s.all r)).1.drop s.res.flatten.length) hl); (obtain ⟨q, off, n, old, g1, g2, g3⟩ := back_look hf ho); (obtain ⟨m1, m2, m3⟩ := mix q l.1 off n old g1 g2); (obtain rfl : old = cs := Option.some.inj (m1.symm.trans h1))
    refine ⟨_, ?_, length_mix old _ off n m3 m2, rfl, rfl, fun o ho => outer q l.1 off n old g1 g2 o (by omega)⟩
    (rw [box_put]); (simp only [after_]); (rw [ho, g3])
   ·have hn : ∀ l ∈ lentOf L gs, l.1 ≠ b := fun l hl' e => hl ⟨l, hl', e⟩
    refine ⟨cs, ?_, rfl, rfl, rfl, fun o _ => cell_same (boxKept b cs h1 hn) o⟩
    (rw [box_put]); (simp only [after_])
    cases hb2 : look (back_ L (lentOf L gs) ((take_ L (ident i 1) 0 (enc s.all r)).1.drop s.res.flatten.length)) b with
    | none => exact h1
    | some o =>
     obtain ⟨q, off, n, old, g1, _⟩ := back_look hf hb2
     exact absurd rfl (hn _ (List.mem_of_getElem? g1)) }
where
 finOk_len : ∀ {lent : List (Nat × Nat × Nat × List (SV L.D))} {fin : List (List Sh)}, finOk L lent fin = true → lent.length = fin.length
  | [], [], _ => rfl
  | [], _ :: _, h => by cases h
  | (_, _, _, _) :: _, [], h => by cases h
  | (_, _, n, _) :: l, s :: ss, h => by
   simp only [finOk, Bool.and_eq_true] at h
   simp [finOk_len h.2]
 flatten_take : ∀ {fin : List (List Sh)} {q : Nat}, q < fin.length → (fin.take q).flatten.length + (fin.getD q []).length ≤ fin.flatten.length
  | [], q, h => absurd h (Nat.not_lt_zero q)
  | s :: l, 0, _ => by simp
  | s :: l, q + 1, h => by
   (have := flatten_take (fin := l) (q := q) (by simpa using h)); (simp only [List.take_succ_cons, List.flatten_cons, List.length_append, List.getD_cons_succ])
   omega
theorem Rel.call (hL : LayOk P L) (h : Rel L E st V a w) (H : Lends L E st V w gs vals) (hf : finOk L (lentOf L gs) s.fin = true) (hcp : captOf L gs = [] ∨ roS L s.all = false) (Q : PostV L (callE L E st V w gs n0) s (enc s.all r) vs v w') {ks : List Key} (hc : clean st ks = true) (hk : ∀ j, j < (enc s.all r).length → IsFr ((enc s.all r).getD j .dead) → (2, ident i 1 + j) ∈ ks) (hd : ∀ n, dst = some n → (0, n) ∈ ks ∧ n < E.nt) :
  Rel L E (st.put dst (after_ L i s gs r)) (callV L V i (enc s.all r) vs) (a.put dst v) w' := by
 refine h.turn hc hd ((Ch.call hL h H hf hcp Q hc hk fun n hn => (hd n hn).1).turn h) fun n hn => ?_
 (have hl : (take_ L (ident i 1) 0 (enc s.all r)).1.length = vs.length := by rw [take_len, Q.len]); (obtain ⟨g1, g2⟩ := results_ok (L := L) (w := w') (F := Fz E (st.put dst (after_ L i s gs r)) (callV L V i (enc s.all r) vs) w') (st := st.put dst (after_ L i s gs r)) (V := callV L V i (enc s.all r) vs) (tm := (a.put dst v).tmps) s.res s.aggs _ vs hl Q.one fun c hcc => cell_call hL h H hf Q hcp (by rw [take_len] at hcc; exact hcc) _); (have := value_ok g1 g2); (rw [← Q.val] at this)
 exact this
end
end
end Go.Proofs.YtgnbfmoifnfneaaDoor.V
namespace Go.Proofs.YtgnbfmoifnfneaaDoor.V
open Go
set_option linter.unusedVariables false
set_option linter.unusedSimpArgs false
section
variable {P : Program} {L : Lay} {E : Ent} {st : St L.D} {V : Vl} {a : Act} {w : World}
theorem mentL_mem {D : TypeId → Type} {k : Key} : ∀ {l : List (SV D)}, mentL k l = false → ∀ s ∈ l, ment k s = false
 | [], _, s, h => by cases h
 | x :: l, hk, s, h => by
  simp only [mentL, Bool.or_eq_false_iff] at hk
  rcases List.mem_cons.1 h with rfl | h
  ·exact hk.1
  ·exact mentL_mem hk.2 s h
theorem mentL_of {D : TypeId → Type} {k : Key} : ∀ {l : List (SV D)}, (∀ s ∈ l, ment k s = false) → mentL k l = false
 | [], _ => rfl
 | x :: l, h => by
  simp only [mentL, Bool.or_eq_false_iff]
  exact ⟨h x List.mem_cons_self, mentL_of fun s hs => h s (List.mem_cons_of_mem _ hs)⟩
theorem ment_cells {D : TypeId → Type} {k : Key} {s : SV D} (h : ment k s = false) : ∀ x ∈ cellsOf s, ment k x = false := by
 cases s with
 | agg cs => exact mentL_mem (show mentL k cs = false by simpa [ment] using h)
 | _ => intro x hx; simp only [cellsOf, List.mem_singleton] at hx; subst hx; exact h
theorem fill_ment {ks : List Key} (hc : clean st ks = true) (fs : List (Nat × Nat)) : ∀ {ps : List (Nat × Operand)} {cs cs' : List (SV L.D)}, fillS L st fs cs ps = some cs' → (∀ k ∈ ks, ∀ s ∈ cs, ment k s = false) → ∀ k ∈ ks, ∀ s ∈ cs', ment k s = false
 | [], cs, cs', h, hm => by
  (simp only [fillS, Option.some.injEq] at h); (subst h; exact hm)
 | (j, x) :: ps, cs, cs', h, hm => by
  unfold fillS at h
  split at h
  ·rename_i heq; cases heq
  ·rename_i heq
   (obtain ⟨e0, rfl⟩ := List.cons.inj heq); (obtain ⟨rfl, rfl⟩ := Prod.mk.inj e0)
   split at h
   ·split at h
    ·exact fill_ment hc fs h hm
    ·cases h
   ·cases h
  ·rename_i heq
   (obtain ⟨e0, rfl⟩ := List.cons.inj heq); (obtain ⟨rfl, rfl⟩ := Prod.mk.inj e0)
   split at h
   ·split at h
    ·refine fill_ment hc fs h fun k hk s hs => ?_
     rcases List.mem_append.1 hs with hs | hs
     ·rcases List.mem_append.1 hs with hs | hs
      ·exact hm k hk s (List.mem_of_mem_take hs)
      ·exact ment_cells (clean_rdo hc x k hk) s hs
     ·exact hm k hk s (List.mem_of_mem_drop hs)
    ·cases h
   ·cases h
theorem zero_ment (hL : LayOk P L) {t : TypeId} (hk : okT L t = true) (k : Key) : ∀ s ∈ L.zero t, ment k s = false := by
 intro s hs
 (obtain ⟨j, hj, rfl⟩ := List.getElem_of_mem hs); (have hko : (L.ti t).kind ≠ .other := by intro h; simp [okT, h] at hk); (obtain ⟨i, z, _, _, _, _, _, _, _, _, h⟩ := hL.info t hko); (obtain ⟨u, _, _, e | ⟨e', e, _⟩⟩ := h j hj <;> rw [e] <;> rfl)
theorem out_nilCl {o : Oper} {ks : List Key} (A : At L E st V a w o ks) {x : Operand} (ho : o.op = .nilCheck x) {f : FuncId} {cs : List (SV L.D)} (hx : rdo st x = .cl f cs) : Out P L E st o a w { val := .cl f cs } := by
 obtain ⟨vs, hv, _⟩ := (hx ▸ A.rel.opd x).cl_inv
 refine Out.val A (v := a.eval x) ?_ (hx ▸ clean_rdo A.clean x) (hx ▸ A.rel.opd x)
 unfold execOp
 simp [ho, hv]
theorem mine_ident (i c : Nat) (h : c < 1000) : mine i (ident i c) = true := by
 unfold mine ident
 simp only [Bool.and_eq_true]
 exact ⟨Nat.ble_eq_true_of_le (by omega), by rw [Nat.blt_eq]; omega⟩
theorem new_box {i : Nat} {o : Oper} {d : Dl L.D} {c : Nat} {x : Option (List (SV L.D))} (h : (ident i c, x) ∈ d.boxes) (hc : c < 1000) : (1, ident i c) ∈ newOf L i o d := by
 unfold newOf
 refine List.mem_append_left _ (List.mem_append_right _ (List.mem_filter.2 ⟨List.mem_map.2 ⟨_, h, rfl⟩, mine_ident i c hc⟩))
theorem new_row {i : Nat} {o : Oper} {d : Dl L.D} {c : Nat} {x : Option (Row L.D)} (h : (ident i c, x) ∈ d.rows) (hc : c < 1000) : (2, ident i c) ∈ newOf L i o d := by
 unfold newOf
 refine List.mem_append_right _ (List.mem_filter.2 ⟨List.mem_map.2 ⟨_, h, rfl⟩, mine_ident i c hc⟩)
theorem at_of (h : Rel L E st V a w) {i : Nat} {o : Oper} {d : Dl L.D} (hc : clean st (newOf L i o d) = true) (hd : dstOk E.nt o.dst = true) : At L E st V a w o (newOf L i o d) := by
 refine ⟨h, hc, fun n hn => ⟨?_, ?_⟩⟩
 ·unfold newOf
  refine List.mem_append_left _ (List.mem_append_left _ ?_)
  rw [hn]; simp
 ·rw [hn] at hd
  simpa [dstOk, Nat.blt_eq] using hd
theorem out_builtin (hL : LayOk P L) (h : Rel L E st V a w) {i : Nat} {o : Oper} {b : Builtin} {args : Array Operand} {ts : Array TypeId} (ho : o.op = .call { callee := .builtin b, args := args, argTypes := ts }) {d : Dl L.D} (hv : builtinD L i st b args.toList ts.toList = some (true, d)) (hc : clean st (newOf L i o d) = true) (hd : dstOk E.nt o.dst = true) : Out P L E st o a w d := by
 (have A := at_of h hc hd); (have arr1 : ∀ {α : Type} {xs : Array α} {x : α}, xs.toList = [x] → xs = #[x] := fun h => Array.toList_inj.1 h); (have arr2 : ∀ {α : Type} {xs : Array α} {x y : α}, xs.toList = [x, y] → xs = #[x, y] := fun h => Array.toList_inj.1 h)
 unfold builtinD at hv
 split at hv
 ·rename_i x t e1 e2
  rw [arr1 e1, arr1 e2] at ho
  split at hv
  ·rename_i n hn
   obtain ⟨_, rfl⟩ := Prod.mk.inj (Option.some.inj hv)
   exact out_len hL A ho hn
  ·cases hv
 ·rename_i s x t t' e1 e2
  rw [arr2 e1, arr2 e2] at ho
  split at hv
  ·rename_i e he
   split at hv
   ·rename_i t'' hs
    split at hv
    ·rename_i ys hy
     (obtain ⟨h1, rfl⟩ := Prod.mk.inj (Option.some.inj hv)); (have := out_append hL A ho he (xs := []) (u := []) (.inl ⟨t'', hs, rfl, rfl⟩) hy (by have := okLe_iff.1 h1; simpa using this) (new_row (c := 0) List.mem_cons_self (by omega)))
     exact this
    ·cases hv
   ·rename_i j hs
    split at hv
    ·rename_i r hr
     split at hv
     ·rename_i xs ys hf hcst hy
      obtain ⟨h1, rfl⟩ := Prod.mk.inj (Option.some.inj hv)
      exact out_append hL A ho he (.inr ⟨j, r, hs, hr, hf, hcst, rfl⟩) hy (okLe_iff.1 h1) (new_row (c := 0) List.mem_cons_self (by omega))
     ·cases hv
    ·cases hv
   ·cases hv
  ·cases hv
 ·rename_i x y t t' e1 e2
  rw [arr2 e1, arr2 e2] at ho
  split at hv
  ·rename_i k m k' n hx hy
   obtain ⟨_, rfl⟩ := Prod.mk.inj (Option.some.inj hv)
   exact out_min A ho hx hy
  ·cases hv
 ·rename_i x y t t' e1 e2
  rw [arr2 e1, arr2 e2] at ho
  split at hv
  ·rename_i k m k' n hx hy
   obtain ⟨_, rfl⟩ := Prod.mk.inj (Option.some.inj hv)
   exact out_max A ho hx hy
  ·cases hv
 ·cases hv
end
end Go.Proofs.YtgnbfmoifnfneaaDoor.V
namespace Go.Proofs.YtgnbfmoifnfneaaDoor.V
open Go
set_option linter.unusedVariables false
set_option linter.unusedSimpArgs false
section
variable {P : Program} {L : Lay} {E : Ent} {st : St L.D} {V : Vl} {a : Act} {w : World} {sig : FuncId → Sig}
theorem val_inj {c c' : Bool} {d d' : Dl L.D} (h : some (Vd.val (sig := sig) c d) = some (.val c' d')) : c = c' ∧ d = d' := by
 injection h with h; injection h with h1 h2; exact ⟨h1, h2⟩
theorem val_store (hL : LayOk P L) (h : Rel L E st V a w) {i : Nat} {o : Oper} {d : Dl L.D} {t : TypeId} {x y : Operand} (ho : o.op = .store t x y) (hv : valD L sig i st o = some (.val true d)) (hc : clean st (newOf L i o d) = true) (hd : dstOk E.nt o.dst = true) : Out P L E st o a w d := by
 (have A := at_of h hc hd); (simp only [valD, ho] at hv)
 split at hv
 ·rename_i b off hg hx
  (simp only [Bool.and_eq_true] at hg); (have hn := Nat.eq_of_beq_eq_true hg.2)
  split at hv
  ·rename_i cs hb
   split at hv
   ·rename_i hle
    obtain ⟨_, rfl⟩ := val_inj hv
    exact out_storeBox hL A ho hg.1.1 hg.1.2 hn hx hb (Nat.le_of_ble_eq_true hle)
   ·cases hv
  ·cases hv
 ·rename_i j ix off hg hx
  (simp only [Bool.and_eq_true] at hg); (have hn := Nat.eq_of_beq_eq_true hg.2)
  split at hv
  ·rename_i r hr
   split at hv
   ·rename_i xs u hf hs hle
    split at hv
    ·rename_i z hu hz
     obtain ⟨_, rfl⟩ := val_inj hv
     exact out_storeRow hL A ho hg.1.1 hg.1.2 hn hx hr hf hs (Nat.le_of_ble_eq_true hle) hu hz
    ·cases hv
   ·cases hv
  ·cases hv
 ·cases hv
theorem val_conv (hL : LayOk P L) (h : Rel L E st V a w) {i : Nat} {o : Oper} {d : Dl L.D} {src dst : TypeId} {x : Operand} (ho : o.op = .convert src dst x) (hv : valD L sig i st o = some (.val true d)) (hc : clean st (newOf L i o d) = true) (hd : dstOk E.nt o.dst = true) : Out P L E st o a w d := by
 (have A := at_of h hc hd); (simp only [valD, ho] at hv)
 split at hv
 ·rename_i k n k' hx hk
  split at hv
  ·cases hv
  ·rename_i hs
   obtain ⟨_, rfl⟩ := val_inj hv
   exact out_convInt hL A ho hx hk (by simpa using hs)
 ·rename_i s hx hk
  split at hv
  ·cases hv
  ·rename_i hs
   obtain ⟨_, rfl⟩ := val_inj hv
   exact out_convStr hL A ho hx hk (by simpa using hs)
 ·rename_i s e hx hk
  split at hv
  ·rename_i hs hke
   obtain ⟨h1, rfl⟩ := val_inj hv
   exact out_convBytes hL A ho hx hk hs hke (by have := okLe_iff.1 h1; omega) (new_row (c := 0) List.mem_cons_self (by omega))
  ·cases hv
 ·rename_i s hk hx0
  split at hv
  ·rename_i e r he hr
   split at hv
   ·rename_i hb hke
    obtain ⟨_, rfl⟩ := val_inj hv
    exact out_convRow hL A ho he hk hke hr (Nat.eq_of_beq_eq_true hb)
   ·cases hv
  ·cases hv
 ·cases hv
theorem val_slice (hL : LayOk P L) (h : Rel L E st V a w) {i : Nat} {o : Oper} {d : Dl L.D} {t : TypeId} {x : Operand} {lo hi : Option Operand} (ho : o.op = .slice t x lo hi none) (hv : valD L sig i st o = some (.val true d)) (hc : clean st (newOf L i o d) = true) (hd : dstOk E.nt o.dst = true) : Out P L E st o a w d := by
 (have A := at_of h hc hd); (simp only [valD, ho] at hv)
 split at hv
 ·rename_i s hk hx
  split at hv
  ·rename_i l hh hl hh'
   (obtain ⟨h1, rfl⟩ := val_inj hv); (simp only [Bool.and_eq_true, decide_eq_true_eq] at h1)
   exact out_cutS hL A ho hk hx hl hh' h1.1.1 h1.1.2 h1.2
  ·cases hv
 ·rename_i e0 e xs hk hx
  split at hv
  ·rename_i l hh hb hl hh'
   (obtain ⟨h1, rfl⟩ := val_inj hv); (simp only [Bool.and_eq_true, decide_eq_true_eq] at h1); (obtain rfl := Nat.eq_of_beq_eq_true hb)
   exact out_cutR hL A ho hk hx hl hh' h1.1.1 h1.1.2 h1.2
  ·cases hv
 ·rename_i e0 j hk hx
  split at hv
  ·rename_i r hr
   split at hv
   ·rename_i l hh hb hl hh'
    (obtain ⟨h1, rfl⟩ := val_inj hv); (simp only [Bool.and_eq_true, decide_eq_true_eq] at h1); (obtain rfl := Nat.eq_of_beq_eq_true hb)
    exact out_cutOwn hL A ho hk hx hr hl hh' h1.1.1 h1.1.2 h1.2
   ·cases hv
  ·cases hv
 ·cases hv
theorem val_indexAddr (hL : LayOk P L) (h : Rel L E st V a w) {i : Nat} {o : Oper} {d : Dl L.D} {t : TypeId} {x y : Operand} (ho : o.op = .indexAddr t x y) (hv : valD L sig i st o = some (.val true d)) (hc : clean st (newOf L i o d) = true) (hd : dstOk E.nt o.dst = true) : Out P L E st o a w d := by
 (have A := at_of h hc hd); (simp only [valD, ho] at hv)
 split at hv
 ·rename_i e0 e xs k n he hx hy
  split at hv
  ·rename_i hb
   (obtain ⟨h1, rfl⟩ := val_inj hv); (simp only [Bool.and_eq_true, decide_eq_true_eq] at h1); (obtain rfl := Nat.eq_of_beq_eq_true hb)
   exact out_indexAddr hL A ho he (hx ▸ A.rel.opd x).ro_inv hy h1.1 h1.2
  ·cases hv
 ·rename_i e0 j k n he hx hy
  split at hv
  ·rename_i r hr
   split at hv
   ·rename_i hb hf
    (obtain ⟨h1, rfl⟩ := val_inj hv); (simp only [Bool.and_eq_true, decide_eq_true_eq] at h1); (obtain rfl := Nat.eq_of_beq_eq_true hb)
    exact out_indexOwn hL A ho he hx hr hy h1.1 h1.2 hf
   ·rename_i hb hf
    (obtain ⟨h1, rfl⟩ := val_inj hv); (simp only [Bool.and_eq_true, decide_eq_true_eq] at h1); (obtain rfl := Nat.eq_of_beq_eq_true hb)
    refine out_indexAddr hL A ho he (xs := r.xs) ?_ hy h1.1 h1.2
    (have hx0 := A.rel.opd x); (rw [hx] at hx0); (rw [hx0.own_inv hr])
    exact (h.row j r hr).1 hf
   ·cases hv
  ·cases hv
 ·cases hv
theorem memo_ptr (hL : LayOk P L) (h : Rel L E st V a w) {x : Operand} {cs : List (SV L.D)} {off : Nat} (hm : memo (rdo st x) st = some (cs, off)) : ∃ b o, a.eval x = .pointer (some ⟨b, o + off, none⟩) := by
 obtain ⟨b, o, _, h1, _⟩ := memo_ok (P := P) hL h hm (h.opd x)
 exact ⟨b, o, h1⟩
theorem val_field (hL : LayOk P L) (h : Rel L E st V a w) {i : Nat} {o : Oper} {d : Dl L.D} {s : TypeId} {x : Operand} {f : Nat} (ho : o.op = .fieldAddr s x f) (hv : valD L sig i st o = some (.val true d)) (hc : clean st (newOf L i o d) = true) (hd : dstOk E.nt o.dst = true) : Out P L E st o a w d := by
 (have A := at_of h hc hd); (simp only [valD, ho] at hv)
 split at hv
 ·rename_i q n m hf hm
  (have hx0 := A.rel.opd x); (have hcl := clean_rdo A.clean x)
  split at hv
  ·rename_i b off hx
   (obtain ⟨_, rfl⟩ := val_inj hv); (rw [hx] at hx0 hm hcl); (simp only [memo] at hm)
   cases hb : st.box b with
   | none => rw [hb] at hm; cases hm
   | some cs =>
    have hp := hx0.ptr_inv hb
    exact out_fieldAddr hL A ho hf (p := .dead) hp (fun k hk => hcl k hk) (.ptr b (off + q) _ fun cs' _ => by rw [Nat.add_assoc])
  ·rename_i t y off hx
   (obtain ⟨_, rfl⟩ := val_inj hv); (rw [hx] at hx0); (obtain ⟨b, o', g, hb, hp, hu, hr⟩ := hx0.rp_inv)
   refine out_fieldAddr hL A ho hf (p := .dead) hp (fun k hk => rfl) ?_
   rw [Nat.add_assoc]
   exact .rp t y (off + q) b o' g hb hu hr
  ·rename_i j ix off hx
   (obtain ⟨_, rfl⟩ := val_inj hv); (rw [hx] at hx0 hm hcl); (simp only [memo] at hm)
   cases hr : st.row j with
   | none => rw [hr] at hm; cases hm
   | some r =>
    obtain ⟨g, c, e1, e2, e3⟩ := hx0.ep_inv hr
    refine out_fieldAddr hL A ho hf (p := .dead) e3 (fun k hk => hcl k hk) (.ep j ix (off + q) _ fun r' hr' => ?_)
    obtain rfl : r' = r := Option.some.inj (hr'.symm.trans hr)
    exact ⟨g, c, e1, e2, by rw [Nat.add_assoc]⟩
  ·rename_i cs off hx
   (obtain ⟨_, rfl⟩ := val_inj hv); (rw [hx] at hx0); (obtain ⟨b, o', g, hb, hp, hu, hr⟩ := hx0.rb_inv)
   refine out_fieldAddr hL A ho hf (p := .dead) hp (fun k hk => rfl) ?_
   rw [Nat.add_assoc]
   exact .rb cs (off + q) b o' g hb hu hr
  ·cases hv
 ·cases hv
theorem val_ok (hL : LayOk P L) (h : Rel L E st V a w) {i : Nat} {o : Oper} {d : Dl L.D} (hv : valD L sig i st o = some (.val true d)) (hc : clean st (newOf L i o d) = true) (hd : dstOk E.nt o.dst = true) : Out P L E st o a w d := by
 (have A := at_of h hc hd); (have hv0 := hv)
 unfold valD at hv
 split at hv
 ·rename_i x ho
  obtain ⟨_, rfl⟩ := val_inj hv
  exact out_move A (.inl ho)
 ·rename_i x ho
  obtain ⟨_, rfl⟩ := val_inj hv
  exact out_move A (.inr ho)
 ·rename_i n x y ho
  split at hv
  ·rename_i c hcn
   split at hv
   ·rename_i p q hp hq
    obtain ⟨_, rfl⟩ := val_inj hv
    exact out_pick A ho hcn hp hq
   ·cases hv
  ·cases hv
 ·rename_i t ho
  split at hv
  ·cases hv
  ·rename_i hk
   (obtain ⟨_, rfl⟩ := val_inj hv); (have hm := new_box (L := L) (i := i) (o := o) (d := { val := .ptr (ident i 0) 0, boxes := [(ident i 0, some (L.zero t))] }) (c := 0) List.mem_cons_self (by omega))
   exact out_alloc hL A ho (by simpa using hk) hm (clean_imps hc _ hm)
 ·rename_i t x ho
  split at hv
  ·rename_i hg
   (obtain ⟨_, rfl⟩ := val_inj hv); (simp only [Bool.and_eq_true] at hg); (have hm := new_box (L := L) (i := i) (o := o) (d := { val := .ptr (ident i 0) 0, boxes := [(ident i 0, some (cellsOf (rdt L st t x)))] }) (c := 0) List.mem_cons_self (by omega))
   exact out_box hL A ho hg.1.2 hm
  ·cases hv
 ·rename_i t ps ho
  split at hv
  ·rename_i fs hk
   split at hv
   ·rename_i cs hcs
    obtain ⟨_, rfl⟩ := val_inj hv
    exact out_build hL A ho hk hcs fun k hk' => mentL_of (fill_ment hc fs hcs (fun k _ => zero_ment hL (by simp [okT, hk]) k) k hk')
   ·cases hv
  ·cases hv
 ·rename_i t n ps ho
  split at hv
  ·rename_i e he
   split at hv
   ·rename_i xs u hg hel
    (obtain ⟨_, rfl⟩ := val_inj hv); (simp only [Bool.and_eq_true] at hg)
    exact out_buildSlice hL A ho he hg.1.1 (Nat.eq_of_beq_eq_true hg.1.2) (Nat.le_of_ble_eq_true hg.2) hel (new_row (c := 0) List.mem_cons_self (by omega))
   ·cases hv
  ·cases hv
 ·rename_i t x ho
  split at hv
  ·rename_i cs off hm
   split at hv
   ·rename_i hg
    (obtain ⟨_, rfl⟩ := val_inj hv); (simp only [Bool.and_eq_true] at hg)
    exact out_load hL A ho hm hg.1 (Nat.le_of_ble_eq_true hg.2) (memo_ment (P := P) hL h hc hm (h.opd x))
   ·cases hv
  ·cases hv
 ·rename_i t x y ho
  exact val_store hL h ho hv0 hc hd
 ·rename_i x ho
  split at hv
  ·rename_i f cs hx
   obtain ⟨_, rfl⟩ := val_inj hv
   exact out_nilCl A ho hx
  ·split at hv
   ·rename_i m hm
    (obtain ⟨_, rfl⟩ := val_inj hv); (obtain ⟨cs, off⟩ := m); (obtain ⟨b, o', hp⟩ := memo_ptr (P := P) hL h hm)
    exact out_nilCheck A ho rfl hp
   ·cases hv
 ·rename_i op t x y t' ho
  split at hv
  ·rename_i p q hx hy
   split at hv
   ·rename_i hk
    obtain ⟨_, rfl⟩ := val_inj hv
    exact out_bools A ho (hL.bool _ hk) hx hy (.inl ⟨rfl, rfl⟩)
   ·rename_i hk
    obtain ⟨_, rfl⟩ := val_inj hv
    exact out_bools A ho (hL.bool _ hk) hx hy (.inr ⟨rfl, rfl⟩)
   ·cases hv
  ·rename_i p q hn hx hy
   split at hv
   ·rename_i c r hs
    obtain ⟨rfl, rfl⟩ := val_inj hv
    exact out_binOp A ho hx hy hs
   ·cases hv
  ·rename_i cs ds hx hy
   split at hv
   ·rename_i r hq
    obtain ⟨_, rfl⟩ := val_inj hv
    exact out_aggs hL A ho hx hy hq (.inl ⟨rfl, rfl⟩)
   ·rename_i r hq
    obtain ⟨_, rfl⟩ := val_inj hv
    exact out_aggs hL A ho hx hy hq (.inr ⟨rfl, rfl⟩)
   ·cases hv
  ·cases hv
 ·rename_i op t x ho
  split at hv
  ·rename_i p hx
   split at hv
   ·rename_i r hs
    obtain ⟨_, rfl⟩ := val_inj hv
    exact out_unOp A ho hx hs
   ·cases hv
  ·cases hv
 ·rename_i src dst x ho
  exact val_conv hL h ho hv0 hc hd
 ·rename_i t x y ho
  split at hv
  ·rename_i e n c he hx hy
   (obtain ⟨h1, rfl⟩ := val_inj hv); (simp only [Bool.and_eq_true, decide_eq_true_eq] at h1)
   exact out_make hL A ho he hx hy h1.1.1 h1.1.2 (okLe_iff.1 h1.2) (new_row (c := 0) List.mem_cons_self (by omega))
  ·cases hv
 ·rename_i t x lo hi ho
  exact val_slice hL h ho hv0 hc hd
 ·rename_i s x f ho
  exact val_field hL h ho hv0 hc hd
 ·rename_i t x y ho
  exact val_indexAddr hL h ho hv0 hc hd
 ·rename_i t x y ho
  split at hv
  ·rename_i s k n hk hx hy
   (obtain ⟨h1, rfl⟩ := val_inj hv); (simp only [Bool.and_eq_true, decide_eq_true_eq] at h1)
   exact out_index hL A ho hk hx hy h1.1 h1.2
  ·cases hv
 ·rename_i x n ho
  split at hv
  ·rename_i l hx
   split at hv
   ·rename_i s hs
    obtain ⟨_, rfl⟩ := val_inj hv
    refine out_extract A ho hx hs fun k hk => ?_
    (have := clean_rdo hc x k hk); (rw [hx] at this)
    exact mentL_mem (show mentL k l = false by simpa [ment] using this) s (List.mem_of_getElem? hs)
   ·cases hv
  ·cases hv
 ·rename_i f first c ho
  split at hv
  ·rename_i hf
   (obtain ⟨_, rfl⟩ := val_inj hv); (have : first = #[] := by cases first; simp at hf; rw [hf]); (subst this)
   exact out_makeFunc A ho
  ·cases hv
 ·rename_i c ho
  split at hv
  ·rename_i b hb
   split at hv
   ·rename_i c' d' hbd
    (obtain ⟨rfl, rfl⟩ := val_inj hv); (obtain ⟨callee, args, ts⟩ := c); (simp only at hb hbd); (subst hb)
    exact out_builtin hL h ho hbd hc hd
   ·cases hv
  ·split at hv
   ·split at hv
    ·unfold callD at hv
     split at hv <;> split at hv <;> first
      | (injection hv with hv; cases hv; done)
      | (cases hv; done)
    ·cases hv
   ·cases hv
  ·cases hv
 ·cases hv
end
end Go.Proofs.YtgnbfmoifnfneaaDoor.V
namespace Go.Proofs.YtgnbfmoifnfneaaDoor.V
open Go
set_option linter.unusedVariables false
set_option linter.unusedSimpArgs false
def Callable (P : Program) (f : FuncId) : Prop := ∃ fn c, P.funcs[f]? = some fn ∧ (fn.name == "runtime.NumGoroutine") = false ∧ fn.body = some c
theorem run_callFunc {P : Program} {f : FuncId} (h : Callable P f) (args : Array Value) (w : World) : (callFunc f args).run P w = .ok (.enter f args) w := by
 (obtain ⟨fn, c, h1, h2, h3⟩ := h); (have h2' : ¬ fn.name = "runtime.NumGoroutine" := by simpa using h2)
 simp [callFunc, h1, h2', h3]
section
variable {P : Program} {L : Lay} {E : Ent} {st : St L.D} {V : Vl} {a : Act} {w : World} {sig : FuncId → Sig}
theorem valD_call {i : Nat} {o : Oper} {f : FuncId} {az : List (SV L.D)} {k : RT L.D (sig f).all → Dl L.D} (hv : valD L sig i st o = some (.call f az k)) : ∃ (c : Call) (f0 : Operand) (caps : List (SV L.D)) (gs cs : List (Arg L)), o.op = .call c ∧ c.callee = .value f0 ∧ rdo st f0 = .cl f caps ∧ args_ L st c.args.toList c.argTypes.toList = some gs ∧ capArgs L st caps = some cs ∧ callD L sig i f (gs ++ cs) = some (.call f az k) := by
 have nb : ∀ {c : Call}, o.op = .call c → _ := fun {c} ho => ho
 cases ho : o.op with
 | call c =>
  simp only [valD, ho] at hv
  split at hv
  ·rename_i b hb
   split at hv
   ·injection hv with hv; cases hv
   ·cases hv
  ·rename_i f0 hf0
   split at hv
   ·rename_i f' caps gs hf hg
    split at hv
    ·rename_i cs hcs
     have hf' : f' = f := by
      unfold callD at hv
      split at hv <;> split at hv <;> first
       | (injection hv with hv; injection hv)
       | cases hv
     subst hf'
     exact ⟨c, f0, caps, gs, cs, rfl, hf0, hf, hg, hcs, hv⟩
    ·cases hv
   ·cases hv
  ·cases hv
 | _ =>
  exfalso
  unfold valD at hv
  simp only [ho] at hv
  repeat' (first | contradiction | (split at hv) | (cases hv; done) | (injection hv with hv; cases hv; done))
theorem new_ok (h : Rel L E st V a w) {i : Nat} {o : Oper} {s : Sig} {r : RT L.D s.all} {n : Nat} {vs : List Value} {v : Value} {w' : World} {gs : List (Arg L)} (h1 : lentOf L gs = []) (h2 : goneOf L gs = []) (h3 : shownOf L gs = []) (h4 : captOf L gs = []) (Q : PostM L (callE L E st V w gs n) s (enc s.all r) vs v w') (hc : clean st (newOf L i o (afterM L i s r)) = true) (hd : dstOk E.nt o.dst = true) :
  ∃ V', Rel L E (st.put o.dst (afterM L i s r)) V' (a.put o.dst v) w' := by
 have hImp : ∀ k, ¬ (callE L E st V w gs n).Imp k := fun k hk => by
  rcases hk with ⟨l, hl, _⟩ | ⟨j, hj, _⟩
  ·rw [h1] at hl; cases hl
  ·rw [h2] at hj; cases hj
 have hF0 : ∀ k, (callE L E st V w gs n).F0 k → Fz E st V w k := fun k hk => by
  rcases hk with hk | ⟨j, x, hj, _⟩ | ⟨b, hb, _⟩
  ·exact hk
  ·rw [h3] at hj; cases hj
  ·rw [h4] at hb; cases hb
 (obtain ⟨g, q, xs, T, rfl, g1, g2, g3, g4, g5⟩ := Q.ptr); (have g1 : w.heap.size ≤ g := g1.resolve_right (hImp g)); (have hw : ∀ k, k < w.heap.size → w'.heap[k]? = w.heap[k]? := fun k hk => Q.kept k hk (hImp k)); (have hz : w.heap.size ≤ w'.heap.size := Q.size); (have A := at_of h hc hd); (have hk : (1, ident i 0) ∈ newOf L i o (afterM L i s r) := new_box (c := 0) List.mem_cons_self (by omega)); (have hi : ident i 0 ∉ st.imps := clean_imps hc _ hk); (have S := same_newBoxAt (k0 := g) (o0 := q) (s := .ptr (ident i 0) 0) (cs0 := enc s.all r) h g1 hk (fun n hn => (A.dst n hn).1) (v := .pointer (some ⟨g, q, none⟩)) hw hz)
 have hBox : BoxOk L E (st.put o.dst { val := .ptr (ident i 0) 0, boxes := [(ident i 0, some (enc s.all r))] }) (V.withBox (ident i 0) g q) (a.put o.dst (.pointer (some ⟨g, q, none⟩))).tmps w' (ident i 0) (enc s.all r) := by
  refine ⟨xs, T, by simp only [Vl.withBox, if_true]; exact g2, by simp only [Vl.withBox, if_true]; exact g3, fun j hj => ?_⟩
  have hvj := g4 j hj
  refine ⟨vs.getD j undef, by simp only [Vl.withBox, if_true]; exact hvj, ?_, .c ((g5 j hj).mono fun k hk => ⟨?_, rfl⟩)⟩
  ·have : j < vs.length := by rw [Q.len]; exact hj
   rw [getD_lt this]; exact Q.one _ (List.getElem_mem _)
  ·rcases hk with hk | ⟨k1, k2, k3⟩
   ·exact (S.mem k (hF0 k hk)).1
   ·have k1 : w.heap.size ≤ k := k1.resolve_right (hImp k)
    refine .inr ⟨.inl (Nat.le_trans h.size k1), k2, fun ho => ?_⟩
    rcases ho with ⟨b, cs, hb', e⟩ | ⟨m, x, hx, hf, e⟩
    ·rcases box_new hb' with ⟨rfl, _⟩ | ⟨hne, h0⟩
     ·simp [Vl.withBox] at e; exact k3 e.symm
     ·simp [Vl.withBox, hne] at e
      have := h.box_lt h0; omega
    ·rw [row_newBox] at hx
     have := h.row_lt hx hf e; omega
 refine ⟨V.withBox (ident i 0) g q, h.turn hc A.dst ((Ch.newBoxAt h g1 hk hi _ hw hz Q.os Q.tape Q.output hBox).turn h) fun n hn => ?_⟩
 refine .ptr _ 0 _ fun cs hcs => ?_
 simp [Vl.withBox]
theorem call_mk (hL : LayOk P L) (h : Rel L E st V a w) {i : Nat} {o : Oper} {f : FuncId} {az : List (SV L.D)} {k : RT L.D (sig f).all → Dl L.D} (hv : valD L sig i st o = some (.call f az k)) {r : RT L.D (sig f).all} {Tab : TabP} (hT : Tab E.F0 E.w0) (hTk : TabKept Tab) (hm : Meets P L Tab (sig f) f az r) (hcb : Callable P f) (hmk : (sig f).new = true) (hc : clean st (newOf L i o (k r)) = true) (hd : dstOk E.nt o.dst = true)
  {K : Act → World → Prop} {Q : Exit → Act → World → Prop} (hK : ∀ V' v w', Rel L E (st.put o.dst (k r)) V' (a.put o.dst v) w' → K (a.put o.dst v) w') : o.wp P a w K Q := by
 (obtain ⟨c, f0, caps, gs, cs, ho, hf0, hf, hg, hcs, hcd⟩ := valD_call hv); (obtain ⟨vs, ev, hvl, hvj⟩ := (hf ▸ h.opd f0).cl_inv); (obtain ⟨gl, ga⟩ := args_ok (P := P) hL h hg); (obtain ⟨cl, ca⟩ := capArgs_ok (P := P) hL h hcs vs hvj)
 unfold callD at hcd
 (rw [hmk] at hcd); (simp only at hcd)
 split at hcd
 ·rename_i hck
  (simp only [Bool.and_eq_true] at hck); (obtain ⟨⟨⟨c1, c2⟩, c3⟩, c4⟩ := hck); (have c1 := List.isEmpty_iff.1 c1); (have c2 := List.isEmpty_iff.1 c2); (have c3 := List.isEmpty_iff.1 c3); (have c4 := List.isEmpty_iff.1 c4)
  injection hcd with hcd
  injection hcd with _ e1 e2
  have hlen : (gs ++ cs).length = ((c.args.toList.map a.eval) ++ vs).length := by simp [gl, cl, hvl]
  have H : Lends L E st V w (gs ++ cs) ((c.args.toList.map a.eval) ++ vs) := by
   refine ⟨hlen, fun p hp => ?_, by rw [c1]; exact List.nodup_nil, by rw [c2]; exact List.nodup_nil, (by rw [c3]; exact fun j hj => nomatch hj), (by rw [c4]; exact fun j hj => nomatch hj)⟩
   by_cases hpg : p < gs.length
   ·rw [List.getElem_append_left hpg]
    have e : ((c.args.toList.map a.eval) ++ vs).getD p undef = (c.args.toList.map a.eval).getD p undef := by
     rw [List.getD_eq_getElem?_getD, List.getD_eq_getElem?_getD, List.getElem?_append_left (by simp; simp at gl; omega)]
    rw [e]
    exact ga p hpg
   ·have hpc : p - gs.length < cs.length := by simp at hp; omega
    rw [List.getElem_append_right (by omega)]
    have e : ((c.args.toList.map a.eval) ++ vs).getD p undef = vs.getD (p - gs.length) undef := by
     rw [List.getD_eq_getElem?_getD, List.getD_eq_getElem?_getD, List.getElem?_append_right (by simp; simp at gl; omega)]
     congr 2
     simp [gl]
    rw [e]
    exact ca _ hpc
  (have S := start_ok h H); (have M := hm (callE L E st V w (gs ++ cs) ((c.args.toList.map a.eval) ++ vs).length) (startV w ((c.args.toList.map a.eval) ++ vs)) ((c.args.toList.map a.eval) ++ vs) (hTk _ _ _ _ hT fun k hk => ⟨.inl (.inl hk), h.kept k (h.old k hk) (h.fimp k hk)⟩) rfl (by rw [← e1, List.length_map]; exact hlen) (by rw [← e1]; exact S))
  unfold Oper.wp
  have hrun : (execOp a.eval o).run P w = .ok (.enter f ((c.args.toList.map a.eval) ++ vs).toArray) w := by
   unfold execOp
   (simp only [ho, resolve, hf0, ev, Deferred.ofValue, invoke, Sem.run_bind, Sem.run_pure, Result.andThen_ok]); (rw [run_callFunc hcb])
   congr 2
   apply Array.ext'
   simp
  rw [hrun, Oper.upon_enter]
  refine Calls.mono M fun e w' he => ?_
  cases e with
  | returned v =>
   obtain ⟨vs', Q'⟩ := he
   unfold PostA at Q'
   (rw [hmk] at Q'); (rw [← e2] at hc); (obtain ⟨V', hr'⟩ := new_ok h c1 c2 c3 c4 Q' hc hd)
   exact hK V' v w' (e2 ▸ hr')
  | panicked chain => exact he.elim
  | outgrown => exact he.elim
 ·cases hcd
theorem call_ok (hL : LayOk P L) (h : Rel L E st V a w) {i : Nat} {o : Oper} {f : FuncId} {az : List (SV L.D)} {k : RT L.D (sig f).all → Dl L.D} (hv : valD L sig i st o = some (.call f az k)) {r : RT L.D (sig f).all} {Tab : TabP} (hT : Tab E.F0 E.w0) (hTk : TabKept Tab) (hm : Meets P L Tab (sig f) f az r) (hcb : Callable P f) (hs : (sig f).all.length ≤ 900) (hc : clean st (newOf L i o (k r)) = true) (hd : dstOk E.nt o.dst = true)
  {K : Act → World → Prop} {Q : Exit → Act → World → Prop} (hK : ∀ V' v w', Rel L E (st.put o.dst (k r)) V' (a.put o.dst v) w' → K (a.put o.dst v) w') : o.wp P a w K Q := by
 (obtain ⟨c, f0, caps, gs, cs, ho, hf0, hf, hg, hcs, hcd⟩ := valD_call hv); (obtain ⟨vs, ev, hvl, hvj⟩ := (hf ▸ h.opd f0).cl_inv); (obtain ⟨gl, ga⟩ := args_ok (P := P) hL h hg); (obtain ⟨cl, ca⟩ := capArgs_ok (P := P) hL h hcs vs hvj)
 cases hmk : (sig f).new with
 | true => exact call_mk hL h hv hT hTk hm hcb hmk hc hd hK
 | false =>
 unfold callD at hcd
 (rw [hmk] at hcd); (simp only at hcd)
 split at hcd
 ·rename_i hck
  (simp only [Bool.and_eq_true] at hck); (obtain ⟨⟨⟨⟨⟨c1, c2⟩, c3⟩, c4⟩, c5⟩, c6⟩ := hck)
  injection hcd with hcd
  injection hcd with _ e1 e2
  have hlen : (gs ++ cs).length = ((c.args.toList.map a.eval) ++ vs).length := by simp [gl, cl, hvl]
  have H : Lends L E st V w (gs ++ cs) ((c.args.toList.map a.eval) ++ vs) := by
   refine ⟨hlen, fun p hp => ?_, nodupB_spec c1, nodupB_spec c2, disjB_spec c3, disjB_spec c4⟩
   by_cases hpg : p < gs.length
   ·rw [List.getElem_append_left hpg]
    have e : ((c.args.toList.map a.eval) ++ vs).getD p undef = (c.args.toList.map a.eval).getD p undef := by
     rw [List.getD_eq_getElem?_getD, List.getD_eq_getElem?_getD, List.getElem?_append_left (by simp; simp at gl; omega)]
    rw [e]
    exact ga p hpg
   ·have hpc : p - gs.length < cs.length := by simp at hp; omega
    rw [List.getElem_append_right (by omega)]
    have e : ((c.args.toList.map a.eval) ++ vs).getD p undef = vs.getD (p - gs.length) undef := by
     rw [List.getD_eq_getElem?_getD, List.getD_eq_getElem?_getD, List.getElem?_append_right (by simp; simp at gl; omega)]
     congr 2
     simp [gl]
    rw [e]
    exact ca _ hpc
  have hcp : captOf L (gs ++ cs) = [] ∨ roS L (sig f).all = false := by
   rcases Bool.or_eq_true _ _ ▸ c5 with c5 | c5
   ·exact .inl (List.isEmpty_iff.1 c5)
   ·exact .inr (by simpa using c5)
  (have S := start_ok h H); (have M := hm (callE L E st V w (gs ++ cs) ((c.args.toList.map a.eval) ++ vs).length) (startV w ((c.args.toList.map a.eval) ++ vs)) ((c.args.toList.map a.eval) ++ vs) (hTk _ _ _ _ hT fun k hk => ⟨.inl (.inl hk), h.kept k (h.old k hk) (h.fimp k hk)⟩) rfl (by rw [← e1, List.length_map]; exact hlen) (by rw [← e1]; exact S))
  unfold Oper.wp
  have hrun : (execOp a.eval o).run P w = .ok (.enter f ((c.args.toList.map a.eval) ++ vs).toArray) w := by
   unfold execOp
   (simp only [ho, resolve, hf0, ev, Deferred.ofValue, invoke, Sem.run_bind, Sem.run_pure, Result.andThen_ok]); (rw [run_callFunc hcb])
   congr 2
   apply Array.ext'
   simp
  rw [hrun, Oper.upon_enter]
  refine Calls.mono M fun e w' he => ?_
  cases e with
  | returned v =>
   obtain ⟨vs', Q'⟩ := he
   unfold PostA at Q'
   rw [hmk] at Q'
   refine hK _ v w' (e2 ▸ Rel.call hL h H c6 hcp Q' (e2 ▸ hc) (fun j hj hfr => ?_) fun n hn => ?_)
   ·obtain ⟨t, xs, hx⟩ := hfr
    (rw [enc_len] at hj); (have hl := take_some (ident i 1) 0 (enc (sig f).all r) j t xs (by rw [enc_len]; exact hj) hx); (rw [Nat.zero_add] at hl); (have hmem := look_mem hl); (have e : ident i 1 + j = ident i (1 + j) := by unfold ident; omega); (rw [e] at hmem ⊢)
    exact new_row (L := L) (i := i) (o := o) (c := 1 + j) (x := some ⟨t, false, xs⟩) (List.mem_append_left _ (List.mem_append_left _ hmem)) (by omega)
   ·have A := at_of h hc hd
    rw [← e2] at A
    exact A.dst n hn
  | panicked chain => exact he.elim
  | outgrown => exact he.elim
 ·cases hcd
end
end Go.Proofs.YtgnbfmoifnfneaaDoor.V
namespace Go.Proofs.YtgnbfmoifnfneaaDoor.V
open Go
set_option linter.unusedVariables false
set_option linter.unusedSimpArgs false
structure CallOk (P : Program) (L : Lay) (Tab : TabP) (E : Ent) (sig : FuncId → Sig) (call : (f : FuncId) → List (SV L.D) → Option (RT L.D (sig f).all)) : Prop where
 meets : ∀ f az r, call f az = some r → Meets P L Tab (sig f) f az r ∧ Callable P f
 small : ∀ f, (sig f).all.length ≤ 900
 tab : Tab E.F0 E.w0
 kept : TabKept Tab
section
variable {P : Program} {L : Lay} {E : Ent} {V : Vl} {a : Act} {w : World} {sig : FuncId → Sig} {call : (f : FuncId) → List (SV L.D) → Option (RT L.D (sig f).all)} {ρ : Type}
def Made1 (sig : FuncId → Sig) (call : (f : FuncId) → List (SV L.D) → Option (RT L.D (sig f).all)) (i : Nat) (st : St L.D) (o : Oper) (d : Dl L.D) : Prop :=
 valD L sig i st o = some (.val true d) ∨ ∃ f az k r, valD L sig i st o = some (.call f az k) ∧ call f az = some r ∧ d = k r
theorem valK_made {i : Nat} {st : St L.D} {o : Oper} {K : Dl L.D → Option ρ} {x : ρ} (h : valK L sig call true i st o K = some x) : ∃ d, Made1 sig call i st o d ∧ K d = some x := by
 unfold valK at h
 split at h
 ·rename_i c d hv
  unfold chk at h
  split at h
  ·rename_i hc
   (have : c = true := by simpa using hc); (subst this)
   exact ⟨d, .inl hv, h⟩
  ·cases h
 ·rename_i f az k hv
  simp only [gcall] at h
  cases hc : call f az with
  | none => rw [hc] at h; cases h
  | some r => rw [hc] at h; exact ⟨k r, .inr ⟨f, az, k, r, hv, hc, rfl⟩, h⟩
 ·cases h
theorem valK_not {i : Nat} {st : St L.D} {o : Oper} {K : Dl L.D → Option ρ} {x : ρ} (h : valK L sig call false i st o K = some x) : ∃ d, K d = some x := by
 unfold valK at h
 split at h
 ·rename_i c d hv
  unfold chk at h
  split at h
  ·exact ⟨d, h⟩
  ·cases h
 ·rename_i f az k hv
  exact ⟨_, h⟩
 ·cases h
def Made (sig : FuncId → Sig) (call : (f : FuncId) → List (SV L.D) → Option (RT L.D (sig f).all)) (ops : List Oper) (i : Nat) (st : St L.D) (o : Oper) (d : Dl L.D) : Prop :=
 match o.guard with
 | none => Made1 sig call i st o d
 | some (j, wt) => ∃ (p : Oper) (n : Nat) (g : Bool) (gl : List (Nat × Bool)) (s : SV L.D) (ks : List Nat), ops[j]? = some p ∧ p.dst = some n ∧ notDst n o.dst = true ∧ guardOf L st 8 n wt = some (g, gl) ∧ d = { val := .gd n wt s, rows := ks.map fun k => (k, none) } ∧
   (g = true → ∃ d', Made1 sig call i { st with tmps := ungAll L gl st.tmps } o d' ∧ d'.boxes = [] ∧ newRows L i d'.rows = true ∧ ks = d'.rows.map (·.1) ∧ froze L d'.rows d'.val = s)
theorem flip_eq (w b : Bool) : flip_ w b = (b == w) := by cases w <;> cases b <;> rfl
theorem oneK_made {ops : List Oper} {i : Nat} {st : St L.D} {o : Oper} {next : Dl L.D → Option ρ} {x : ρ} (h : oneK L sig call ops i st o next = some x) : ∃ d, Made sig call ops i st o d ∧ next d = some x := by
 unfold oneK at h
 unfold Made
 split at h
 ·rename_i hg
  obtain ⟨d, h1, h2⟩ := valK_made h
  exact ⟨d, by rw [hg]; exact h1, h2⟩
 ·rename_i j wt hg
  split at h
  ·rename_i p hp
   split at h
   ·rename_i n hn
    split at h
    ·rename_i g gl hb
     cases g with
     | true =>
      obtain ⟨d', h1, h2⟩ := valK_made h
      split at h2
      ·rename_i e1 e2
       rw [Bool.and_eq_true] at e2
       exact ⟨_, by rw [hg]; exact ⟨p, n, true, gl, _, d'.rows.map (·.1), hp, hn, e2.2, hb, by rw [List.map_map]; rfl, fun _ => ⟨d', h1, e1, e2.1, rfl, rfl⟩⟩, h2⟩
      ·cases h2
     | false =>
      obtain ⟨d', h2⟩ := valK_not h
      split at h2
      ·rename_i e1 e2
       rw [Bool.and_eq_true] at e2
       exact ⟨_, by rw [hg]; exact ⟨p, n, false, gl, _, d'.rows.map (·.1), hp, hn, e2.2, hb, by rw [List.map_map]; rfl, fun e => by cases e⟩, h2⟩
      ·cases h2
    ·cases h
   ·cases h
  ·cases h
theorem Out.wp {st : St L.D} {o : Oper} {d : Dl L.D} (h : Out P L E st o a w d) {K : Act → World → Prop} {Q : Exit → Act → World → Prop} (hK : ∀ V' v w', Rel L E (st.put o.dst d) V' (a.put o.dst v) w' → K (a.put o.dst v) w') : o.wp P a w K Q := by
 obtain ⟨nx, w', hr, V', h1 | h1⟩ := h
 ·obtain ⟨v, rfl, hrel⟩ := h1
  unfold Oper.wp
  rw [hr]
  exact hK V' v w' hrel
 ·obtain ⟨rfl, hrel⟩ := h1
  unfold Oper.wp
  rw [hr]
  exact hK V' undef w' hrel
theorem made1_ok (hL : LayOk P L) {Tab : TabP} (hC : CallOk P L Tab E sig call) {st : St L.D} (h : Rel L E st V a w) {i : Nat} {o : Oper} {d : Dl L.D} (hm : Made1 sig call i st o d) (hc : clean st (newOf L i o d) = true) (hd : dstOk E.nt o.dst = true)
  {K : Act → World → Prop} {Q : Exit → Act → World → Prop} (hK : ∀ V' v w', Rel L E (st.put o.dst d) V' (a.put o.dst v) w' → K (a.put o.dst v) w') : o.wp P a w K Q := by
 rcases hm with hv | ⟨f, az, k, r, hv, hr, rfl⟩
 ·exact (val_ok hL h hv hc hd).wp hK
 ·obtain ⟨m1, m2⟩ := hC.meets f az r hr
  exact call_ok hL h hv hC.tab hC.kept m1 m2 (hC.small f) hc hd hK
theorem Rel.fewer {st st' : St L.D} (h : Rel L E st V a w) (hb : ∀ b, st'.box b = st.box b) (hr : ∀ i r, st'.row i = some r → st.row i = some r) (hi : st'.imps = st.imps) (ht : (∀ k, Fz E st V w k → Fz E st' V w k) → Same L w w (Fz E st V w) (Fz E st' V w) st st' V V a.tmps a.tmps (fun _ => False) → ∀ n, SR L w (Fz E st' V w) st' V a.tmps (st'.tmp n) (a.tmps.getD n undef)) : Rel L E st' V a w := by
 have ow : ∀ k, Ow st' V k → Ow st V k := fun k hk => by
  rcases hk with ⟨b, cs, h1, h2⟩ | ⟨i, r, h1, h2⟩
  ·exact .inl ⟨b, cs, by rw [← hb]; exact h1, h2⟩
  ·exact .inr ⟨i, r, hr i r h1, h2⟩
 have fz : ∀ k, Fz E st V w k → Fz E st' V w k := fun k hk => by
  rcases hk with hk | ⟨h1, h2, h3⟩
  ·exact .inl hk
  ·exact .inr ⟨h1, h2, fun ho => h3 (ow k ho)⟩
 have S : Same L w w (Fz E st V w) (Fz E st' V w) st st' V V a.tmps a.tmps (fun _ => False) := ⟨fun k hk => ⟨fz k hk, rfl⟩, fun i r' _ h' => ⟨r', hr i r' h', rfl, rfl, rfl⟩, fun b cs' _ h' => ⟨cs', by rw [← hb]; exact h', rfl, rfl⟩, fun _ _ => rfl⟩
 refine ⟨ht fz S, fun b cs h' => ?_, fun i r h' => ?_, fun b b' cs cs' h1 h2 => h.bb b b' cs cs' (by rw [← hb]; exact h1) (by rw [← hb]; exact h2), fun b cs i r h1 h2 => h.br b cs i r (by rw [← hb]; exact h1) (hr i r h2), fun i i' r r' k h1 h2 => h.rr i i' r r' k (hr i r h1) (hr i' r' h2), fun k hk => h.own k (ow k hk), h.old, h.fimp, h.size, h.kept, h.os, h.tape, h.output, h.defers, h.slots, fun q hq => ?_, by rw [hi]; exact h.impN⟩
 ·rw [hb] at h'
  obtain ⟨vs, T, g1, g2, g3⟩ := h.box b cs h'
  refine ⟨vs, T, g1, g2, fun j hj => ?_⟩
  obtain ⟨u, k1, k2, k3⟩ := g3 j hj
  exact ⟨u, k1, k2, k3.same S fun k hk => hk.elim⟩
 ·obtain ⟨p, q⟩ := h.row i r (hr i r h')
  exact ⟨fun hf => (p hf).mono fun k hk => ⟨fz k hk, rfl⟩, fun hf => (q hf).mono (fun k hk => ⟨fz k hk, rfl⟩) fun _ _ => rfl⟩
 ·have hq' : q < st.imps.length := by rw [← hi]; exact hq
  (obtain ⟨cs, p, g1, g2⟩ := h.imps q hq'); (have e : st'.imps[q] = st.imps[q] := by simp only [hi]); (rw [e])
  exact ⟨cs, p, by rw [hb]; exact g1, g2⟩
theorem Rel.less {st st' : St L.D} (h : Rel L E st V a w) (hb : ∀ b, st'.box b = st.box b) (hr : ∀ i, st'.row i = st.row i) (hi : st'.imps = st.imps) (ht : ∀ n, SR L w (Fz E st V w) st V a.tmps (st.tmp n) (a.tmps.getD n undef) → SR L w (Fz E st V w) st V a.tmps (st'.tmp n) (a.tmps.getD n undef)) : Rel L E st' V a w :=
 h.fewer hb (fun i r h' => by rw [← hr]; exact h') hi fun _ S n => (ht n (h.tmp n)).same S fun _ hk => hk.elim
theorem look_ungs (n : Nat) (wt : Bool) : ∀ (l : List (Nat × SV L.D)) (m : Nat), look (ungs L n wt l) m = (look l m).map (ung1 L n wt)
 | [], _ => rfl
 | (k, s) :: l, m => by
  (simp only [ungs]); (rw [look_cons, look_cons])
  by_cases e : m = k
  ·rw [if_pos e, if_pos e]; rfl
  ·rw [if_neg e, if_neg e]; exact look_ungs n wt l m
theorem tmp_ung {st : St L.D} (n : Nat) (wt : Bool) (m : Nat) : St.tmp { st with tmps := ungs L n wt st.tmps } m = ung1 L n wt (st.tmp m) := by
 unfold St.tmp
 rw [look_ungs]
 cases look st.tmps m <;> rfl
theorem ung1_cases (n : Nat) (wt : Bool) (s : SV L.D) : (∃ s', s = .gd n wt s' ∧ ung1 L n wt s = s') ∨ ung1 L n wt s = s := by
 cases s with
 | gd j w' s =>
  unfold ung1
  cases hb : Nat.beq j n with
  | false => right; simp only [hb]
  | true =>
   obtain rfl := Nat.eq_of_beq_eq_true hb
   cases w' <;> cases wt <;> first | (left; exact ⟨s, rfl, by simp only [hb]⟩) | (right; simp only [hb])
 | _ => exact .inr rfl
theorem ment_ung {n : Nat} {wt : Bool} {k : Key} {s : SV L.D} (h : ment k s = false) : ment k (ung1 L n wt s) = false := by
 rcases ung1_cases n wt s with ⟨s', rfl, e⟩ | e
 ·rw [e]
  simp only [ment, Bool.or_eq_false_iff] at h
  exact h.2
 ·rw [e]; exact h
theorem mentT_ungs {n : Nat} {wt : Bool} {k : Key} : ∀ {l : List (Nat × SV L.D)}, mentT k l = false → mentT k (ungs L n wt l) = false
 | [], _ => rfl
 | (m, s) :: l, h => by
  (simp only [mentT, Bool.or_eq_false_iff] at h); (simp only [ungs, mentT, Bool.or_eq_false_iff])
  exact ⟨ment_ung h.1, mentT_ungs h.2⟩
theorem clean_ungs {st : St L.D} {n : Nat} {wt : Bool} : ∀ {ks : List Key}, clean st ks = true → clean { st with tmps := ungs L n wt st.tmps } ks = true
 | [], _ => rfl
 | k :: l, h => by
  simp only [clean, Bool.and_eq_true, Bool.not_eq_true'] at h ⊢
  exact ⟨⟨⟨mentT_ungs h.1.1.1, h.1.1.2⟩, h.1.2⟩, clean_ungs h.2⟩
def ungA : List (Nat × Bool) → SV L.D → SV L.D
 | [], s => s
 | (n, w) :: g, s => ungA g (ung1 L n w s)
theorem tmp_ungAll : ∀ (gl : List (Nat × Bool)) (st : St L.D) (m : Nat), St.tmp { st with tmps := ungAll L gl st.tmps } m = ungA gl (st.tmp m)
 | [], _, _ => rfl
 | (n, wt) :: g, st, m => by
  (have := tmp_ungAll g { st with tmps := ungs L n wt st.tmps } m); (simp only [ungAll, ungA]); (rw [← tmp_ung n wt m])
  exact this
theorem clean_ungAll : ∀ {gl : List (Nat × Bool)} {st : St L.D} {ks : List Key}, clean st ks = true → clean { st with tmps := ungAll L gl st.tmps } ks = true
 | [], _, _, h => h
 | (n, wt) :: g, st, ks, h => clean_ungAll (gl := g) (st := { st with tmps := ungs L n wt st.tmps }) (clean_ungs (n := n) (wt := wt) h)
theorem ungA_down {F : Nat → Prop} {st : St L.D} {tm : Array Value} : ∀ {gl : List (Nat × Bool)} {s : SV L.D} {v : Value}, (∀ m u, (m, u) ∈ gl → tm.getD m undef = .bool u) → SR L w F st V tm s v → SR L w F st V tm (ungA gl s) v
 | [], _, _, _, h => h
 | (n, wt) :: g, s, v, hg, h => by
  refine ungA_down (gl := g) (fun m u hm => hg m u (List.mem_cons_of_mem _ hm)) ?_
  rcases ung1_cases n wt s with ⟨s', rfl, e⟩ | e
  ·rw [e]; exact h.gd_inv (hg n wt List.mem_cons_self)
  ·rw [e]; exact h
theorem ungA_up {F : Nat → Prop} {st : St L.D} {tm : Array Value} : ∀ {gl : List (Nat × Bool)} {s : SV L.D} {v : Value}, (∀ m u, (m, u) ∈ gl → ment (0, m) s = true → tm.getD m undef = .bool u) → SR L w F st V tm (ungA gl s) v → SR L w F st V tm s v
 | [], _, _, _, h => h
 | (n, wt) :: g, s, v, hg, h => by
  rcases ung1_cases n wt s with ⟨s', rfl, e⟩ | e
  ·simp only [ungA, e] at h
   (have hn := hg n wt List.mem_cons_self (by simp [ment, keyEq])); (have := ungA_up (gl := g) (fun m u hm hk => hg m u (List.mem_cons_of_mem _ hm) (by simp only [ment, Bool.or_eq_true]; exact .inr hk)) h)
   exact .gd n wt s' v (fun _ => this) fun hne => absurd hn hne
  ·simp only [ungA, e] at h
   exact ungA_up (gl := g) (fun m u hm hk => hg m u (List.mem_cons_of_mem _ hm) hk) h
theorem guard_sem {st : St L.D} (h : Rel L E st V a w) : ∀ {q n : Nat} {wt g : Bool} {gl : List (Nat × Bool)}, guardOf L st q n wt = some (g, gl) →
  (g = true → a.tmps.getD n undef = .bool wt ∧ ∀ m u, (m, u) ∈ gl → a.tmps.getD m undef = .bool u) ∧ (g = false → a.tmps.getD n undef ≠ .bool wt) ∧ ∀ m u, (m, u) ∈ gl → m = n ∨ ∃ x, ment (0, m) (st.tmp x) = true
 | 0, _, _, _, _, hg => by cases hg
 | q + 1, n, wt, g, gl, hg => by
  simp only [guardOf] at hg
  split at hg
  ·rename_i b hb
   (obtain ⟨rfl, rfl⟩ := Prod.mk.inj (Option.some.inj hg)); (have hv := (hb ▸ h.tmp n).v_inv.1); (rw [flip_eq])
   refine ⟨fun e => ?_, fun e => ?_, fun m u hm => ?_⟩
   ·obtain rfl : b = wt := by simpa using e
    refine ⟨hv, fun m u hm => ?_⟩
    obtain ⟨rfl, rfl⟩ := Prod.mk.inj (List.mem_singleton.1 hm)
    exact hv
   ·intro he
    rw [hv] at he
    injection he with he
    rw [he] at e; simp at e
   ·obtain ⟨rfl, rfl⟩ := Prod.mk.inj (List.mem_singleton.1 hm)
    exact .inl rfl
  ·rename_i m u b hb
   split at hg
   ·rename_i c l hc
    (obtain ⟨rfl, rfl⟩ := Prod.mk.inj (Option.some.inj hg)); (obtain ⟨h1, h2, h3⟩ := guard_sem h hc); (have hs := hb ▸ h.tmp n); (rw [flip_eq])
    refine ⟨fun e => ?_, fun e => ?_, fun m' u' hm => ?_⟩
    ·rw [Bool.and_eq_true] at e
     (obtain ⟨g1, g2⟩ := h1 e.1); (obtain rfl : b = wt := by simpa using e.2); (have hv := (hs.gd_inv g1).v_inv.1)
     refine ⟨hv, fun m' u' hm => ?_⟩
     rcases List.mem_append.1 hm with hm | hm
     ·exact g2 m' u' hm
     ·obtain ⟨rfl, rfl⟩ := Prod.mk.inj (List.mem_singleton.1 hm)
      exact hv
    ·cases c with
     | true =>
      have hv := (hs.gd_inv (h1 rfl).1).v_inv.1
      intro he
      rw [hv] at he
      injection he with he
      rw [he] at e; simp at e
     | false =>
      have hv := hs.gd_und (h2 rfl)
      intro he
      rw [hv] at he
      cases he
    ·rcases List.mem_append.1 hm with hm | hm
     ·rcases h3 m' u' hm with rfl | hx
      ·exact .inr ⟨n, by rw [hb]; simp [ment, keyEq]⟩
      ·exact .inr hx
     ·obtain ⟨rfl, rfl⟩ := Prod.mk.inj (List.mem_singleton.1 hm)
      exact .inl rfl
   ·cases hg
  ·cases hg
theorem newRows_mem {i : Nat} : ∀ {rows : List (Nat × Option (Row L.D))}, newRows L i rows = true → ∀ j o, (j, o) ∈ rows → ∃ r, o = some r ∧ r.fz = false
 | [], _, _, _, h => by cases h
 | (k, some r) :: l, hn, j, o, h => by
  simp only [newRows, Bool.and_eq_true, Bool.not_eq_true'] at hn
  rcases List.mem_cons.1 h with e | h
  ·obtain ⟨rfl, rfl⟩ := Prod.mk.inj e; exact ⟨r, rfl, hn.1.2⟩
  ·exact newRows_mem hn.2 j o h
 | (k, none) :: l, hn, _, _, _ => by cases hn
theorem look_kill : ∀ (ks : List Nat) (j : Nat), look (ks.map fun k => (k, (none : Option (Row L.D)))) j = if j ∈ ks then some none else none
 | [], j => by simp [look]
 | k :: l, j => by
  rw [List.map_cons, look_cons, look_kill l j]
  by_cases e : j = k
  ·subst e; simp
  ·simp [e]
theorem froz_ok {st2 st3 : St L.D} (h : Rel L E st2 V a w) {rows : List (Nat × Option (Row L.D))} (hrow : ∀ j r, look rows j = some (some r) → st2.row j = some r ∧ r.fz = false) (hz : ∀ k, Fz E st2 V w k → Fz E st3 V w k) (hg : ∀ j r k, look rows j = some (some r) → (V.rv j).ownBlock = some k → Fz E st3 V w k)
  (S : Same L w w (Fz E st2 V w) (Fz E st3 V w) st2 st3 V V a.tmps a.tmps (fun _ => False)) {s : SV L.D} {v : Value} (hs : SR L w (Fz E st2 V w) st2 V a.tmps s v) : SR L w (Fz E st3 V w) st3 V a.tmps (froz L rows s) v := by
 have same : SR L w (Fz E st3 V w) st3 V a.tmps s v := hs.same S fun _ hk => hk.elim
 cases s with
 | own j =>
  show SR L w (Fz E st3 V w) st3 V a.tmps (match look rows j with
   | some (some r) => .ro r.t r.xs
   | _ => .own j) v
  cases hl : look rows j with
  | none => exact same
  | some o =>
   cases o with
   | none => exact same
   | some r =>
    (obtain ⟨h1, h2⟩ := hrow j r hl); (rw [hs.own_inv h1])
    exact .c (((h.row j r h1).2 h2).reads hz fun k hk => hg j r k hl hk)
 | _ => exact same
theorem frozL_get (rows : List (Nat × Option (Row L.D))) : ∀ (cs : List (SV L.D)) (j : Nat), (frozL L rows cs).length = cs.length ∧ (frozL L rows cs).getD j .dead = froz L rows (cs.getD j .dead)
 | [], j => ⟨rfl, rfl⟩
 | s :: l, 0 => ⟨by simp [frozL, (frozL_get rows l 0).1], rfl⟩
 | s :: l, j + 1 => ⟨by simp [frozL, (frozL_get rows l 0).1], by simpa [frozL] using (frozL_get rows l j).2⟩
def frozT1 (rows : List (Nat × Option (Row L.D))) : SV L.D → SV L.D
 | .agg cs => .agg (frozL L rows cs)
 | s => froz L rows s
theorem frozT_get (rows : List (Nat × Option (Row L.D))) : ∀ (cs : List (SV L.D)) (j : Nat), (frozT L rows cs).length = cs.length ∧ (frozT L rows cs).getD j .dead = frozT1 rows (cs.getD j .dead)
 | [], j => ⟨rfl, rfl⟩
 | s :: l, 0 => ⟨by cases s <;> simp [frozT, (frozT_get rows l 0).1], by cases s <;> rfl⟩
 | s :: l, j + 1 => ⟨by cases s <;> simp [frozT, (frozT_get rows l 0).1], by have := (frozT_get rows l j).2; cases s <;> simpa [frozT] using this⟩
theorem froze_ok {st2 st3 : St L.D} (h : Rel L E st2 V a w) {rows : List (Nat × Option (Row L.D))} (hrow : ∀ j r, look rows j = some (some r) → st2.row j = some r ∧ r.fz = false) (hz : ∀ k, Fz E st2 V w k → Fz E st3 V w k) (hg : ∀ j r k, look rows j = some (some r) → (V.rv j).ownBlock = some k → Fz E st3 V w k)
  (S : Same L w w (Fz E st2 V w) (Fz E st3 V w) st2 st3 V V a.tmps a.tmps (fun _ => False)) {s : SV L.D} {v : Value} (hs : SR L w (Fz E st2 V w) st2 V a.tmps s v) : SR L w (Fz E st3 V w) st3 V a.tmps (froze L rows s) v := by
 have agg : ∀ {cs : List (SV L.D)} {v : Value}, SR L w (Fz E st2 V w) st2 V a.tmps (.agg cs) v → SR L w (Fz E st3 V w) st3 V a.tmps (.agg (frozL L rows cs)) v := fun {cs v} hs => by
  obtain ⟨vs, rfl, hl, h1, hj⟩ := hs.agg_inv
  refine .agg _ vs (by rw [(frozL_get rows cs 0).1]; exact hl) h1 fun j hj' => ?_
  (rw [(frozL_get rows cs 0).1] at hj'); (rw [(frozL_get rows cs j).2])
  exact froz_ok h hrow hz hg S (hj j hj')
 cases s with
 | agg cs => exact agg hs
 | tup cs =>
  obtain ⟨vs, rfl, hl, hj⟩ := hs.tup_inv
  refine .tup _ vs (by rw [(frozT_get rows cs 0).1]; exact hl) fun j hj' => ?_
  (rw [(frozT_get rows cs 0).1] at hj'); (rw [(frozT_get rows cs j).2]); (have := hj j hj')
  generalize cs.getD j .dead = x at this
  cases x with
  | agg ds => exact agg this
  | _ => exact froz_ok h hrow hz hg S this
 | _ => exact froz_ok h hrow hz hg S hs
theorem clean_one {st : St L.D} : ∀ {ks : List Key}, clean st ks = true ↔ ∀ k ∈ ks, clean st [k] = true
 | [] => ⟨fun _ _ h => by (cases h), fun _ => rfl⟩
 | k :: l => by
  (have e : clean st (k :: l) = (clean st [k] && clean st l) := by simp [clean]); (rw [e, Bool.and_eq_true, clean_one (ks := l)])
  constructor
  ·rintro ⟨h1, h2⟩ x hx
   rcases List.mem_cons.1 hx with rfl | hx
   ·exact h1
   ·exact h2 x hx
  ·exact fun h => ⟨h k List.mem_cons_self, fun x hx => h x (List.mem_cons_of_mem _ hx)⟩
theorem clean_sub {st : St L.D} {ks ks' : List Key} (hs : ∀ k ∈ ks', k ∈ ks) (h : clean st ks = true) : clean st ks' = true := clean_one.2 fun k hk => clean_one.1 h k (hs k hk)
theorem getD_bool {tm : Array Value} {n : Nat} {b : Bool} (h : tm.getD n undef = .bool b) : tm[n]? = some (.bool b) := by
 rw [Array.getD_eq_getD_getElem?] at h
 cases hx : tm[n]? with
 | none => rw [hx] at h; cases h
 | some v => rw [hx] at h; exact congrArg some h
theorem made_ok (hL : LayOk P L) {Tab : TabP} (hC : CallOk P L Tab E sig call) {ops : Array Oper} {st : St L.D} (h : Rel L E st V a w) {i : Nat} {o : Oper} {d : Dl L.D} (hm : Made sig call ops.toList i st o d) (hc : clean st (newOf L i o d) = true) (hd : dstOk E.nt o.dst = true)
  {K : Act → World → Prop} {Q : Exit → Act → World → Prop} (hK : ∀ V' v w', Rel L E (st.put o.dst d) V' (a.put o.dst v) w' → K (a.put o.dst v) w') :
  if Region.wanted o (yielded ops a.tmps) then o.wp P a w K Q else K (a.put o.dst undef) w := by
 have A := at_of h hc hd
 unfold Made at hm
 cases hg : o.guard with
 | none =>
  (rw [hg] at hm); (simp only [Region.wanted, hg, if_true])
  exact made1_ok hL hC h hm hc hd hK
 | some g =>
  (obtain ⟨j, wt⟩ := g); (rw [hg] at hm); (obtain ⟨p, n, g, gl, s, ks, hp, hn, hnd, hb, rfl, hw⟩ := hm); (obtain ⟨s1, s2, s3⟩ := guard_sem h hb)
  have hdn : ∀ t, o.dst = some t → n ≠ t := fun t ht e => by
   rw [ht] at hnd; subst e; simp [notDst] at hnd
  have hy : yielded ops a.tmps j = match a.tmps[n]? with | some (.bool b) => some b | _ => none := by
   unfold yielded
   (have : (ops[j]?).bind (·.dst) = some n := by rw [← Array.getElem?_toList, hp]; exact hn); (rw [this])
   rfl
  simp only [Region.wanted, hg]
  cases g with
  | true =>
   (obtain ⟨g1, g2⟩ := s1 rfl); (have hyt : (yielded ops a.tmps j == some wt) = true := by rw [hy, getD_bool g1]; simp); (rw [if_pos hyt]); (obtain ⟨d', m1, m2, m3, m4, m5⟩ := hw rfl); (subst m4 m5)
   have h' : Rel L E { st with tmps := ungAll L gl st.tmps } V a w := h.less (fun _ => rfl) (fun _ => rfl) rfl fun m hs => by
    rw [tmp_ungAll]; exact ungA_down g2 hs
   have hsub : ∀ k, k ∈ newOf L i o d' → k ∈ newOf L i o { val := .gd n wt (froze L d'.rows d'.val), rows := (d'.rows.map (·.1)).map fun k => (k, none) } := fun k hk => by
    unfold newOf at hk ⊢
    rw [m2] at hk
    simpa [List.map_map, Function.comp_def] using hk
   have hsub' : newOf L i o { val := .gd n wt (froze L d'.rows d'.val), rows := (d'.rows.map (·.1)).map fun k => (k, none) } = newOf L i o d' := by
    unfold newOf; rw [m2]; simp [List.map_map, Function.comp_def]
   refine made1_ok hL hC h' m1 (by rw [← hsub']; exact clean_ungAll hc) hd fun V' v w' hrel => hK V' v w' ?_
   have hrows : ∀ k x, look d'.rows k = some x → ∃ r, x = some r ∧ r.fz = false := fun k x hx => newRows_mem m3 k x (look_mem hx)
   have hr2 : ∀ k r, look d'.rows k = some (some r) → (St.put { st with tmps := ungAll L gl st.tmps } o.dst d').row k = some r ∧ r.fz = false := fun k r hl => by
    (obtain ⟨r', e, hf⟩ := hrows k _ hl); (obtain rfl := Option.some.inj e)
    exact ⟨by rw [row_put, hl], hf⟩
   have hkill : ∀ k r, (st.put o.dst { val := .gd n wt (froze L d'.rows d'.val), rows := (d'.rows.map (·.1)).map fun k => (k, none) }).row k = some r → look d'.rows k = none ∧ st.row k = some r := fun k r hkr => by
    (rw [row_put] at hkr); (simp only [look_kill] at hkr)
    by_cases hm : k ∈ d'.rows.map (·.1)
    ·rw [if_pos hm] at hkr; cases hkr
    ·rw [if_neg hm] at hkr
     refine ⟨look_none fun x hx => hm (List.mem_map.2 ⟨_, hx, rfl⟩), hkr⟩
   refine hrel.fewer (fun b => by rw [box_put, box_put, m2]; rfl) (fun k r hkr => ?_) rfl fun hz S m => ?_
   ·obtain ⟨k1, k2⟩ := hkill k r hkr
    rw [row_put, k1]; exact k2
   ·-- the slots
    have hg' : ∀ k r q, look d'.rows k = some (some r) → (V'.rv k).ownBlock = some q → Fz E (st.put o.dst { val := .gd n wt (froze L d'.rows d'.val), rows := (d'.rows.map (·.1)).map fun k => (k, none) }) V' w' q := fun k r q hl hq => by
     (obtain ⟨k1, k2⟩ := hr2 k r hl); (have hO : Ow (St.put { st with tmps := ungAll L gl st.tmps } o.dst d') V' q := .inr ⟨k, r, k1, k2, hq⟩)
     refine .inr ⟨(hrel.own q hO).2, hrel.ow_lt hO, fun ho => ?_⟩
     rcases ho with ⟨b, cs, b1, b2⟩ | ⟨k', r', b1, b2, b3⟩
     ·have b1' : (St.put { st with tmps := ungAll L gl st.tmps } o.dst d').box b = some cs := by
       rw [box_put] at b1 ⊢; rw [m2]; exact b1
      exact hrel.br b cs k r b1' k1 k2 (by rw [hq, b2])
     ·obtain ⟨e1, e2⟩ := hkill k' r' b1
      (have b1' : (St.put { st with tmps := ungAll L gl st.tmps } o.dst d').row k' = some r' := by rw [row_put, e1]; exact e2); (obtain rfl := hrel.rr k k' r r' q k1 b1' k2 b2 hq b3); (rw [hl] at e1; cases e1)
    have old : ∀ m, (∀ t, o.dst = some t → m ≠ t) → SR L w' (Fz E (st.put o.dst { val := .gd n wt (froze L d'.rows d'.val), rows := (d'.rows.map (·.1)).map fun k => (k, none) }) V' w') (st.put o.dst { val := .gd n wt (froze L d'.rows d'.val), rows := (d'.rows.map (·.1)).map fun k => (k, none) }) V' (a.put o.dst v).tmps (st.tmp m) ((a.put o.dst v).tmps.getD m undef) := fun m hm => by
     have hs := (hrel.tmp m).same S fun _ hk => hk.elim
     have e : (St.put { st with tmps := ungAll L gl st.tmps } o.dst d').tmp m = ungA gl (st.tmp m) := by
      cases hdst : o.dst with
      | none => rw [tmp_put_none, tmp_ungAll]
      | some t => rw [tmp_put_other _ (hm t hdst), tmp_ungAll]
     rw [e] at hs
     refine ungA_up (fun q u hq hk => ?_) hs
     have : ∀ t, o.dst = some t → q ≠ t := fun t ht e' => by
      (have := clean_tmp hc (A.dst t ht).1 m); (rw [e'] at hk; rw [hk] at this; cases this)
     cases hdst : o.dst with
     | none => exact g2 q u hq
     | some t => rw [put_getD_other (this t hdst)]; exact g2 q u hq
    cases hdst : o.dst with
    | none =>
     (rw [hdst] at old); (rw [tmp_put_none]; exact old m (fun t ht => by cases ht))
    | some t =>
     by_cases e : m = t
     ·subst e
      (rw [tmp_put_same]); (have hx := hrel.tmp m); (rw [hdst, tmp_put_same] at hx); (rw [hdst] at hrel S hg' hr2 hz); (have := froze_ok hrel hr2 hz hg' S hx)
      refine .gd n wt _ _ (fun _ => this) fun hne => absurd ?_ hne
      rw [put_getD_other (hdn m hdst)]; exact g1
     ·rw [hdst] at old
      rw [tmp_put_other _ e]; exact old m (fun t' ht => by injection ht with ht; subst ht; exact e)
  | false =>
   have hne0 := s2 rfl
   have hne : (yielded ops a.tmps j == some wt) = false := by
    (rw [hy]); (have : a.tmps[n]? ≠ some (.bool wt) := fun e => hne0 (by rw [Array.getD_eq_getD_getElem?, e]; rfl))
    split
    ·rename_i b e
     have hb' : b ≠ wt := fun e' => this (by rw [e, e'])
     simpa using hb'
    ·rfl
   (rw [hne]); (simp only [Bool.false_eq_true, if_false])
   have hc1 : clean st (newOf L i o ({ val := SV.gd n wt s } : Dl L.D)) = true := clean_sub (fun k hk => by
    unfold newOf at hk ⊢
    simp only [List.map_nil, List.filter_nil, List.append_nil] at hk
    exact List.mem_append_left _ (List.mem_append_left _ hk)) hc
   have h1 : Rel L E (st.put o.dst { val := .gd n wt s }) V (a.put o.dst undef) w := by
    refine h.turn hc1 (at_of h hc1 hd).dst ((Ch.keep h _ o.dst _ _ (fun _ _ => rfl) (Nat.le_refl _) rfl rfl rfl).turn h) fun t ht => ?_
    refine .gd n wt s undef (fun he => ?_) fun _ => rfl
    exfalso
    rw [ht, put_getD_other (hdn t ht)] at he
    exact hne0 he
   refine hK V undef w (h1.fewer (fun b => by rw [box_put, box_put]) (fun k r hkr => ?_) rfl fun hz S m => ?_)
   ·rw [row_put] at hkr ⊢
    simp only [look_kill] at hkr
    by_cases hm : k ∈ ks
    ·rw [if_pos hm] at hkr; cases hkr
    ·rw [if_neg hm] at hkr
     exact hkr
   ·have e : (st.put o.dst ({ val := .gd n wt s, rows := ks.map fun k => (k, none) } : Dl L.D)).tmp m = (st.put o.dst { val := .gd n wt s }).tmp m := by cases o.dst <;> rfl
    rw [e]
    exact (h1.tmp m).same S fun _ hk => hk.elim
end
end Go.Proofs.YtgnbfmoifnfneaaDoor.V
namespace Go.Proofs.YtgnbfmoifnfneaaDoor.V
open Go
set_option linter.unusedVariables false
set_option linter.unusedSimpArgs false
section
variable {P : Program} {L : Lay} {E : Ent} {sig : FuncId → Sig} {call : (f : FuncId) → List (SV L.D) → Option (RT L.D (sig f).all)} {ρ : Type}
theorem ops_seq (hL : LayOk P L) {Tab : TabP} (hC : CallOk P L Tab E sig call) {ops : Array Oper} {K : St L.D → Option ρ} {x : ρ} {Q : Exit → Act → World → Prop} (hK : ∀ st V a w, K st = some x → Rel L E st V a w → Q .normal a w) :
  ∀ (l : List Oper) (i : Nat) (acc : List (List Key × List Key × List Key)) (st : St L.D) (V : Vl) (a : Act) (w : World), l = ops.toList.drop i → opsK L sig call E.nt ops.toList false i acc l st K = some x → Rel L E st V a w → wpOps P ops Q (List.range' i l.length) a w
 | [], i, acc, st, V, a, w, hl, h, hr => hK st V a w h hr
 | o :: l, i, acc, st, V, a, w, hl, h, hr => by
  have ho : ops[i]? = some o := by
   (have := congrArg (fun m => m[0]?) hl); (simp only [List.getElem?_cons_zero, List.getElem?_drop, Nat.add_zero, Array.getElem?_toList] at this)
   exact this.symm
  have hl' : l = ops.toList.drop (i + 1) := by
   have := congrArg List.tail hl
   simpa [List.tail_drop] using this
  (simp only [opsK] at h); (obtain ⟨d, hm, hn⟩ := oneK_made h)
  split at hn
  ·rename_i hc
   (rw [Bool.and_eq_true] at hc); (have step := made_ok hL hC hr hm hc.1 hc.2 (K := wpOps P ops Q (List.range' (i + 1) l.length)) (Q := Q) fun V' v w' hrel => ops_seq hL hC hK l (i + 1) acc _ V' _ w' hl' hn hrel); (simp only [List.length_cons, List.range'_succ, wpOps, ho])
   split
   ·rename_i hw
    rw [if_pos hw] at step
    exact .inl step
   ·rename_i hw
    rw [if_neg hw] at step
    exact step
  ·cases hn
theorem region_seq (hL : LayOk P L) {Tab : TabP} (hC : CallOk P L Tab E sig call) {ops : Array Oper} {K : St L.D → Option ρ} {x : ρ} {Q : Exit → Act → World → Prop} (hK : ∀ st V a w, K st = some x → Rel L E st V a w → Q .normal a w) {id : Nat} {st : St L.D} {V : Vl} {a : Act} {w : World}
  (h : opsK L sig call E.nt ops.toList false 0 [] ops.toList st K = some x) (hr : Rel L E st V a w) : (Code.region id ops false).wp P Q a w := by
 refine wp_region ?_
 have := ops_seq hL hC hK ops.toList 0 [] st V a w rfl h hr
 rwa [List.range_eq_range', ← Array.length_toList]
end
end Go.Proofs.YtgnbfmoifnfneaaDoor.V
