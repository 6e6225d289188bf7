/- Part of the proof of the law FnTextsBack: what it uses of the texts that this session and the kit's print wrote. -/
import Derived.Test.YtgnbfmoifnfneaaDoorZFnTextsBackx1
import Derived.Great.FillDense
import Derived.Lib.AppendStr
import Derived.Deep.Upon
import Derived.Laws.BytesArg
import Derived.ArgAppend
namespace Go.Proofs.YtgnbfmoifnfneaaDoor.V
open Go
set_option linter.unusedVariables false
set_option linter.unusedSimpArgs false
theorem beq_ne {n m : Nat} (h : n ≠ m) : Nat.beq n m = false := by
 cases hb : Nat.beq n m with
 | false => rfl
 | true => exact absurd (Nat.eq_of_beq_eq_true hb) h
theorem look_one {α : Type} (k : Nat) (x : α) (n : Nat) : look [(k, x)] n = if n = k then some x else none := by
 by_cases h : n = k
 ·subst h; simp [look]
 ·simp [look, beq_ne h, h]
theorem look_cons {α : Type} (k : Nat) (x : α) (l : List (Nat × α)) (n : Nat) : look ((k, x) :: l) n = if n = k then some x else look l n := by
 by_cases h : n = k
 ·subst h; simp [look]
 ·simp [look, beq_ne h, h]
section
variable {P : Program} {L : Lay} {E : Ent} {st : St L.D} {V : Vl} {a : Act} {w : World}
def Frz (st : St L.D) (u : List (Nat × Option (Row L.D))) : Prop := ∀ j o, (j, o) ∈ u → ∃ r, st.row j = some r ∧ o = some { r with fz := true }
theorem frz_look {u : List (Nat × Option (Row L.D))} (hu : Frz st u) {j : Nat} {o : Option (Row L.D)} (h : look u j = some o) : ∃ r, st.row j = some r ∧ o = some { r with fz := true } := hu j o (look_mem h)
theorem row_frz {u : List (Nat × Option (Row L.D))} (hu : Frz st u) (dst : Option Nat) (s : SV L.D) {i : Nat} {r : Row L.D} (h : (st.put dst { val := s, rows := u }).row i = some r) : ∃ r0, st.row i = some r0 ∧ (r = r0 ∨ r = { r0 with fz := true }) := by
 rw [row_put] at h
 cases hl : look u i with
 | none => rw [hl] at h; exact ⟨r, h, .inl rfl⟩
 | some o =>
  (rw [hl] at h); (obtain ⟨r0, h0, rfl⟩ := frz_look hu hl)
  exact ⟨r0, h0, .inr (Option.some.inj h).symm⟩
theorem ow_frz {u : List (Nat × Option (Row L.D))} (hu : Frz st u) (dst : Option Nat) (s : SV L.D) {k : Nat} (h : Ow (st.put dst { val := s, rows := u }) V k) : Ow st V k := by
 rcases h with ⟨b, cs, hb, e⟩ | ⟨i, r, hr, hf, e⟩
 ·exact .inl ⟨b, cs, hb, e⟩
 ·obtain ⟨r0, h0, h1⟩ := row_frz hu dst s hr
  rcases h1 with rfl | rfl
  ·exact .inr ⟨i, _, h0, hf, e⟩
  ·cases hf
theorem fz_frz (h : Rel L E st V a w) {u : List (Nat × Option (Row L.D))} (hu : Frz st u) (dst : Option Nat) (s : SV L.D) {k : Nat} (hk : Fz E st V w k) : Fz E (st.put dst { val := s, rows := u }) V w k := by
 rcases hk with hk | ⟨h1, h2, h3⟩
 ·exact .inl hk
 ·exact .inr ⟨h1, h2, fun ho => h3 (ow_frz hu dst s ho)⟩
theorem Ch.frz (h : Rel L E st V a w) {u : List (Nat × Option (Row L.D))} (hu : Frz st u) (ks : Key → Prop) (dst : Option Nat) (s : SV L.D) (tm' : Array Value) : Ch L E st V w ks (st.put dst { val := s, rows := u }) V tm' w where
 same := fun k hk => .inl rfl
 owned := fun k hk => .inr (ow_frz hu dst s hk)
 rowS := fun i r' _ hr => by
  obtain ⟨r0, h0, h1⟩ := row_frz hu dst s hr
  rcases h1 with rfl | rfl
  ·exact ⟨_, h0, rfl, rfl, rfl⟩
  ·exact ⟨_, h0, rfl, rfl, rfl⟩
 boxS := fun b cs' _ hb => ⟨cs', hb, rfl, rfl⟩
 box := fun b cs hb => .inl ⟨hb, rfl, rfl, rfl⟩
 row := fun i r hr => by
  rw [row_put] at hr
  cases hl : look u i with
  | none => rw [hl] at hr; exact .inl ⟨hr, rfl, fun _ _ _ => rfl⟩
  | some o =>
   (rw [hl] at hr); (obtain ⟨r0, h0, rfl⟩ := frz_look hu hl); (obtain rfl := Option.some.inj hr)
   refine .inr ⟨fun _ => ?_, fun hf => by cases hf⟩
   obtain ⟨p, q⟩ := h.row i r0 h0
   cases hf : r0.fz with
   | true => exact (p hf).mono fun k hk => ⟨fz_frz h hu dst s hk, rfl⟩
   | false =>
    refine (q hf).reads (fun k hk => fz_frz h hu dst s hk) fun k hk => ?_
    have ho : Ow st V k := .inr ⟨i, r0, h0, hf, hk⟩
    refine .inr ⟨(h.own k ho).2, h.ow_lt ho, fun ho' => ?_⟩
    rcases ho' with ⟨b, cs, hb, e⟩ | ⟨i', r', hr', hf', hk'⟩
    ·exact h.br b cs i r0 hb h0 hf (by rw [hk, e])
    ·have hr0 := hr'
     obtain ⟨r1, h1, h2⟩ := row_frz hu dst s hr'
     rcases h2 with rfl | rfl
     ·obtain rfl := h.rr i i' r0 _ k h0 h1 hf hf' hk hk'
      (rw [row_put, hl] at hr0); (rw [← Option.some.inj hr0] at hf')
      cases hf'
     ·cases hf'
 bb := h.bb
 br := fun b cs i r hb hr hf => by
  obtain ⟨r0, h0, h1⟩ := row_frz hu dst s hr
  rcases h1 with rfl | rfl
  ·exact h.br b cs i _ hb h0 hf
  ·cases hf
 rr := fun i i' r r' k hr hr' hf hf' hk hk' => by
  (obtain ⟨r0, h0, h1⟩ := row_frz hu dst s hr); (obtain ⟨r1, h2, h3⟩ := row_frz hu dst s hr')
  rcases h1 with rfl | rfl
  ·rcases h3 with rfl | rfl
   ·exact h.rr i i' _ _ k h0 h2 hf hf' hk hk'
   ·cases hf'
  ·cases hf
 size := Nat.le_refl _
 os := rfl
 tape := rfl
 output := rfl
 imps := rfl
 impB := fun b _ cs hb => ⟨cs, hb, rfl, rfl, rfl, fun _ _ => rfl⟩
theorem Rel.putF (h : Rel L E st V a w) {u : List (Nat × Option (Row L.D))} (hu : Frz st u) {dst : Option Nat} {s : SV L.D} {ks : List Key} (hc : clean st ks = true) (hd : ∀ n, dst = some n → (0, n) ∈ ks ∧ n < E.nt) {v : Value}
  (hv : ∀ n, dst = some n → SR L w (Fz E (st.put dst { val := s, rows := u }) V w) (st.put dst { val := s, rows := u }) V (a.put dst v).tmps s v) : Rel L E (st.put dst { val := s, rows := u }) V (a.put dst v) w :=
 h.turn hc hd ((Ch.frz h hu _ dst s _).turn h) hv
theorem out_cutOwn (hL : LayOk P L) {o : Oper} {ks : List Key} (A : At L E st V a w o ks) {t : TypeId} {x : Operand} {lo hi : Option Operand} (ho : o.op = .slice t x lo hi none) {j : Nat} {r : Row L.D} (hk : (L.ti t).kind = .slice r.t) (hx : rdo st x = .own j) (hr : st.row j = some r) {l h : Int} (hl : bnd L st 0 lo = some l) (hh : bnd L st (r.xs.length : Int) hi = some h) (h0 : 0 ≤ l) (h1 : l ≤ h) (h2 : h ≤ r.xs.length) :
  Out P L E st o a w { val := .ro r.t ((r.xs.take h.toNat).drop l.toNat), rows := [(j, some { r with fz := true })] } := by
 have hu : Frz st [(j, some { r with fz := true })] := fun j' o' hm => by
  obtain ⟨rfl, rfl⟩ := Prod.mk.inj (List.mem_singleton.1 hm)
  exact ⟨r, hr, rfl⟩
 have hv := (hx ▸ A.rel.opd x).own_inv hr
 -- the row reads, its block now staying
 have hrow : CR L w (Fz E (st.put o.dst { val := .ro r.t ((r.xs.take h.toNat).drop l.toNat), rows := [(j, some { r with fz := true })] }) V w) (.ro r.t r.xs) (V.rv j) := by
  have C := Ch.frz A.rel hu (fun _ => False) o.dst (.ro r.t ((r.xs.take h.toNat).drop l.toNat)) a.tmps
  have hj : (st.put o.dst { val := .ro r.t ((r.xs.take h.toNat).drop l.toNat), rows := [(j, some { r with fz := true })] }).row j = some { r with fz := true } := by
   rw [row_put, look_one, if_pos rfl]
  rcases C.row j _ hj with ⟨hr0, _, _⟩ | hh'
  ·obtain ⟨p, q⟩ := A.rel.row j _ hr0
   exact (p rfl).mono fun k hk' => ⟨fz_frz A.rel hu _ _ hk', rfl⟩
  ·exact hh'.1 rfl
 (obtain ⟨A', c, he, hrw⟩ := hrow.row); (rw [he] at hrow)
 have hle : r.xs.length ≤ c ∨ r.xs = [] := by
  by_cases hne : r.xs = []
  ·exact .inr hne
  ·exact .inl (hrw hne).1
 (have hcap : r.xs.length ≤ c ∨ (r.xs.length = 0) := hle.imp id (fun h => by rw [h]; rfl)); (have hcap' : r.xs.length ≤ c := by rcases hcap with h | h <;> omega)
 refine ⟨.value (sliced A' l.toNat h.toNat c (L.ti r.t).sz), w, ?_, V, .inl ⟨_, rfl, A.rel.putF hu A.clean A.dst fun n hn => .c (hrow.cut (by omega) (by omega) fun hne => (hrw hne).1)⟩⟩
 unfold execOp
 (simp only [ho, hv, he, Sem.run_bind, Option.map_none]); (rw [run_cut hL hk (bnd_ok A.rel hl) (bnd_ok A.rel hh) h0 h1 h2 hcap'])
 rfl
def Vl.withBox (V : Vl) (b k o : Nat) : Vl := { V with ba := fun b' => if b' = b then k else V.ba b', bo := fun b' => if b' = b then o else V.bo b' }
def Vl.withRow (V : Vl) (i : Nat) (v : Value) : Vl := { V with rv := fun i' => if i' = i then v else V.rv i' }
section
variable {b0 : Nat} {cs0 : List (SV L.D)} {dst : Option Nat} {s : SV L.D}
theorem box_new {b : Nat} {cs : List (SV L.D)} (h : (st.put dst { val := s, boxes := [(b0, some cs0)] }).box b = some cs) : (b = b0 ∧ cs = cs0) ∨ (b ≠ b0 ∧ st.box b = some cs) := by
 rw [box_put, look_one] at h
 by_cases e : b = b0
 ·rw [if_pos e] at h; exact .inl ⟨e, (Option.some.inj h).symm⟩
 ·rw [if_neg e] at h; exact .inr ⟨e, h⟩
theorem row_newBox {i : Nat} : (st.put dst { val := s, boxes := [(b0, some cs0)] }).row i = st.row i := by rw [row_put]; rfl
theorem Ch.newBox (h : Rel L E st V a w) {ks : Key → Prop} (hk : ks (1, b0)) (hi : b0 ∉ st.imps) (tm' : Array Value) {w' : World} (hw : ∀ k, k < w.heap.size → w'.heap[k]? = w.heap[k]?) (hz : w.heap.size < w'.heap.size) (os : w'.os = w.os) (tape : w'.tape = w.tape) (output : w'.output = w.output)
  (hb : BoxOk L E (st.put dst { val := s, boxes := [(b0, some cs0)] }) (V.withBox b0 w.heap.size 0) tm' w' b0 cs0) : Ch L E st V w ks (st.put dst { val := s, boxes := [(b0, some cs0)] }) (V.withBox b0 w.heap.size 0) tm' w' where
 same := fun k hk => .inl (hw k hk)
 owned := fun k hk => by
  rcases hk with ⟨b, cs, hb', e⟩ | ⟨i, r, hr, hf, e⟩
  ·rcases box_new hb' with ⟨rfl, _⟩ | ⟨hne, h0⟩
   ·left; simp [Vl.withBox] at e; omega
   ·right; exact .inl ⟨b, cs, h0, by simpa [Vl.withBox, hne] using e⟩
  ·rw [row_newBox] at hr
   exact .inr (.inr ⟨i, r, hr, hf, e⟩)
 rowS := fun i r' _ hr => ⟨r', by rw [row_newBox] at hr; exact hr, rfl, rfl, rfl⟩
 boxS := fun b cs' hn hb' => by
  rcases box_new hb' with ⟨rfl, _⟩ | ⟨hne, h0⟩
  ·exact absurd hk hn
  ·exact ⟨cs', h0, by simp [Vl.withBox, hne], by simp [Vl.withBox, hne]⟩
 box := fun b cs hb' => by
  rcases box_new hb' with ⟨rfl, rfl⟩ | ⟨hne, h0⟩
  ·exact .inr hb
  ·exact .inl ⟨h0, by simp [Vl.withBox, hne], by simp [Vl.withBox, hne], hw _ (h.box_lt h0)⟩
 row := fun i r hr => by
  rw [row_newBox] at hr
  exact .inl ⟨hr, rfl, fun hf k hk => hw k (h.row_lt hr hf hk)⟩
 bb := fun b b' cs cs' h1 h2 e => by
  rcases box_new h1 with ⟨rfl, _⟩ | ⟨n1, g1⟩ <;> rcases box_new h2 with ⟨rfl, _⟩ | ⟨n2, g2⟩
  ·rfl
  ·simp [Vl.withBox, n2] at e; have := h.box_lt g2; omega
  ·simp [Vl.withBox, n1] at e; have := h.box_lt g1; omega
  ·simp [Vl.withBox, n1, n2] at e; exact h.bb b b' cs cs' g1 g2 e
 br := fun b cs i r h1 hr hf => by
  rw [row_newBox] at hr
  rcases box_new h1 with ⟨rfl, _⟩ | ⟨n1, g1⟩
  ·intro e; simp [Vl.withBox] at e; have := h.row_lt hr hf e; omega
  ·have := h.br b cs i r g1 hr hf
   simpa [Vl.withBox, n1] using this
 rr := fun i i' r r' k hr hr' hf hf' hk hk' => by
  rw [row_newBox] at hr hr'
  exact h.rr i i' r r' k hr hr' hf hf' hk hk'
 size := Nat.le_of_lt hz
 os := os
 tape := tape
 output := output
 imps := rfl
 impB := fun b hb' cs h1 => by
  have hne : b ≠ b0 := fun e => hi (e ▸ hb')
  exact ⟨cs, by rw [box_put, look_one, if_neg hne]; exact h1, rfl, by simp [Vl.withBox, hne], by simp [Vl.withBox, hne], fun o _ => cell_same (hw _ (h.box_lt h1)) o⟩
theorem Ch.newBoxAt (h : Rel L E st V a w) {k0 o0 : Nat} (hk0 : w.heap.size ≤ k0) {ks : Key → Prop} (hk : ks (1, b0)) (hi : b0 ∉ st.imps) (tm' : Array Value) {w' : World} (hw : ∀ k, k < w.heap.size → w'.heap[k]? = w.heap[k]?) (hz : w.heap.size ≤ w'.heap.size) (os : w'.os = w.os) (tape : w'.tape = w.tape) (output : w'.output = w.output)
  (hb : BoxOk L E (st.put dst { val := s, boxes := [(b0, some cs0)] }) (V.withBox b0 k0 o0) tm' w' b0 cs0) : Ch L E st V w ks (st.put dst { val := s, boxes := [(b0, some cs0)] }) (V.withBox b0 k0 o0) tm' w' where
 same := fun k hk => .inl (hw k hk)
 owned := fun k hk => by
  rcases hk with ⟨b, cs, hb', e⟩ | ⟨i, r, hr, hf, e⟩
  ·rcases box_new hb' with ⟨rfl, _⟩ | ⟨hne, h0⟩
   ·left; simp [Vl.withBox] at e; omega
   ·right; exact .inl ⟨b, cs, h0, by simpa [Vl.withBox, hne] using e⟩
  ·rw [row_newBox] at hr
   exact .inr (.inr ⟨i, r, hr, hf, e⟩)
 rowS := fun i r' _ hr => ⟨r', by rw [row_newBox] at hr; exact hr, rfl, rfl, rfl⟩
 boxS := fun b cs' hn hb' => by
  rcases box_new hb' with ⟨rfl, _⟩ | ⟨hne, h0⟩
  ·exact absurd hk hn
  ·exact ⟨cs', h0, by simp [Vl.withBox, hne], by simp [Vl.withBox, hne]⟩
 box := fun b cs hb' => by
  rcases box_new hb' with ⟨rfl, rfl⟩ | ⟨hne, h0⟩
  ·exact .inr hb
  ·exact .inl ⟨h0, by simp [Vl.withBox, hne], by simp [Vl.withBox, hne], hw _ (h.box_lt h0)⟩
 row := fun i r hr => by
  rw [row_newBox] at hr
  exact .inl ⟨hr, rfl, fun hf k hk => hw k (h.row_lt hr hf hk)⟩
 bb := fun b b' cs cs' h1 h2 e => by
  rcases box_new h1 with ⟨rfl, _⟩ | ⟨n1, g1⟩ <;> rcases box_new h2 with ⟨rfl, _⟩ | ⟨n2, g2⟩
  ·rfl
  ·simp [Vl.withBox, n2] at e; have := h.box_lt g2; omega
  ·simp [Vl.withBox, n1] at e; have := h.box_lt g1; omega
  ·simp [Vl.withBox, n1, n2] at e; exact h.bb b b' cs cs' g1 g2 e
 br := fun b cs i r h1 hr hf => by
  rw [row_newBox] at hr
  rcases box_new h1 with ⟨rfl, _⟩ | ⟨n1, g1⟩
  ·intro e; simp [Vl.withBox] at e; have := h.row_lt hr hf e; omega
  ·have := h.br b cs i r g1 hr hf
   simpa [Vl.withBox, n1] using this
 rr := fun i i' r r' k hr hr' hf hf' hk hk' => by
  rw [row_newBox] at hr hr'
  exact h.rr i i' r r' k hr hr' hf hf' hk hk'
 size := hz
 os := os
 tape := tape
 output := output
 imps := rfl
 impB := fun b hb' cs h1 => by
  have hne : b ≠ b0 := fun e => hi (e ▸ hb')
  exact ⟨cs, by rw [box_put, look_one, if_neg hne]; exact h1, rfl, by simp [Vl.withBox, hne], by simp [Vl.withBox, hne], fun o _ => cell_same (hw _ (h.box_lt h1)) o⟩
end
theorem same_newBox (h : Rel L E st V a w) {b0 : Nat} {cs0 : List (SV L.D)} {dst : Option Nat} {s : SV L.D} {ks : List Key} (hk : (1, b0) ∈ ks) (hd : ∀ n, dst = some n → (0, n) ∈ ks) {v : Value} {w' : World} (hw : ∀ k, k < w.heap.size → w'.heap[k]? = w.heap[k]?) (hz : w.heap.size < w'.heap.size) :
  Same L w w' (Fz E st V w) (Fz E (st.put dst { val := s, boxes := [(b0, some cs0)] }) (V.withBox b0 w.heap.size 0) w') st (st.put dst { val := s, boxes := [(b0, some cs0)] }) V (V.withBox b0 w.heap.size 0) a.tmps (a.put dst v).tmps (· ∈ ks) where
 mem := fun k hk' => by
  refine ⟨?_, hw k (h.fz_lt hk')⟩
  rcases hk' with hk' | ⟨h1, h2, h3⟩
  ·exact .inl hk'
  ·refine .inr ⟨h1, by omega, fun ho => h3 ?_⟩
   rcases ho with ⟨b, cs, hb', e⟩ | ⟨i, r, hr, hf, e⟩
   ·rcases box_new hb' with ⟨rfl, _⟩ | ⟨hne, h0⟩
    ·simp [Vl.withBox] at e; omega
    ·exact .inl ⟨b, cs, h0, by simpa [Vl.withBox, hne] using e⟩
   ·rw [row_newBox] at hr; exact .inr ⟨i, r, hr, hf, e⟩
 row := fun i r' _ hr => ⟨r', by rw [row_newBox] at hr; exact hr, rfl, rfl, rfl⟩
 box := fun b cs' hn hb' => by
  rcases box_new hb' with ⟨rfl, _⟩ | ⟨hne, h0⟩
  ·exact absurd hk hn
  ·exact ⟨cs', h0, by simp [Vl.withBox, hne], by simp [Vl.withBox, hne]⟩
 tmp := fun j hj => by
  cases hdst : dst with
  | none => rfl
  | some n => exact put_getD_other (fun e => hj (by rw [e]; exact hd n hdst)) v
theorem same_newBoxAt (h : Rel L E st V a w) {k0 o0 : Nat} (hk0 : w.heap.size ≤ k0) {b0 : Nat} {cs0 : List (SV L.D)} {dst : Option Nat} {s : SV L.D} {ks : List Key} (hk : (1, b0) ∈ ks) (hd : ∀ n, dst = some n → (0, n) ∈ ks) {v : Value} {w' : World} (hw : ∀ k, k < w.heap.size → w'.heap[k]? = w.heap[k]?) (hz : w.heap.size ≤ w'.heap.size) :
  Same L w w' (Fz E st V w) (Fz E (st.put dst { val := s, boxes := [(b0, some cs0)] }) (V.withBox b0 k0 o0) w') st (st.put dst { val := s, boxes := [(b0, some cs0)] }) V (V.withBox b0 k0 o0) a.tmps (a.put dst v).tmps (· ∈ ks) where
 mem := fun k hk' => by
  refine ⟨?_, hw k (h.fz_lt hk')⟩
  rcases hk' with hk' | ⟨h1, h2, h3⟩
  ·exact .inl hk'
  ·refine .inr ⟨h1, by omega, fun ho => h3 ?_⟩
   rcases ho with ⟨b, cs, hb', e⟩ | ⟨i, r, hr, hf, e⟩
   ·rcases box_new hb' with ⟨rfl, _⟩ | ⟨hne, h0⟩
    ·simp [Vl.withBox] at e; omega
    ·exact .inl ⟨b, cs, h0, by simpa [Vl.withBox, hne] using e⟩
   ·rw [row_newBox] at hr; exact .inr ⟨i, r, hr, hf, e⟩
 row := fun i r' _ hr => ⟨r', by rw [row_newBox] at hr; exact hr, rfl, rfl, rfl⟩
 box := fun b cs' hn hb' => by
  rcases box_new hb' with ⟨rfl, _⟩ | ⟨hne, h0⟩
  ·exact absurd hk hn
  ·exact ⟨cs', h0, by simp [Vl.withBox, hne], by simp [Vl.withBox, hne]⟩
 tmp := fun j hj => by
  cases hdst : dst with
  | none => rfl
  | some n => exact put_getD_other (fun e => hj (by rw [e]; exact hd n hdst)) v
theorem Rel.newBox (h : Rel L E st V a w) {b0 : Nat} {cs0 : List (SV L.D)} {dst : Option Nat} {ks : List Key} (hc : clean st ks = true) (hd : ∀ n, dst = some n → (0, n) ∈ ks ∧ n < E.nt) (hk : (1, b0) ∈ ks) (hi : b0 ∉ st.imps) {vs : List Value} {T : TypeId}
  (hl : cs0.length = vs.length) (h1 : ∀ v ∈ vs, v.oneCell' = true) (hs : ∀ j, j < cs0.length → (∀ k ∈ ks, ment k (cs0.getD j .dead) = false) ∧ SR L w (Fz E st V w) st V a.tmps (cs0.getD j .dead) (vs.getD j undef)) :
  Rel L E (st.put dst { val := .ptr b0 0, boxes := [(b0, some cs0)] }) (V.withBox b0 w.heap.size 0) (a.put dst (.pointer (some ⟨w.heap.size, 0, none⟩))) (w.alloc (.cells vs.toArray T)) := by
 (have hw : ∀ k, k < w.heap.size → (w.alloc (.cells vs.toArray T)).heap[k]? = w.heap[k]? := fun k hk => heap_alloc_old w _ hk); (have hz : w.heap.size < (w.alloc (.cells vs.toArray T)).heap.size := by simp); (have S := same_newBox (s := .ptr b0 0) (cs0 := cs0) (v := .pointer (some ⟨w.heap.size, 0, none⟩)) h hk (fun n hn => (hd n hn).1) hw hz)
 refine h.turn hc hd ((Ch.newBox h hk hi _ hw hz rfl rfl rfl ⟨vs.toArray, T, ?_, ?_, fun j hj => ⟨vs.getD j undef, ?_, ?_, ?_⟩⟩).turn h) fun n hn => ?_
 ·simp only [Vl.withBox, if_true]; exact heap_alloc_new w _
 ·simp [Vl.withBox, hl]
 ·simp only [Vl.withBox, if_true, Nat.zero_add]
  rw [getD_lt (by omega)]
  simp [hl ▸ hj]
 ·rw [getD_lt (by omega)]; exact h1 _ (List.getElem_mem _)
 ·exact (hs j hj).2.same S (hs j hj).1
 ·refine .ptr b0 0 _ fun cs hcs => ?_
  simp [Vl.withBox]
theorem zero_ok (hL : LayOk P L) {t : TypeId} (hk : okT L t = true) {w : World} {F : Nat → Prop} {st : St L.D} {V : Vl} {tm : Array Value} : ∃ i z, P.info? t = some i ∧ i.zero = some z ∧ z.cells.size = (L.ti t).sz ∧ (L.zero t).length = z.cells.toList.length ∧ (∀ v ∈ z.cells.toList, v.oneCell' = true) ∧
  ∀ j, j < (L.zero t).length → (∀ k, ment k ((L.zero t).getD j .dead) = false) ∧ SR L w F st V tm ((L.zero t).getD j .dead) (z.cells.toList.getD j undef) := by
 (have hko : (L.ti t).kind ≠ .other := by intro h; simp [okT, h] at hk); (obtain ⟨i, z, hi, hsz, _, hz, hcs, _, _, hl, hj⟩ := hL.info t hko); (have hlen : (L.zero t).length = z.cells.toList.length := by rw [show z.cells.toList.length = z.cells.size from Array.length_toList]; omega)
 refine ⟨i, z, hi, hz, hcs, hlen, fun v hv => ?_, fun j hjl => ?_⟩
 ·obtain ⟨j, hjl, rfl⟩ := List.getElem_of_mem hv
  obtain ⟨u, hu, h1, _⟩ := hj j (by omega)
  have : z.cells.toList[j] = u := by
   (have := Array.getElem?_toList (xs := z.cells) (i := j)); (rw [hu, List.getElem?_eq_getElem hjl] at this)
   exact Option.some.inj this
  rw [this]; exact h1
 ·obtain ⟨u, hu, h1, hc⟩ := hj j hjl
  have e : z.cells.toList.getD j undef = u := by
   rw [List.getD_eq_getElem?_getD, Array.getElem?_toList, hu]; rfl
  rw [e, getD_lt hjl]
  rcases hc with hc | ⟨t', hc, rfl⟩
  ·rw [hc]; exact ⟨fun _ => rfl, .c (.v _ h1)⟩
  ·rw [hc]; exact ⟨fun _ => rfl, .nl t'⟩
theorem out_alloc (hL : LayOk P L) {o : Oper} {ks : List Key} (A : At L E st V a w o ks) {t : TypeId} (ho : o.op = .alloc t) (hk : okT L t = true) {b0 : Nat} (hb : (1, b0) ∈ ks) (hi : b0 ∉ st.imps) : Out P L E st o a w { val := .ptr b0 0, boxes := [(b0, some (L.zero t))] } := by
 obtain ⟨i, z, hinf, hz, hcs, hlen, h1, hj⟩ := zero_ok hL hk (w := w) (F := Fz E st V w) (st := st) (V := V) (tm := a.tmps)
 refine ⟨_, _, ?_, _, .inl ⟨_, rfl, A.rel.newBox A.clean A.dst hb hi (T := t) hlen h1 fun j hjl => ⟨fun k _ => (hj j hjl).1 k, (hj j hjl).2⟩⟩⟩
 unfold execOp
 simp [ho, Instr.alloc, zeroValue, typeInfo, hinf, hz, newVar, newRow]
theorem cells_ok {w : World} {F : Nat → Prop} {st : St L.D} {V : Vl} {tm : Array Value} {s : SV L.D} {u : Value} (h : SR L w F st V tm s u) (h1 : u.oneCell' = true ∨ ∃ cs, s = .agg cs) : (cellsOf s).length = u.cells.toList.length ∧ (∀ v ∈ u.cells.toList, v.oneCell' = true) ∧
  ∀ j, j < (cellsOf s).length → SR L w F st V tm ((cellsOf s).getD j .dead) (u.cells.toList.getD j undef) := by
 have one : ∀ s : SV L.D, cellsOf s = [s] → u.oneCell' = true → SR L w F st V tm s u → (cellsOf s).length = u.cells.toList.length ∧ (∀ v ∈ u.cells.toList, v.oneCell' = true) ∧ ∀ j, j < (cellsOf s).length → SR L w F st V tm ((cellsOf s).getD j .dead) (u.cells.toList.getD j undef) := by
  intro s hs hu h
  (have hc : u.cells = #[u] := by cases u <;> first | rfl | cases hu); (rw [hs, hc])
  refine ⟨rfl, fun v hv => ?_, fun j hj => ?_⟩
  ·simp at hv; rw [hv]; exact hu
  ·simp at hj; subst hj; exact h
 rcases h1 with hu | ⟨cs, rfl⟩
 ·cases s <;> first | exact one _ rfl hu h | (obtain ⟨vs, rfl, _⟩ := h.agg_inv; cases hu)
 ·obtain ⟨vs, rfl, hl, h1, hj⟩ := h.agg_inv
  exact ⟨by simpa [cellsOf, Value.cells] using hl, by simpa [Value.cells] using h1, fun j hj' => by simpa [cellsOf, Value.cells] using hj j hj'⟩
theorem good_one {w : World} {F : Nat → Prop} {st : St L.D} {V : Vl} {tm : Array Value} {s : SV L.D} {u : Value} (hg : good st s = true) (h : SR L w F st V tm s u) (hr : ∀ j r, st.row j = some r → (V.rv j).oneCell' = true) : u.oneCell' = true ∨ ∃ cs, s = .agg cs := by
 cases s with
 | v x => left; rw [h.v_inv.1]; exact h.v_inv.2
 | ro t xs => exact .inl h.ro_inv.one
 | nl t => left; rw [h.nl_inv]; rfl
 | own j =>
  left
  (simp only [good, Option.isSome_iff_exists] at hg); (obtain ⟨r, hg⟩ := hg); (rw [h.own_inv hg]; exact hr j r hg)
 | ptr b off =>
  left
  (simp only [good, Option.isSome_iff_exists] at hg); (obtain ⟨cs, hg⟩ := hg); (rw [h.ptr_inv hg]; rfl)
 | ep => cases hg
 | rp t x off => left; obtain ⟨_, _, _, _, rfl, _⟩ := h.rp_inv; rfl
 | agg cs => exact .inr ⟨cs, rfl⟩
 | tup => cases hg
 | cl f cs => left; obtain ⟨_, rfl, _⟩ := h.cl_inv; rfl
 | rb cs off => left; obtain ⟨_, _, _, _, rfl, _⟩ := h.rb_inv; rfl
 | pb => cases hg
 | fr => cases hg
 | gd => cases hg
 | dead => cases hg
theorem Rel.rv_one (h : Rel L E st V a w) : ∀ j r, st.row j = some r → (V.rv j).oneCell' = true := by
 intro j r hr
 obtain ⟨p, q⟩ := h.row j r hr
 cases hf : r.fz with
 | true => exact (p hf).one
 | false =>
  obtain ⟨cells, ho, _⟩ := q hf
  rcases ho.2 with ⟨e, _⟩ | ⟨g, cap, cur, fz, e, _⟩ <;> rw [e] <;> rfl
theorem out_box (hL : LayOk P L) {o : Oper} {ks : List Key} (A : At L E st V a w o ks) {t : TypeId} {x : Operand} (ho : o.op = .box t x) (hg : good st (rdt L st t x) = true) {b0 : Nat} (hb : (1, b0) ∈ ks) : Out P L E st o a w { val := .ptr b0 0, boxes := [(b0, some (cellsOf (rdt L st t x)))] } := by
  have hv := A.rel.opdT t x
  obtain ⟨hl, h1, hj⟩ := cells_ok hv (good_one hg hv A.rel.rv_one)
  have hm := clean_rdt A.clean t x
  refine ⟨_, _, ?_, _, .inl ⟨_, rfl, A.rel.newBox A.clean A.dst hb (clean_imps A.clean b0 hb) (T := t) hl h1 fun j hjl => ⟨fun k hk => ?_, hj j hjl⟩⟩⟩
  · unfold execOp
    simp [ho, Instr.box, newVar, newRow]
  · have := hm k hk
    generalize rdt L st t x = s at this hjl
    cases s <;> first | (simp only [cellsOf, List.length_singleton] at hjl; have : j = 0 := by omega
                         subst this; assumption) | (simp only [ment] at this; exact mentL_getD this)
def Frd (st : St L.D) (u : List (Nat × Option (Row L.D))) : Prop := ∀ j o, (j, o) ∈ u → ∃ r, st.row j = some r ∧ (o = none ∨ o = some { r with fz := true })
def Gone (st : St L.D) (V : Vl) (u : List (Nat × Option (Row L.D))) (k : Nat) : Prop := ∃ j r, look u j = some none ∧ st.row j = some r ∧ r.fz = false ∧ (V.rv j).ownBlock = some k
section
variable {i0 : Nat} {r0 : Row L.D} {u : List (Nat × Option (Row L.D))} {dst : Option Nat} {s : SV L.D} {v0 : Value}
theorem row_mix (hu : Frd st u) {i : Nat} {r : Row L.D} (h : (st.put dst { val := s, rows := (i0, some r0) :: u }).row i = some r) : (i = i0 ∧ r = r0) ∨ (i ≠ i0 ∧ ∃ r1, st.row i = some r1 ∧ ((look u i = none ∧ r = r1) ∨ (look u i = some (some r) ∧ r = { r1 with fz := true }))) := by
 rw [row_put, look_cons] at h
 by_cases e : i = i0
 ·rw [if_pos e] at h; exact .inl ⟨e, (Option.some.inj h).symm⟩
 ·rw [if_neg e] at h
  refine .inr ⟨e, ?_⟩
  cases hl : look u i with
  | none => rw [hl] at h; exact ⟨r, h, .inl ⟨rfl, rfl⟩⟩
  | some o =>
   (rw [hl] at h); (obtain ⟨r1, h1, h2⟩ := hu i o (look_mem hl))
   rcases h2 with rfl | rfl
   ·cases h
   ·have h := Option.some.inj h
    exact ⟨r1, h1, .inr ⟨by rw [h], h.symm⟩⟩
theorem box_newRow {b : Nat} : (st.put dst { val := s, rows := (i0, some r0) :: u }).box b = st.box b := by rw [box_put]; rfl
theorem ow_mix (hu : Frd st u) {k : Nat} (h : Ow (st.put dst { val := s, rows := (i0, some r0) :: u }) (V.withRow i0 v0) k) : (r0.fz = false ∧ v0.ownBlock = some k) ∨ (Ow st V k ∧ ((∃ b cs, st.box b = some cs ∧ V.ba b = k) ∨ ∃ i r, i ≠ i0 ∧ look u i = none ∧ st.row i = some r ∧ r.fz = false ∧ (V.rv i).ownBlock = some k)) := by
 rcases h with ⟨b, cs, hb, e⟩ | ⟨i, r, hr, hf, e⟩
 ·rw [box_newRow] at hb
  exact .inr ⟨.inl ⟨b, cs, hb, e⟩, .inl ⟨b, cs, hb, e⟩⟩
 ·rcases row_mix hu hr with ⟨rfl, rfl⟩ | ⟨hne, r1, h1, h2⟩
  ·exact .inl ⟨hf, by simpa [Vl.withRow] using e⟩
  ·have e' : (V.rv i).ownBlock = some k := by simpa [Vl.withRow, hne] using e
   rcases h2 with ⟨hl, rfl⟩ | ⟨_, rfl⟩
   ·exact .inr ⟨.inr ⟨i, r, h1, hf, e'⟩, .inr ⟨i, r, hne, hl, h1, hf, e'⟩⟩
   ·cases hf
theorem gone_ow {k : Nat} (hg : Gone st V u k) : Ow st V k := by
 obtain ⟨j, r, _, hr, hf, e⟩ := hg
 exact .inr ⟨j, r, hr, hf, e⟩
theorem gone_box (h : Rel L E st V a w) {b : Nat} {cs : List (SV L.D)} (hb : st.box b = some cs) : ¬ Gone st V u (V.ba b) := fun ⟨j, r, _, hr, hf, e⟩ => h.br b cs j r hb hr hf e
theorem gone_row (h : Rel L E st V a w) {i : Nat} {r : Row L.D} {k : Nat} (hn : look u i ≠ some none) (hr : st.row i = some r) (hf : r.fz = false) (e : (V.rv i).ownBlock = some k) : ¬ Gone st V u k := fun ⟨j, r', hl, hr', hf', e'⟩ => by
 obtain rfl := h.rr i j r r' k hr hr' hf hf' e e'
 exact hn hl
theorem mix_mem (h : Rel L E st V a w) (hu : Frd st u) {w' : World} (hz : w.heap.size ≤ w'.heap.size) (hsame : ∀ k, k < w.heap.size → w'.heap[k]? = w.heap[k]? ∨ Gone st V u k) (hnew : ∀ k, r0.fz = false → v0.ownBlock = some k → w.heap.size ≤ k ∨ Gone st V u k) :
  ∀ k, Fz E st V w k → Fz E (st.put dst { val := s, rows := (i0, some r0) :: u }) (V.withRow i0 v0) w' k ∧ w'.heap[k]? = w.heap[k]? :=
 fz_turn h (fun k hk => (hsame k hk).imp id gone_ow) (fun k hk => by
  rcases ow_mix hu hk with ⟨hf, e⟩ | ⟨ho, _⟩
  ·exact (hnew k hf e).imp id gone_ow
  ·exact .inr ho) hz
theorem frz_reads (h : Rel L E st V a w) (hu : Frd st u) {w' : World} (hz : w.heap.size ≤ w'.heap.size) (hsame : ∀ k, k < w.heap.size → w'.heap[k]? = w.heap[k]? ∨ Gone st V u k) (hnew : ∀ k, r0.fz = false → v0.ownBlock = some k → w.heap.size ≤ k ∨ Gone st V u k)
  {i : Nat} {r1 : Row L.D} (h1 : st.row i = some r1) (hl : look u i = some (some { r1 with fz := true })) : CR L w' (Fz E (st.put dst { val := s, rows := (i0, some r0) :: u }) (V.withRow i0 v0) w') (.ro r1.t r1.xs) (V.rv i) := by
 (have M := mix_mem (dst := dst) (s := s) (i0 := i0) (v0 := v0) h hu hz hsame hnew); (obtain ⟨p, q⟩ := h.row i r1 h1)
 cases hf : r1.fz with
 | true => exact (p hf).mono M
 | false =>
  have hblk : ∀ k, (V.rv i).ownBlock = some k → w'.heap[k]? = w.heap[k]? := fun k hk' => (hsame k (h.row_lt h1 hf hk')).resolve_right (gone_row h (by rw [hl]; simp) h1 hf hk')
  refine ((q hf).mono M hblk).reads (fun k hk' => hk') fun k hk' => ?_
  have ho : Ow st V k := .inr ⟨i, r1, h1, hf, hk'⟩
  refine .inr ⟨(h.own k ho).2, Nat.lt_of_lt_of_le (h.ow_lt ho) hz, fun ho' => ?_⟩
  rcases ow_mix hu ho' with ⟨hf0, e⟩ | ⟨_, h3⟩
  ·rcases hnew k hf0 e with h4 | h4
   ·have := h.ow_lt ho; omega
   ·exact gone_row h (by rw [hl]; simp) h1 hf hk' h4
  ·rcases h3 with ⟨b, cs, hb, e⟩ | ⟨i', r', hne', hl', hr', hf', e'⟩
   ·exact h.br b cs i r1 hb h1 hf (by rw [hk', e])
   ·obtain rfl := h.rr i i' r1 r' k h1 hr' hf hf' hk' e'
    rw [hl] at hl'; cases hl'
theorem Ch.newRow (h : Rel L E st V a w) {ks : Key → Prop} (hk : ks (2, i0) ∨ ∃ r, st.row i0 = some r ∧ v0 = V.rv i0 ∧ r0.t = r.t ∧ r0.xs.length = r.xs.length) (hu : Frd st u) (tm' : Array Value) {w' : World} (hz : w.heap.size ≤ w'.heap.size) (os : w'.os = w.os) (tape : w'.tape = w.tape) (output : w'.output = w.output)
  (hsame : ∀ k, k < w.heap.size → w'.heap[k]? = w.heap[k]? ∨ Gone st V u k) (hnew : ∀ k, r0.fz = false → v0.ownBlock = some k → w.heap.size ≤ k ∨ Gone st V u k)
  (hrow : RowIs L E (st.put dst { val := s, rows := (i0, some r0) :: u }) (V.withRow i0 v0) w' i0 r0) : Ch L E st V w ks (st.put dst { val := s, rows := (i0, some r0) :: u }) (V.withRow i0 v0) tm' w' := by
 -- a key that stays does not lie in a block that is let go
 (have box_not : ∀ b cs, st.box b = some cs → ¬ Gone st V u (V.ba b) := fun b cs hb => gone_box h hb); (have row_not : ∀ i r k, look u i ≠ some none → st.row i = some r → r.fz = false → (V.rv i).ownBlock = some k → ¬ Gone st V u k := fun i r k hn hr hf e => gone_row h hn hr hf e)
 have owned : ∀ k, Ow (st.put dst { val := s, rows := (i0, some r0) :: u }) (V.withRow i0 v0) k → w.heap.size ≤ k ∨ Ow st V k := fun k hk => by
  rcases ow_mix hu hk with ⟨hf, e⟩ | ⟨ho, _⟩
  ·exact (hnew k hf e).imp id gone_ow
  ·exact .inr ho
 have same : ∀ k, k < w.heap.size → (w'.heap[k]? = w.heap[k]?) ∨ Ow st V k := fun k hk => (hsame k hk).imp id gone_ow
 exact {
  same := same
  owned := owned
  rowS := fun i r' hn hr => by
   rcases row_mix hu hr with ⟨rfl, e0⟩ | ⟨hne, r1, h1, h2⟩
   ·rcases hk with hk | ⟨r, hr0, hv0, ht, hl⟩
    ·exact absurd hk hn
    ·exact ⟨r, hr0, by simp [Vl.withRow, hv0], by rw [e0, ht], by rw [e0, hl]⟩
   ·rcases h2 with ⟨_, rfl⟩ | ⟨_, rfl⟩
    ·exact ⟨_, h1, by simp [Vl.withRow, hne], rfl, rfl⟩
    ·exact ⟨_, h1, by simp [Vl.withRow, hne], rfl, rfl⟩
  boxS := fun b cs' _ hb => ⟨cs', by rw [box_newRow] at hb; exact hb, rfl, rfl⟩
  box := fun b cs hb => by
   rw [box_newRow] at hb
   exact .inl ⟨hb, rfl, rfl, (hsame _ (h.box_lt hb)).resolve_right (box_not b cs hb)⟩
  row := fun i r hr => by
   rcases row_mix hu hr with ⟨rfl, rfl⟩ | ⟨hne, r1, h1, h2⟩
   ·exact .inr hrow
   ·rcases h2 with ⟨hl, rfl⟩ | ⟨hl, rfl⟩
    ·refine .inl ⟨h1, by simp [Vl.withRow, hne], fun hf k hk' => (hsame k (h.row_lt h1 hf hk')).resolve_right (row_not i r k (by rw [hl]; simp) h1 hf hk')⟩
    ·refine .inr ⟨fun _ => ?_, fun hf => by cases hf⟩
     (have hv : (V.withRow i0 v0).rv i = V.rv i := by simp [Vl.withRow, hne]); (rw [hv])
     exact frz_reads (r1 := r1) h hu hz hsame hnew h1 hl
  bb := fun b b' cs cs' h1 h2 e => by
   rw [box_newRow] at h1 h2
   exact h.bb b b' cs cs' h1 h2 e
  br := fun b cs i r hb hr hf => by
   rw [box_newRow] at hb
   rcases row_mix hu hr with ⟨rfl, rfl⟩ | ⟨hne, r1, h1, h2⟩
   ·intro e
    simp only [Vl.withRow, if_true] at e
    rcases hnew _ hf e with h3 | h3
    ·have := h.box_lt hb; omega
    ·exact box_not b cs hb h3
   ·rcases h2 with ⟨hl, rfl⟩ | ⟨_, rfl⟩
    ·have := h.br b cs i r hb h1 hf
     simpa [Vl.withRow, hne] using this
    ·cases hf
  rr := fun i i' r r' k hr hr' hf hf' e e' => by
   rcases row_mix hu hr with ⟨rfl, rfl⟩ | ⟨n1, r1, h1, h2⟩ <;> rcases row_mix hu hr' with ⟨rfl, rfl⟩ | ⟨n2, r2, h3, h4⟩
   ·rfl
   ·exfalso
    simp only [Vl.withRow, if_true] at e
    rcases h4 with ⟨hl, rfl⟩ | ⟨_, rfl⟩
    ·have e'' : (V.rv i').ownBlock = some k := by simpa [Vl.withRow, n2] using e'
     rcases hnew _ hf e with h5 | h5
     ·have := h.row_lt h3 hf' e''; omega
     ·exact row_not i' _ k (by rw [hl]; simp) h3 hf' e'' h5
    ·cases hf'
   ·exfalso
    simp only [Vl.withRow, if_true] at e'
    rcases h2 with ⟨hl, rfl⟩ | ⟨_, rfl⟩
    ·have e'' : (V.rv i).ownBlock = some k := by simpa [Vl.withRow, n1] using e
     rcases hnew _ hf' e' with h5 | h5
     ·have := h.row_lt h1 hf e''; omega
     ·exact row_not i _ k (by rw [hl]; simp) h1 hf e'' h5
    ·cases hf
   ·rcases h2 with ⟨_, rfl⟩ | ⟨_, rfl⟩
    ·rcases h4 with ⟨_, rfl⟩ | ⟨_, rfl⟩
     ·exact h.rr i i' _ _ k h1 h3 hf hf' (by simpa [Vl.withRow, n1] using e) (by simpa [Vl.withRow, n2] using e')
     ·cases hf'
    ·cases hf
  size := hz
  os := os
  tape := tape
  output := output
  imps := rfl
  impB := fun b _ cs hb => ⟨cs, by rw [box_newRow]; exact hb, rfl, rfl, rfl, fun o _ => cell_same ((hsame _ (h.box_lt hb)).resolve_right (box_not b cs hb)) o⟩ }
end
end
end Go.Proofs.YtgnbfmoifnfneaaDoor.V
namespace Go.Proofs.YtgnbfmoifnfneaaDoor.V
open Go
set_option linter.unusedVariables false
set_option linter.unusedSimpArgs false
section
variable {P : Program} {L : Lay} {E : Ent} {st : St L.D} {V : Vl} {a : Act} {w : World}
theorem Rel.newRow (h : Rel L E st V a w) {i0 : Nat} {r0 : Row L.D} {u : List (Nat × Option (Row L.D))} {dst : Option Nat} {ks : List Key} (hc : clean st ks = true) (hd : ∀ n, dst = some n → (0, n) ∈ ks ∧ n < E.nt) (hk : (2, i0) ∈ ks) (hu : Frd st u) {v0 : Value} {w' : World} (hz : w.heap.size ≤ w'.heap.size) (os : w'.os = w.os) (tape : w'.tape = w.tape) (output : w'.output = w.output)
  (hsame : ∀ k, k < w.heap.size → w'.heap[k]? = w.heap[k]? ∨ Gone st V u k) (hnew : ∀ k, r0.fz = false → v0.ownBlock = some k → w.heap.size ≤ k ∨ Gone st V u k)
  (hrow : RowIs L E (st.put dst { val := .own i0, rows := (i0, some r0) :: u }) (V.withRow i0 v0) w' i0 r0) : Rel L E (st.put dst { val := .own i0, rows := (i0, some r0) :: u }) (V.withRow i0 v0) (a.put dst v0) w' := by
 refine h.turn hc hd ((Ch.newRow h (.inl hk) hu _ hz os tape output hsame hnew hrow).turn h) fun n hn => .own i0 v0 fun r hr => ?_
 simp [Vl.withRow]
theorem frd_nil : Frd st [] := fun _ _ h => by cases h
theorem elem_info (hL : LayOk P L) {t e : TypeId} (hk : elemOf L t = some e) : P.underlying t = some (.slice e) ∧ (L.ti e).kind ≠ .other ∧ (∃ t', (L.ti t').kind = .slice e) ∧ 0 < (L.ti e).sz ∧ ∃ i z, P.info? e = some i ∧ i.size = (L.ti e).sz ∧ i.bytes = (L.ti e).bytes ∧ i.zero = some z ∧ 0 < i.bytes := by
 unfold elemOf at hk
 split at hk
 ·rename_i e' hke
  (obtain rfl := Option.some.inj hk); (obtain ⟨p, q, r⟩ := hL.slice t e' hke)
  exact ⟨p, q, ⟨t, hke⟩, r⟩
 ·cases hk
theorem CR.of_zero {w : World} {F : Nat → Prop} {s : SV L.D} {u : Value} (h1 : u.oneCell' = true) (h : s = .v u ∨ ∃ e, s = .nl e ∧ u = .slice none 0 0) : CR L w F (canon s) u := by
 rcases h with rfl | ⟨e, rfl, rfl⟩
 ·exact .v _ h1
 ·exact .ro0 e none 0
theorem out_make (hL : LayOk P L) {o : Oper} {ks : List Key} (A : At L E st V a w o ks) {t e : TypeId} {x y : Operand} (ho : o.op = .makeSlice t x y) (hk : elemOf L t = some e) {n c : Int} (hx : rdo st x = .v (.int .i64 n)) (hy : rdo st y = .v (.int .i64 c)) (h0 : 0 ≤ n) (h1 : n ≤ c) (h2 : c * (L.ti e).bytes ≤ 281474976710656) {i0 : Nat} (hi : (2, i0) ∈ ks) :
  Out P L E st o a w { val := .own i0, rows := [(i0, some ⟨e, false, List.replicate n.toNat (L.zd e)⟩)] } := by
 (have e1 := (hx ▸ A.rel.opd x).v_inv.1); (have e2 := (hy ▸ A.rel.opd y).v_inv.1); (obtain ⟨hu, hko, ⟨t', hke⟩, hsz, i, z, hinf, hs, hb, hz, hb0⟩ := elem_info hL hk); (obtain ⟨i', z', hinf', _, _, hz', hcs, _, _, hzl, hzj⟩ := hL.info e hko); (obtain rfl : i' = i := Option.some.inj (hinf'.symm.trans hinf)); (obtain rfl : z' = z := Option.some.inj (hz'.symm.trans hz))
 have hc63 : c ≤ 9223372036854775807 := by
  (have h3 : (1 : Int) ≤ (L.ti e).bytes := by omega); (have : c * 1 ≤ c * (L.ti e).bytes := Int.mul_le_mul_of_nonneg_left h3 (by omega))
  omega
 (have hbs : (i'.bytes : Int) * c ≤ 281474976710656 := by rw [hb, Int.mul_comm]; exact h2); (have hr := run_make (P := P) w t e i' z' hu hinf hz .i64 .i64 n c h0 h1 hbs hc63); (have hzd := hL.zd t' e hke); (have hnc : n.toNat ≤ c.toNat := by omega)
 refine ⟨_, _, ?_, _, .inl ⟨_, rfl, A.rel.newRow A.clean A.dst hi frd_nil (v0 := .slice (some ⟨w.heap.size, 0, none⟩) n.toNat c.toNat) (w' := w.alloc (.cells (madeCells z'.cells (c.toNat * i'.size)) e)) (by simp) rfl rfl rfl (fun k hk => .inl (heap_alloc_old w _ hk)) (fun k _ hk => ?_) ⟨(fun h => by cases h), fun _ => ?_⟩⟩⟩
 ·unfold execOp
  simp only [ho, e1, e2, Sem.run_bind, hr]
  rfl
 ·simp [Value.ownBlock] at hk; left; omega
 ·have hv : (V.withRow i0 (.slice (some ⟨w.heap.size, 0, none⟩) n.toNat c.toNat)).rv i0 = .slice (some ⟨w.heap.size, 0, none⟩) n.toNat c.toNat := by simp [Vl.withRow]
  (rw [hv]); (have hlen : (List.replicate n.toNat (L.zd e)).length = n.toNat := List.length_replicate)
  conv => arg 4; rw [← hlen]
  refine rowOk_new (heap_alloc_new w _) (by rw [hlen]; exact hnc) (by unfold maxLen; omega) (by rw [size_madeCells, hs]) fun q j hq hj => ?_
  (rw [hlen] at hq); (obtain ⟨u, hu', h1', hcz⟩ := hzj j (by omega))
  refine ⟨u, ?_, ?_⟩
  ·have hlt : q * (L.ti e).sz + j < c.toNat * i'.size := by
    (have : (q + 1) * (L.ti e).sz ≤ c.toNat * (L.ti e).sz := Nat.mul_le_mul_right _ (by omega)); (rw [Nat.add_mul] at this); (rw [hs]; omega)
   have hmod : (q * (L.ti e).sz + j) % z'.cells.size = j := by rw [hcs, Nat.mul_comm, Nat.mul_add_mod, Nat.mod_eq_of_lt hj]
   unfold madeCells
   rw [Array.getElem?_map, Array.getElem?_range, if_pos hlt, Option.map_some]
   congr 1
   rw [hmod, Array.getElem!_eq_getD, Array.getD_eq_getD_getElem?, hu']
   rfl
  ·have : ((L.zero e).map canon).getD j .dead = canon ((L.zero e)[j]'(by omega)) := by
    rw [getD_lt (by simp; omega), List.getElem_map]
   rw [List.getElem_replicate, hzd, this]
   exact .of_zero h1' hcz
theorem look_of_mem {α : Type} : ∀ {l : List (Nat × α)} {n : Nat} {x : α}, (n, x) ∈ l → ∃ y, look l n = some y
 | (k, z) :: l, n, x, h => by
  rw [look_cons]
  by_cases e : n = k
  ·exact ⟨z, by rw [if_pos e]⟩
  ·rw [if_neg e]
   rcases List.mem_cons.1 h with h | h
   ·exact absurd (Prod.mk.inj h).1 e
   ·exact look_of_mem h
theorem frz_nil : Frz st [] := fun _ _ h => by cases h
theorem Frz.frd {u : List (Nat × Option (Row L.D))} (h : Frz st u) : Frd st u := fun j o hm => by
 obtain ⟨r, hr, ho⟩ := h j o hm
 exact ⟨r, hr, .inr ho⟩
theorem Frz.app {u u' : List (Nat × Option (Row L.D))} (h : Frz st u) (h' : Frz st u') : Frz st (u ++ u') := fun j o hm => (List.mem_append.1 hm).elim (h j o) (h' j o)
theorem Frz.look {u : List (Nat × Option (Row L.D))} (h : Frz st u) {j : Nat} {r : Row L.D} (hm : (j, some { r with fz := true }) ∈ u) (hr : st.row j = some r) : look u j = some (some { r with fz := true }) := by
 (obtain ⟨y, hy⟩ := look_of_mem hm); (obtain ⟨r', hr', ho⟩ := h j y (look_mem hy)); (obtain rfl : r' = r := Option.some.inj (hr'.symm.trans hr)); (rw [hy, ho])
theorem still_ok (h : Rel L E st V a w) {s s' : SV L.D} {u : List (Nat × Option (Row L.D))} (hs : still L st s = some (s', u)) : Frz st u ∧ ∀ (w' : World) (F' : Nat → Prop), (∀ k, Fz E st V w k → F' k ∧ w'.heap[k]? = w.heap[k]?) → (∀ j r, (j, some { r with fz := true }) ∈ u → st.row j = some r → CR L w' F' (.ro r.t r.xs) (V.rv j)) →
  ∀ v, SR L w (Fz E st V w) st V a.tmps s v → CR L w' F' (canon s') v := by
 unfold still at hs
 split at hs
 ·obtain ⟨rfl, rfl⟩ := Prod.mk.inj (Option.some.inj hs)
  refine ⟨frz_nil, fun w' F' hM _ v hv => ?_⟩
  rw [hv.v_inv.1]; exact .v _ hv.v_inv.2
 ·obtain ⟨rfl, rfl⟩ := Prod.mk.inj (Option.some.inj hs)
  exact ⟨frz_nil, fun w' F' hM _ v hv => hv.ro_inv.mono hM⟩
 ·obtain ⟨rfl, rfl⟩ := Prod.mk.inj (Option.some.inj hs)
  refine ⟨frz_nil, fun w' F' hM _ v hv => ?_⟩
  rw [hv.nl_inv]; exact .ro0 _ none 0
 ·split at hs
  ·rename_i j _ r hr
   obtain ⟨rfl, rfl⟩ := Prod.mk.inj (Option.some.inj hs)
   refine ⟨fun j' o hm => ?_, fun w' F' hM hR v hv => ?_⟩
   ·obtain ⟨rfl, rfl⟩ := Prod.mk.inj (List.mem_singleton.1 hm)
    exact ⟨r, hr, rfl⟩
   ·rw [hv.own_inv hr]
    exact hR j r (List.mem_singleton.2 rfl) hr
  ·cases hs
 ·cases hs
theorem stills_ok (h : Rel L E st V a w) : ∀ {cs cs' : List (SV L.D)} {u : List (Nat × Option (Row L.D))}, stills L st cs = some (cs', u) → cs'.length = cs.length ∧ Frz st u ∧ ∀ (w' : World) (F' : Nat → Prop), (∀ k, Fz E st V w k → F' k ∧ w'.heap[k]? = w.heap[k]?) → (∀ j r, (j, some { r with fz := true }) ∈ u → st.row j = some r → CR L w' F' (.ro r.t r.xs) (V.rv j)) →
  ∀ j, j < cs.length → ∀ v, SR L w (Fz E st V w) st V a.tmps (cs.getD j .dead) v → CR L w' F' ((cs'.map canon).getD j .dead) v
 | [], cs', u, hs => by
  obtain ⟨rfl, rfl⟩ := Prod.mk.inj (Option.some.inj hs)
  exact ⟨rfl, frz_nil, fun _ _ _ _ j hj => absurd hj (Nat.not_lt_zero j)⟩
 | s :: l, cs', u, hs => by
  simp only [stills] at hs
  split at hs
  ·rename_i x ua r ub h1 h2
   (obtain ⟨rfl, rfl⟩ := Prod.mk.inj (Option.some.inj hs)); (obtain ⟨f1, g1⟩ := still_ok h h1); (obtain ⟨hl, f2, g2⟩ := stills_ok h h2)
   refine ⟨by simp [hl], f1.app f2, fun w' F' hM hR j hj v hv => ?_⟩
   cases j with
   | zero => exact g1 w' F' hM (fun j r hm => hR j r (List.mem_append_left _ hm)) v (by simpa using hv)
   | succ j =>
    have := g2 w' F' hM (fun j r hm => hR j r (List.mem_append_right _ hm)) j (by simpa using hj) v (by simpa using hv)
    simpa using this
  ·cases hs
theorem elems_ok (hL : LayOk P L) (h : Rel L E st V a w) {e : TypeId} : ∀ {ps : List (Nat × Operand)} {xs : List (L.D e)} {u : List (Nat × Option (Row L.D))}, elems L st e ps = some (xs, u) → xs.length = ps.length ∧ Frz st u ∧ (∀ p ∈ ps, (a.eval p.2).cells.size = (L.ti e).sz) ∧
  ∀ (w' : World) (F' : Nat → Prop), (∀ k, Fz E st V w k → F' k ∧ w'.heap[k]? = w.heap[k]?) → (∀ j r, (j, some { r with fz := true }) ∈ u → st.row j = some r → CR L w' F' (.ro r.t r.xs) (V.rv j)) →
  ∀ i j, (hi : i < xs.length) → j < (L.ti e).sz → ∃ v, ((ps.map fun p => a.eval p.2)[i]?).bind (fun v => v.cells[j]?) = some v ∧ CR L w' F' ((L.cell e xs[i]).getD j .dead) v
 | [], xs, u, hs => by
  obtain ⟨rfl, rfl⟩ := Prod.mk.inj (Option.some.inj hs)
  exact ⟨rfl, frz_nil, (fun p hp => by cases hp), fun _ _ _ _ i j hi => absurd hi (Nat.not_lt_zero i)⟩
 | (q, x) :: ps, xs, u, hs => by
  simp only [elems] at hs
  split at hs
  ·rename_i cs ua hg h1
   split at hs
   ·rename_i y l ub hm h2
    (obtain ⟨rfl, rfl⟩ := Prod.mk.inj (Option.some.inj hs)); (rw [Bool.and_eq_true] at hg); (obtain ⟨hg, hbl⟩ := hg); (have hbl := Nat.eq_of_beq_eq_true hbl); (have hv := h.opdT e x); (obtain ⟨cl, c1, cj⟩ := cells_ok hv (good_one hg hv h.rv_one)); (have hsz : (a.eval x).cells.size = (L.ti e).sz := by rw [← hbl, cl, Array.length_toList]); (obtain ⟨sl, f1, g1⟩ := stills_ok h h1); (obtain ⟨hl, f2, hz, g2⟩ := elems_ok hL h h2)
    refine ⟨by simp [hl], f1.app f2, fun p hp => ?_, fun w' F' hM hR i j hi hj => ?_⟩
    ·rcases List.mem_cons.1 hp with rfl | hp
     ·exact hsz
     ·exact hz p hp
    ·cases i with
     | zero =>
      have hjc : j < (cellsOf (rdt L st e x)).length := by omega
      refine ⟨(a.eval x).cells.toList.getD j undef, ?_, ?_⟩
      ·have hjs : j < (a.eval x).cells.toList.length := by omega
       (rw [getD_lt hjs]); (simp only [List.map_cons, List.getElem?_cons_zero, Option.bind_some]); (rw [← Array.getElem?_toList, List.getElem?_eq_getElem hjs])
      ·have := g1 w' F' hM (fun j r hm => hR j r (List.mem_append_left _ hm)) j hjc _ (cj j hjc)
       rw [List.getElem_cons_zero, hL.make e cs y hm]
       exact this
     | succ i =>
      have := g2 w' F' hM (fun j r hm => hR j r (List.mem_append_right _ hm)) i j (by simpa using hi) hj
      simpa using this
   ·cases hs
  ·cases hs
theorem dense_map (f : Operand → Value) : ∀ (l : List (Nat × Operand)) (q : Nat), dense q l = true → (l.map fun p => (p.1, f p.2)) = ((l.map fun p => f p.2).zipIdx q).map fun x => (x.2, x.1)
 | [], _, _ => rfl
 | (j, x) :: l, q, h => by
  (simp only [dense, Bool.and_eq_true] at h); (have hj := Nat.eq_of_beq_eq_true h.1); (subst hj); (simp only [List.map_cons, List.zipIdx_cons, dense_map f l (j + 1) h.2])
theorem out_buildSlice (hL : LayOk P L) {o : Oper} {ks : List Key} (A : At L E st V a w o ks) {t e : TypeId} {n : Nat} {ps : Array (Nat × Operand)} (ho : o.op = .buildSlice t n ps) (hk : elemOf L t = some e) (hd : dense 0 ps.toList = true) (hn : ps.toList.length = n) (hz : n * (L.ti e).sz ≤ 16777216) {xs : List (L.D e)} {u : List (Nat × Option (Row L.D))} (he : elems L st e ps.toList = some (xs, u)) {i0 : Nat} (hi : (2, i0) ∈ ks) :
  Out P L E st o a w { val := .own i0, rows := (i0, some ⟨e, false, xs⟩) :: u } := by
 (obtain ⟨hu, hko, _, hsz, i, z, hinf, hs, hb, hzero, hb0⟩ := elem_info hL hk); (obtain ⟨i', z', hinf', _, _, hz', hcs, _⟩ := hL.info e hko); (obtain rfl : i' = i := Option.some.inj (hinf'.symm.trans hinf)); (obtain rfl : z' = z := Option.some.inj (hz'.symm.trans hzero)); (obtain ⟨hl, hf, hcz, hg⟩ := elems_ok hL A.rel he); (have hxn : xs.length = n := by omega); (have hvl : (ps.toList.map fun p => a.eval p.2).length = n := by rw [List.length_map]; exact hn)
 have hcz' : ∀ v ∈ ps.toList.map (fun p => a.eval p.2), v.cells.size = (L.ti e).sz := fun v hv => by
  obtain ⟨p, hp, rfl⟩ := List.mem_map.1 hv
  exact hcz p hp
 have hparts : (ps.map fun p => (p.1, a.eval p.2)).toList = ((ps.toList.map fun p => a.eval p.2).zipIdx 0).map fun x => (x.2, x.1) := by
  rw [Array.toList_map]; exact dense_map a.eval _ 0 hd
 have hcur : ((ps.toList.map fun p => a.eval p.2).flatMap fun v => v.cells.toList).toArray.size = n * (L.ti e).sz := by
  rw [List.size_toArray, ← hvl]
  have : ∀ l : List Value, (∀ v ∈ l, v.cells.size = (L.ti e).sz) → (l.flatMap fun v => v.cells.toList).length = l.length * (L.ti e).sz := by
   intro l
   induction l with
   | nil => intro _; simp
   | cons v l ih =>
    intro h
    rw [List.flatMap_cons, List.length_append, ih fun v hv => h v (List.mem_cons_of_mem _ hv), Array.length_toList, h v List.mem_cons_self, List.length_cons, Nat.add_mul]; omega
  exact this _ hcz'
 have hrun : (Instr.buildSlice t n (ps.map fun p => (p.1, a.eval p.2))).run P w = .ok (.slice (some ⟨w.heap.size, 0, none⟩) n n) (w.alloc (.cells ((ps.toList.map fun p => a.eval p.2).flatMap fun v => v.cells.toList).toArray e)) := by
  by_cases hn0 : n = 0
  ·subst hn0
   (have hnil : ps.toList = [] := List.eq_nil_of_length_eq_zero hn); (have : ps = #[] := by cases ps; simp at hnil; rw [hnil]); (subst this)
   simp [Instr.buildSlice, run_underlying hu, sizeOf, typeInfo, hinf, Instr.fill, newRow, Array.range_zero']
  ·refine run_buildSlice w t e n _ _ i' z' hu hinf hzero (by rw [hs]; omega) (by rw [hs]; exact Nat.ne_of_gt (Nat.mul_pos (by omega) hsz)) ?_
   rw [hparts, hs]
   exact Great.fill_whole hsz _ _ hcz' (by rw [hvl]; simp)
 have M := mix_mem (dst := o.dst) (s := .own i0) (i0 := i0) (r0 := ⟨e, false, xs⟩) (v0 := .slice (some ⟨w.heap.size, 0, none⟩) n n) A.rel hf.frd (w' := w.alloc (.cells ((ps.toList.map fun p => a.eval p.2).flatMap fun v => v.cells.toList).toArray e)) (by simp) (fun k hk => .inl (heap_alloc_old w _ hk)) (fun k _ hk => by simp [Value.ownBlock] at hk; left; omega)
 refine ⟨_, _, ?_, _, .inl ⟨_, rfl, A.rel.newRow A.clean A.dst hi hf.frd (v0 := .slice (some ⟨w.heap.size, 0, none⟩) n n) (w' := w.alloc (.cells ((ps.toList.map fun p => a.eval p.2).flatMap fun v => v.cells.toList).toArray e)) (by simp) rfl rfl rfl (fun k hk => .inl (heap_alloc_old w _ hk)) (fun k _ hk => by simp [Value.ownBlock] at hk; left; omega) ⟨(fun h => by cases h), fun _ => ?_⟩⟩⟩
 ·unfold execOp
  simp only [ho, Sem.run_bind, hrun]
  rfl
 ·have hv : (V.withRow i0 (.slice (some ⟨w.heap.size, 0, none⟩) n n)).rv i0 = .slice (some ⟨w.heap.size, 0, none⟩) n n := by simp [Vl.withRow]
  rw [hv]
  conv => arg 4; rw [← hxn]
  have hnm : n ≤ maxLen := by
   have : n * 1 ≤ n * (L.ti e).sz := Nat.mul_le_mul_left _ hsz
   unfold maxLen; omega
  (have hcur' := hcur); (rw [← hxn] at hcur')
  refine rowOk_new (heap_alloc_new w _) (Nat.le_refl _) (by rw [hxn]; exact hnm) hcur' fun q j hq hj => ?_
  obtain ⟨v, hv1, hv2⟩ := hg _ _ M (fun j r hm hr => frz_reads A.rel hf.frd (by simp) (fun k hk => .inl (heap_alloc_old w _ hk)) (fun k _ hk => by simp [Value.ownBlock] at hk; left; omega) hr (hf.look hm hr)) q j hq hj
  refine ⟨v, ?_, hv2⟩
  (rw [List.getElem?_toArray, Great.flat_get hsz _ hcz']); (have h1 : (q * (L.ti e).sz + j) / (L.ti e).sz = q := by rw [Nat.mul_comm, Nat.mul_add_div hsz, Nat.div_eq_of_lt hj, Nat.add_zero]); (have h2 : (q * (L.ti e).sz + j) % (L.ti e).sz = j := by rw [Nat.mul_comm, Nat.mul_add_mod, Nat.mod_eq_of_lt hj]); (rw [h1, h2])
  exact hv1
end
end Go.Proofs.YtgnbfmoifnfneaaDoor.V
namespace Go.Proofs.YtgnbfmoifnfneaaDoor.V
open Go
set_option linter.unusedVariables false
set_option linter.unusedSimpArgs false
theorem notFrozen {w : World} {b : Nat} {vs : Array Value} {T : TypeId} {fz : Nat × Nat} (hfz : fz = (0, 0) ∨ vs.size ≤ fz.1) (hb : w.heap[b]? = some (.cells vs T fz)) {q : Nat} (hq : q < vs.size) : w.frozen? ⟨b, q, none⟩ = false := by
 (obtain ⟨lo, hi⟩ := fz); (simp only [World.frozen?, hb, Bool.and_eq_false_iff, decide_eq_false_iff_not])
 rcases hfz with e | h
 ·obtain ⟨rfl, rfl⟩ := Prod.mk.inj e
  right; omega
 ·left; simp only at h; omega
theorem setCells_block (b : Nat) : ∀ (xs : List Value) (o : Nat) (w : World) (vs : Array Value) (T : TypeId) (fz : Nat × Nat), w.heap[b]? = some (.cells vs T fz) → ∃ vs' : Array Value, (w.setCells b o xs).heap[b]? = some (.cells vs' T fz) ∧ vs'.size = vs.size ∧ ∀ q, q < vs.size → vs'[q]? = if o ≤ q ∧ q < o + xs.length then xs[q - o]? else vs[q]?
 | [], o, w, vs, T, fz, h => ⟨vs, h, rfl, fun q _ => by rw [if_neg (by simp)]⟩
 | x :: xs, o, w, vs, T, fz, h => by
  obtain ⟨vs', h1, h2, h3⟩ := setCells_block b xs (o + 1) (w.setCell ⟨b, o, none⟩ x) (vs.setIfInBounds o x) T fz (by rw [setCell_eq_setRow w b o vs T fz x h]; exact setRow_heap w b vs _ T fz h)
  refine ⟨vs', h1, by simpa using h2, fun q hq => ?_⟩
  rw [h3 q (by simpa using hq)]
  by_cases e : q = o
  ·subst e
   rw [if_neg (by omega), if_pos (by simp), Nat.sub_self, Array.getElem?_setIfInBounds_self_of_lt hq]
   rfl
  ·rw [Array.getElem?_setIfInBounds_ne (by omega)]
   by_cases hq1 : o + 1 ≤ q ∧ q < o + 1 + xs.length
   ·rw [if_pos hq1, if_pos (by simp; omega), show q - o = (q - (o + 1)) + 1 by omega, List.getElem?_cons_succ]
   ·rw [if_neg hq1, if_neg (by simp; omega)]
theorem setCells_other (b : Nat) : ∀ (xs : List Value) (o : Nat) (w : World) (k : Nat), k ≠ b → (w.setCells b o xs).heap[k]? = w.heap[k]?
 | [], _, _, _, _ => rfl
 | x :: xs, o, w, k, h => by
  rw [World.setCells, setCells_other b xs (o + 1) _ k h]
  exact heap_setCell_other w ⟨b, o, none⟩ k x h
theorem setCells_meta (b : Nat) : ∀ (xs : List Value) (o : Nat) (w : World), (w.setCells b o xs).heap.size = w.heap.size ∧ (w.setCells b o xs).os = w.os ∧ (w.setCells b o xs).tape = w.tape ∧ (w.setCells b o xs).output = w.output
 | [], _, _ => ⟨rfl, rfl, rfl, rfl⟩
 | x :: xs, o, w => by
  obtain ⟨h1, h2, h3, h4⟩ := setCells_meta b xs (o + 1) (w.setCell ⟨b, o, none⟩ x)
  exact ⟨h1.trans (by simp [World.setCell]), h2, h3, h4⟩
theorem setCells_own {w : World} {g cap n m : Nat} {cur : Array Value} {e : TypeId} {size : Nat} {fz : Nat × Nat} {xs news : List Value} (hfz : fz = (0, 0) ∨ cur.size ≤ fz.1) (hg : w.heap[g]? = some (.cells cur e fz)) (hl : news.length = m * size) (hlx : xs.length = n * size) (hroom : n + m ≤ cap) (hcm : cap ≤ maxLen) (hcs : cur.size = cap * size) (htake : cur.toList.take (n * size) = xs) :
  ownsT (w.setCells g (n * size) news) e size (.slice (some ⟨g, 0, none⟩) (n + m) cap) (n + m) (xs ++ news) ∧ w.grownBy (w.setCells g (n * size) news) (some g) := by
 (have hfit : n * size + news.length ≤ cur.size := by rw [hl, hcs, ← Nat.add_mul]; exact Nat.mul_le_mul_right _ hroom); (obtain ⟨vs', h1, h2, h3⟩ := setCells_block g news (n * size) w cur e fz hg); (obtain ⟨m1, m2, m3, m4⟩ := setCells_meta g news (n * size) w); (have hlen : (xs ++ news).length = (n + m) * size := by rw [List.length_append, hlx, hl, Nat.add_mul])
 refine ⟨⟨hlen, .inr ⟨g, cap, vs', fz, rfl, by rw [h2]; exact hfz, h1, hroom, hcm, by rw [h2, hcs], ?_⟩⟩, ⟨m2, m3, m4, Nat.le_of_eq m1.symm, fun k _ hk => setCells_other g news _ w k (fun e => hk (by rw [e]))⟩⟩
 apply List.ext_getElem?
 intro q
 (have hlx' : xs.length ≤ cur.size := by omega); (have hle : (n + m) * size ≤ vs'.size := by rw [h2, hcs]; exact Nat.mul_le_mul_right _ hroom)
 by_cases hq : q < (n + m) * size
 ·rw [List.getElem?_take, if_pos hq, Array.getElem?_toList, h3 q (by omega)]
  by_cases hq1 : n * size ≤ q
  ·rw [if_pos ⟨hq1, by rw [hl, ← Nat.add_mul]; exact hq⟩, List.getElem?_append_right (by omega), hlx]
  ·rw [if_neg (by omega), List.getElem?_append_left (by omega), ← htake, List.getElem?_take, if_pos (by omega), Array.getElem?_toList]
 ·rw [List.getElem?_eq_none (by simp; omega), List.getElem?_eq_none (by omega)]
section
variable {P : Program} {L : Lay} {E : Ent} {st : St L.D} {V : Vl} {a : Act} {w : World}
theorem rowCells (h : Rel L E st V a w) {s : SV L.D} {u : Value} {r : Row L.D} (hs : rowOf L st s = some r) (hu : SR L w (Fz E st V w) st V a.tmps s u) : ∃ A c, u = .slice A r.xs.length c ∧ (r.xs ≠ [] → ∃ (b off : Nat) (f : Nat → Nat → Value), A = some ⟨b, off, none⟩ ∧ (∀ i j, i < r.xs.length → j < (L.ti r.t).sz → w.cell? ⟨b, off + i * (L.ti r.t).sz + j, none⟩ = some (f i j)) ∧
  ∀ i j, (h : i < r.xs.length) → j < (L.ti r.t).sz → CR L w (Fz E st V w) ((L.cell r.t r.xs[i]).getD j .dead) (f i j)) := by
 have ofCR : ∀ {t : TypeId} {xs : List (L.D t)} {u : Value}, CR L w (Fz E st V w) (.ro t xs) u → ∃ A c, u = .slice A xs.length c ∧ (xs ≠ [] → ∃ (b off : Nat) (f : Nat → Nat → Value), A = some ⟨b, off, none⟩ ∧ (∀ i j, i < xs.length → j < (L.ti t).sz → w.cell? ⟨b, off + i * (L.ti t).sz + j, none⟩ = some (f i j)) ∧
  ∀ i j, (h : i < xs.length) → j < (L.ti t).sz → CR L w (Fz E st V w) ((L.cell t xs[i]).getD j .dead) (f i j)) := fun hc => by
  obtain ⟨A, c, e, hr⟩ := hc.row
  exact ⟨A, c, e, fun hne => by obtain ⟨_, b, off, f, e, _, h1, h2⟩ := hr hne; exact ⟨b, off, f, e, h1, h2⟩⟩
 unfold rowOf at hs
 split at hs
 ·rename_i j
  (obtain ⟨p, q⟩ := h.row j r hs); (rw [hu.own_inv hs])
  cases hf : r.fz with
  | true => exact ofCR (p hf)
  | false =>
   obtain ⟨cells, ho, h1, hr⟩ := q hf
   rcases ho.2 with ⟨e, hn⟩ | ⟨g, cap, cur, fz, e, _, hg, hnc, _⟩
   ·exact ⟨none, 0, by rw [e, hn], fun hne => absurd (List.eq_nil_of_length_eq_zero hn) hne⟩
   ·refine ⟨some ⟨g, 0, none⟩, cap, e, fun hne => ⟨g, 0, fun i j => cells.getD (i * (L.ti r.t).sz + j) undef, rfl, fun i j hi hj => ?_, hr⟩⟩
    have hlt : i * (L.ti r.t).sz + j < cells.length := by
     (have : (i + 1) * (L.ti r.t).sz ≤ r.xs.length * (L.ti r.t).sz := Nat.mul_le_mul_right _ hi); (rw [Nat.add_mul] at this); (have hl : cells.length = r.xs.length * (L.ti r.t).sz := ho.1)
     omega
    (have := ho.cells (g := g) (by rw [e]; rfl) (i * (L.ti r.t).sz + j) cells[i * (L.ti r.t).sz + j] (List.getElem?_eq_getElem hlt)); (rw [Addr.add_mid] at this); (rw [Nat.add_assoc 0, this])
    exact congrArg some (getD_lt hlt undef).symm
 ·obtain rfl := Option.some.inj hs
  exact ofCR hu.ro_inv
 ·obtain rfl := Option.some.inj hs
  exact ⟨none, 0, hu.nl_inv, fun h => absurd rfl h⟩
 ·cases hs
theorem cells_list (n sz : Nat) (f : Nat → Nat → Value) (hz : 0 < sz) : ∀ q, q < n * sz → ((List.range (n * sz)).map fun q => f (q / sz) (q % sz))[q]? = some (f (q / sz) (q % sz)) := fun q hq => by
 rw [List.getElem?_map, List.getElem?_range hq]; rfl
theorem append_cells (hL : LayOk P L) {t e : TypeId} (hk : elemOf L t = some e) (ty : TypeId) {w : World} {v : Value} {n : Nat} {cells : List Value} (hown : ownsT w e (L.ti e).sz v n cells) {A : Option Addr} {m c : Nat} {f : Nat → Nat → Value}
  (hA : m ≠ 0 → ∃ b off, A = some ⟨b, off, none⟩ ∧ ∀ i j, i < m → j < (L.ti e).sz → w.cell? ⟨b, off + i * (L.ti e).sz + j, none⟩ = some (f i j)) (h1 : ∀ i j, i < m → j < (L.ti e).sz → (f i j).oneCell' = true) (hb : ((n : Int) + m) * (L.ti e).bytes ≤ 70368744177664) :
  ∃ v' w', (Builtin.append_ #[t, t] ty #[v, .slice A m c]).run P w = .ok v' w' ∧ ownsT w' e (L.ti e).sz v' (n + m) (cells ++ (List.range (m * (L.ti e).sz)).map fun q => f (q / (L.ti e).sz) (q % (L.ti e).sz)) ∧ w.grownBy w' v.ownBlock ∧ (v'.ownBlock = v.ownBlock ∨ v'.ownBlock = some w.heap.size) := by
 (obtain ⟨hu, hko, _, hsz, i, z, hinf, hs, hbt, hzero, hb0⟩ := elem_info hL hk); (obtain ⟨i', z', hinf', _, _, hz', hcs, _⟩ := hL.info e hko); (obtain rfl : i' = i := Option.some.inj (hinf'.symm.trans hinf)); (obtain rfl : z' = z := Option.some.inj (hz'.symm.trans hzero))
 have hnb : (n + m) * i'.bytes ≤ 140737488355328 := by
  have e1 : (((n + m) * i'.bytes : Nat) : Int) = ((n : Int) + m) * (L.ti e).bytes := by rw [hbt]; simp
  omega
 have hnm : n + m ≤ maxLen := by
  have : (n + m) * 1 ≤ (n + m) * i'.bytes := Nat.mul_le_mul_left _ hb0
  unfold maxLen; omega
 by_cases hm : m = 0
 ·subst hm
  rcases hown.2 with ⟨rfl, rfl⟩ | ⟨g, cap, cur, fz, rfl, hbg, hg, hnc, hrest⟩
  ·refine ⟨.slice none 0 0, w, ?_, by simpa using hown, ⟨rfl, rfl, rfl, Nat.le_refl _, fun _ _ _ => rfl⟩, .inl rfl⟩
   cases A <;> simp [Builtin.append_, run_underlying hu, sizeOf, typeInfo, hinf, Builtin.lenOf, Builtin.firstCells, loadCells, loadCellsFrom]
  ·refine ⟨.slice (some ⟨g, 0, none⟩) n cap, w, ?_, by simpa using hown, ⟨rfl, rfl, rfl, Nat.le_refl _, fun _ _ _ => rfl⟩, .inl rfl⟩
   cases A <;> simp [Builtin.append_, run_underlying hu, sizeOf, typeInfo, hinf, Builtin.lenOf, Builtin.firstCells, loadCells, loadCellsFrom, hnc, storeCells]
 ·obtain ⟨b, off, rfl, hc⟩ := hA hm
  have hnews : ∀ j u, ((List.range (m * (L.ti e).sz)).map fun q => f (q / (L.ti e).sz) (q % (L.ti e).sz))[j]? = some u → w.cell? ((⟨b, off, none⟩ : Addr).add j) = some u := fun j u hj => by
   by_cases hlt : j < m * (L.ti e).sz
   ·rw [cells_list m _ f hsz j hlt] at hj
    (rw [← Option.some.inj hj, Addr.add_mid]); (have := hc (j / (L.ti e).sz) (j % (L.ti e).sz) (Nat.div_lt_of_lt_mul (by rw [Nat.mul_comm]; exact hlt)) (Nat.mod_lt _ hsz)); (rw [Nat.add_assoc, Nat.mul_comm, Nat.div_add_mod] at this)
    exact this
   ·rw [List.getElem?_eq_none (by simp; omega)] at hj; cases hj
  have hone : ∀ u ∈ ((List.range (m * (L.ti e).sz)).map fun q => f (q / (L.ti e).sz) (q % (L.ti e).sz)), u.oneCell' = true := fun u hu' => by
   (obtain ⟨q, hq, rfl⟩ := List.mem_map.1 hu'); (have hlt := List.mem_range.1 hq)
   exact h1 _ _ (Nat.div_lt_of_lt_mul (by rw [Nat.mul_comm]; exact hlt)) (Nat.mod_lt _ hsz)
  generalize hN : ((List.range (m * (L.ti e).sz)).map fun q => f (q / (L.ti e).sz) (q % (L.ti e).sz)) = news at hnews hone
  have hl : news.length = m * (L.ti e).sz := by rw [← hN]; simp
  rcases hown.2 with ⟨rfl, rfl⟩ | ⟨g, cap, cur, fz, rfl, hfz, hg, hnc, hcm, hcs', htake⟩
  ·have hx : cells = [] := List.eq_nil_of_length_eq_zero (by simpa using hown.1)
   (subst hx); (obtain ⟨v', w', g1, g2, g3, _, g5⟩ := run_append_own_at (P := P) w 0 t ty e i' z' (L.ti e).sz i'.bytes hu hinf hzero hs rfl hcs hsz (.slice none 0 0) 0 [] (World.ownsRow_nil w 0 e (L.ti e).sz) ⟨b, off, none⟩ m c news hl hnews hone hnm hnb (Nat.zero_le _))
   exact ⟨v', w', g1, ownsT_of g2, g3, g5⟩
  ·by_cases hroom : n + m ≤ cap
   ·have hfit : n * (L.ti e).sz + news.length ≤ cur.size := by rw [hl, hcs', ← Nat.add_mul]; exact Nat.mul_le_mul_right _ hroom
    obtain ⟨o1, o2⟩ := setCells_own hfz hg hl hown.1 hroom hcm hcs' htake
    refine ⟨_, _, ?_, o1, o2, .inl rfl⟩
    (have := run_append_room_cells (P := P) w t ty e i' hu hinf g 0 n cap ⟨b, off, none⟩ m c news (by rw [hs]; exact hl) hnews hone hroom (fun j hj => by rw [hs, Nat.zero_add]; simp [World.cell?, hg]; omega) (fun j hj => by rw [hs, Nat.zero_add]; exact notFrozen hfz hg (by omega))); (rw [hs, Nat.zero_add] at this)
    exact this
   ·have holds := hown.cells (g := g) rfl
    (have hr := run_append_grow (P := P) w t ty e i' z' hu hinf hzero ⟨g, 0, none⟩ n cap cells (by rw [hs]; exact hown.1) holds ⟨b, off, none⟩ m c news (by rw [hs]; exact hl) hnews (by omega) (by unfold maxLen at hnm; omega) (growslice_fits (by omega) hnb)); (have hge := grownCap_ge w (n + m) cap e); (have hcm' := grownCap_le_maxLen w (n + m) cap e hnm); (have hlen : (cells ++ news).length = (n + m) * (L.ti e).sz := by rw [List.length_append, hown.1, hl, Nat.add_mul])
    refine ⟨_, _, hr, ⟨hlen, .inr ⟨w.heap.size, _, _, (0, 0), rfl, .inl rfl, heap_alloc_new w.drew _, hge, hcm', ?_, ?_⟩⟩, ⟨rfl, rfl, rfl, by simp, fun k hk _ => heap_alloc_old w.drew _ hk⟩, .inr rfl⟩
    ·simp only [Array.size_append, List.size_toArray, size_zeroCells, hcs, hown.1, hl, ← Nat.add_mul]
     congr 1
     omega
    ·simp only [Array.toList_append, List.append_assoc]
     rw [← List.append_assoc, ← hlen]
     exact List.take_left
theorem append_bytes (hL : LayOk P L) {t t' e : TypeId} (hk : elemOf L t = some e) (hk' : (L.ti t').kind = .str) (hke : (L.ti e).kind = .int .u8) (ty : TypeId) {w : World} {v : Value} {n : Nat} {cells : List Value} (hown : ownsT w e (L.ti e).sz v n cells) (s : ByteArray) (hb : ((n : Int) + s.size) * (L.ti e).bytes ≤ 70368744177664) :
  ∃ v' w', (Builtin.append_ #[t, t'] ty #[v, .string s]).run P w = .ok v' w' ∧ ownsT w' e (L.ti e).sz v' (n + s.size) (cells ++ Lib.strCells s) ∧ w.grownBy w' v.ownBlock ∧ (v'.ownBlock = v.ownBlock ∨ v'.ownBlock = some w.heap.size) := by
 (obtain ⟨hu, hko, _, hsz, i, z, hinf, hs, hbt, hzero, hb0⟩ := elem_info hL hk); (obtain ⟨hs1, hb1, hz1, _⟩ := hL.byte e hke)
 have hzv : z = .int .u8 0 := by
  (obtain ⟨i', z', hinf', _, _, hz', hcs, _, hone, hzl, hj⟩ := hL.info e hko); (obtain rfl : i' = i := Option.some.inj (hinf'.symm.trans hinf)); (obtain rfl : z' = z := Option.some.inj (hz'.symm.trans hzero)); (obtain ⟨u, hu', h1, hc⟩ := hj 0 (by rw [hz1]; exact Nat.zero_lt_one)); (have e0 : (L.zero e)[0]'(by rw [hz1]; exact Nat.zero_lt_one) = .v (.int .u8 0) := by simp [hz1]); (rw [e0] at hc)
  have hui : u = .int .u8 0 := by
   rcases hc with hc | ⟨_, hc, _⟩
   ·injection hc with hc; exact hc.symm
   ·cases hc
  (have hag : isAgg L e = false := by unfold isAgg; rw [hke]); (have hcel : z'.cells = #[z'] := by have := hone hag; cases z' <;> first | rfl | cases this); (rw [hcel, hui] at hu')
  simpa using hu'
 (subst hzv); (rw [hs1] at hown hs ⊢); (rw [hb1] at hb hbt); (have hnb : n + s.size ≤ 140737488355328 := by omega)
 rcases hown.2 with ⟨rfl, rfl⟩ | ⟨g, cap, cur, fz, rfl, hfz, hg, hnc, hcm, hcs, htake⟩
 ·have hx : cells = [] := List.eq_nil_of_length_eq_zero (by simpa using hown.1)
  (subst hx); (obtain ⟨v', w', g1, g2, g3, _⟩ := Lib.run_append_own_string (P := P) w 0 t t' ty e i hu (hL.str t' hk') hinf hzero hs hbt (.slice none 0 0) 0 [] (World.ownsRow_nil w 0 e 1) s (by unfold maxLen; omega) hnb (Nat.zero_le _))
  refine ⟨v', w', g1, ownsT_of g2, g3, ?_⟩
  have hres : ∃ v1 w1, (Builtin.append_ #[t, t'] ty #[.slice none 0 0, .string s]).run P w = .ok v1 w1 ∧ (v1.ownBlock = none ∨ v1.ownBlock = some w.heap.size) := by
   by_cases h0 : s.size = 0
   ·have hf : (Builtin.firstCells 1 0 (.string s)).run P w = .ok (Lib.strCells s).toArray w := by rw [← h0]; exact Lib.run_firstCells_string (P := P) w 1 s
    exact ⟨.slice none 0 0, w, by simp [Builtin.append_, run_underlying hu, run_underlying (hL.str t' hk'), sizeOf, typeInfo, hinf, hs, Builtin.lenOf, h0, hf], .inl rfl⟩
   ·have hf := Lib.run_firstCells_string (P := P) w.drew i.size s
    (have hn : ¬ s.size ≤ 0 := by omega); (have h63' : ¬ (9223372036854775807 < (s.size : Int)) := by omega); (have h48' : ¬ (281474976710656 < Builtin.nextslicecap s.size 0 * i.bytes) := by have := growslice_fits (need := s.size) (old := 0) (bytes := i.bytes) (by omega) (by rw [hbt]; omega); omega)
    refine ⟨.slice (some ⟨w.heap.size, 0, none⟩) s.size (grownCap w s.size 0 e), w.drew.alloc (.cells ((Lib.strCells s).toArray ++ Builtin.zeroCells (Value.int .u8 0).cells (grownCap w s.size 0 e - s.size)) e), ?_, .inr rfl⟩
    simp [Builtin.append_, run_underlying hu, run_underlying (hL.str t' hk'), sizeOf, typeInfo, zeroValue, hinf, hzero, Builtin.lenOf, hn, h0, h63', h48', Question.forced, hf, newRow, grownCap, Builtin.firstCells]
    have hX : (Array.map (fun b => Value.int IntKind.u8 ↑b.toNat) s.data).extract 0 s.size = (Lib.strCells s).toArray := by
     simp only [Lib.strCells]
     apply Array.ext'
     simp
     exact List.take_of_length_le (by simp only [List.length_map, Array.length_toList]; exact Nat.le_refl _)
    rw [hX]
  (obtain ⟨v1, w1, h1, h2⟩ := hres); (rw [g1] at h1)
  injection h1 with h1 _
  rw [h1]; exact h2
 ·by_cases hroom : n + s.size ≤ cap
  ·have hl : (Lib.strCells s).length = s.size * 1 := by rw [Lib.strCells_length, Nat.mul_one]
   obtain ⟨o1, o2⟩ := setCells_own (news := Lib.strCells s) hfz hg hl hown.1 hroom hcm hcs htake
   refine ⟨_, _, ?_, o1, o2, .inl rfl⟩
   (have hf := Lib.run_firstCells_string (P := P) w 1 s); (have hst := run_storeCells_cells (P := P) g n (Lib.strCells s) 0 w (fun j hj => by simp [World.cell?, hg]; rw [Lib.strCells_length] at hj; omega) (fun j hj => notFrozen hfz hg (by rw [Lib.strCells_length] at hj; omega)) (Lib.strCells_oneCell s)); (simp only [Nat.add_zero] at hst); (rw [Nat.mul_one])
   simp [Builtin.append_, run_underlying hu, run_underlying (hL.str t' hk'), sizeOf, typeInfo, hinf, hs, Builtin.lenOf, hroom, hf, Addr.add_lit, hst]
  ·have hr := Lib.run_append_grow_string (P := P) w t t' ty e i (.int .u8 0) hu (hL.str t' hk') hinf hzero ⟨g, 0, none⟩ n cap cells (by rw [hs]; exact hown.1) (hown.cells (g := g) rfl) s (by omega) (by omega) (growslice_fits (by omega) (by rw [hbt]; omega))
   (have hge := grownCap_ge w (n + s.size) cap e); (have hcm' := grownCap_le_maxLen w (n + s.size) cap e (by unfold maxLen; omega)); (have hlen : (cells ++ Lib.strCells s).length = (n + s.size) * 1 := by rw [List.length_append, hown.1, Lib.strCells_length, Nat.add_mul, Nat.mul_one, Nat.mul_one]); (have hz1 : (Value.int IntKind.u8 0).cells.size = 1 := rfl)
   refine ⟨_, _, hr, ⟨hlen, .inr ⟨w.heap.size, _, _, (0, 0), rfl, .inl rfl, heap_alloc_new w.drew _, hge, hcm', ?_, ?_⟩⟩, ⟨rfl, rfl, rfl, by simp, fun k hk _ => heap_alloc_old w.drew _ hk⟩, .inr rfl⟩
   ·simp only [Array.size_append, List.size_toArray, size_zeroCells, hz1, hown.1, Lib.strCells_length, Nat.mul_one]
    omega
   ·simp only [Array.toList_append, List.append_assoc]
    rw [← List.append_assoc, ← hlen]
    exact List.take_left
theorem out_convBytes (hL : LayOk P L) {o : Oper} {ks : List Key} (A : At L E st V a w o ks) {src dst e : TypeId} {x : Operand} (ho : o.op = .convert src dst x) {s : ByteArray} (hx : rdo st x = .v (.string s)) (hd : (L.ti dst).kind = .slice e) (hs : okT L src = true) (hk : (L.ti e).kind = .int .u8) (hsz : s.size ≤ 9223372036854775807) {i0 : Nat} (hi : (2, i0) ∈ ks) :
  Out P L E st o a w { val := .own i0, rows := [(i0, some ⟨e, false, s.data.toList.map (ofByte L e)⟩)] } := by
 (have e1 := (hx ▸ A.rel.opd x).v_inv.1); (obtain ⟨d, hu⟩ := okT_und hL hs); (have hdu := (slice_kind hL hd).1); (have hb : s.data.toList.length = s.size := by rw [Array.length_toList]; rfl); (have hs1 := (hL.byte e hk).1); (have hlen : (s.data.toList.map (ofByte L e)).length = s.size := by rw [List.length_map, hb]); (have hold : ∀ k, k < w.heap.size → (Lib.bytesWorld w e s).heap[k]? = w.heap[k]? := fun k hk => Lib.bytesWorld_at_old w e s k hk); (have hsize : (Lib.bytesWorld w e s).heap.size = w.heap.size + 1 := Lib.bytesWorld_size w e s)
 refine ⟨_, _, ?_, _, .inl ⟨_, rfl, A.rel.newRow A.clean A.dst hi frd_nil (v0 := .slice (some ⟨w.heap.size, 0, none⟩) s.size (grownCap w s.size 0 e)) (w' := Lib.bytesWorld w e s) (by omega) rfl rfl rfl (fun k hk => .inl (hold k hk)) (fun k _ hk => ?_) ⟨(fun h => by cases h), fun _ => ?_⟩⟩⟩
 ·unfold execOp
  simp only [ho, e1, Sem.run_bind, Lib.run_convert_string_bytes w src dst e s hu hdu (hL.int e .u8 hk)]
  rfl
 ·simp [Value.ownBlock] at hk; left; omega
 ·have hv : (V.withRow i0 (.slice (some ⟨w.heap.size, 0, none⟩) s.size (grownCap w s.size 0 e))).rv i0 = .slice (some ⟨w.heap.size, 0, none⟩) s.size (grownCap w s.size 0 e) := by simp [Vl.withRow]
  (rw [hv]); (have hge := grownCap_ge w s.size 0 e); (have hcm := grownCap_le_maxLen w s.size 0 e (by unfold maxLen; omega))
  have hcz : (Lib.bytesCells w e s).size = grownCap w s.size 0 e := by
   (have h1 : s.data.size = s.size := rfl); (simp only [Lib.bytesCells, Array.size_append, Array.size_map, Array.size_replicate, h1]; omega)
  clear hv
  generalize grownCap w s.size 0 e = G at hge hcm hcz
  conv => arg 4; rw [← hlen]
  refine rowOk_newT (.inr (Nat.le_refl _)) (Lib.bytesWorld_at_new w e s) (by rw [hlen]; exact hge) hcm (by rw [hcz, hs1, Nat.mul_one]) fun q j hq hj => ?_
  (rw [hs1] at hj); (obtain rfl : j = 0 := by omega); (rw [hlen] at hq)
  refine ⟨.int .u8 (s.data.toList.getD q 0).toNat, ?_, ?_⟩
  ·rw [hs1, Nat.mul_one, Nat.add_zero]
   (have := Lib.bytesWorld_cell w e s q hq); (rw [cell_of_row _ _ _ _ _ _ (Lib.bytesWorld_at_new w e s)] at this)
   exact this
  ·rw [List.getElem_map, ofByte_cell hL hk, getD_lt (by omega) (0 : UInt8)]
   exact CR.v (L := L) (.int .u8 _) rfl
end
end Go.Proofs.YtgnbfmoifnfneaaDoor.V
namespace Go.Proofs.YtgnbfmoifnfneaaDoor.V
open Go
set_option linter.unusedVariables false
set_option linter.unusedSimpArgs false
section
variable {P : Program} {L : Lay} {E : Ent} {st : St L.D} {V : Vl} {a : Act} {w : World}
theorem castL_eq {D : TypeId → Type} {t t' : TypeId} {xs : List (D t)} {ys : List (D t')} (h : castL xs = some ys) : ∃ e : t = t', ys = e ▸ xs := by
 unfold castL at h
 split at h
 ·rename_i e; exact ⟨e, (Option.some.inj h).symm⟩
 ·cases h
def CellsOk (L : Lay) (w : World) (F : Nat → Prop) (e : TypeId) (xs : List (L.D e)) (cells : List Value) : Prop :=
 cells.length = xs.length * (L.ti e).sz ∧ (∀ u ∈ cells, u.oneCell' = true) ∧ ∀ i j, (h : i < xs.length) → j < (L.ti e).sz → CR L w F ((L.cell e xs[i]).getD j .dead) (cells.getD (i * (L.ti e).sz + j) undef)
theorem CellsOk.app {w : World} {F : Nat → Prop} {e : TypeId} {xs ys : List (L.D e)} {c d : List Value} (h : CellsOk L w F e xs c) (h' : CellsOk L w F e ys d) : CellsOk L w F e (xs ++ ys) (c ++ d) := by
 refine ⟨by rw [List.length_append, h.1, h'.1, List.length_append, Nat.add_mul], fun u hu => (List.mem_append.1 hu).elim (h.2.1 u) (h'.2.1 u), fun i j hi hj => ?_⟩
 by_cases hx : i < xs.length
 ·have hlt : i * (L.ti e).sz + j < c.length := by
   (have : (i + 1) * (L.ti e).sz ≤ xs.length * (L.ti e).sz := Nat.mul_le_mul_right _ hx); (rw [Nat.add_mul] at this); (rw [h.1]; omega)
  have e1 : (c ++ d).getD (i * (L.ti e).sz + j) undef = c.getD (i * (L.ti e).sz + j) undef := by
   rw [List.getD_eq_getElem?_getD, List.getD_eq_getElem?_getD, List.getElem?_append_left hlt]
  rw [e1, List.getElem_append_left hx]
  exact h.2.2 i j hx hj
 ·have hx' : xs.length ≤ i := by omega
  (have hy : i - xs.length < ys.length := by rw [List.length_append] at hi; omega); (have hm : i * (L.ti e).sz = xs.length * (L.ti e).sz + (i - xs.length) * (L.ti e).sz := by rw [← Nat.add_mul]; congr 1; omega)
  have e1 : (c ++ d).getD (i * (L.ti e).sz + j) undef = d.getD ((i - xs.length) * (L.ti e).sz + j) undef := by
   rw [List.getD_eq_getElem?_getD, List.getD_eq_getElem?_getD, List.getElem?_append_right (by rw [h.1]; omega), h.1]
   congr 2
   omega
  rw [e1, List.getElem_append_right hx']
  exact h'.2.2 _ j hy hj
theorem CellsOk.mono {w w' : World} {F F' : Nat → Prop} (hF : ∀ k, F k → F' k ∧ w'.heap[k]? = w.heap[k]?) {e : TypeId} {xs : List (L.D e)} {c : List Value} (h : CellsOk L w F e xs c) : CellsOk L w' F' e xs c :=
 ⟨h.1, h.2.1, fun i j hi hj => (h.2.2 i j hi hj).mono hF⟩
theorem old_ok (h : Rel L E st V a w) {e t : TypeId} {s : SV L.D} {v : Value} (hv : SR L w (Fz E st V w) st V a.tmps s v) {xs : List (L.D e)} {u : List (Nat × Option (Row L.D))}
  (hs : (∃ t, s = .nl t ∧ xs = [] ∧ u = []) ∨ ∃ j r, s = .own j ∧ st.row j = some r ∧ r.fz = false ∧ castL r.xs = some xs ∧ u = [(j, none)]) :
  Frd st u ∧ (∀ k, v.ownBlock = some k → Gone st V u k) ∧ ∃ cells, ownsT w e (L.ti e).sz v xs.length cells ∧ CellsOk L w (Fz E st V w) e xs cells := by
 rcases hs with ⟨t, rfl, rfl, rfl⟩ | ⟨j, r, rfl, hr, hf, hc, rfl⟩
 ·rw [hv.nl_inv]
  exact ⟨frd_nil, fun k hk => (by cases hk), [], ⟨by simp, .inl ⟨rfl, rfl⟩⟩, by simp, (fun u hu => (by cases hu)), fun i j hi => absurd hi (Nat.not_lt_zero i)⟩
 ·rw [hv.own_inv hr]
  refine ⟨fun j' o hm => ?_, fun k hk => ⟨j, r, by simp [look], hr, hf, hk⟩, ?_⟩
  ·obtain ⟨rfl, rfl⟩ := Prod.mk.inj (List.mem_singleton.1 hm)
   exact ⟨r, hr, .inl rfl⟩
  ·obtain ⟨he, rfl⟩ := castL_eq hc
   (subst he); (obtain ⟨cells, ho, h1, hcr⟩ := (h.row j r hr).2 hf)
   exact ⟨cells, ho, ho.1, h1, hcr⟩
theorem news_ok (hL : LayOk P L) (h : Rel L E st V a w) {e t t' : TypeId} (hk : elemOf L t = some e) {s : SV L.D} {x : Value} (hx : SR L w (Fz E st V w) st V a.tmps s x) {ys : List (L.D e)} (hs : tail_ L st e t t' s = some ys) (ty : TypeId) {v : Value} {n : Nat} {cells : List Value} (hown : ownsT w e (L.ti e).sz v n cells) (hb : ((n : Int) + ys.length) * (L.ti e).bytes ≤ 70368744177664) :
  ∃ v' w' news, (Builtin.append_ #[t, t'] ty #[v, x]).run P w = .ok v' w' ∧ ownsT w' e (L.ti e).sz v' (n + ys.length) (cells ++ news) ∧ w.grownBy w' v.ownBlock ∧ (v'.ownBlock = v.ownBlock ∨ v'.ownBlock = some w.heap.size) ∧ CellsOk L w (Fz E st V w) e ys news := by
 unfold tail_ at hs
 split at hs
 ·rename_i b
  split at hs
  ·rename_i hke hk'
   (obtain rfl := Option.some.inj hs); (have hlen : (b.data.toList.map (ofByte L e)).length = b.size := by simp); (rw [hlen] at hb); (obtain ⟨v', w', h1, h2, h3, h4⟩ := append_bytes hL hk hk' hke ty hown b hb); (rw [hx.v_inv.1, hlen])
   refine ⟨v', w', Lib.strCells b, h1, h2, h3, h4, ?_, fun u hu => ?_, fun i j hi hj => ?_⟩
   ·rw [hlen, (hL.byte e hke).1, Nat.mul_one]; simp [Lib.strCells]
   ·obtain ⟨q, _, rfl⟩ := List.mem_map.1 hu; rfl
   ·have hs1 := (hL.byte e hke).1
    (obtain rfl : j = 0 := by omega); (have hib : i < b.data.toList.length := by simpa using hi); (rw [List.getElem_map, ofByte_cell hL hke, hs1, Nat.mul_one, Nat.add_zero, getD_lt (show i < (Lib.strCells b).length by simpa [Lib.strCells] using hib)]); (simp only [Lib.strCells, List.getElem_map])
    exact .v _ rfl
  ·cases hs
 ·split at hs
  ·rename_i r hbq hr
   (have := Nat.eq_of_beq_eq_true hbq); (subst this); (obtain ⟨he, rfl⟩ := castL_eq hs); (subst he); (obtain ⟨A, c, rfl, hA⟩ := rowCells h hr hx); (have hsz := (elem_info hL hk).2.2.2.1)
   by_cases hnil : r.xs = []
   ·have h0 : r.xs.length = 0 := by rw [hnil]; rfl
    obtain ⟨v', w', h1, h2, h3, h4⟩ := append_cells hL hk ty (A := A) (m := r.xs.length) (c := c) (f := fun _ _ => undef) hown (fun hne => absurd h0 hne) (fun i j hi => by omega) hb
    exact ⟨v', w', _, h1, h2, h3, h4, by simp, fun u hu => (by simp [h0] at hu), fun i j (hi : i < r.xs.length) => by omega⟩
   ·obtain ⟨b, off, f, rfl, hc, hcr⟩ := hA hnil
    obtain ⟨v', w', h1, h2, h3, h4⟩ := append_cells hL hk ty (A := some ⟨b, off, none⟩) (m := r.xs.length) (c := c) (f := f) hown (fun _ => ⟨b, off, rfl, hc⟩) (fun i j hi hj => (hcr i j hi hj).one) hb
    refine ⟨v', w', _, h1, h2, h3, h4, by simp, fun u hu => ?_, fun i j hi hj => ?_⟩
    ·obtain ⟨q, hq, rfl⟩ := List.mem_map.1 hu
     have hlt := List.mem_range.1 hq
     exact (hcr _ _ (Nat.div_lt_of_lt_mul (by rw [Nat.mul_comm]; exact hlt)) (Nat.mod_lt _ hsz)).one
    ·have hlt : i * (L.ti r.t).sz + j < r.xs.length * (L.ti r.t).sz := by
      (have : (i + 1) * (L.ti r.t).sz ≤ r.xs.length * (L.ti r.t).sz := Nat.mul_le_mul_right _ hi); (rw [Nat.add_mul] at this; omega)
     have e1 : ((List.range (r.xs.length * (L.ti r.t).sz)).map fun q => f (q / (L.ti r.t).sz) (q % (L.ti r.t).sz)).getD (i * (L.ti r.t).sz + j) undef = f i j := by
      rw [List.getD_eq_getElem?_getD, cells_list _ _ f hsz _ hlt, Option.getD_some]
      congr 1
      ·rw [Nat.mul_comm, Nat.mul_add_div hsz, Nat.div_eq_of_lt hj, Nat.add_zero]
      ·rw [Nat.mul_comm, Nat.mul_add_mod, Nat.mod_eq_of_lt hj]
     rw [e1]
     exact hcr i j hi hj
  ·cases hs
theorem out_append (hL : LayOk P L) {o : Oper} {ks : List Key} (A : At L E st V a w o ks) {x y : Operand} {t t' e : TypeId} (ho : o.op = .call { callee := .builtin .append, args := #[x, y], argTypes := #[t, t'] }) (hk : elemOf L t = some e) {xs ys : List (L.D e)} {u : List (Nat × Option (Row L.D))}
  (hs : (∃ t', rdt L st t x = .nl t' ∧ xs = [] ∧ u = []) ∨ ∃ j r, rdt L st t x = .own j ∧ st.row j = some r ∧ r.fz = false ∧ castL r.xs = some xs ∧ u = [(j, none)]) (ht : tail_ L st e t t' (rdt L st t' y) = some ys)
  (hb : ((xs.length : Int) + ys.length) * (L.ti e).bytes ≤ 70368744177664) {i0 : Nat} (hi : (2, i0) ∈ ks) : Out P L E st o a w { val := .own i0, rows := (i0, some ⟨e, false, xs ++ ys⟩) :: u } := by
 (obtain ⟨hu, hgone, cells, hown, hcells⟩ := old_ok (t := t) A.rel (A.rel.opdT t x) hs); (obtain ⟨v', w', news, hrun, hown', hgrow, hblk, hnews⟩ := news_ok hL A.rel hk (A.rel.opdT t' y) ht o.type hown hb)
 have hsame : ∀ k, k < w.heap.size → w'.heap[k]? = w.heap[k]? ∨ Gone st V u k := fun k hk => by
  by_cases hb : (a.eval x).ownBlock = some k
  ·exact .inr (hgone k hb)
  ·exact .inl (hgrow.block k hk (fun e => hb e.symm))
 have hnew : ∀ k, (⟨e, false, xs ++ ys⟩ : Row L.D).fz = false → v'.ownBlock = some k → w.heap.size ≤ k ∨ Gone st V u k := fun k _ hk => by
  rcases hblk with hb | hb
  ·exact .inr (hgone k (hb ▸ hk))
  ·rw [hb] at hk; exact .inl (Nat.le_of_eq (Option.some.inj hk))
 have M := mix_mem (dst := o.dst) (s := .own i0) (i0 := i0) (r0 := ⟨e, false, xs ++ ys⟩) (v0 := v') A.rel hu (w' := w') hgrow.size hsame hnew
 refine ⟨_, _, ?_, _, .inl ⟨_, rfl, A.rel.newRow A.clean A.dst hi hu (v0 := v') (w' := w') hgrow.size hgrow.os hgrow.tape hgrow.output hsame hnew ⟨(fun h => by cases h), fun _ => ?_⟩⟩⟩
 ·unfold execOp
  simp [ho, resolve, invoke, builtin, hrun]
 ·have hv : (V.withRow i0 v').rv i0 = v' := by simp [Vl.withRow]
  (rw [hv]); (have hall := (hcells.app hnews).mono M)
  refine ⟨cells ++ news, ?_, hall.2.1, hall.2.2⟩
  show ownsT w' e (L.ti e).sz v' (xs ++ ys).length (cells ++ news)
  rw [List.length_append]
  exact hown'
end
end Go.Proofs.YtgnbfmoifnfneaaDoor.V
namespace Go.Proofs.YtgnbfmoifnfneaaDoor.V
open Go
set_option linter.unusedVariables false
set_option linter.unusedSimpArgs false
section
variable {P : Program} {L : Lay} {E : Ent} {st : St L.D} {V : Vl} {a : Act} {w : World}
theorem run_storeIn {t : TypeId} {i : TypeInfo} (hi : P.info? t = some i) {u : Value} (hsz : u.cells.size = i.size) (h1 : ∀ v ∈ u.cells.toList, v.oneCell' = true) {b o : Nat} {vs : Array Value} {T : TypeId} {fz : Nat × Nat} (hfz : fz = (0, 0) ∨ vs.size ≤ fz.1) (hb : w.heap[b]? = some (.cells vs T fz)) (hl : o + u.cells.size ≤ vs.size) :
  (Instr.storeAt t (.pointer (some ⟨b, o, none⟩)) u).run P w = .ok () (w.setCells b o u.cells.toList) := by
 (have hf : ∀ q, q < vs.size → w.frozen? ⟨b, q, none⟩ = false := fun q hq => notFrozen hfz hb hq); (have hc : ∀ q, q < vs.size → (w.cell? ⟨b, q, none⟩).isSome = true := fun q hq => by simp [World.cell?, hb, hq]); (have := run_storeCells_cells (P := P) b o u.cells.toList 0 w (fun j hj => hc _ (by rw [Array.length_toList] at hj; omega)) (fun j hj => hf _ (by rw [Array.length_toList] at hj; omega)) h1); (simp only [Nat.add_zero] at this)
 simp [Instr.storeAt, Instr.sureAddr, storeVar, sizeOf, typeInfo, hi, hsz, this]
theorem getD_mix {α : Type} (cs xs : List α) (off n : Nat) (hx : xs.length = n) (hl : off + n ≤ cs.length) (d : α) (j : Nat) : (cs.take off ++ xs ++ cs.drop (off + n)).getD j d = if off ≤ j ∧ j < off + n then xs.getD (j - off) d else cs.getD j d := by
 (have h1 : (cs.take off).length = off := by simp; omega); (simp only [List.getD_eq_getElem?_getD])
 by_cases h : off ≤ j ∧ j < off + n
 ·rw [if_pos h, List.append_assoc, List.getElem?_append_right (by omega), h1, List.getElem?_append_left (by omega)]
 ·rw [if_neg h]
  by_cases hj : j < off
  ·rw [List.append_assoc, List.getElem?_append_left (by omega), List.getElem?_take, if_pos hj]
  ·have h2 : (cs.take off ++ xs).length = off + n := by rw [List.length_append]; omega
   rw [List.getElem?_append_right (by omega), h2, List.getElem?_drop]
   congr 2
   omega
theorem length_mix {α : Type} (cs xs : List α) (off n : Nat) (hx : xs.length = n) (hl : off + n ≤ cs.length) : (cs.take off ++ xs ++ cs.drop (off + n)).length = cs.length := by
 simp; omega
section
variable {b0 : Nat} {cs0 cs1 : List (SV L.D)} {dst : Option Nat} {s : SV L.D}
theorem ow_setBox (hb0 : st.box b0 = some cs0) {k : Nat} (h : Ow (st.put dst { val := s, boxes := [(b0, some cs1)] }) V k) : Ow st V k := by
 rcases h with ⟨b, cs, hb', e⟩ | ⟨i, r, hr, hf, e⟩
 ·rcases box_new hb' with ⟨rfl, _⟩ | ⟨hne, h0⟩
  ·exact .inl ⟨b, cs0, hb0, e⟩
  ·exact .inl ⟨b, cs, h0, e⟩
 ·rw [row_newBox] at hr
  exact .inr ⟨i, r, hr, hf, e⟩
theorem Ch.setBox (h : Rel L E st V a w) (hb0 : st.box b0 = some cs0) (ks : Key → Prop) (tm' : Array Value) {w' : World} (hw : ∀ k, k ≠ V.ba b0 → w'.heap[k]? = w.heap[k]?) (hz : w'.heap.size = w.heap.size) (os : w'.os = w.os) (tape : w'.tape = w.tape) (output : w'.output = w.output)
  (hb : BoxOk L E (st.put dst { val := s, boxes := [(b0, some cs1)] }) V tm' w' b0 cs1) (hlen : cs1.length = cs0.length) (hout : ∀ o, (o < V.bo b0 ∨ V.bo b0 + cs0.length ≤ o) → w'.cell? ⟨V.ba b0, o, none⟩ = w.cell? ⟨V.ba b0, o, none⟩) : Ch L E st V w ks (st.put dst { val := s, boxes := [(b0, some cs1)] }) V tm' w' where
 same := fun k hk => by
  by_cases e : k = V.ba b0
  ·exact .inr (.inl ⟨b0, cs0, hb0, e.symm⟩)
  ·exact .inl (hw k e)
 owned := fun k hk => .inr (ow_setBox hb0 hk)
 rowS := fun i r' _ hr => ⟨r', by rw [row_newBox] at hr; exact hr, rfl, rfl, rfl⟩
 boxS := fun b cs' hn hb' => by
  rcases box_new hb' with ⟨rfl, _⟩ | ⟨hne, h0⟩
  ·exact ⟨cs0, hb0, rfl, rfl⟩
  ·exact ⟨cs', h0, rfl, rfl⟩
 box := fun b cs hb' => by
  rcases box_new hb' with ⟨rfl, rfl⟩ | ⟨hne, h0⟩
  ·exact .inr hb
  ·exact .inl ⟨h0, rfl, rfl, hw _ fun e => hne (h.bb b b0 cs cs0 h0 hb0 e)⟩
 row := fun i r hr => by
  rw [row_newBox] at hr
  exact .inl ⟨hr, rfl, fun hf k hk => hw k fun e => h.br b0 cs0 i r hb0 hr hf (by rw [hk, e])⟩
 bb := fun b b' cs cs' h1 h2 e => by
  rcases box_new h1 with ⟨rfl, _⟩ | ⟨n1, g1⟩ <;> rcases box_new h2 with ⟨rfl, _⟩ | ⟨n2, g2⟩
  ·rfl
  ·exact h.bb _ b' cs0 cs' hb0 g2 e
  ·exact h.bb b _ cs cs0 g1 hb0 e
  ·exact h.bb b b' cs cs' g1 g2 e
 br := fun b cs i r h1 hr hf => by
  rw [row_newBox] at hr
  rcases box_new h1 with ⟨rfl, _⟩ | ⟨n1, g1⟩
  ·exact h.br _ cs0 i r hb0 hr hf
  ·exact h.br b cs i r g1 hr hf
 rr := fun i i' r r' k hr hr' hf hf' hk hk' => by
  rw [row_newBox] at hr hr'
  exact h.rr i i' r r' k hr hr' hf hf' hk hk'
 size := Nat.le_of_eq hz.symm
 os := os
 tape := tape
 output := output
 imps := rfl
 impB := fun b hb' cs h1 => by
  by_cases e : b = b0
  ·subst e
   obtain rfl : cs = cs0 := Option.some.inj (h1.symm.trans hb0)
   exact ⟨cs1, by rw [box_put, look_one, if_pos rfl], hlen, rfl, rfl, hout⟩
  ·exact ⟨cs, by rw [box_put, look_one, if_neg e]; exact h1, rfl, rfl, rfl, fun o _ => cell_same (hw _ fun e' => e (h.bb b b0 cs cs0 h1 hb0 e')) o⟩
end
theorem out_storeBox (hL : LayOk P L) {o : Oper} {ks : List Key} (A : At L E st V a w o ks) {t : TypeId} {x y : Operand} (ho : o.op = .store t x y) (hk : okT L t = true) (hg : good st (rdt L st t y) = true) (hn : (cellsOf (rdt L st t y)).length = (L.ti t).sz) {b off : Nat} (hx : rdo st x = .ptr b off) {cs : List (SV L.D)} (hb : st.box b = some cs) (hl : off + (L.ti t).sz ≤ cs.length) :
    Out P L E st o a w { val := .dead, boxes := [(b, some (cs.take off ++ cellsOf (rdt L st t y) ++ cs.drop (off + (L.ti t).sz)))] } := by
  have hko : (L.ti t).kind ≠ .other := by intro h; simp [okT, h] at hk
  obtain ⟨i, z, hi, hsz, _⟩ := hL.info t hko
  have hv := A.rel.opdT t y
  obtain ⟨cl, c1, cj⟩ := cells_ok hv (good_one hg hv A.rel.rv_one)
  rw [Array.length_toList] at cl
  have hp := (hx ▸ A.rel.opd x).ptr_inv hb
  obtain ⟨vs, T, hh, hvl, hcell⟩ := A.rel.box b cs hb
  have hus : (a.eval y).cells.size = (L.ti t).sz := cl.symm.trans hn
  have hfit : V.bo b + off + (a.eval y).cells.size ≤ vs.size := by rw [hus]; omega
  have hrun := run_storeIn (P := P) (t := t) hi (u := a.eval y) (by omega) c1 (o := V.bo b + off) (.inl rfl) hh hfit
  obtain ⟨vs', hh', hsz', hget⟩ := setCells_block (V.ba b) (a.eval y).cells.toList (V.bo b + off) w vs T (0, 0) hh
  obtain ⟨m1, m2, m3, m4⟩ := setCells_meta (V.ba b) (a.eval y).cells.toList (V.bo b + off) w
  have ho' : ∀ k, k ≠ V.ba b → (w.setCells (V.ba b) (V.bo b + off) (a.eval y).cells.toList).heap[k]? = w.heap[k]? := fun k hk => setCells_other _ _ _ _ k hk
  have hlen := length_mix cs (cellsOf (rdt L st t y)) off _ hn hl
  have S : Same L w (w.setCells (V.ba b) (V.bo b + off) (a.eval y).cells.toList) (Fz E st V w) (Fz E (st.put o.dst { val := .dead, boxes := [(b, some (cs.take off ++ cellsOf (rdt L st t y) ++ cs.drop (off + (L.ti t).sz)))] }) V (w.setCells (V.ba b) (V.bo b + off) (a.eval y).cells.toList)) st (st.put o.dst { val := .dead, boxes := [(b, some (cs.take off ++ cellsOf (rdt L st t y) ++ cs.drop (off + (L.ti t).sz)))] }) V V a.tmps (a.put o.dst undef).tmps (· ∈ ks) := {
    mem := fz_turn A.rel (fun k hk => by
      by_cases e : k = V.ba b
      · exact .inr (.inl ⟨b, cs, hb, e.symm⟩)
      · exact .inl (ho' k e)) (fun k hk => .inr (ow_setBox hb hk)) (Nat.le_of_eq m1.symm)
    row := fun i r' _ hr => ⟨r', by rw [row_newBox] at hr; exact hr, rfl, rfl, rfl⟩
    box := fun b' cs' hn hb' => by
      rcases box_new hb' with ⟨rfl, _⟩ | ⟨hne, h0⟩
      · exact ⟨cs, hb, rfl, rfl⟩
      · exact ⟨cs', h0, rfl, rfl⟩
    tmp := fun j hj => by
      cases hdst : o.dst with
      | none => rfl
      | some n => exact put_getD_other (fun e => hj (by rw [e]; exact (A.dst n hdst).1)) undef }
  refine ⟨_, _, ?_, V, .inr ⟨rfl, A.rel.turn A.clean A.dst ((Ch.setBox (s := .dead) (dst := o.dst) A.rel hb (· ∈ ks) (a.put o.dst undef).tmps ho' m1 m2 m3 m4 ⟨vs', T, hh', by omega, fun j hj => ?_⟩ hlen (fun q hq => World.cell?_setCells_out _ _ _ _ _ (fun _ _ => by rw [Array.length_toList (xs := (a.eval y).cells)]; show q < _ ∨ _ ≤ q; omega))).turn A.rel) fun n hn => .dead _⟩⟩
  · unfold execOp
    simp only [ho, hp, Sem.run_bind, ← Nat.add_assoc]
    rw [hrun]
    rfl
  · rw [hlen] at hj
    have hq : V.bo b + j < vs.size := by omega
    rw [getD_mix cs _ off _ hn hl, hget (V.bo b + j) hq]
    by_cases h : off ≤ j ∧ j < off + (L.ti t).sz
    · rw [if_pos h, if_pos (by rw [Array.length_toList]; omega), show V.bo b + j - (V.bo b + off) = j - off by omega]
      have hjc : j - off < (a.eval y).cells.toList.length := by rw [Array.length_toList]; omega
      refine ⟨(a.eval y).cells.toList.getD (j - off) undef, ?_, ?_, ?_⟩
      · rw [getD_lt hjc]; exact List.getElem?_eq_getElem hjc
      · rw [getD_lt hjc]; exact c1 _ (List.getElem_mem _)
      · refine (cj (j - off) (by omega)).same S fun k hk => ?_
        have := clean_rdt A.clean t y k hk
        generalize rdt L st t y = s at this hn
        have h2 : j - off < (cellsOf s).length := by omega
        cases s <;> first | (simp only [cellsOf, List.length_singleton] at h2; have : j - off = 0 := by omega
                             rw [this]; assumption) | (simp only [ment] at this; exact mentL_getD this)
    · rw [if_neg h, if_neg (by rw [Array.length_toList]; omega)]
      obtain ⟨u, hu, hu1, hs⟩ := hcell j hj
      exact ⟨u, hu, hu1, hs.same S fun k hk => clean_box A.clean hk hb j⟩
end
end Go.Proofs.YtgnbfmoifnfneaaDoor.V
namespace Go.Proofs.YtgnbfmoifnfneaaDoor.V
open Go
set_option linter.unusedVariables false
set_option linter.unusedSimpArgs false
section
variable {P : Program} {L : Lay} {E : Ent} {st : St L.D} {V : Vl} {a : Act} {w : World}
theorem RowOk.block {w : World} {F : Nat → Prop} {t : TypeId} {xs : List (L.D t)} {g c : Nat} (h : RowOk L w F (.slice (some ⟨g, 0, none⟩) xs.length c) t xs) : ∃ (cur : Array Value) (fz : Nat × Nat), (fz = (0, 0) ∨ cur.size ≤ fz.1) ∧ w.heap[g]? = some (.cells cur t fz) ∧ xs.length ≤ c ∧ c ≤ maxLen ∧ cur.size = c * (L.ti t).sz ∧
  ∀ i j, (hi : i < xs.length) → j < (L.ti t).sz → ∃ u, cur[i * (L.ti t).sz + j]? = some u ∧ u.oneCell' = true ∧ CR L w F ((L.cell t xs[i]).getD j .dead) u := by
 obtain ⟨cells, ho, h1, hr⟩ := h
 rcases ho.2 with ⟨e, _⟩ | ⟨g', cap, cur, fz, e, hfz, hg, hnc, hcm, hcs, htake⟩
 ·cases e
 ·simp only [Value.slice.injEq, Option.some.injEq, Addr.mk.injEq, and_true, true_and] at e
  obtain ⟨rfl, rfl⟩ := e
  refine ⟨cur, fz, hfz, hg, hnc, hcm, hcs, fun i j hi hj => ?_⟩
  have hlt : i * (L.ti t).sz + j < xs.length * (L.ti t).sz := by
   (have : (i + 1) * (L.ti t).sz ≤ xs.length * (L.ti t).sz := Nat.mul_le_mul_right _ hi); (rw [Nat.add_mul] at this; omega)
  (have hlc : i * (L.ti t).sz + j < cells.length := by rw [show cells.length = xs.length * (L.ti t).sz from ho.1]; exact hlt); (have e : cells[i * (L.ti t).sz + j]? = cur[i * (L.ti t).sz + j]? := by rw [← htake, List.getElem?_take, if_pos hlt, Array.getElem?_toList]); (have := hr i j hi hj); (rw [getD_lt hlc] at this)
  exact ⟨_, by rw [← e]; exact List.getElem?_eq_getElem hlc, h1 _ (List.getElem_mem _), this⟩
theorem canon_cell (hL : LayOk P L) (t : TypeId) (x : L.D t) (j : Nat) : canon ((L.cell t x).getD j .dead) = (L.cell t x).getD j .dead := by
 by_cases h : j < (L.cell t x).length
 ·rw [getD_lt h]
  rcases hL.form t x _ (List.getElem_mem h) with ⟨u, e, _⟩ | ⟨e', ys, e⟩ <;> rw [e] <;> rfl
 ·rw [List.getD_eq_getElem?_getD, List.getElem?_eq_none (by omega)]; rfl
theorem getD_map_canon {D : TypeId → Type} (l : List (SV D)) (j : Nat) : (l.map canon).getD j .dead = canon (l.getD j .dead) := by
 simp only [List.getD_eq_getElem?_getD, List.getElem?_map]
 cases l[j]? <;> rfl
theorem out_storeRow (hL : LayOk P L) {o : Oper} {ks : List Key} (A : At L E st V a w o ks) {t : TypeId} {x y : Operand} (ho : o.op = .store t x y) (hk : okT L t = true) (hg : good st (rdt L st t y) = true) (hn : (cellsOf (rdt L st t y)).length = (L.ti t).sz) {j ix off : Nat} (hx : rdo st x = .ep j ix off) {r : Row L.D} (hr : st.row j = some r) (hf : r.fz = false)
  {xs : List (SV L.D)} {u : List (Nat × Option (Row L.D))} (hs : stills L st (cellsOf (rdt L st t y)) = some (xs, u)) (hl : off + (L.ti t).sz ≤ (L.ti r.t).sz) (hu : u.any (fun p => Nat.beq p.1 j) = false) {z : L.D r.t}
  (hz : L.make r.t ((L.cell r.t (r.xs.getD ix (L.zd r.t))).take off ++ xs ++ (L.cell r.t (r.xs.getD ix (L.zd r.t))).drop (off + (L.ti t).sz)) = some z) :
  Out P L E st o a w { val := .dead, rows := (j, some { r with xs := r.xs.set ix z }) :: (j, none) :: u } := by
 (have hko : (L.ti t).kind ≠ .other := by intro h; simp [okT, h] at hk); (obtain ⟨i, zz, hi, hsz, _⟩ := hL.info t hko); (have hv := A.rel.opdT t y); (obtain ⟨cl, c1, cj⟩ := cells_ok hv (good_one hg hv A.rel.rv_one)); (rw [Array.length_toList] at cl); (obtain ⟨g, c, hrv, hix, hp⟩ := (hx ▸ A.rel.opd x).ep_inv hr); (have hrow := (A.rel.row j r hr).2 hf); (rw [hrv] at hrow); (obtain ⟨cur, fz, hfz, hh, hnc, hcm, hcs, hold⟩ := hrow.block); (have hus : (a.eval y).cells.size = (L.ti t).sz := cl.symm.trans hn); (have hmul : (ix + 1) * (L.ti r.t).sz ≤ c * (L.ti r.t).sz := Nat.mul_le_mul_right _ (by omega)); (rw [Nat.add_mul, Nat.one_mul] at hmul); (have hfit : ix * (L.ti r.t).sz + off + (a.eval y).cells.size ≤ cur.size := by rw [hus, hcs]; omega); (have hrun := run_storeIn (P := P) (t := t) hi (u := a.eval y) (by omega) c1 (o := ix * (L.ti r.t).sz + off) hfz hh hfit); (obtain ⟨cur', hh', hsz', hget⟩ := setCells_block g (a.eval y).cells.toList (ix * (L.ti r.t).sz + off) w cur r.t fz hh); (obtain ⟨m1, m2, m3, m4⟩ := setCells_meta g (a.eval y).cells.toList (ix * (L.ti r.t).sz + off) w); (have ho' : ∀ k, k ≠ g → (w.setCells g (ix * (L.ti r.t).sz + off) (a.eval y).cells.toList).heap[k]? = w.heap[k]? := fun k hk => setCells_other _ _ _ _ k hk)
 generalize w.setCells g (ix * (L.ti r.t).sz + off) (a.eval y).cells.toList = w' at hrun hh' m1 m2 m3 m4 ho'
 obtain ⟨sl, hfr, hst⟩ := stills_ok A.rel hs
 have hjn : ∀ j' o', (j', o') ∈ u → j' ≠ j := fun j' o' hm e => by
  (rw [List.any_eq_false] at hu); (have := hu _ hm); (rw [e] at this)
  simp at this
 have hfrd : Frd st ((j, none) :: u) := fun j' o' hm => by
  rcases List.mem_cons.1 hm with e | hm
  ·obtain ⟨rfl, rfl⟩ := Prod.mk.inj e
   exact ⟨r, hr, .inl rfl⟩
  ·exact hfr.frd j' o' hm
 (have hgone : ∀ k, (V.rv j).ownBlock = some k → Gone st V ((j, none) :: u) k := fun k hk => ⟨j, r, by rw [look_cons, if_pos rfl], hr, hf, hk⟩); (have hob : (V.rv j).ownBlock = some g := by rw [hrv]; rfl)
 have hsame : ∀ k, k < w.heap.size → w'.heap[k]? = w.heap[k]? ∨ Gone st V ((j, none) :: u) k := fun k hk => by
  by_cases e : k = g
  ·exact .inr (hgone k (by rw [e]; exact hob))
  ·exact .inl (ho' k e)
 (have hnew : ∀ k, ({ r with xs := r.xs.set ix z } : Row L.D).fz = false → (V.rv j).ownBlock = some k → w.heap.size ≤ k ∨ Gone st V ((j, none) :: u) k := fun k _ hk => .inr (hgone k hk)); (have hsize : w.heap.size ≤ w'.heap.size := Nat.le_of_eq m1.symm); (have M := mix_mem (dst := o.dst) (s := .dead) (i0 := j) (r0 := { r with xs := r.xs.set ix z }) (v0 := V.rv j) A.rel hfrd (w' := w') hsize hsame hnew)
 refine ⟨_, _, ?_, V.withRow j (V.rv j), .inr ⟨rfl, A.rel.turn A.clean A.dst ((Ch.newRow (dst := o.dst) (s := .dead) (r0 := { r with xs := r.xs.set ix z }) A.rel (.inr ⟨r, hr, rfl, rfl, by simp⟩) hfrd _ hsize m2 m3 m4 hsame hnew ⟨(fun h => by rw [show ({ r with xs := r.xs.set ix z } : Row L.D).fz = r.fz from rfl, hf] at h; cases h), fun _ => ?_⟩).turn A.rel) fun n hn => .dead _⟩⟩
 ·unfold execOp
  (simp only [ho, hp, Sem.run_bind]); (rw [hrun])
  rfl
 ·have hv0 : (V.withRow j (V.rv j)).rv j = .slice (some ⟨g, 0, none⟩) (r.xs.set ix z).length c := by simp [Vl.withRow, hrv]
  rw [hv0]
  refine rowOk_newT (by rw [hsz']; exact hfz) hh' (by simpa using hnc) hcm (by rw [hsz', hcs]) fun q jj hq hjj => ?_
  have hq' : q < r.xs.length := by simpa using hq
  have hpos : q * (L.ti r.t).sz + jj < cur.size := by
   (have : (q + 1) * (L.ti r.t).sz ≤ c * (L.ti r.t).sz := Nat.mul_le_mul_right _ (by omega)); (rw [Nat.add_mul] at this); (rw [hcs]; omega)
  rw [hget (q * (L.ti r.t).sz + jj) hpos, Array.length_toList, hus]
  by_cases e : q = ix
  ·subst e
   (have hcl : (L.cell r.t (r.xs.getD q (L.zd r.t))).length = (L.ti r.t).sz := hL.cell _ _); (simp only [List.getElem_set_self]); (rw [hL.make _ _ _ hz, getD_map_canon, getD_mix _ _ _ _ (by rw [sl]; exact hn) (by rw [hcl]; exact hl)])
   by_cases h : off ≤ jj ∧ jj < off + (L.ti t).sz
   ·rw [if_pos h, if_pos (by omega), show q * (L.ti r.t).sz + jj - (q * (L.ti r.t).sz + off) = jj - off by omega]
    (have hjc : jj - off < (a.eval y).cells.toList.length := by rw [Array.length_toList, hus]; omega); (have hjs : jj - off < (cellsOf (rdt L st t y)).length := by rw [hn]; omega)
    refine ⟨_, List.getElem?_eq_getElem hjc, ?_⟩
    (have := hst w' _ M (fun j' r' hm hr' => frz_reads A.rel hfrd hsize hsame hnew hr' (by rw [look_cons, if_neg (hjn _ _ hm)]; exact hfr.look hm hr')) (jj - off) hjs _ (cj (jj - off) hjs)); (rw [getD_map_canon, getD_lt hjc] at this)
    exact this
   ·rw [if_neg h, if_neg (by omega)]
    obtain ⟨u', h1, _, h3⟩ := hold q jj hq' hjj
    refine ⟨u', h1, ?_⟩
    rw [canon_cell hL, getD_lt hq']
    exact h3.mono M
  ·have hno : ¬ (ix * (L.ti r.t).sz + off ≤ q * (L.ti r.t).sz + jj ∧ q * (L.ti r.t).sz + jj < ix * (L.ti r.t).sz + off + (L.ti t).sz) := by
    rcases Nat.lt_or_gt_of_ne e with h | h
    ·have : (q + 1) * (L.ti r.t).sz ≤ ix * (L.ti r.t).sz := Nat.mul_le_mul_right _ h
     rw [Nat.add_mul] at this; omega
    ·have : (ix + 1) * (L.ti r.t).sz ≤ q * (L.ti r.t).sz := Nat.mul_le_mul_right _ h
     rw [Nat.add_mul] at this; omega
   (rw [if_neg hno]); (obtain ⟨u', h1, _, h3⟩ := hold q jj hq' hjj)
   refine ⟨u', h1, ?_⟩
   simp only [List.getElem_set_ne (Ne.symm e)]
   exact h3.mono M
theorem fill_ok (h : Rel L E st V a w) (fs : List (Nat × Nat)) (place : Nat → Option (Nat × Nat)) (hp : ∀ j q, fs[j]? = some q → place j = some q) : ∀ {ps : List (Nat × Operand)} {cs cs' : List (SV L.D)} {arr : Array Value}, fillS L st fs cs ps = some cs' → arr.size = cs.length → (∀ j, j < cs.length → ∃ u, arr[j]? = some u ∧ u.oneCell' = true ∧ SR L w (Fz E st V w) st V a.tmps (cs.getD j .dead) u) →
  ∃ arr', Instr.fill place arr (ps.map fun p => (p.1, a.eval p.2)) = some arr' ∧ arr'.size = cs'.length ∧ cs'.length = cs.length ∧ ∀ j, j < cs'.length → ∃ u, arr'[j]? = some u ∧ u.oneCell' = true ∧ SR L w (Fz E st V w) st V a.tmps (cs'.getD j .dead) u
 | [], cs, cs', arr, hf, hs, hj => by
  (simp only [fillS, Option.some.injEq] at hf); (subst hf)
  exact ⟨arr, rfl, hs, rfl, hj⟩
 | (j, x) :: ps, cs, cs', arr, hf, hs, hj => by
  -- one part
  have step : ∀ (off n : Nat) (ds : List (SV L.D)), fs[j]? = some (off, n) → (a.eval x).cells.size = n → off + n ≤ cs.length → ds.length = cs.length → (∀ q, q < cs.length → ∃ u, (if off ≤ q ∧ q < off + n then (a.eval x).cells.toList[q - off]? else arr[q]?) = some u ∧ u.oneCell' = true ∧ SR L w (Fz E st V w) st V a.tmps (ds.getD q .dead) u) → fillS L st fs ds ps = some cs' →
    ∃ arr', Instr.fill place arr (((j, x) :: ps).map fun p => (p.1, a.eval p.2)) = some arr' ∧ arr'.size = cs'.length ∧ cs'.length = cs.length ∧ ∀ j, j < cs'.length → ∃ u, arr'[j]? = some u ∧ u.oneCell' = true ∧ SR L w (Fz E st V w) st V a.tmps (cs'.getD j .dead) u := by
   intro off n ds hfs hn hle hds hq hrest
   obtain ⟨g1, g2⟩ := Great.foldl_set off (a.eval x).cells.toList 0 arr
   obtain ⟨arr', e1, e2, e3, e4⟩ := fill_ok h fs place hp (ps := ps) (cs := ds) (arr := ((a.eval x).cells.toList.zipIdx 0).foldl (fun cs (x : Value × Nat) => cs.setIfInBounds (off + x.2) x.1) arr) hrest (by rw [g1, hs, hds]) (fun q hq' => by
    (rw [g2 q]); (obtain ⟨u, hu, hr⟩ := hq q (by omega))
    refine ⟨u, ?_, hr⟩
    rw [← hu, Array.length_toList, hn, Nat.add_zero]
    by_cases hc : off ≤ q ∧ q < off + n
    ·rw [if_pos hc, if_pos ⟨hc.1, hc.2, by omega⟩]
    ·rw [if_neg hc, if_neg (fun hh => hc ⟨hh.1, hh.2.1⟩)])
   refine ⟨arr', ?_, e2, by rw [e3, hds], e4⟩
   simp only [List.map_cons]
   unfold Instr.fill
   (simp only [hp j _ hfs]); (rw [if_neg (by simp; omega), ← e1])
   congr 1
   rw [← Array.foldl_toList, Array.toList_zipIdx]
  unfold fillS at hf
  split at hf
  ·rename_i heq
   cases heq
  ·rename_i j' ps' heq
   (obtain ⟨e0, rfl⟩ := List.cons.inj heq); (obtain ⟨rfl, rfl⟩ := Prod.mk.inj e0)
   split at hf
   ·rename_i off hfs
    split at hf
    ·rename_i t' hc
     have hlt := (List.getElem?_eq_some_iff.1 hc).1
     refine step off 1 _ hfs rfl (by omega) rfl (fun q hq => ?_) hf
     by_cases hqo : off ≤ q ∧ q < off + 1
     ·obtain rfl : q = off := by omega
      rw [if_pos hqo, Nat.sub_self]
      refine ⟨_, rfl, rfl, ?_⟩
      rw [List.getD_eq_getElem?_getD, hc]
      exact .nl t'
     ·rw [if_neg hqo]; exact hj q hq
    ·cases hf
   ·cases hf
  ·rename_i j' x' ps' hnn heq
   (obtain ⟨e0, rfl⟩ := List.cons.inj heq); (obtain ⟨rfl, rfl⟩ := Prod.mk.inj e0)
   split at hf
   ·rename_i off n hfs
    split at hf
    ·rename_i hg
     (simp only [Bool.and_eq_true] at hg); (obtain ⟨⟨hg, hbl⟩, hle⟩ := hg); (have hbl := Nat.eq_of_beq_eq_true hbl); (have hle := Nat.le_of_ble_eq_true hle); (have hv := h.opd x); (obtain ⟨cl, c1, cj⟩ := cells_ok hv (good_one hg hv h.rv_one)); (have hsz : (a.eval x).cells.size = n := by rw [← Array.length_toList, ← cl, hbl])
     refine step off n _ hfs hsz hle (length_mix _ _ _ _ hbl hle) (fun q hq => ?_) hf
     rw [getD_mix _ _ _ _ hbl hle]
     by_cases hc : off ≤ q ∧ q < off + n
     ·rw [if_pos hc, if_pos hc]
      have hlt : q - off < (a.eval x).cells.toList.length := by rw [Array.length_toList]; omega
      refine ⟨_, List.getElem?_eq_getElem hlt, c1 _ (List.getElem_mem _), ?_⟩
      (have := cj (q - off) (by omega)); (rw [getD_lt hlt] at this)
      exact this
     ·rw [if_neg hc, if_neg hc]; exact hj q hq
    ·cases hf
   ·cases hf
theorem places_ok (hL : LayOk P L) {t : TypeId} {fs : List (Nat × Nat)} (hk : (L.ti t).kind = .struct fs) : ∃ fields : Array Field, P.underlying t = some (.struct fields) ∧ fields.toList.mapM (fun f => (P.info? f.type).map fun i => (f.offset, i.size)) = some fs := by
 obtain ⟨fields, hu, hsz, hj⟩ := hL.struct t fs hk
 refine ⟨fields, hu, ?_⟩
 have key : ∀ (l : List Field) (m : List (Nat × Nat)), l.length = m.length → (∀ (j q n : Nat), m[j]? = some (q, n) → ∃ (f : Field) (i : TypeInfo), l[j]? = some f ∧ f.offset = q ∧ P.info? f.type = some i ∧ i.size = n) → l.mapM (fun f => (P.info? f.type).map fun i => (f.offset, i.size)) = some m := by
  intro l
  induction l with
  | nil => intro m hl _; rw [List.eq_nil_of_length_eq_zero hl.symm]; rfl
  | cons f l ih =>
   intro m hl hm
   cases m with
   | nil => cases hl
   | cons p m =>
    (obtain ⟨f', i, h1, h2, h3, h4⟩ := hm 0 p.1 p.2 rfl); (obtain rfl : f = f' := Option.some.inj h1); (have := ih m (by simpa using hl) fun j q n hj => by simpa using hm (j + 1) q n (by simpa using hj))
    simp [List.mapM_cons, h3, this, h2, h4]
 exact key _ _ (by simpa using hsz) fun j q n h => by simpa using hj j q n h
theorem out_build (hL : LayOk P L) {o : Oper} {ks : List Key} (A : At L E st V a w o ks) {t : TypeId} {ps : Array (Nat × Operand)} (ho : o.op = .build t ps) {fs : List (Nat × Nat)} (hk : (L.ti t).kind = .struct fs) {cs : List (SV L.D)} (hc : fillS L st fs (L.zero t) ps.toList = some cs) (hm : ∀ k ∈ ks, mentL k cs = false) : Out P L E st o a w { val := .agg cs } := by
 (obtain ⟨fields, hu, hpl⟩ := places_ok hL hk); (obtain ⟨i, z, hi, hz, hzs, hlen, h1, hj⟩ := zero_ok hL (t := t) (by simp [okT, hk]) (w := w) (F := Fz E st V w) (st := st) (V := V) (tm := a.tmps)); (rw [Array.length_toList (xs := z.cells)] at hlen)
 obtain ⟨arr, e1, e2, e3, e4⟩ := fill_ok A.rel fs (fs.toArray[·]?) (fun j q h => by simpa using h) hc (arr := z.cells) hlen.symm fun j hjl => by
  (have hjl' : j < z.cells.toList.length := by rw [Array.length_toList (xs := z.cells)]; omega); (have := (hj j hjl).2); (rw [getD_lt hjl'] at this)
  exact ⟨_, by rw [← Array.getElem?_toList]; exact List.getElem?_eq_getElem hjl', h1 _ (List.getElem_mem _), this⟩
 have hb : P.built t (ps.map fun p => (p.1, a.eval p.2)).toList = some arr := by
  unfold Program.built
  simp only [hi, hu, hz, hpl, Array.toList_map]
  exact e1
 refine Out.val A (v := .agg arr) ?_ (fun k hk' => hm k hk') ?_
 ·unfold execOp
  simp only [ho, Sem.run_bind, run_build w t _ arr hb]
  rfl
 ·have : SR L w (Fz E st V w) st V a.tmps (.agg cs) (.agg arr.toList.toArray) := .agg cs arr.toList (by rw [Array.length_toList (xs := arr), e2]) (fun v hv => by
   (obtain ⟨q, hq, rfl⟩ := List.getElem_of_mem hv); (rw [Array.length_toList (xs := arr), e2] at hq); (obtain ⟨u, h1, h2, _⟩ := e4 q hq); (rw [← Array.getElem?_toList, List.getElem?_eq_getElem (by rw [Array.length_toList (xs := arr), e2]; exact hq)] at h1)
   rw [Option.some.inj h1]; exact h2) fun q hq => by
   (obtain ⟨u, h1, _, h3⟩ := e4 q hq); (rw [List.getD_eq_getElem?_getD (l := arr.toList), Array.getElem?_toList, h1])
   exact h3
  exact this
theorem CR.v_inv' {w : World} {F : Nat → Prop} {x u : Value} (h : CR L w F (.v x) u) : u = x := by
 cases h; rfl
theorem out_convRow (hL : LayOk P L) {o : Oper} {ks : List Key} (A : At L E st V a w o ks) {src dst e : TypeId} {x : Operand} (ho : o.op = .convert src dst x) (hs : elemOf L src = some e) (hd : (L.ti dst).kind = .str) (hk : (L.ti e).kind = .int .u8) {r : Row L.D} (hr : rowOf L st (rdo st x) = some r) (he : e = r.t) :
  Out P L E st o a w { val := .v (.string ⟨(r.xs.map (byteOf L r.t)).toArray⟩) } := by
 (subst he); (obtain ⟨hu, _⟩ := elem_info hL hs); (obtain ⟨A', c, hv, hA⟩ := rowCells A.rel hr (A.rel.opd x)); (obtain ⟨hs1, hb1, hz1, _, hcell⟩ := hL.byte r.t hk)
 refine Out.val A (v := .string ⟨(r.xs.map (byteOf L r.t)).toArray⟩) ?_ (fun _ _ => rfl) (.c (.v _ rfl))
 unfold execOp
 simp only [ho, hv, Sem.run_bind]
 by_cases hnil : r.xs = []
 ·have hc : ∀ w : World, (convert src dst (.slice A' r.xs.length c)).run P w = .ok (.string ByteArray.empty) w := fun w => by
   rw [run_convert_bytes_string w src dst r.t A' r.xs.length c hu (hL.int _ _ hk) (hL.str _ hd)]
   cases A' <;> simp [Conv.bytesToString, hnil, loadCells, loadCellsFrom] <;> rfl
  rw [hc, hnil]
  rfl
 ·obtain ⟨b, off, f, rfl, h1, h2⟩ := hA hnil
  have hnum : ∀ i, (hi : i < r.xs.length) → ∃ n, L.cell r.t r.xs[i] = [.v (.int .u8 n)] ∧ f i 0 = .int .u8 n := fun i hi => by
   (obtain ⟨n, hn⟩ := hcell r.xs[i]); (have := h2 i 0 hi (by omega)); (rw [hn] at this); (simp only [List.getD_cons_zero] at this)
   exact ⟨n, hn, this.v_inv'⟩
  have hr := run_convert_bytes_arg (P := P) (w := w) src r.t hu (hL.int _ _ hk) b off r.xs.length c (r.xs.map fun x => match L.cell r.t x with | [.v (.int _ n)] => n | _ => 0) (by simp) (fun i hi => by
   (have := h1 i 0 hi (by omega)); (rw [hs1, Nat.mul_one, Nat.add_zero] at this); (obtain ⟨n, hn, hf⟩ := hnum i hi); (rw [this, hf, List.getD_eq_getElem?_getD, List.getElem?_map, List.getElem?_eq_getElem hi])
   simp [hn]) dst (hL.str _ hd)
  rw [hr]
  have : strOfNums (r.xs.map fun x => match L.cell r.t x with | [.v (.int _ n)] => n | _ => 0) = ⟨(r.xs.map (byteOf L r.t)).toArray⟩ := by
   unfold strOfNums
   rw [List.map_map]
   congr 2
   refine List.map_congr_left fun x hx => ?_
   obtain ⟨n, hn⟩ := hcell x
   simp [byteOf, hn]
  rw [this]
  rfl
theorem out_min {o : Oper} {ks : List Key} (A : At L E st V a w o ks) {x y : Operand} {t t' : TypeId} (ho : o.op = .call { callee := .builtin .min, args := #[x, y], argTypes := #[t, t'] }) {k k' : IntKind} {m n : Int} (hx : rdo st x = .v (.int k m)) (hy : rdo st y = .v (.int k' n)) : Out P L E st o a w { val := .v (.int k (cond (decide (n < m)) n m)) } := by
 (have e1 := (hx ▸ A.rel.opd x).v_inv.1); (have e2 := (hy ▸ A.rel.opd y).v_inv.1)
 refine Out.val A (v := .int k (cond (decide (n < m)) n m)) ?_ (fun _ _ => rfl) (.c (.v _ rfl))
 unfold execOp
 simp [ho, resolve, invoke, builtin, e1, e2, run_min_int2, Bool.cond_decide]
theorem out_max {o : Oper} {ks : List Key} (A : At L E st V a w o ks) {x y : Operand} {t t' : TypeId} (ho : o.op = .call { callee := .builtin .max, args := #[x, y], argTypes := #[t, t'] }) {k k' : IntKind} {m n : Int} (hx : rdo st x = .v (.int k m)) (hy : rdo st y = .v (.int k' n)) : Out P L E st o a w { val := .v (.int k (cond (decide (n > m)) n m)) } := by
 (have e1 := (hx ▸ A.rel.opd x).v_inv.1); (have e2 := (hy ▸ A.rel.opd y).v_inv.1)
 refine Out.val A (v := .int k (cond (decide (n > m)) n m)) ?_ (fun _ _ => rfl) (.c (.v _ rfl))
 unfold execOp
 simp [ho, resolve, invoke, builtin, e1, e2, run_max_int2, Bool.cond_decide]
end
end Go.Proofs.YtgnbfmoifnfneaaDoor.V
namespace Go.Proofs.YtgnbfmoifnfneaaDoor.V
open Go
set_option linter.unusedVariables false
set_option linter.unusedSimpArgs false
section
variable {P : Program} {L : Lay} {E : Ent} {st : St L.D} {V : Vl} {a : Act} {w : World}
def takeS (n c : Nat) : SV L.D → SV L.D
 | .fr _ _ => .own (n + c)
 | s => s
theorem take_len (n : Nat) : ∀ (c : Nat) (l : List (SV L.D)), (take_ L n c l).1.length = l.length
 | _, [] => rfl
 | c, s :: l => by
  cases s <;> simp only [take_, List.length_cons, take_len n (c + 1) l]
theorem take_get (n : Nat) : ∀ (c : Nat) (l : List (SV L.D)) (j : Nat), j < l.length → (take_ L n c l).1.getD j .dead = takeS n (c + j) (l.getD j .dead)
 | _, [], j, h => absurd h (Nat.not_lt_zero j)
 | c, s :: l, 0, _ => by cases s <;> rfl
 | c, s :: l, j + 1, h => by
  have := take_get n (c + 1) l j (by simpa using h)
  cases s <;> (simp only [take_, List.getD_cons_succ]; rw [this, Nat.add_right_comm]; rfl)
theorem take_look (n : Nat) : ∀ (c : Nat) (l : List (SV L.D)) (m : Nat) (o : Option (Row L.D)), look (take_ L n c l).2 m = some o → ∃ j t xs, j < l.length ∧ m = n + (c + j) ∧ l.getD j .dead = .fr t xs ∧ o = some ⟨t, false, xs⟩
 | _, [], _, _, h => by cases h
 | c, s :: l, m, o, h => by
  have key : ∀ {s : SV L.D}, look (take_ L n (c + 1) l).2 m = some o → ∃ j t xs, j < (s :: l).length ∧ m = n + (c + j) ∧ (s :: l).getD j .dead = .fr t xs ∧ o = some ⟨t, false, xs⟩ := fun h => by
   obtain ⟨j, t, xs, h1, h2, h3, h4⟩ := take_look n (c + 1) l m o h
   exact ⟨j + 1, t, xs, by simpa using h1, by omega, by simpa using h3, h4⟩
  cases s with
  | fr t xs =>
   (simp only [take_] at h); (rw [look_cons] at h)
   by_cases e : m = n + c
   ·rw [if_pos e] at h
    exact ⟨0, t, xs, by simp, by omega, rfl, (Option.some.inj h).symm⟩
   ·rw [if_neg e] at h; exact key h
  | _ => exact key h
theorem take_some (n : Nat) : ∀ (c : Nat) (l : List (SV L.D)) (j : Nat) (t : TypeId) (xs : List (L.D t)), j < l.length → l.getD j .dead = .fr t xs → look (take_ L n c l).2 (n + (c + j)) = some (some ⟨t, false, xs⟩)
 | _, [], j, _, _, h, _ => absurd h (Nat.not_lt_zero j)
 | c, s :: l, 0, t, xs, _, h => by
  (simp only [List.getD_cons_zero] at h); (subst h); (simp only [take_]); (rw [look_cons, if_pos (by omega)])
 | c, s :: l, j + 1, t, xs, h, hj => by
  (have := take_some n (c + 1) l j t xs (by simpa using h) (by simpa using hj)); (have e : n + (c + (j + 1)) = n + (c + 1 + j) := by omega); (rw [e])
  cases s with
  | fr t' xs' =>
   (simp only [take_]); (rw [look_cons, if_neg (by omega)])
   exact this
  | _ => exact this
theorem arg_ok (h : Rel L E st V a w) {s s' : SV L.D} {sh : List (Nat × Row L.D)} (hs : argOf L st s = some (s', sh)) {v : Value} (hv : SR L w (Fz E st V w) st V a.tmps s v) : (∀ j r, (j, r) ∈ sh → st.row j = some r) ∧ v.oneCell' = true ∧ (∀ t xs, s' ≠ .fr t xs) ∧
  ∀ F : Nat → Prop, (∀ k, Fz E st V w k → F k) → (∀ j r k, (j, r) ∈ sh → r.fz = false → (V.rv j).ownBlock = some k → F k) → CR L w F s' v := by
 unfold argOf at hs
 split at hs
 ·obtain ⟨rfl, rfl⟩ := Prod.mk.inj (Option.some.inj hs)
  obtain ⟨rfl, h1⟩ := hv.v_inv
  exact ⟨fun _ _ hm => (by cases hm), h1, (fun _ _ e => by cases e), fun F _ _ => .v _ h1⟩
 ·obtain ⟨rfl, rfl⟩ := Prod.mk.inj (Option.some.inj hs)
  exact ⟨fun _ _ hm => (by cases hm), hv.ro_inv.one, (fun _ _ e => by cases e), fun F hF _ => hv.ro_inv.mono fun k hk => ⟨hF k hk, rfl⟩⟩
 ·obtain ⟨rfl, rfl⟩ := Prod.mk.inj (Option.some.inj hs)
  rw [hv.nl_inv]
  exact ⟨fun _ _ hm => (by cases hm), rfl, (fun _ _ e => by cases e), fun F _ _ => .ro0 _ none 0⟩
 ·split at hs
  ·rename_i j _ r hr
   (obtain ⟨rfl, rfl⟩ := Prod.mk.inj (Option.some.inj hs)); (rw [hv.own_inv hr])
   refine ⟨fun j' r' hm => ?_, h.rv_one j r hr, (fun _ _ e => by cases e), fun F hF hS => ?_⟩
   ·obtain ⟨rfl, rfl⟩ := Prod.mk.inj (List.mem_singleton.1 hm); exact hr
   ·obtain ⟨p, q⟩ := h.row j r hr
    cases hf : r.fz with
    | true => exact (p hf).mono fun k hk => ⟨hF k hk, rfl⟩
    | false => exact (q hf).reads hF fun k hk => hS j r k (List.mem_singleton.2 rfl) hf hk
  ·cases hs
 ·cases hs
theorem args_flat (h : Rel L E st V a w) : ∀ {cs cs' : List (SV L.D)} {sh : List (Nat × Row L.D)}, argsOf L st cs = some (cs', sh) → cs'.length = cs.length ∧ (∀ j r, (j, r) ∈ sh → st.row j = some r) ∧
  ∀ F : Nat → Prop, (∀ k, Fz E st V w k → F k) → (∀ j r k, (j, r) ∈ sh → r.fz = false → (V.rv j).ownBlock = some k → F k) → ∀ j, j < cs.length → ∀ v, SR L w (Fz E st V w) st V a.tmps (cs.getD j .dead) v → CR L w F (cs'.getD j .dead) v
 | [], cs', sh, hs => by
  obtain ⟨rfl, rfl⟩ := Prod.mk.inj (Option.some.inj hs)
  exact ⟨rfl, fun _ _ hm => (by cases hm), fun _ _ _ j hj => absurd hj (Nat.not_lt_zero j)⟩
 | s :: l, cs', sh, hs => by
  simp only [argsOf] at hs
  split at hs
  ·rename_i x ua r ub h1 h2
   (obtain ⟨rfl, rfl⟩ := Prod.mk.inj (Option.some.inj hs)); (obtain ⟨hl, g1, g2⟩ := args_flat h h2)
   refine ⟨by simp [hl], fun j r hm => ?_, fun F hF hS j hj v hv => ?_⟩
   ·rcases List.mem_append.1 hm with hm | hm
    ·-- of the first one
     cases s <;> simp only [argOf] at h1 <;> first | cases h1; done | (obtain ⟨rfl, rfl⟩ := Prod.mk.inj (Option.some.inj h1); cases hm; done) | skip
     split at h1
     ·rename_i r0 hr0
      (obtain ⟨rfl, rfl⟩ := Prod.mk.inj (Option.some.inj h1)); (obtain ⟨rfl, rfl⟩ := Prod.mk.inj (List.mem_singleton.1 hm); exact hr0)
     ·cases h1
    ·exact g1 j r hm
   ·cases j with
    | zero => exact (arg_ok h h1 (by simpa using hv)).2.2.2 F hF fun j r k hm => hS j r k (List.mem_append_left _ hm)
    | succ j =>
     have := g2 F hF (fun j r k hm => hS j r k (List.mem_append_right _ hm)) j (by simpa using hj) v (by simpa using hv)
     simpa using this
  ·cases hs
theorem box_reads (h : Rel L E st V a w) {b : Nat} {cs cs' : List (SV L.D)} {sh : List (Nat × Row L.D)} (hb : st.box b = some cs) (hs : argsOf L st cs = some (cs', sh)) {F : Nat → Prop} (hF : ∀ k, Fz E st V w k → F k) (hS : ∀ j r k, (j, r) ∈ sh → r.fz = false → (V.rv j).ownBlock = some k → F k) (hB : F (V.ba b)) (off : Nat)
  {st' : St L.D} {V' : Vl} {tm' : Array Value} : SR L w F st' V' tm' (.rb cs' off) (.pointer (some ⟨V.ba b, V.bo b + off, none⟩)) := by
 (obtain ⟨hl, _, hj⟩ := args_flat h hs); (obtain ⟨vs, T, hh, hsz, hc⟩ := h.box b cs hb)
 have hcell : ∀ j, j < cs'.length → w.cell? ⟨V.ba b, V.bo b + j, none⟩ = some (vs.getD (V.bo b + j) undef) := fun j hjl => by
  obtain ⟨u, hu, _⟩ := hc j (by omega)
  simp [World.cell?, hh, hu]
 refine .rb cs' off (V.ba b) (V.bo b) (fun j => vs.getD (V.bo b + j) undef) hB hcell fun j hjl => ?_
 (obtain ⟨u, hu, _, hr⟩ := hc j (by omega)); (have e : vs.getD (V.bo b + j) undef = u := by rw [Array.getD_eq_getD_getElem?, hu]; rfl)
 show CR L w F (cs'.getD j .dead) (vs.getD (V.bo b + j) undef)
 rw [e]
 exact hj F hF hS j (by omega) u hr
inductive ArgIs (L : Lay) (E : Ent) (st : St L.D) (V : Vl) (w : World) (g : Arg L) (v : Value) : Prop
 | flat (np : ∀ cs, g.sv ≠ .pb cs) (hl : g.lent = []) (hg : g.gone = []) (h : ∀ F : Nat → Prop, (∀ k, Fz E st V w k → F k) → (∀ j r k, (j, r) ∈ g.shown → r.fz = false → (V.rv j).ownBlock = some k → F k) → (∀ b ∈ g.capt, F (V.ba b)) → ∀ st' V' tm', SR L w F st' V' tm' g.sv v)
 | lent (b off n : Nat) (cs cs' : List (SV L.D)) (hs : g.sv = .pb cs') (hl : g.lent = [(b, off, n, cs)]) (hb : st.box b = some cs) (hn : off + n ≤ cs.length) (h9 : n ≤ 900) (hm : movsOf L st ((cs.drop off).take n) = some (cs', g.gone)) (hv : v = .pointer (some ⟨V.ba b, V.bo b + off, none⟩))
structure ArgOk (L : Lay) (E : Ent) (st : St L.D) (V : Vl) (w : World) (g : Arg L) (v : Value) : Prop where
 is : ArgIs L E st V w g v
 shown : ∀ j r, (j, r) ∈ g.shown → st.row j = some r
 capt : ∀ b ∈ g.capt, ∃ cs, st.box b = some cs
theorem cap_ok (hL : LayOk P L) (h : Rel L E st V a w) {s s' : SV L.D} {sh : List (Nat × Row L.D)} {bs : List Nat} (hs : capOf L st s = some (s', sh, bs)) {v : Value} (hv : SR L w (Fz E st V w) st V a.tmps s v) : (∀ j r, (j, r) ∈ sh → st.row j = some r) ∧ (∀ b ∈ bs, ∃ cs, st.box b = some cs) ∧ (∀ cs, s' ≠ .pb cs) ∧
  ∀ F : Nat → Prop, (∀ k, Fz E st V w k → F k) → (∀ j r k, (j, r) ∈ sh → r.fz = false → (V.rv j).ownBlock = some k → F k) → (∀ b ∈ bs, F (V.ba b)) → ∀ st' V' tm', SR L w F st' V' tm' s' v := by
 unfold capOf at hs
 split at hs
 ·rename_i b off
  split at hs
  ·rename_i cs hb
   split at hs
   ·rename_i cs' sh' ha
    (obtain ⟨rfl, e⟩ := Prod.mk.inj (Option.some.inj hs)); (obtain ⟨rfl, rfl⟩ := Prod.mk.inj e); (rw [hv.ptr_inv hb])
    refine ⟨(args_flat h ha).2.1, fun b' hm => ?_, (fun _ e => by cases e), fun F hF hS hB st' V' tm' => box_reads h hb ha hF hS (hB b (List.mem_singleton.2 rfl)) off⟩
    obtain rfl := List.mem_singleton.1 hm; exact ⟨cs, hb⟩
   ·cases hs
  ·cases hs
 ·rename_i cs off
  (obtain ⟨rfl, e⟩ := Prod.mk.inj (Option.some.inj hs)); (obtain ⟨rfl, rfl⟩ := Prod.mk.inj e)
  refine ⟨fun _ _ hm => (by cases hm), (fun _ hm => by cases hm), (fun _ e => by cases e), fun F hF hS hB st' V' tm' => ?_⟩
  obtain ⟨b, o, f, hb, rfl, hu, hr⟩ := hv.rb_inv
  exact .rb cs off b o f (hF b hb) hu fun j hj => (hr j hj).mono fun k hk => ⟨hF k hk, rfl⟩
 ·split at hs
  ·rename_i x sh' ha
   (obtain ⟨rfl, e⟩ := Prod.mk.inj (Option.some.inj hs)); (obtain ⟨rfl, rfl⟩ := Prod.mk.inj e); (obtain ⟨g1, _, _, g2⟩ := arg_ok h ha hv)
   refine ⟨g1, (fun _ hm => by cases hm), (fun cs e => ?_), fun F hF hS hB st' V' tm' => .c (g2 F hF hS)⟩
   (subst e); (have := g2 (fun _ => True) (fun _ _ => trivial) (fun _ _ _ _ _ _ => trivial))
   cases this
  ·cases hs
theorem caps_ok (hL : LayOk P L) (h : Rel L E st V a w) : ∀ {cs cs' : List (SV L.D)} {sh : List (Nat × Row L.D)} {bs : List Nat}, capsOf L st cs = some (cs', sh, bs) → ∀ vs : List Value, (∀ j, j < cs.length → SR L w (Fz E st V w) st V a.tmps (cs.getD j .dead) (vs.getD j undef)) → cs'.length = cs.length ∧ (∀ j r, (j, r) ∈ sh → st.row j = some r) ∧ (∀ b ∈ bs, ∃ cs, st.box b = some cs) ∧
  ∀ F : Nat → Prop, (∀ k, Fz E st V w k → F k) → (∀ j r k, (j, r) ∈ sh → r.fz = false → (V.rv j).ownBlock = some k → F k) → (∀ b ∈ bs, F (V.ba b)) → ∀ st' V' tm' j, j < cs.length → SR L w F st' V' tm' (cs'.getD j .dead) (vs.getD j undef)
 | [], cs', sh, bs, hs, vs, hv => by
  (obtain ⟨rfl, e⟩ := Prod.mk.inj (Option.some.inj hs)); (obtain ⟨rfl, rfl⟩ := Prod.mk.inj e)
  exact ⟨rfl, fun _ _ hm => (by cases hm), (fun _ hm => by cases hm), fun _ _ _ _ _ _ _ j hj => absurd hj (Nat.not_lt_zero j)⟩
 | s :: l, cs', sh, bs, hs, vs, hv => by
  simp only [capsOf] at hs
  split at hs
  ·rename_i x ua p r ub q h1 h2
   (obtain ⟨rfl, e⟩ := Prod.mk.inj (Option.some.inj hs)); (obtain ⟨rfl, rfl⟩ := Prod.mk.inj e); (have e1 : ∀ j, vs.tail.getD j undef = vs.getD (j + 1) undef := fun j => by cases vs <;> rfl); (obtain ⟨hl, g1, g2, g3⟩ := caps_ok hL h h2 vs.tail fun j hj => by rw [e1]; simpa using hv (j + 1) (by simpa using hj)); (obtain ⟨k1, k2, _, k3⟩ := cap_ok (P := P) hL h h1 (by simpa using hv 0 (by simp)))
   refine ⟨by simp [hl], fun j r hm => (List.mem_append.1 hm).elim (k1 j r) (g1 j r), fun b hm => (List.mem_append.1 hm).elim (k2 b) (g2 b), fun F hF hS hB st' V' tm' j hj => ?_⟩
   cases j with
   | zero => exact k3 F hF (fun j r k hm => hS j r k (List.mem_append_left _ hm)) (fun b hm => hB b (List.mem_append_left _ hm)) st' V' tm'
   | succ j =>
    (have := g3 F hF (fun j r k hm => hS j r k (List.mem_append_right _ hm)) (fun b hm => hB b (List.mem_append_right _ hm)) st' V' tm' j (by simpa using hj)); (rw [e1] at this)
    simpa using this
  ·cases hs
theorem arg1_ok (hL : LayOk P L) (h : Rel L E st V a w) {t : TypeId} {x : Operand} {g : Arg L} (hs : arg1 L st t x = some g) : ArgOk L E st V w g (a.eval x) := by
 have hv := h.opdT t x
 unfold arg1 at hs
 split at hs
 ·rename_i cs hx
  rw [hx] at hv
  split at hs
  ·rename_i cs' sh ha
   (obtain rfl := Option.some.inj hs); (obtain ⟨hl, g1, g2⟩ := args_flat h ha)
   refine ⟨.flat (fun _ e => by cases e) rfl rfl fun F hF hS hB st' V' tm' => ?_, g1, fun _ hm => by cases hm⟩
   (obtain ⟨vs, e, hlen, h1, hj⟩ := hv.agg_inv); (rw [e])
   exact .agg cs' vs (by omega) h1 fun j hjl => .c (g2 F hF hS j (by omega) _ (hj j (by omega)))
  ·cases hs
 ·rename_i f cs hx
  rw [hx] at hv
  split at hs
  ·rename_i cs' sh bs ha
   (obtain rfl := Option.some.inj hs); (obtain ⟨vs, e, hlen, hj⟩ := hv.cl_inv); (obtain ⟨hl, g1, g2, g3⟩ := caps_ok (P := P) hL h ha vs hj)
   refine ⟨.flat (fun _ e => by cases e) rfl rfl fun F hF hS hB st' V' tm' => ?_, g1, g2⟩
   rw [e]
   exact .cl f cs' vs (by omega) fun j hjl => g3 F hF hS hB st' V' tm' j (by omega)
  ·cases hs
 ·rename_i cs off hx
  (rw [hx] at hv); (obtain rfl := Option.some.inj hs)
  refine ⟨.flat (fun _ e => by cases e) rfl rfl fun F hF hS hB st' V' tm' => ?_, fun _ _ hm => (by cases hm), fun _ hm => by cases hm⟩
  (obtain ⟨b, o, f, hb, e, hu, hr⟩ := hv.rb_inv); (rw [e])
  exact .rb cs off b o f (hF b hb) hu fun j hj => (hr j hj).mono fun k hk => ⟨hF k hk, rfl⟩
 ·rename_i t' y off hx
  (rw [hx] at hv); (obtain rfl := Option.some.inj hs)
  refine ⟨.flat (fun _ e => by cases e) rfl rfl fun F hF hS hB st' V' tm' => ?_, fun _ _ hm => (by cases hm), fun _ hm => by cases hm⟩
  (obtain ⟨b, o, f, hb, e, hu, hr⟩ := hv.rp_inv); (have hc := hL.cell t' y); (rw [e])
  exact .rb (L.cell t' y) off b o f (hF b hb) (fun j hj => hu j (by omega)) fun j hj => (hr j (by omega)).mono fun k hk => ⟨hF k hk, rfl⟩
 ·rename_i b off hx
  rw [hx] at hv
  split at hs
  ·rename_i e cs hk hb
   split at hs
   ·rename_i cs' g' hle hm
    (obtain rfl := Option.some.inj hs); (rw [Bool.and_eq_true] at hle)
    exact ⟨.lent b off (L.ti e).sz cs cs' rfl rfl hb (Nat.le_of_ble_eq_true hle.1) (Nat.le_of_ble_eq_true hle.2) hm (hv.ptr_inv hb), fun _ _ hm => (by cases hm), fun _ hm => by cases hm⟩
   ·cases hs
  ·cases hs
 ·split at hs
  ·rename_i s' sh ha
   (obtain rfl := Option.some.inj hs); (obtain ⟨g1, _, _, g2⟩ := arg_ok h ha hv)
   refine ⟨.flat (fun cs e => ?_) rfl rfl fun F hF hS hB st' V' tm' => .c (g2 F hF hS), g1, fun _ hm => by cases hm⟩
   (have := g2 (fun _ => True) (fun _ _ => trivial) (fun _ _ _ _ _ _ => trivial)); (rw [show s' = .pb cs from e] at this)
   cases this
  ·cases hs
theorem args_ok (hL : LayOk P L) (h : Rel L E st V a w) : ∀ {xs : List Operand} {ts : List TypeId} {gs : List (Arg L)}, args_ L st xs ts = some gs → gs.length = xs.length ∧ ∀ p (hp : p < gs.length), ArgOk L E st V w gs[p] ((xs.map a.eval).getD p undef)
 | [], _, gs, hs => by
  (simp only [args_, Option.some.injEq] at hs); (subst hs)
  exact ⟨rfl, fun p hp => absurd hp (Nat.not_lt_zero p)⟩
 | x :: l, [], gs, hs => by cases hs
 | x :: l, t :: ts, gs, hs => by
  simp only [args_] at hs
  split at hs
  ·rename_i g r h1 h2
   (obtain rfl := Option.some.inj hs); (obtain ⟨hl, hj⟩ := args_ok hL h h2)
   refine ⟨by simp [hl], fun p hp => ?_⟩
   cases p with
   | zero => exact arg1_ok (P := P) hL h h1
   | succ p =>
    have := hj p (by simpa using hp)
    simpa using this
  ·cases hs
theorem capArgs_ok (hL : LayOk P L) (h : Rel L E st V a w) : ∀ {cs : List (SV L.D)} {gs : List (Arg L)}, capArgs L st cs = some gs → ∀ vs : List Value, (∀ j, j < cs.length → SR L w (Fz E st V w) st V a.tmps (cs.getD j .dead) (vs.getD j undef)) → gs.length = cs.length ∧ ∀ p (hp : p < gs.length), ArgOk L E st V w gs[p] (vs.getD p undef)
 | [], gs, hs, vs, hv => by
  (simp only [capArgs, Option.some.injEq] at hs); (subst hs)
  exact ⟨rfl, fun p hp => absurd hp (Nat.not_lt_zero p)⟩
 | s :: l, gs, hs, vs, hv => by
  simp only [capArgs] at hs
  split at hs
  ·rename_i x sh bs r h1 h2
   (obtain rfl := Option.some.inj hs); (have e1 : ∀ j, vs.tail.getD j undef = vs.getD (j + 1) undef := fun j => by cases vs <;> rfl); (obtain ⟨hl, hj⟩ := capArgs_ok hL h h2 vs.tail fun j hj => by rw [e1]; simpa using hv (j + 1) (by simpa using hj))
   refine ⟨by simp [hl], fun p hp => ?_⟩
   cases p with
   | zero =>
    obtain ⟨k1, k2, k3, k4⟩ := cap_ok (P := P) hL h h1 (by simpa using hv 0 (by simp))
    exact ⟨.flat k3 rfl rfl k4, k1, k2⟩
   | succ p =>
    (have := hj p (by simpa using hp)); (rw [e1] at this)
    simpa using this
  ·cases hs
theorem mov_ok (h : Rel L E st V a w) {s s' : SV L.D} {g : List Nat} (hs : movOf L st s = some (s', g)) {v : Value} (hv : SR L w (Fz E st V w) st V a.tmps s v) : (∀ j ∈ g, ∃ r, st.row j = some r ∧ r.fz = false ∧ s' = .fr r.t r.xs ∧ v = V.rv j ∧ g = [j]) ∧
  (g = [] → (∃ t, s' = .fr t [] ∧ v = .slice none 0 0) ∨ ((∀ t xs, s' ≠ .fr t xs) ∧ CR L w (Fz E st V w) s' v)) := by
 unfold movOf at hs
 split at hs
 ·obtain ⟨rfl, rfl⟩ := Prod.mk.inj (Option.some.inj hs)
  obtain ⟨rfl, h1⟩ := hv.v_inv
  exact ⟨(fun _ hm => by cases hm), fun _ => .inr ⟨(fun _ _ e => by cases e), .v _ h1⟩⟩
 ·obtain ⟨rfl, rfl⟩ := Prod.mk.inj (Option.some.inj hs)
  exact ⟨(fun _ hm => by cases hm), fun _ => .inr ⟨(fun _ _ e => by cases e), hv.ro_inv⟩⟩
 ·obtain ⟨rfl, rfl⟩ := Prod.mk.inj (Option.some.inj hs)
  exact ⟨(fun _ hm => by cases hm), fun _ => .inl ⟨_, rfl, hv.nl_inv⟩⟩
 ·split at hs
  ·rename_i j _ r hr
   split at hs
   ·rename_i hf
    obtain ⟨rfl, rfl⟩ := Prod.mk.inj (Option.some.inj hs)
    refine ⟨fun j' hm => ?_, (fun e => by cases e)⟩
    obtain rfl := List.mem_singleton.1 hm
    exact ⟨r, hr, hf, rfl, hv.own_inv hr, rfl⟩
   ·rename_i hf
    obtain ⟨rfl, rfl⟩ := Prod.mk.inj (Option.some.inj hs)
    refine ⟨(fun _ hm => by cases hm), fun _ => .inr ⟨(fun _ _ e => by cases e), ?_⟩⟩
    rw [hv.own_inv hr]
    exact (h.row j r hr).1 hf
  ·cases hs
 ·cases hs
theorem movs_ok (h : Rel L E st V a w) : ∀ {cs cs' : List (SV L.D)} {g : List Nat}, movsOf L st cs = some (cs', g) → cs'.length = cs.length ∧ ∀ j, j < cs.length → ∃ gj, movOf L st (cs.getD j .dead) = some (cs'.getD j .dead, gj) ∧ ∀ i ∈ gj, i ∈ g
 | [], cs', g, hs => by
  obtain ⟨rfl, rfl⟩ := Prod.mk.inj (Option.some.inj hs)
  exact ⟨rfl, fun j hj => absurd hj (Nat.not_lt_zero j)⟩
 | s :: l, cs', g, hs => by
  simp only [movsOf] at hs
  split at hs
  ·rename_i x ga r gb h1 h2
   (obtain ⟨rfl, rfl⟩ := Prod.mk.inj (Option.some.inj hs)); (obtain ⟨hl, hj⟩ := movs_ok h h2)
   refine ⟨by simp [hl], fun j hjl => ?_⟩
   cases j with
   | zero => exact ⟨ga, by simpa using h1, fun i hi => List.mem_append_left _ hi⟩
   | succ j =>
    obtain ⟨gj, e, hg⟩ := hj j (by simpa using hjl)
    exact ⟨gj, by simpa using e, fun i hi => List.mem_append_right _ (hg i hi)⟩
  ·cases hs
end
end Go.Proofs.YtgnbfmoifnfneaaDoor.V
