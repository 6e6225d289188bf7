/- Part of the proof of the law FnBookAdd: what it uses of the texts that this session and the kit's print wrote. -/
import Derived.Test.YtfeikakkfnnaoaaGreatDoorZFnBookAddx4
import Derived.Orders
namespace Go.Proofs.YtfeikakkfnnaoaaGreatDoor.V
open Go
set_option linter.unusedVariables false
set_option linter.unusedSimpArgs false
section
variable {P : Program} {L : Lay} {E : Ent} {st : St L.D} {V : Vl} {a : Act} {w : World}
theorem results_ok {w : World} {F : FS} {V : Vl} {tm : Array Value} : ∀ (res : List (List Sh)) (az : List Bool) (cells : List (SV L.D)) (vs : List Value), cells.length = vs.length → (∀ u ∈ vs, u.oneCell' = true) → (∀ c, c < cells.length → SR L w F st V tm (cells.getD c .dead) (vs.getD c undef)) →
  (results_ L res az cells).length = (packV res az vs).length ∧ ∀ j, j < (results_ L res az cells).length → SR L w F st V tm ((results_ L res az cells).getD j .dead) ((packV res az vs).getD j undef)
 | [], _, _, _, _, _, _ => ⟨rfl, fun j hj => absurd hj (Nat.not_lt_zero j)⟩
 | s :: l, az, cells, vs, hl, h1, h => by
  obtain ⟨g1, g2⟩ := results_ok l az.tail (cells.drop s.length) (vs.drop s.length) (by simp [hl]) (fun u hu => h1 u (List.mem_of_mem_drop hu)) fun c hc => by
   have := h (s.length + c) (by simp at hc; omega)
   simpa [List.getD_eq_getElem?_getD, List.getElem?_drop] using this
  refine ⟨by simp [results_, packV, g1], fun j hj => ?_⟩
  cases j with
  | succ j =>
   have := g2 j (by simpa [results_] using hj)
   simpa [results_, packV] using this
  | zero =>
   have hag : SR L w F st V tm (.agg (cells.take s.length)) (.agg (vs.take s.length).toArray) := by
    refine .agg _ _ (by simp [hl]) (fun u hu => h1 u (List.mem_of_mem_take hu)) fun c hc => ?_
    (have hc' : c < s.length ∧ c < cells.length := by simp only [List.length_take] at hc; omega); (have := h c hc'.2)
    simpa [List.getD_eq_getElem?_getD, List.getElem?_take, hc'.1] using this
   have hone : SR L w F st V tm (cells.headD .dead) (vs.headD undef) := by
    cases cells with
    | nil => exact .dead _
    | cons x cells =>
     cases vs with
     | nil => cases hl
     | cons u vs => simpa using h 0 (by simp)
   cases az with
   | nil => cases cells <;> simpa [results_, packV] using hone
   | cons b az =>
    cases b with
    | true => simpa [results_, packV] using hag
    | false => cases cells <;> simpa [results_, packV] using hone
theorem value_ok {w : World} {F : FS} {V : Vl} {tm : Array Value} {l : List (SV L.D)} {vs : List Value} (hl : l.length = vs.length) (h : ∀ j, j < l.length → SR L w F st V tm (l.getD j .dead) (vs.getD j undef)) : SR L w F st V tm (value_ L l) (valueV vs) := by
 match l, vs, hl with
 | [], [], _ => exact .tup [] [] rfl fun j hj => absurd hj (Nat.not_lt_zero j)
 | [s], [u], _ => simpa [value_, valueV] using h 0 (by simp)
 | s :: t :: l, u :: v :: vs, hl => exact .tup _ _ hl h
section
variable {gs : List (Arg L)} {vals vs : List Value} {s : Sig} {r : RT L.D s.all} {v : Value} {w' : World} {i : Nat} {dst : Option Nat} {n0 : Nat} {q0 : Option Nat} {q : Option Nat} {lv : Nat → LV}
theorem same_call (h : Rel L E st V a w) (H : Lends L E st V w gs vals) (hf : finOk L (lentOf L gs) s.fin = true) (z : CtrOk st s q (enc s.all r)) (Q : PostV L (callE L E st V w gs n0 q0) s q (enc s.all r) vs lv v w') {ks : List Key} (hk : ∀ j, j < (enc s.all r).length → IsFr ((enc s.all r).getD j .dead) → (2, ident i 1 + j) ∈ ks) (hd : ∀ n, dst = some n → (0, n) ∈ ks) :
  Same L w w' (Fz E st V w) (Fz E (st.put dst (after_ L i s gs r)) (callV L V i (enc s.all r) vs q lv) w') st (st.put dst (after_ L i s gs r)) V (callV L V i (enc s.all r) vs q lv) a.tmps (a.put dst v).tmps (· ∈ ks) where
 mem := fz_call h H hf z Q
 row := fun m x hn hx => by
  rcases row_call (V := V) (vs := vs) (q := q) (lv := lv) H hx with ⟨j, t, xs, h1, h2, h3, h4, h5⟩ | ⟨h1, h2, x1, h3, h4⟩
  ·exact absurd (by rw [h2, Nat.zero_add]; exact hk j h1 ⟨t, xs, h3⟩) hn
  ·rcases h4 with ⟨rfl, _⟩ | ⟨_, rfl, _⟩
   ·exact ⟨_, h3, h2, rfl, rfl⟩
   ·exact ⟨_, h3, h2, rfl, rfl⟩
 box := fun b cs hn hb => by
  obtain ⟨cs0, h0, _⟩ := box_call_old H hf hb
  exact ⟨cs0, h0, rfl, rfl⟩
 tmp := fun j hj => by
  cases hdst : dst with
  | none => rfl
  | some n => exact put_getD_other (fun e => hj (by rw [e]; exact hd n hdst)) v
theorem Ch.call (hL : LayOk P L) (h : Rel L E st V a w) (H : Lends L E st V w gs vals) (hf : finOk L (lentOf L gs) s.fin = true) (z : CtrOk st s q (enc s.all r)) (hcp : captOf L gs = [] ∨ roS L s.all = false) (Q : PostV L (callE L E st V w gs n0 q0) s q (enc s.all r) vs lv v w') {ks : List Key} (hc : clean st ks = true) (hk : ∀ j, j < (enc s.all r).length → IsFr ((enc s.all r).getD j .dead) → (2, ident i 1 + j) ∈ ks) (hd : ∀ n, dst = some n → (0, n) ∈ ks) :
  Ch L E st V w (· ∈ ks) (st.put dst (after_ L i s gs r)) (callV L V i (enc s.all r) vs q lv) (a.put dst v).tmps w' := by
 (have hw : w.heap.size ≤ w'.heap.size := Q.size); (have S := same_call (v := v) (dst := dst) h H hf z Q hk hd); (have keep : ∀ k, k < w.heap.size → ¬ ImpB L V gs k → w'.heap[k]? = w.heap[k]? := fun k hk hi => Q.kept k hk hi)
 -- a box that is not lent
 have boxKept : ∀ b cs, st.box b = some cs → (∀ l ∈ lentOf L gs, l.1 ≠ b) → w'.heap[V.ba b]? = w.heap[V.ba b]? := fun b cs hb hn => keep _ (h.box_lt hb) fun hi => by
  rcases hi with ⟨l, hl, e⟩ | ⟨j, hj, e⟩
  ·exact hn l hl (h.bb _ _ _ _ (H.lent hl).1 hb e)
  ·obtain ⟨y, hy, hyf⟩ := H.goneRow hj
   exact h.br b cs j y hb hy hyf e
 have rowKept : ∀ m x k, m ∉ goneOf L gs → st.row m = some x → x.fz = false → (V.rv m).ownBlock = some k → w'.heap[k]? = w.heap[k]? := fun m x k hm hx hfz e => keep k (h.row_lt hx hfz e) fun hi => by
  rcases hi with ⟨l, hl, e'⟩ | ⟨j, hj, e'⟩
  ·exact h.br l.1 _ m x (H.lent hl).1 hx hfz (by rw [e, e'])
  ·obtain ⟨y, hy, hyf⟩ := H.goneRow hj
   obtain rfl := h.rr m j x y k hx hy hfz hyf e e'
   exact hm hj
 have outer : ∀ (q b off n : Nat) (old : List (SV L.D)), (lentOf L gs)[q]? = some (b, off, n, old) → n = (s.fin.getD q []).length → ∀ o, (o < V.bo b + off ∨ V.bo b + off + n ≤ o) → w'.cell? ⟨V.ba b, o, none⟩ = w.cell? ⟨V.ba b, o, none⟩ := fun q b off n old hq hn o ho =>
  Q.outer q (V.ba b, V.bo b + off) (by simp [callE, hq]) o (by rw [← hn]; exact ho)
 have mix : ∀ (q b off n : Nat) (old : List (SV L.D)), (lentOf L gs)[q]? = some (b, off, n, old) → n = (s.fin.getD q []).length → st.box b = some old ∧ off + n ≤ old.length ∧ ((((take_ L (ident i 1) 0 (enc s.all r)).1.drop s.res.flatten.length).drop (s.fin.take q).flatten.length).take n).length = n := fun q b off n old hq hn => by
  obtain ⟨h1, h2⟩ := H.lent (List.mem_of_getElem? hq)
  refine ⟨h1, h2, ?_⟩
  have hq' : q < s.fin.length := by
   (have hlen : (lentOf L gs).length = s.fin.length := finOk_len hf); (have := (List.getElem?_eq_some_iff.1 hq).1)
   omega
  (have hall : s.res.flatten.length + s.fin.flatten.length ≤ (enc s.all r).length := by rw [enc_len]; simp [Sig.all]); (have hsum : (s.fin.take q).flatten.length + (s.fin.getD q []).length ≤ s.fin.flatten.length := flatten_take hq'); (simp only [List.length_take, List.length_drop, take_len])
  omega
 exact {
  same := fun k hk => by
   by_cases hi : ImpB L V gs k
   ·exact .inr (imp_ow h H hi)
   ·exact .inl (keep k hk hi)
  owned := fun k hk' => by
   rcases ob_call h H hf Q hk' with ⟨c, hcc⟩ | ⟨b, cs, hb, e⟩ | ⟨m, x, _, hx, hfz, e, _⟩
   ·rcases (Q.own c k hcc).2.1 with h1 | h1
    ·exact .inl h1
    ·exact .inr (imp_ow h H h1)
   ·exact .inr (.inl ⟨b, cs, hb, e⟩)
   ·exact .inr (.inr ⟨m, x, hx, hfz, e⟩)
  c0 := rfl
  labM := fun l hl => lab_old h z Q.ctr hl
  labN := fun l hl => by
   rcases lab_call (V := V) (vs := vs) (lv := lv) z hl with ⟨h1, _⟩ | ⟨h1, _, h2⟩
   ·exact .inl h1
   ·right
    rw [h2]
    refine ⟨Q.lab l h1, fun k e => ?_⟩
    (obtain ⟨_, g2, g3, g4⟩ := Q.labO l k h1 e); (obtain ⟨o1, o2, _⟩ := new_old h H g2 g3)
    refine ⟨g2.imp id fun hi => imp_ow h H hi, fun ho => ?_⟩
    rcases ob_call h H hf Q ho with ⟨c, hcc⟩ | ⟨b, cs, hb, e'⟩ | ⟨m, x, hm, hx, hfz, e', _⟩
    ·exact g4 c hcc
    ·exact o1 b cs hb e'
    ·exact o2 m x hm hx hfz e'
  labD := fun l l' k hl hn hl' hn' e e' => by
   rcases lab_call (V := V) (vs := vs) (lv := lv) z hl with ⟨h1, _⟩ | ⟨h1, _, h2⟩
   ·exact absurd h1 hn
   ·rcases lab_call (V := V) (vs := vs) (lv := lv) z hl' with ⟨k1, _⟩ | ⟨k1, _, k2⟩
    ·exact absurd k1 hn'
    ·rw [h2] at e
     rw [k2] at e'
     exact Q.labD l l' k h1 k1 e e'
  ctrF := fun n hn => by
   rcases ctr_after z hn with ⟨_, h3⟩ | ⟨m, h3, h4, h5⟩
   ·exact ⟨n, h3, Nat.le_refl _⟩
   ·exact ⟨m, h4, Q.ctr m n h3 h5⟩
  rowS := S.row
  boxS := S.box
  box := fun b cs hb => by
   rcases box_call hf hb with ⟨q, off, n, old, h1, h2, h3⟩ | ⟨h1, h2⟩
   ·right
    (obtain ⟨m1, m2, m3⟩ := mix q b off n old h1 h2); (obtain ⟨xs, T, f1, f2, f3⟩ := Q.fin q (V.ba b, V.bo b + off) (by simp [callE, h1])); (obtain ⟨ys, T', e1, e2, e3⟩ := h.box b old m1); (have hout := outer q b off n old h1 h2); (simp only at f1 f2 f3); (rw [← h2] at f2 f3)
    have hold : ∀ j, j < old.length → ¬ (off ≤ j ∧ j < off + n) → xs[V.bo b + j]? = ys[V.bo b + j]? := fun j hj hn => by
     have := hout (V.bo b + j) (by omega)
     simpa [World.cell?, f1, e1] using this
    have hlen := length_mix old _ off n m3 m2
    have hsz : V.bo b + old.length ≤ xs.size := by
     by_cases hlast : off + n = old.length
     ·omega
     ·have := hold (old.length - 1) (by omega) (by omega)
      (rw [Array.getElem?_eq_getElem (xs := ys) (i := V.bo b + (old.length - 1)) (by omega)] at this); (have := (Array.getElem?_eq_some_iff.1 this).1)
      omega
    subst h3
    refine ⟨xs, T, f1, by rw [hlen]; exact hsz, fun j hj => ?_⟩
    (rw [hlen] at hj); (rw [getD_mix old _ off n m3 m2])
    by_cases hin : off ≤ j ∧ j < off + n
    ·rw [if_pos hin]
     (have hx := f3 (j - off) (by omega)); (rw [show V.bo b + off + (j - off) = V.bo b + j by omega] at hx)
     have hcl : s.res.flatten.length + (s.fin.take q).flatten.length + (j - off) < (enc s.all r).length := by
      (have hm := m3); (simp only [List.length_take, List.length_drop, take_len] at hm)
      omega
     refine ⟨_, hx, ?_, ?_⟩
     ·rw [getD_lt (by rw [Q.len]; exact hcl)]
      exact Q.one _ (List.getElem_mem _)
     ·have e : ((((take_ L (ident i 1) 0 (enc s.all r)).1.drop s.res.flatten.length).drop (s.fin.take q).flatten.length).take n).getD (j - off) .dead = (take_ L (ident i 1) 0 (enc s.all r)).1.getD (s.res.flatten.length + (s.fin.take q).flatten.length + (j - off)) .dead := by
       simp only [List.getD_eq_getElem?_getD, List.getElem?_take, List.getElem?_drop, if_pos (by omega : j - off < n), Nat.add_assoc]
      rw [e]
      exact cell_call hL h H hf z Q hcp hcl _
    ·rw [if_neg hin]
     obtain ⟨u, hu, hu1, hs⟩ := e3 j hj
     exact ⟨u, (hold j hj hin).trans hu, hu1, hs.same S fun k hk => clean_box hc hk m1 j⟩
   ·exact .inl ⟨h2, rfl, rfl, boxKept b cs h2 h1⟩
  row := fun m x hx => by
   rcases row_call (V := V) (vs := vs) (q := q) (lv := lv) H hx with ⟨j, t, xs, h1, h2, h3, h4, h5⟩ | ⟨h1, h2, x1, h3, h4⟩
   ·right
    subst h4
    refine ⟨(fun e => by cases e), fun _ => ?_⟩
    rw [h5]
    exact rowOk_call hL h H hf z Q hcp h1 h3
   ·rcases h4 with ⟨rfl, _⟩ | ⟨hro, rfl, hsh⟩
    ·exact .inl ⟨h3, h2, fun hfz k e => rowKept m _ k h1 h3 hfz e⟩
    ·right
     refine ⟨fun _ => ?_, (fun e => by cases e)⟩
     (rw [h2]); (obtain ⟨p, q'⟩ := h.row m x1 h3)
     cases hfz : x1.fz with
     | true => exact (p hfz).mono (fz_call h H hf z Q)
     | false =>
      refine ((q' hfz).mono (fz_call (i := i) (dst := dst) h H hf z Q) fun k e => rowKept m x1 k h1 h3 hfz e).reads (Le.refl _ _) fun k e => ?_
      exact pf_call h H hf z Q hro (hcp.resolve_right (by rw [hro]; simp)) (.inl (.inr (.inl ⟨m, x1, hsh, hfz, e⟩)))
  bb := fun b b' cs cs' h1 h2 e => by
   (obtain ⟨c1, g1, _⟩ := box_call_old H hf h1); (obtain ⟨c2, g2, _⟩ := box_call_old H hf h2)
   exact h.bb b b' c1 c2 g1 g2 e
  br := fun b cs m x hb hx hfz e => by
   obtain ⟨c1, g1, _⟩ := box_call_old H hf hb
   rcases row_call (V := V) (vs := vs) (q := q) (lv := lv) H hx with ⟨j, t, xs, h1, h2, h3, h4, h5⟩ | ⟨h1, h2, x1, h3, h4⟩
   ·rw [h5] at e
    exact (newR_old h H Q ⟨h1, ⟨t, xs, h3⟩, e⟩).1 b c1 g1 rfl
   ·rw [h2] at e
    rcases h4 with ⟨rfl, _⟩ | ⟨_, rfl, _⟩
    ·exact h.br b c1 m _ g1 h3 hfz e
    ·cases hfz
  rr := fun m m' x x' k hx hx' hfz hfz' e e' => by
   rcases row_call (V := V) (vs := vs) (q := q) (lv := lv) H hx with ⟨j, t, xs, h1, h2, h3, h4, h5⟩ | ⟨h1, h2, x1, h3, h4⟩ <;> rcases row_call (V := V) (vs := vs) (q := q) (lv := lv) H hx' with ⟨j', t', xs', k1, k2, k3, k4, k5⟩ | ⟨k1, k2, x1', k3, k4⟩
   ·rw [h5] at e
    (rw [k5] at e'); (have := Q.apart j j' k ⟨h1, ⟨t, xs, h3⟩, e⟩ ⟨k1, ⟨t', xs', k3⟩, e'⟩); (rw [h2, k2, this])
   ·rw [h5] at e
    rw [k2] at e'
    rcases k4 with ⟨rfl, _⟩ | ⟨_, rfl, _⟩
    ·exact absurd e' ((newR_old h H Q ⟨h1, ⟨t, xs, h3⟩, e⟩).2.1 m' _ k1 k3 hfz')
    ·cases hfz'
   ·rw [h2] at e
    rw [k5] at e'
    rcases h4 with ⟨rfl, _⟩ | ⟨_, rfl, _⟩
    ·exact absurd e ((newR_old h H Q ⟨k1, ⟨t', xs', k3⟩, e'⟩).2.1 m _ h1 h3 hfz)
    ·cases hfz
   ·rw [h2] at e
    rw [k2] at e'
    rcases h4 with ⟨rfl, _⟩ | ⟨_, rfl, _⟩
    ·rcases k4 with ⟨rfl, _⟩ | ⟨_, rfl, _⟩
     ·exact h.rr m m' _ _ k h3 k3 hfz hfz' e e'
     ·cases hfz'
    ·cases hfz
  size := hw
  os := Q.os
  tape := Q.tape
  output := Q.output
  imps := rfl
  impB := fun b hb cs h1 => by
   by_cases hl : ∃ l ∈ lentOf L gs, l.1 = b
   ·obtain ⟨l, hl, rfl⟩ := hl
    (obtain ⟨o, ho⟩ := back_some (cells := (take_ L (ident i 1) 0 (enc s.all r)).1.drop s.res.flatten.length) hl); (obtain ⟨q, off, n, old, g1, g2, g3⟩ := back_look hf ho); (obtain ⟨m1, m2, m3⟩ := mix q l.1 off n old g1 g2); (obtain rfl : old = cs := Option.some.inj (m1.symm.trans h1))
    refine ⟨_, ?_, length_mix old _ off n m3 m2, rfl, rfl, fun o ho => outer q l.1 off n old g1 g2 o (by omega)⟩
    (rw [box_put]); (simp only [after_]); (rw [ho, g3])
   ·have hn : ∀ l ∈ lentOf L gs, l.1 ≠ b := fun l hl' e => hl ⟨l, hl', e⟩
    refine ⟨cs, ?_, rfl, rfl, rfl, fun o _ => cell_same (boxKept b cs h1 hn) o⟩
    (rw [box_put]); (simp only [after_])
    cases hb2 : look (back_ L (lentOf L gs) ((take_ L (ident i 1) 0 (enc s.all r)).1.drop s.res.flatten.length)) b with
    | none => exact h1
    | some o =>
     obtain ⟨q, off, n, old, g1, _⟩ := back_look hf hb2
     exact absurd rfl (hn _ (List.mem_of_getElem? g1)) }
where
 finOk_len : ∀ {lent : List (Nat × Nat × Nat × List (SV L.D))} {fin : List (List Sh)}, finOk L lent fin = true → lent.length = fin.length
  | [], [], _ => rfl
  | [], _ :: _, h => by cases h
  | (_, _, _, _) :: _, [], h => by cases h
  | (_, _, n, _) :: l, s :: ss, h => by
   simp only [finOk, Bool.and_eq_true] at h
   simp [finOk_len h.2]
 flatten_take : ∀ {fin : List (List Sh)} {q : Nat}, q < fin.length → (fin.take q).flatten.length + (fin.getD q []).length ≤ fin.flatten.length
  | [], q, h => absurd h (Nat.not_lt_zero q)
  | s :: l, 0, _ => by simp
  | s :: l, q + 1, h => by
   (have := flatten_take (fin := l) (q := q) (by simpa using h)); (simp only [List.take_succ_cons, List.flatten_cons, List.length_append, List.getD_cons_succ])
   omega
theorem Rel.call (hL : LayOk P L) (h : Rel L E st V a w) (H : Lends L E st V w gs vals) (hf : finOk L (lentOf L gs) s.fin = true) (z : CtrOk st s q (enc s.all r)) (hcp : captOf L gs = [] ∨ roS L s.all = false) (Q : PostV L (callE L E st V w gs n0 q0) s q (enc s.all r) vs lv v w') {ks : List Key} (hc : clean st ks = true) (hk : ∀ j, j < (enc s.all r).length → IsFr ((enc s.all r).getD j .dead) → (2, ident i 1 + j) ∈ ks) (hd : ∀ n, dst = some n → (0, n) ∈ ks ∧ n < E.nt) :
  Rel L E (st.put dst (after_ L i s gs r)) (callV L V i (enc s.all r) vs q lv) (a.put dst v) w' := by
 refine h.turn hc hd ((Ch.call hL h H hf z hcp Q hc hk fun n hn => (hd n hn).1).turn h) fun n hn => ?_
 (have hl : (take_ L (ident i 1) 0 (enc s.all r)).1.length = vs.length := by rw [take_len, Q.len]); (obtain ⟨g1, g2⟩ := results_ok (L := L) (w := w') (F := Fz E (st.put dst (after_ L i s gs r)) (callV L V i (enc s.all r) vs q lv) w') (st := st.put dst (after_ L i s gs r)) (V := callV L V i (enc s.all r) vs q lv) (tm := (a.put dst v).tmps) s.res s.aggs _ vs hl Q.one fun c hcc => cell_call hL h H hf z Q hcp (by rw [take_len] at hcc; exact hcc) _); (have := value_ok g1 g2); (rw [← Q.val] at this)
 exact this
end
end
end Go.Proofs.YtfeikakkfnnaoaaGreatDoor.V
namespace Go.Proofs.YtfeikakkfnnaoaaGreatDoor.V
open Go
set_option linter.unusedVariables false
set_option linter.unusedSimpArgs false
section
variable {P : Program} {L : Lay} {E : Ent} {st : St L.D} {V : Vl} {a : Act} {w : World}
theorem mentL_mem {D : TypeId → Type} {k : Key} : ∀ {l : List (SV D)}, mentL k l = false → ∀ s ∈ l, ment k s = false
 | [], _, s, h => by cases h
 | x :: l, hk, s, h => by
  simp only [mentL, Bool.or_eq_false_iff] at hk
  rcases List.mem_cons.1 h with rfl | h
  ·exact hk.1
  ·exact mentL_mem hk.2 s h
theorem mentL_of {D : TypeId → Type} {k : Key} : ∀ {l : List (SV D)}, (∀ s ∈ l, ment k s = false) → mentL k l = false
 | [], _ => rfl
 | x :: l, h => by
  simp only [mentL, Bool.or_eq_false_iff]
  exact ⟨h x List.mem_cons_self, mentL_of fun s hs => h s (List.mem_cons_of_mem _ hs)⟩
theorem ment_cellsM {D : TypeId → Type} {k : Key} {s : SV D} (h : ment k s = false) : ∀ x ∈ cellsOf s, ment k x = false := by
 cases s with
 | agg cs => exact mentL_mem (show mentL k cs = false by simpa [ment] using h)
 | _ => intro x hx; simp only [cellsOf, List.mem_singleton] at hx; subst hx; exact h
theorem fill_ment {ks : List Key} (hc : clean st ks = true) (fs : List (Nat × Nat)) : ∀ {ps : List (Nat × Operand)} {cs cs' : List (SV L.D)}, fillS L st fs cs ps = some cs' → (∀ k ∈ ks, ∀ s ∈ cs, ment k s = false) → ∀ k ∈ ks, ∀ s ∈ cs', ment k s = false
 | [], cs, cs', h, hm => by
  (simp only [fillS, Option.some.injEq] at h); (subst h; exact hm)
 | (j, x) :: ps, cs, cs', h, hm => by
  unfold fillS at h
  split at h
  ·rename_i heq; cases heq
  ·rename_i heq
   (obtain ⟨e0, rfl⟩ := List.cons.inj heq); (obtain ⟨rfl, rfl⟩ := Prod.mk.inj e0)
   split at h
   ·split at h
    ·exact fill_ment hc fs h hm
    ·cases h
   ·cases h
  ·rename_i heq
   (obtain ⟨e0, rfl⟩ := List.cons.inj heq); (obtain ⟨rfl, rfl⟩ := Prod.mk.inj e0)
   split at h
   ·split at h
    ·refine fill_ment hc fs h fun k hk s hs => ?_
     rcases List.mem_append.1 hs with hs | hs
     ·rcases List.mem_append.1 hs with hs | hs
      ·exact hm k hk s (List.mem_of_mem_take hs)
      ·exact ment_cellsM (clean_rdo hc x k hk) s hs
     ·exact hm k hk s (List.mem_of_mem_drop hs)
    ·cases h
   ·cases h
theorem zero_ment (hL : LayOk P L) {t : TypeId} (hk : okT L t = true) (k : Key) : ∀ s ∈ L.zero t, ment k s = false := by
 intro s hs
 (obtain ⟨j, hj, rfl⟩ := List.getElem_of_mem hs); (have hko : (L.ti t).kind ≠ .other := by intro h; simp [okT, h] at hk); (obtain ⟨i, z, _, _, _, _, _, _, _, _, h⟩ := hL.info t hko); (obtain ⟨u, _, _, e | ⟨e', e, _⟩⟩ := h j hj <;> rw [e] <;> rfl)
theorem out_nilCl {o : Oper} {ks : List Key} (A : At L E st V a w o ks) {x : Operand} (ho : o.op = .nilCheck x) {f : FuncId} {cs : List (SV L.D)} (hx : rdo st x = .cl f cs) : Out P L E st o a w { val := .cl f cs } := by
 obtain ⟨vs, hv, _⟩ := (hx ▸ A.rel.opd x).cl_inv
 refine Out.val A (v := a.eval x) ?_ (hx ▸ clean_rdo A.clean x) (hx ▸ A.rel.opd x)
 unfold execOp
 simp [ho, hv]
theorem mine_ident (i c : Nat) (h : c < 1000) : mine i (ident i c) = true := by
 unfold mine ident
 simp only [Bool.and_eq_true]
 exact ⟨Nat.ble_eq_true_of_le (by omega), by rw [Nat.blt_eq]; omega⟩
theorem new_box {i : Nat} {o : Oper} {d : Dl L.D} {c : Nat} {x : Option (List (SV L.D))} (h : (ident i c, x) ∈ d.boxes) (hc : c < 1000) : (1, ident i c) ∈ newOf L i o d := by
 unfold newOf
 refine List.mem_append_left _ (List.mem_append_right _ (List.mem_filter.2 ⟨List.mem_map.2 ⟨_, h, rfl⟩, mine_ident i c hc⟩))
theorem new_row {i : Nat} {o : Oper} {d : Dl L.D} {c : Nat} {x : Option (Row L.D)} (h : (ident i c, x) ∈ d.rows) (hc : c < 1000) : (2, ident i c) ∈ newOf L i o d := by
 unfold newOf
 refine List.mem_append_right _ (List.mem_filter.2 ⟨List.mem_map.2 ⟨_, h, rfl⟩, mine_ident i c hc⟩)
theorem at_of (h : Rel L E st V a w) {i : Nat} {o : Oper} {d : Dl L.D} (hc : clean st (newOf L i o d) = true) (hd : dstOk E.nt o.dst = true) : At L E st V a w o (newOf L i o d) := by
 refine ⟨h, hc, fun n hn => ⟨?_, ?_⟩⟩
 ·unfold newOf
  refine List.mem_append_left _ (List.mem_append_left _ ?_)
  rw [hn]; simp
 ·rw [hn] at hd
  simpa [dstOk, Nat.blt_eq] using hd
theorem out_builtin (hL : LayOk P L) (h : Rel L E st V a w) {i : Nat} {o : Oper} {b : Builtin} {args : Array Operand} {ts : Array TypeId} (ho : o.op = .call { callee := .builtin b, args := args, argTypes := ts }) {d : Dl L.D} (hv : builtinD L i st b args.toList ts.toList = some (true, d)) (hc : clean st (newOf L i o d) = true) (hd : dstOk E.nt o.dst = true) : Out P L E st o a w d := by
 (have A := at_of h hc hd); (have arr1 : ∀ {α : Type} {xs : Array α} {x : α}, xs.toList = [x] → xs = #[x] := fun h => Array.toList_inj.1 h); (have arr2 : ∀ {α : Type} {xs : Array α} {x y : α}, xs.toList = [x, y] → xs = #[x, y] := fun h => Array.toList_inj.1 h)
 unfold builtinD at hv
 split at hv
 ·rename_i x t e1 e2
  rw [arr1 e1, arr1 e2] at ho
  split at hv
  ·rename_i n hn
   obtain ⟨_, rfl⟩ := Prod.mk.inj (Option.some.inj hv)
   exact out_len hL A ho hn
  ·cases hv
 ·rename_i s x t t' e1 e2
  rw [arr2 e1, arr2 e2] at ho
  split at hv
  ·rename_i e he
   split at hv
   ·rename_i t'' hs
    split at hv
    ·rename_i ys hy
     (obtain ⟨h1, rfl⟩ := Prod.mk.inj (Option.some.inj hv)); (have := out_append hL A ho he (xs := []) (u := []) (.inl ⟨t'', hs, rfl, rfl⟩) hy (Bool.and_eq_true_iff.1 h1).1 (by have := okLe_iff.1 (Bool.and_eq_true_iff.1 h1).2; simpa using this) (new_row (c := 0) List.mem_cons_self (by omega)))
     exact this
    ·cases hv
   ·rename_i j hs
    split at hv
    ·rename_i r hr
     split at hv
     ·rename_i xs ys hf hcst hy
      obtain ⟨h1, rfl⟩ := Prod.mk.inj (Option.some.inj hv)
      exact out_append hL A ho he (.inr ⟨j, r, hs, hr, hf, hcst, rfl⟩) hy (Bool.and_eq_true_iff.1 h1).1 (okLe_iff.1 (Bool.and_eq_true_iff.1 h1).2) (new_row (c := 0) List.mem_cons_self (by omega))
     ·cases hv
    ·cases hv
   ·cases hv
  ·cases hv
 ·rename_i x y t t' e1 e2
  rw [arr2 e1, arr2 e2] at ho
  split at hv
  ·rename_i k m k' n hx hy
   obtain ⟨_, rfl⟩ := Prod.mk.inj (Option.some.inj hv)
   exact out_min A ho hx hy
  ·cases hv
 ·rename_i x y t t' e1 e2
  rw [arr2 e1, arr2 e2] at ho
  split at hv
  ·rename_i k m k' n hx hy
   obtain ⟨_, rfl⟩ := Prod.mk.inj (Option.some.inj hv)
   exact out_max A ho hx hy
  ·cases hv
 ·rename_i s x t t' e1 e2
  rw [arr2 e1, arr2 e2] at ho
  split at hv
  ·rename_i e hb he
   obtain rfl := Nat.eq_of_beq_eq_true hb
   split at hv
   ·rename_i j hs
    split at hv
    ·rename_i r hr
     split at hv
     ·rename_i xs r' hf hcx hy
      split at hv
      ·rename_i ys hcy
       obtain ⟨_, rfl⟩ := Prod.mk.inj (Option.some.inj hv)
       exact out_copyC hL A ho he hs hr hf hy hcx hcy
      ·cases hv
     ·cases hv
    ·cases hv
   ·cases hv
  ·cases hv
 ·cases hv
end
end Go.Proofs.YtfeikakkfnnaoaaGreatDoor.V
namespace Go.Proofs.YtfeikakkfnnaoaaGreatDoor.V
open Go
set_option linter.unusedVariables false
set_option linter.unusedSimpArgs false
section
variable {P : Program} {L : Lay} {E : Ent} {st : St L.D} {V : Vl} {a : Act} {w : World} {sig : FuncId → Sig}
theorem val_inj {c c' : Bool} {d d' : Dl L.D} (h : some (Vd.val (sig := sig) c d) = some (.val c' d')) : c = c' ∧ d = d' := by
 injection h with h; injection h with h1 h2; exact ⟨h1, h2⟩
theorem val_store (hL : LayOk P L) (h : Rel L E st V a w) {i : Nat} {o : Oper} {d : Dl L.D} {t : TypeId} {x y : Operand} (ho : o.op = .store t x y) (hv : valD L sig i st o = some (.val true d)) (hc : clean st (newOf L i o d) = true) (hd : dstOk E.nt o.dst = true) : Out P L E st o a w d := by
 (have A := at_of h hc hd); (simp only [valD, ho] at hv)
 split at hv
 ·rename_i b off hg hx
  (simp only [Bool.and_eq_true] at hg); (have hn := Nat.eq_of_beq_eq_true hg.2)
  split at hv
  ·rename_i cs hb
   split at hv
   ·rename_i hle
    obtain ⟨_, rfl⟩ := val_inj hv
    exact out_storeBox hL A ho hg.1.1 hg.1.2 hn hx hb (Nat.le_of_ble_eq_true hle)
   ·cases hv
  ·cases hv
 ·rename_i j ix off hg hx
  (simp only [Bool.and_eq_true] at hg); (have hn := Nat.eq_of_beq_eq_true hg.2)
  split at hv
  ·rename_i r hr
   split at hv
   ·rename_i xs u c' hf hs hle
    split at hv
    ·cases hv
    ·rename_i hnd
     split at hv
     ·rename_i z hu hz
      obtain ⟨_, rfl⟩ := val_inj hv
      exact out_storeRow hL A ho hg.1.1 hg.1.2 hn hx hr hf hs hnd (Nat.le_of_ble_eq_true hle) hu hz
     ·cases hv
   ·cases hv
  ·cases hv
 ·cases hv
theorem val_conv (hL : LayOk P L) (h : Rel L E st V a w) {i : Nat} {o : Oper} {d : Dl L.D} {src dst : TypeId} {x : Operand} (ho : o.op = .convert src dst x) (hv : valD L sig i st o = some (.val true d)) (hc : clean st (newOf L i o d) = true) (hd : dstOk E.nt o.dst = true) : Out P L E st o a w d := by
 (have A := at_of h hc hd); (simp only [valD, ho] at hv)
 split at hv
 ·rename_i k n k' hx hk
  split at hv
  ·cases hv
  ·rename_i hs
   obtain ⟨_, rfl⟩ := val_inj hv
   exact out_convInt hL A ho hx hk (by simpa using hs)
 ·rename_i s hx hk
  split at hv
  ·cases hv
  ·rename_i hs
   obtain ⟨_, rfl⟩ := val_inj hv
   exact out_convStr hL A ho hx hk (by simpa using hs)
 ·rename_i s e hx hk
  split at hv
  ·rename_i hs hke
   obtain ⟨h1, rfl⟩ := val_inj hv
   exact out_convBytes hL A ho hx hk hs hke (by have := okLe_iff.1 h1; omega) (new_row (c := 0) List.mem_cons_self (by omega))
  ·cases hv
 ·rename_i s hk hx0
  split at hv
  ·rename_i e r he hr
   split at hv
   ·rename_i hb hke
    obtain ⟨_, rfl⟩ := val_inj hv
    exact out_convRow hL A ho he hk hke hr (Nat.eq_of_beq_eq_true hb)
   ·cases hv
  ·cases hv
 ·cases hv
theorem val_slice (hL : LayOk P L) (h : Rel L E st V a w) {i : Nat} {o : Oper} {d : Dl L.D} {t : TypeId} {x : Operand} {lo hi : Option Operand} (ho : o.op = .slice t x lo hi none) (hv : valD L sig i st o = some (.val true d)) (hc : clean st (newOf L i o d) = true) (hd : dstOk E.nt o.dst = true) : Out P L E st o a w d := by
 (have A := at_of h hc hd); (simp only [valD, ho] at hv)
 split at hv
 ·rename_i s hk hx
  split at hv
  ·rename_i l hh hl hh'
   (obtain ⟨h1, rfl⟩ := val_inj hv); (simp only [Bool.and_eq_true, decide_eq_true_eq] at h1)
   exact out_cutS hL A ho hk hx hl hh' h1.1.1 h1.1.2 h1.2
  ·cases hv
 ·rename_i e0 e xs hk hx
  split at hv
  ·rename_i l hh hb hl hh'
   (obtain ⟨h1, rfl⟩ := val_inj hv); (simp only [Bool.and_eq_true, decide_eq_true_eq] at h1); (obtain rfl := Nat.eq_of_beq_eq_true hb)
   exact out_cutR hL A ho hk hx hl hh' h1.1.1 h1.1.2 h1.2
  ·cases hv
 ·rename_i e0 l' e xs hk hx
  split at hv
  ·rename_i l hh hb hl hh'
   (obtain ⟨h1, rfl⟩ := val_inj hv); (simp only [Bool.and_eq_true, decide_eq_true_eq] at h1); (obtain rfl := Nat.eq_of_beq_eq_true hb)
   exact out_cutN hL A ho hk (hx ▸ A.rel.opd x).lr_inv.rowL hl hh' h1.1.1 h1.1.2 h1.2
  ·cases hv
 ·rename_i e0 e xs hk hx
  split at hv
  ·rename_i l hh hb hl hh'
   (obtain ⟨h1, rfl⟩ := val_inj hv); (simp only [Bool.and_eq_true, decide_eq_true_eq] at h1); (obtain rfl := Nat.eq_of_beq_eq_true hb)
   exact out_cutN hL A ho hk (hx ▸ A.rel.opd x).rn_inv.rowN hl hh' h1.1.1 h1.1.2 h1.2
  ·cases hv
 ·rename_i e0 j hk hx
  split at hv
  ·rename_i r hr
   split at hv
   ·rename_i l hh hb hl hh'
    (obtain ⟨h1, rfl⟩ := val_inj hv); (simp only [Bool.and_eq_true, decide_eq_true_eq] at h1); (obtain rfl := Nat.eq_of_beq_eq_true hb)
    exact out_cutOwn hL A ho hk hx hr hl hh' h1.1.1 h1.1.2 h1.2
   ·cases hv
  ·cases hv
 ·cases hv
theorem val_indexAddr (hL : LayOk P L) (h : Rel L E st V a w) {i : Nat} {o : Oper} {d : Dl L.D} {t : TypeId} {x y : Operand} (ho : o.op = .indexAddr t x y) (hv : valD L sig i st o = some (.val true d)) (hc : clean st (newOf L i o d) = true) (hd : dstOk E.nt o.dst = true) : Out P L E st o a w d := by
 (have A := at_of h hc hd); (simp only [valD, ho] at hv)
 split at hv
 ·rename_i e0 e xs k n he hx hy
  split at hv
  ·rename_i hb
   (obtain ⟨h1, rfl⟩ := val_inj hv); (simp only [Bool.and_eq_true, decide_eq_true_eq] at h1); (obtain rfl := Nat.eq_of_beq_eq_true hb)
   exact out_indexAddr hL A ho he (hx ▸ A.rel.opd x).ro_inv.rowK hy h1.1 h1.2
  ·cases hv
 ·rename_i e0 l' e xs k n he hx hy
  split at hv
  ·rename_i hb
   (obtain ⟨h1, rfl⟩ := val_inj hv); (simp only [Bool.and_eq_true, decide_eq_true_eq] at h1); (obtain rfl := Nat.eq_of_beq_eq_true hb)
   exact out_indexAddr hL A ho he (hx ▸ A.rel.opd x).lr_inv.rowL hy h1.1 h1.2
  ·cases hv
 ·rename_i e0 e xs k n he hx hy
  split at hv
  ·rename_i hb
   (obtain ⟨h1, rfl⟩ := val_inj hv); (simp only [Bool.and_eq_true, decide_eq_true_eq] at h1); (obtain rfl := Nat.eq_of_beq_eq_true hb)
   exact out_indexAddr hL A ho he (hx ▸ A.rel.opd x).rn_inv.rowN hy h1.1 h1.2
  ·cases hv
 ·rename_i e0 j k n he hx hy
  split at hv
  ·rename_i r hr
   split at hv
   ·rename_i hb hf
    (obtain ⟨h1, rfl⟩ := val_inj hv); (simp only [Bool.and_eq_true, decide_eq_true_eq] at h1); (obtain rfl := Nat.eq_of_beq_eq_true hb)
    exact out_indexOwn hL A ho he hx hr hy h1.1 h1.2 hf
   ·rename_i hb hf
    (obtain ⟨h1, rfl⟩ := val_inj hv); (simp only [Bool.and_eq_true, decide_eq_true_eq] at h1); (obtain rfl := Nat.eq_of_beq_eq_true hb)
    refine out_indexAddr hL A ho he (xs := r.xs) ?_ hy h1.1 h1.2
    (have hx0 := A.rel.opd x); (rw [hx] at hx0); (rw [hx0.own_inv hr])
    exact ((h.row j r hr).1 hf).rowK
   ·cases hv
  ·cases hv
 ·cases hv
theorem memo_ptr (hL : LayOk P L) (h : Rel L E st V a w) {x : Operand} {cs : List (SV L.D)} {off : Nat} (hm : memo (rdo st x) st = some (cs, off)) : ∃ b o, a.eval x = .pointer (some ⟨b, o + off, none⟩) := by
 obtain ⟨b, o, _, h1, _⟩ := memo_ok (P := P) hL h hm (h.opd x)
 exact ⟨b, o, h1⟩
theorem val_field (hL : LayOk P L) (h : Rel L E st V a w) {i : Nat} {o : Oper} {d : Dl L.D} {s : TypeId} {x : Operand} {f : Nat} (ho : o.op = .fieldAddr s x f) (hv : valD L sig i st o = some (.val true d)) (hc : clean st (newOf L i o d) = true) (hd : dstOk E.nt o.dst = true) : Out P L E st o a w d := by
 (have A := at_of h hc hd); (simp only [valD, ho] at hv)
 split at hv
 ·rename_i q n m hf hm
  (have hx0 := A.rel.opd x); (have hcl := clean_rdo A.clean x)
  split at hv
  ·rename_i b off hx
   (obtain ⟨_, rfl⟩ := val_inj hv); (rw [hx] at hx0 hm hcl); (simp only [memo] at hm)
   cases hb : st.box b with
   | none => rw [hb] at hm; cases hm
   | some cs =>
    have hp := hx0.ptr_inv hb
    exact out_fieldAddr hL A ho hf (p := .dead) hp (fun k hk => hcl k hk) (.ptr b (off + q) _ fun cs' _ => by rw [Nat.add_assoc])
  ·rename_i t y off hx
   (obtain ⟨_, rfl⟩ := val_inj hv); (rw [hx] at hx0); (obtain ⟨b, o', g, hb, hp, hu, hr⟩ := hx0.rp_inv)
   refine out_fieldAddr hL A ho hf (p := .dead) hp (fun k hk => rfl) ?_
   rw [Nat.add_assoc]
   exact .rp t y (off + q) b o' g hb hu hr
  ·rename_i j ix off hx
   (obtain ⟨_, rfl⟩ := val_inj hv); (rw [hx] at hx0 hm hcl); (simp only [memo] at hm)
   cases hr : st.row j with
   | none => rw [hr] at hm; cases hm
   | some r =>
    obtain ⟨g, c, e1, e2, e3⟩ := hx0.ep_inv hr
    refine out_fieldAddr hL A ho hf (p := .dead) e3 (fun k hk => hcl k hk) (.ep j ix (off + q) _ fun r' hr' => ?_)
    obtain rfl : r' = r := Option.some.inj (hr'.symm.trans hr)
    exact ⟨g, c, e1, e2, by rw [Nat.add_assoc]⟩
  ·rename_i cs off hx
   (obtain ⟨_, rfl⟩ := val_inj hv); (rw [hx] at hx0); (obtain ⟨b, o', g, hb, hp, hu, hr⟩ := hx0.rb_inv)
   refine out_fieldAddr hL A ho hf (p := .dead) hp (fun k hk => rfl) ?_
   rw [Nat.add_assoc]
   exact .rb cs (off + q) b o' g hb hu hr
  ·cases hv
 ·cases hv
theorem val_ok (hL : LayOk P L) (h : Rel L E st V a w) {i : Nat} {o : Oper} {d : Dl L.D} (hv : valD L sig i st o = some (.val true d)) (hc : clean st (newOf L i o d) = true) (hd : dstOk E.nt o.dst = true) : Out P L E st o a w d := by
 (have A := at_of h hc hd); (have hv0 := hv)
 unfold valD at hv
 split at hv
 ·rename_i x ho
  obtain ⟨_, rfl⟩ := val_inj hv
  exact out_move A (.inl ho)
 ·rename_i x ho
  obtain ⟨_, rfl⟩ := val_inj hv
  exact out_move A (.inr ho)
 ·rename_i n x y ho
  split at hv
  ·rename_i c hcn
   split at hv
   ·rename_i p q hp hq
    obtain ⟨_, rfl⟩ := val_inj hv
    exact out_pick A ho hcn hp hq
   ·cases hv
  ·cases hv
 ·rename_i t ho
  split at hv
  ·cases hv
  ·rename_i hk
   (obtain ⟨_, rfl⟩ := val_inj hv); (have hm := new_box (L := L) (i := i) (o := o) (d := { val := .ptr (ident i 0) 0, boxes := [(ident i 0, some (L.zero t))] }) (c := 0) List.mem_cons_self (by omega))
   exact out_alloc hL A ho (by simpa using hk) hm (clean_imps hc _ hm)
 ·rename_i t x ho
  split at hv
  ·rename_i hg
   (obtain ⟨_, rfl⟩ := val_inj hv); (simp only [Bool.and_eq_true] at hg); (have hm := new_box (L := L) (i := i) (o := o) (d := { val := .ptr (ident i 0) 0, boxes := [(ident i 0, some (cellsOf (rdt L st t x)))] }) (c := 0) List.mem_cons_self (by omega))
   exact out_box hL A ho hg.1.2 hm
  ·cases hv
 ·rename_i t ps ho
  split at hv
  ·rename_i fs hk
   split at hv
   ·rename_i cs hcs
    obtain ⟨_, rfl⟩ := val_inj hv
    exact out_build hL A ho hk hcs fun k hk' => mentL_of (fill_ment hc fs hcs (fun k _ => zero_ment hL (by simp [okT, hk]) k) k hk')
   ·cases hv
  ·cases hv
 ·rename_i t n ps ho
  split at hv
  ·rename_i e he
   split at hv
   ·rename_i xs u c' hg hel
    split at hv
    ·rename_i hnd
     (obtain ⟨_, rfl⟩ := val_inj hv); (simp only [Bool.and_eq_true] at hg)
     exact out_buildSlice hL A ho he hg.1.1 (Nat.eq_of_beq_eq_true hg.1.2) (Nat.le_of_ble_eq_true hg.2) hel hnd (new_row (c := 0) List.mem_cons_self (by omega))
    ·cases hv
   ·cases hv
  ·cases hv
 ·rename_i t x ho
  split at hv
  ·rename_i cs off hm
   split at hv
   ·rename_i hg
    (obtain ⟨_, rfl⟩ := val_inj hv); (simp only [Bool.and_eq_true] at hg)
    exact out_load hL A ho hm hg.1 (Nat.le_of_ble_eq_true hg.2) (memo_ment (P := P) hL h hc hm (h.opd x))
   ·cases hv
  ·cases hv
 ·rename_i t x y ho
  exact val_store hL h ho hv0 hc hd
 ·rename_i x ho
  split at hv
  ·rename_i f cs hx
   obtain ⟨_, rfl⟩ := val_inj hv
   exact out_nilCl A ho hx
  ·split at hv
   ·rename_i m hm
    (obtain ⟨_, rfl⟩ := val_inj hv); (obtain ⟨cs, off⟩ := m); (obtain ⟨b, o', hp⟩ := memo_ptr (P := P) hL h hm)
    exact out_nilCheck A ho rfl hp
   ·cases hv
 ·rename_i op t x y t' ho
  split at hv
  ·rename_i p q hx hy
   split at hv
   ·rename_i hk
    obtain ⟨_, rfl⟩ := val_inj hv
    exact out_bools A ho (hL.bool _ hk) hx hy (.inl ⟨rfl, rfl⟩)
   ·rename_i hk
    obtain ⟨_, rfl⟩ := val_inj hv
    exact out_bools A ho (hL.bool _ hk) hx hy (.inr ⟨rfl, rfl⟩)
   ·cases hv
  ·rename_i p q hn hx hy
   split at hv
   ·rename_i c r hs
    obtain ⟨rfl, rfl⟩ := val_inj hv
    exact out_binOp A ho hx hy hs
   ·cases hv
  ·rename_i cs ds hx hy
   split at hv
   ·rename_i r hq
    obtain ⟨_, rfl⟩ := val_inj hv
    exact out_aggs hL A ho hx hy hq (.inl ⟨rfl, rfl⟩)
   ·rename_i r hq
    obtain ⟨_, rfl⟩ := val_inj hv
    exact out_aggs hL A ho hx hy hq (.inr ⟨rfl, rfl⟩)
   ·cases hv
  ·cases hv
 ·rename_i op t x ho
  split at hv
  ·rename_i p hx
   split at hv
   ·rename_i r hs
    obtain ⟨_, rfl⟩ := val_inj hv
    exact out_unOp A ho hx hs
   ·cases hv
  ·cases hv
 ·rename_i src dst x ho
  exact val_conv hL h ho hv0 hc hd
 ·rename_i t x y ho
  split at hv
  ·rename_i e n c he hx hy
   (obtain ⟨h1, rfl⟩ := val_inj hv); (simp only [Bool.and_eq_true, decide_eq_true_eq] at h1)
   exact out_make hL A ho he hx hy h1.1.1 h1.1.2 (okLe_iff.1 h1.2) (new_row (c := 0) List.mem_cons_self (by omega))
  ·cases hv
 ·rename_i t x lo hi ho
  exact val_slice hL h ho hv0 hc hd
 ·rename_i s x f ho
  exact val_field hL h ho hv0 hc hd
 ·rename_i t x y ho
  exact val_indexAddr hL h ho hv0 hc hd
 ·rename_i t x y ho
  split at hv
  ·rename_i s k n hk hx hy
   (obtain ⟨h1, rfl⟩ := val_inj hv); (simp only [Bool.and_eq_true, decide_eq_true_eq] at h1)
   exact out_index hL A ho hk hx hy h1.1 h1.2
  ·cases hv
 ·rename_i x n ho
  split at hv
  ·rename_i l hx
   split at hv
   ·rename_i s hs
    obtain ⟨_, rfl⟩ := val_inj hv
    refine out_extract A ho hx hs fun k hk => ?_
    (have := clean_rdo hc x k hk); (rw [hx] at this)
    exact mentL_mem (show mentL k l = false by simpa [ment] using this) s (List.mem_of_getElem? hs)
   ·cases hv
  ·cases hv
 ·rename_i f first c ho
  split at hv
  ·rename_i hf
   (obtain ⟨_, rfl⟩ := val_inj hv); (have : first = #[] := by cases first; simp at hf; rw [hf]); (subst this)
   exact out_makeFunc A ho
  ·cases hv
 ·rename_i c ho
  split at hv
  ·rename_i b hb
   split at hv
   ·rename_i c' d' hbd
    (obtain ⟨rfl, rfl⟩ := val_inj hv); (obtain ⟨callee, args, ts⟩ := c); (simp only at hb hbd); (subst hb)
    exact out_builtin hL h ho hbd hc hd
   ·cases hv
  ·split at hv
   ·split at hv
    ·unfold callD at hv
     split at hv <;> split at hv <;> first
      | (injection hv with hv; cases hv; done)
      | (cases hv; done)
    ·cases hv
   ·cases hv
  ·cases hv
 ·cases hv
end
end Go.Proofs.YtfeikakkfnnaoaaGreatDoor.V
namespace Go.Proofs.YtfeikakkfnnaoaaGreatDoor.V
open Go
set_option linter.unusedVariables false
set_option linter.unusedSimpArgs false
def Callable (P : Program) (f : FuncId) : Prop := ∃ fn c, P.funcs[f]? = some fn ∧ (fn.name == "runtime.NumGoroutine") = false ∧ fn.body = some c
theorem run_callFunc {P : Program} {f : FuncId} (h : Callable P f) (args : Array Value) (w : World) : (callFunc f args).run P w = .ok (.enter f args) w := by
 (obtain ⟨fn, c, h1, h2, h3⟩ := h); (have h2' : ¬ fn.name = "runtime.NumGoroutine" := by simpa using h2)
 simp [callFunc, h1, h2', h3]
section
variable {P : Program} {L : Lay} {E : Ent} {st : St L.D} {V : Vl} {a : Act} {w : World} {sig : FuncId → Sig}
theorem valD_call {i : Nat} {o : Oper} {f : FuncId} {az : List (SV L.D)} {k : RT L.D (sig f).all → Dl L.D} (hv : valD L sig i st o = some (.call f az k)) : ∃ (c : Call) (f0 : Operand) (caps : List (SV L.D)) (gs cs : List (Arg L)), o.op = .call c ∧ c.callee = .value f0 ∧ rdo st f0 = .cl f caps ∧ args_ L (sig f).nk (sig f).mv st c.args.toList c.argTypes.toList = some gs ∧ capArgs L st caps = some cs ∧ callD L sig st.ctr i f (gs ++ cs) = some (.call f az k) := by
 have nb : ∀ {c : Call}, o.op = .call c → _ := fun {c} ho => ho
 cases ho : o.op with
 | call c =>
  simp only [valD, ho] at hv
  split at hv
  ·rename_i b hb
   split at hv
   ·injection hv with hv; cases hv
   ·cases hv
  ·rename_i f0 hf0
   split at hv
   ·rename_i f' caps hf
    split at hv
    ·rename_i gs cs hg hcs
     have hf' : f' = f := by
      unfold callD at hv
      split at hv <;> split at hv <;> first
       | (injection hv with hv; injection hv)
       | cases hv
     subst hf'
     exact ⟨c, f0, caps, gs, cs, rfl, hf0, hf, hg, hcs, hv⟩
    ·cases hv
   ·cases hv
  ·cases hv
 | _ =>
  exfalso
  unfold valD at hv
  simp only [ho] at hv
  repeat' (first | contradiction | (split at hv) | (cases hv; done) | (injection hv with hv; cases hv; done))
theorem new_ok (h : Rel L E st V a w) {i : Nat} {o : Oper} {s : Sig} {r : RT L.D s.all} {n : Nat} {q0 : Option Nat} {vs : List Value} {v : Value} {w' : World} {gs : List (Arg L)} (h1 : lentOf L gs = []) (h2 : goneOf L gs = []) (h3 : shownOf L gs = []) (h4 : captOf L gs = []) (Q : PostM L (callE L E st V w gs n q0) s (enc s.all r) vs v w') (hc : clean st (newOf L i o (afterM L i s r)) = true) (hd : dstOk E.nt o.dst = true) :
  ∃ V', Rel L E (st.put o.dst (afterM L i s r)) V' (a.put o.dst v) w' := by
 have hImp : ∀ k, ¬ (callE L E st V w gs n q0).Imp k := fun k hk => by
  rcases hk with ⟨l, hl, _⟩ | ⟨j, hj, _⟩
  ·rw [h1] at hl; cases hl
  ·rw [h2] at hj; cases hj
 have hF0 : ∀ k, (callE L E st V w gs n q0).F0 k → Fz E st V w k := fun k hk => by
  rcases hk with hk | ⟨j, x, hj, _⟩ | ⟨b, hb, _⟩
  ·exact hk
  ·rw [h3] at hj; cases hj
  ·rw [h4] at hb; cases hb
 (obtain ⟨g, q, xs, T, rfl, g1, g2, g3, g4, g5⟩ := Q.ptr); (have g1 : w.heap.size ≤ g := g1.resolve_right (hImp g)); (have hw : ∀ k, k < w.heap.size → w'.heap[k]? = w.heap[k]? := fun k hk => Q.kept k hk (hImp k)); (have hz : w.heap.size ≤ w'.heap.size := Q.size); (have A := at_of h hc hd); (have hk : (1, ident i 0) ∈ newOf L i o (afterM L i s r) := new_box (c := 0) List.mem_cons_self (by omega)); (have hi : ident i 0 ∉ st.imps := clean_imps hc _ hk); (have S := same_newBoxAt (k0 := g) (o0 := q) (s := .ptr (ident i 0) 0) (cs0 := enc s.all r) h g1 hk (fun n hn => (A.dst n hn).1) (v := .pointer (some ⟨g, q, none⟩)) hw hz)
 have hBox : BoxOk L E (st.put o.dst { val := .ptr (ident i 0) 0, boxes := [(ident i 0, some (enc s.all r))] }) (V.withBox (ident i 0) g q) (a.put o.dst (.pointer (some ⟨g, q, none⟩))).tmps w' (ident i 0) (enc s.all r) := by
  refine ⟨xs, T, by simp only [Vl.withBox, if_true]; exact g2, by simp only [Vl.withBox, if_true]; exact g3, fun j hj => ?_⟩
  have hvj := g4 j hj
  refine ⟨vs.getD j undef, by simp only [Vl.withBox, if_true]; exact hvj, ?_, .c (CR.mono ?_ (g5 j hj))⟩
  ·have : j < vs.length := by rw [Q.len]; exact hj
   rw [getD_lt this]; exact Q.one _ (List.getElem_mem _)
  ·refine .sub (fun k hk => ?_) fun l u hl => (S.mem.lb l u hl).1
   rcases hk with hk | ⟨k1, k2, k3⟩
   ·exact (S.mem.fz k (hF0 k hk)).1
   ·have k1 : w.heap.size ≤ k := k1.resolve_right (hImp k)
    refine .inr ⟨.inl (Nat.le_trans h.size k1), k2, fun ho => ?_⟩
    rcases ho with (⟨b, cs, hb', e⟩ | ⟨m, x, hx, hf, e⟩) | ⟨l, hl, e⟩
    ·rcases box_new hb' with ⟨rfl, _⟩ | ⟨hne, h0⟩
     ·simp [Vl.withBox] at e; exact k3 e.symm
     ·simp [Vl.withBox, hne] at e
      have := h.box_lt h0; omega
    ·rw [row_newBox] at hx
     have := h.row_lt hx hf e; omega
    ·have := h.lab_lt (l := l) hl e; omega
 refine ⟨V.withBox (ident i 0) g q, h.turn hc A.dst ((Ch.newBoxAt h g1 hk hi _ hw hz Q.os Q.tape Q.output hBox).turn h) fun n hn => ?_⟩
 refine .ptr _ 0 _ fun cs hcs => ?_
 simp [Vl.withBox]
theorem call_mk (hL : LayOk P L) (h : Rel L E st V a w) {i : Nat} {o : Oper} {f : FuncId} {az : List (SV L.D)} {k : RT L.D (sig f).all → Dl L.D} (hv : valD L sig i st o = some (.call f az k)) {r : RT L.D (sig f).all} {Tab : TabP} (hT : Tab E.F0 E.w0) (hTk : TabKept Tab) (hm : Meets P L Tab (sig f) f az r) (hcb : Callable P f) (hmk : (sig f).new = true) (hc : clean st (newOf L i o (k r)) = true) (hd : dstOk E.nt o.dst = true)
  {K : Act → World → Prop} {Q : Exit → Act → World → Prop} (hK : ∀ V' v w', Rel L E (st.put o.dst (k r)) V' (a.put o.dst v) w' → K (a.put o.dst v) w') : o.wp P a w K Q := by
 (obtain ⟨c, f0, caps, gs, cs, ho, hf0, hf, hg, hcs, hcd⟩ := valD_call hv); (obtain ⟨vs, ev, hvl, hvj⟩ := (hf ▸ h.opd f0).cl_inv); (obtain ⟨gl, ga⟩ := args_ok (P := P) hL h hg); (obtain ⟨cl, ca⟩ := capArgs_ok (P := P) hL h hcs vs hvj)
 unfold callD at hcd
 (rw [hmk] at hcd); (simp only at hcd)
 split at hcd
 ·rename_i hck
  (simp only [Bool.and_eq_true] at hck); (obtain ⟨⟨⟨⟨⟨c1, c2⟩, c3⟩, c4⟩, _⟩, c9⟩ := hck); (have c1 := List.isEmpty_iff.1 c1); (have c2 := List.isEmpty_iff.1 c2); (have c3 := List.isEmpty_iff.1 c3); (have c4 := List.isEmpty_iff.1 c4)
  injection hcd with hcd
  injection hcd with _ e1 e2
  have hlen : (gs ++ cs).length = ((c.args.toList.map a.eval) ++ vs).length := by simp [gl, cl, hvl]
  have H : Lends L E st V w (gs ++ cs) ((c.args.toList.map a.eval) ++ vs) := by
   refine ⟨hlen, fun p hp => ?_, by rw [c1]; exact List.nodup_nil, by rw [c2]; exact List.nodup_nil, (by rw [c3]; exact fun j hj => nomatch hj), (by rw [c4]; exact fun j hj => nomatch hj)⟩
   by_cases hpg : p < gs.length
   ·rw [List.getElem_append_left hpg]
    have e : ((c.args.toList.map a.eval) ++ vs).getD p undef = (c.args.toList.map a.eval).getD p undef := by
     rw [List.getD_eq_getElem?_getD, List.getD_eq_getElem?_getD, List.getElem?_append_left (by simp; simp at gl; omega)]
    rw [e]
    exact ga p hpg
   ·have hpc : p - gs.length < cs.length := by simp at hp; omega
    rw [List.getElem_append_right (by omega)]
    have e : ((c.args.toList.map a.eval) ++ vs).getD p undef = vs.getD (p - gs.length) undef := by
     rw [List.getD_eq_getElem?_getD, List.getD_eq_getElem?_getD, List.getElem?_append_right (by simp; simp at gl; omega)]
     congr 2
     simp [gl]
    rw [e]
    exact ca _ hpc
  have c9' : ctOf ((gs ++ cs).map (·.sv)) = none := by
   unfold noCt at c9
   split at c9
   ·assumption
   ·cases c9
  (have S := start_ok h H .no c9'); (have M := hm (callE L E st V w (gs ++ cs) ((c.args.toList.map a.eval) ++ vs).length (ctOf az)) (startV w ((c.args.toList.map a.eval) ++ vs)) ((c.args.toList.map a.eval) ++ vs) (hTk _ _ _ _ hT fun k hk => ⟨Or.inl (Or.inl hk), h.kept k (h.old k hk) (h.fimp k hk)⟩) rfl rfl (by rw [← e1, List.length_map]; exact ⟨fun _ => hlen, Nat.le_of_eq hlen.symm⟩) (by rw [← e1]; exact S))
  unfold Oper.wp
  have hrun : (execOp a.eval o).run P w = .ok (.enter f ((c.args.toList.map a.eval) ++ vs).toArray) w := by
   unfold execOp
   (simp only [ho, resolve, hf0, ev, Deferred.ofValue, invoke, Sem.run_bind, Sem.run_pure, Result.andThen_ok]); (rw [run_callFunc hcb])
   congr 2
   apply Array.ext'
   simp
  rw [hrun, Oper.upon_enter]
  refine Calls.mono M fun e w' he => ?_
  cases e with
  | returned v =>
   obtain ⟨vs', lv', Q'⟩ := he
   unfold PostA at Q'
   (rw [hmk] at Q'); (rw [← e2] at hc); (obtain ⟨V', hr'⟩ := new_ok h c1 c2 c3 c4 Q' hc hd)
   exact hK V' v w' (e2 ▸ hr')
  | panicked chain => exact he.elim
  | outgrown => exact he.elim
 ·cases hcd
theorem call_ok (hL : LayOk P L) (h : Rel L E st V a w) {i : Nat} {o : Oper} {f : FuncId} {az : List (SV L.D)} {k : RT L.D (sig f).all → Dl L.D} (hv : valD L sig i st o = some (.call f az k)) {r : RT L.D (sig f).all} {Tab : TabP} (hT : Tab E.F0 E.w0) (hTk : TabKept Tab) (hm : Meets P L Tab (sig f) f az r) (hcb : Callable P f) (hs : (sig f).all.length ≤ 900) (hc : clean st (newOf L i o (k r)) = true) (hd : dstOk E.nt o.dst = true)
  {K : Act → World → Prop} {Q : Exit → Act → World → Prop} (hK : ∀ V' v w', Rel L E (st.put o.dst (k r)) V' (a.put o.dst v) w' → K (a.put o.dst v) w') : o.wp P a w K Q := by
 (obtain ⟨c, f0, caps, gs, cs, ho, hf0, hf, hg, hcs, hcd⟩ := valD_call hv); (obtain ⟨vs, ev, hvl, hvj⟩ := (hf ▸ h.opd f0).cl_inv); (obtain ⟨gl, ga⟩ := args_ok (P := P) hL h hg); (obtain ⟨cl, ca⟩ := capArgs_ok (P := P) hL h hcs vs hvj)
 cases hmk : (sig f).new with
 | true => exact call_mk hL h hv hT hTk hm hcb hmk hc hd hK
 | false =>
 unfold callD at hcd
 (rw [hmk] at hcd); (simp only at hcd)
 split at hcd
 ·rename_i ct hck hct
  (simp only [Bool.and_eq_true] at hck); (obtain ⟨⟨⟨⟨⟨⟨c1, c2⟩, c3⟩, c4⟩, c5⟩, c6⟩, c9⟩ := hck)
  injection hcd with hcd
  injection hcd with _ e1 e2
  have hlen : (gs ++ cs).length = ((c.args.toList.map a.eval) ++ vs).length := by simp [gl, cl, hvl]
  have H : Lends L E st V w (gs ++ cs) ((c.args.toList.map a.eval) ++ vs) := by
   refine ⟨hlen, fun p hp => ?_, nodupB_spec c1, nodupB_spec c2, disjB_spec c3, disjB_spec c4⟩
   by_cases hpg : p < gs.length
   ·rw [List.getElem_append_left hpg]
    have e : ((c.args.toList.map a.eval) ++ vs).getD p undef = (c.args.toList.map a.eval).getD p undef := by
     rw [List.getD_eq_getElem?_getD, List.getD_eq_getElem?_getD, List.getElem?_append_left (by simp; simp at gl; omega)]
    rw [e]
    exact ga p hpg
   ·have hpc : p - gs.length < cs.length := by simp at hp; omega
    rw [List.getElem_append_right (by omega)]
    have e : ((c.args.toList.map a.eval) ++ vs).getD p undef = vs.getD (p - gs.length) undef := by
     rw [List.getD_eq_getElem?_getD, List.getD_eq_getElem?_getD, List.getElem?_append_right (by simp; simp at gl; omega)]
     congr 2
     simp [gl]
    rw [e]
    exact ca _ hpc
  have hcp : captOf L (gs ++ cs) = [] ∨ roS L (sig f).all = false := by
   rcases Bool.or_eq_true _ _ ▸ c5 with c5 | c5
   ·exact .inl (List.isEmpty_iff.1 c5)
   ·exact .inr (by simpa using c5)
  have c9' : ctOf ((gs ++ cs).map (·.sv)) = none := by
   unfold noCt at c9
   split at c9
   ·assumption
   ·cases c9
  have hz : AzOk (gs ++ cs) E st V w az ∧ ((ctOf az = none ∧ (sig f).ctr = false) ∨ ∃ m, ctOf az = some m ∧ st.ctr = some m) ∧ ((ctOf az = none → az.length = (gs ++ cs).length) ∧ (gs ++ cs).length ≤ az.length) := by
   rw [← e1]
   unfold ctArg at hct
   split at hct
   ·obtain rfl := Option.some.inj hct
    rw [List.append_nil]
    rename_i hcf
    exact ⟨.no, .inl ⟨c9', hcf⟩, fun _ => by simp, by simp⟩
   ·obtain rfl := Option.some.inj hct
    rename_i n _ hn
    have e0 : ctOf ((gs ++ cs).map (·.sv) ++ [SV.ct (D := L.D) n]) = some n := by rw [ctOf_app _ _ c9']; rfl
    refine ⟨.ct n fun l u hl => ?_, .inr ⟨n, e0, hn⟩, (fun h => by rw [e0] at h; cases h), by simp⟩
    rcases hl with hl | ⟨⟨m, h1, h2, h3⟩, _⟩
    ·exact Nat.lt_of_lt_of_le ((h.labF n hn).2 l u hl) (h.labF n hn).1
    ·obtain rfl := Option.some.inj (h1.symm.trans hn); exact h3
   ·cases hct
  (obtain ⟨hz1, hz2, hz3⟩ := hz); (have S := start_ok h H hz1 c9')
  have hz : CtrOk st (sig f) (ctOf az) (enc (sig f).all r) := by
   rcases hz2 with ⟨h1, h2⟩ | h1
   ·refine .inl ⟨h1, ?_⟩
    rw [List.drop_eq_nil_of_le]
    ·rfl
    ·rw [enc_len]; simp [Sig.all, Sig.end_, h2]
   ·exact .inr h1
  have M := hm (callE L E st V w (gs ++ cs) ((c.args.toList.map a.eval) ++ vs).length (ctOf az)) (startV w ((c.args.toList.map a.eval) ++ vs)) ((c.args.toList.map a.eval) ++ vs) (hTk _ _ _ _ hT fun k hk => ⟨Or.inl (Or.inl hk), h.kept k (h.old k hk) (h.fimp k hk)⟩) rfl rfl (by rw [← hlen]; exact hz3) S
  unfold Oper.wp
  have hrun : (execOp a.eval o).run P w = .ok (.enter f ((c.args.toList.map a.eval) ++ vs).toArray) w := by
   unfold execOp
   (simp only [ho, resolve, hf0, ev, Deferred.ofValue, invoke, Sem.run_bind, Sem.run_pure, Result.andThen_ok]); (rw [run_callFunc hcb])
   congr 2
   apply Array.ext'
   simp
  rw [hrun, Oper.upon_enter]
  refine Calls.mono M fun e w' he => ?_
  cases e with
  | returned v =>
   obtain ⟨vs', lv', Q'⟩ := he
   unfold PostA at Q'
   rw [hmk] at Q'
   refine hK _ v w' (e2 ▸ Rel.call hL h H c6 hz hcp Q' (e2 ▸ hc) (fun j hj hfr => ?_) fun n hn => ?_)
   ·obtain ⟨t, xs, hx⟩ := hfr
    (rw [enc_len] at hj); (have hl := take_some (ident i 1) 0 (enc (sig f).all r) j t xs (by rw [enc_len]; exact hj) hx); (rw [Nat.zero_add] at hl); (have hmem := look_mem hl); (have e : ident i 1 + j = ident i (1 + j) := by unfold ident; omega); (rw [e] at hmem ⊢)
    exact new_row (L := L) (i := i) (o := o) (c := 1 + j) (x := some ⟨t, false, xs⟩) (List.mem_append_left _ (List.mem_append_left _ hmem)) (by omega)
   ·have A := at_of h hc hd
    rw [← e2] at A
    exact A.dst n hn
  | panicked chain => exact he.elim
  | outgrown => exact he.elim
 ·cases hcd
end
end Go.Proofs.YtfeikakkfnnaoaaGreatDoor.V
namespace Go.Proofs.YtfeikakkfnnaoaaGreatDoor.V
open Go
set_option linter.unusedVariables false
set_option linter.unusedSimpArgs false
structure CallOk (P : Program) (L : Lay) (Tab : TabP) (E : Ent) (sig : FuncId → Sig) (call : (f : FuncId) → List (SV L.D) → Option (RT L.D (sig f).all)) : Prop where
 meets : ∀ f az r, call f az = some r → Meets P L Tab (sig f) f az r ∧ Callable P f
 small : ∀ f, (sig f).all.length ≤ 900
 tab : Tab E.F0 E.w0
 kept : TabKept Tab
section
variable {P : Program} {L : Lay} {E : Ent} {V : Vl} {a : Act} {w : World} {sig : FuncId → Sig} {call : (f : FuncId) → List (SV L.D) → Option (RT L.D (sig f).all)} {ρ : Type}
def Made1 (sig : FuncId → Sig) (call : (f : FuncId) → List (SV L.D) → Option (RT L.D (sig f).all)) (i : Nat) (st : St L.D) (o : Oper) (d : Dl L.D) : Prop :=
 valD L sig i st o = some (.val true d) ∨ ∃ f az k r, valD L sig i st o = some (.call f az k) ∧ call f az = some r ∧ d = k r
theorem valK_made {i : Nat} {st : St L.D} {o : Oper} {K : Dl L.D → Option ρ} {x : ρ} (h : valK L sig call true i st o K = some x) : ∃ d, Made1 sig call i st o d ∧ K d = some x := by
 unfold valK at h
 split at h
 ·rename_i c d hv
  unfold chk at h
  split at h
  ·rename_i hc
   (have : c = true := by simpa using hc); (subst this)
   exact ⟨d, .inl hv, h⟩
  ·cases h
 ·rename_i f az k hv
  simp only [gcall] at h
  cases hc : call f az with
  | none => rw [hc] at h; cases h
  | some r => rw [hc] at h; exact ⟨k r, .inr ⟨f, az, k, r, hv, hc, rfl⟩, h⟩
 ·cases h
theorem valK_not {i : Nat} {st : St L.D} {o : Oper} {K : Dl L.D → Option ρ} {x : ρ} (h : valK L sig call false i st o K = some x) : ∃ d, K d = some x := by
 unfold valK at h
 split at h
 ·rename_i c d hv
  unfold chk at h
  split at h
  ·exact ⟨d, h⟩
  ·cases h
 ·rename_i f az k hv
  exact ⟨_, h⟩
 ·cases h
def Made (sig : FuncId → Sig) (call : (f : FuncId) → List (SV L.D) → Option (RT L.D (sig f).all)) (ops : List Oper) (i : Nat) (st : St L.D) (o : Oper) (d : Dl L.D) : Prop :=
 match o.guard with
 | none => Made1 sig call i st o d
 | some (j, wt) => ∃ (p : Oper) (n : Nat) (g : Bool) (gl : List (Nat × Bool)) (s : SV L.D) (ks : List Nat) (q : Option Nat) (B : List (Nat × Option (List (SV L.D)))), ops[j]? = some p ∧ p.dst = some n ∧ notDst n o.dst = true ∧ guardOf L st 8 n wt = some (g, gl) ∧ d = { val := .gd n wt s, boxes := B, rows := ks.map fun k => (k, none), ctr := q } ∧ (g = false → (q = none ∨ q = st.ctr) ∧ ∀ b x, (b, x) ∈ B → ∃ cs, x = some cs ∧ st.box b = some cs) ∧
   (g = true → ∃ d', Made1 sig call i { st with tmps := ungAll L gl st.tmps } o d' ∧ d'.boxes = B ∧ newRows L i d'.rows = true ∧ d'.ctr = q ∧ ks = d'.rows.map (·.1) ∧ froze L d'.rows d'.val = s)
theorem flip_eq (w b : Bool) : flip_ w b = (b == w) := by cases w <;> cases b <;> rfl
theorem sel1_true {a b c : SV L.D} (h : sel1 L true a b = some c) : c = a := by
 unfold sel1 at h
 split at h
 ·split at h
  ·exact (Option.some.inj h).symm
  ·cases h
 ·exact (Option.some.inj h).symm
 ·exact (Option.some.inj h).symm
 ·split at h
  ·exact (Option.some.inj h).symm
  ·cases h
 ·cases h
theorem sel1_false {a b c : SV L.D} (h : sel1 L false a b = some c) : c = b := by
 unfold sel1 at h
 split at h
 ·split at h
  ·rename_i e; subst e; exact (Option.some.inj h).symm
  ·cases h
 ·exact (Option.some.inj h).symm
 ·exact (Option.some.inj h).symm
 ·split at h
  ·rename_i hc
   (obtain ⟨e, rfl⟩ := castL_eq hc); (subst e)
   exact (Option.some.inj h).symm
  ·cases h
 ·cases h
theorem selL_true : ∀ {l m c : List (SV L.D)}, selL L true l m = some c → c = l
 | [], [], c, h => (Option.some.inj h).symm
 | [], _ :: _, c, h => by cases h
 | _ :: _, [], c, h => by cases h
 | a :: l, b :: m, c, h => by
  simp only [selL] at h
  split at h
  ·rename_i h1 h2
   rw [← Option.some.inj h, sel1_true h1, selL_true h2]
  ·cases h
theorem selL_false : ∀ {l m c : List (SV L.D)}, selL L false l m = some c → c = m
 | [], [], c, h => (Option.some.inj h).symm
 | [], _ :: _, c, h => by cases h
 | _ :: _, [], c, h => by cases h
 | a :: l, b :: m, c, h => by
  simp only [selL] at h
  split at h
  ·rename_i h1 h2
   rw [← Option.some.inj h, sel1_false h1, selL_false h2]
  ·cases h
theorem selB_true {st : St L.D} : ∀ {l B : List (Nat × Option (List (SV L.D)))}, selB L st true l = some B → l = B
 | [], B, h => Option.some.inj h
 | (b, none) :: l, B, h => by cases h
 | (b, some cs) :: l, B, h => by
  simp only [selB] at h
  split at h
  ·split at h
   ·rename_i h1 h2
    rw [← Option.some.inj h, selL_true h1, selB_true h2]
   ·cases h
  ·cases h
theorem selB_false {st : St L.D} : ∀ {l B : List (Nat × Option (List (SV L.D)))}, selB L st false l = some B → ∀ b x, (b, x) ∈ B → ∃ cs, x = some cs ∧ st.box b = some cs
 | [], B, h, b, x, hm => by
  rw [← Option.some.inj h] at hm; cases hm
 | (b0, none) :: l, B, h, _, _, _ => by cases h
 | (b0, some cs) :: l, B, h, b, x, hm => by
  simp only [selB] at h
  split at h
  ·rename_i old hb
   split at h
   ·rename_i x0 r h1 h2
    rw [← Option.some.inj h] at hm
    rcases List.mem_cons.1 hm with e | hm
    ·obtain ⟨rfl, rfl⟩ := Prod.mk.inj e
     exact ⟨_, rfl, by rw [hb, selL_false h1]⟩
    ·exact selB_false h2 b x hm
   ·cases h
  ·cases h
theorem ctrG_true {a b : Option Nat} (h : okG a b = true) : a = ctrG true a b := by
 cases a <;> cases b <;> first | rfl | cases h
theorem ctrG_false {a b : Option Nat} : ctrG false a b = none ∨ ctrG false a b = b := by
 cases a <;> cases b <;> first | exact .inl rfl | exact .inr rfl
theorem oneK_made {ops : List Oper} {i : Nat} {st : St L.D} {o : Oper} {next : Dl L.D → Option ρ} {x : ρ} (h : oneK L sig call ops i st o next = some x) : ∃ d, Made sig call ops i st o d ∧ next d = some x := by
 unfold oneK at h
 unfold Made
 split at h
 ·rename_i hg
  obtain ⟨d, h1, h2⟩ := valK_made h
  exact ⟨d, by rw [hg]; exact h1, h2⟩
 ·rename_i j wt hg
  split at h
  ·rename_i p hp
   split at h
   ·rename_i n hn
    split at h
    ·rename_i g gl hb
     cases g with
     | true =>
      obtain ⟨d', h1, h2⟩ := valK_made h
      split at h2
      ·rename_i e1 e2
       rw [Bool.and_eq_true, Bool.and_eq_true] at e2
       exact ⟨_, by rw [hg]; exact ⟨p, n, true, gl, _, d'.rows.map (·.1), _, _, hp, hn, e2.1.2, hb, by rw [List.map_map]; rfl, (fun e => by cases e), fun _ => ⟨d', h1, selB_true e1, e2.1.1, ctrG_true e2.2, rfl, rfl⟩⟩, h2⟩
      ·cases h2
     | false =>
      obtain ⟨d', h2⟩ := valK_not h
      split at h2
      ·rename_i e1 e2
       rw [Bool.and_eq_true, Bool.and_eq_true] at e2
       exact ⟨_, by rw [hg]; exact ⟨p, n, false, gl, _, d'.rows.map (·.1), _, _, hp, hn, e2.1.2, hb, by rw [List.map_map]; rfl, fun _ => ⟨ctrG_false, selB_false e1⟩, fun e => by cases e⟩, h2⟩
      ·cases h2
    ·cases h
   ·cases h
  ·cases h
theorem Out.wp {st : St L.D} {o : Oper} {d : Dl L.D} (h : Out P L E st o a w d) {K : Act → World → Prop} {Q : Exit → Act → World → Prop} (hK : ∀ V' v w', Rel L E (st.put o.dst d) V' (a.put o.dst v) w' → K (a.put o.dst v) w') : o.wp P a w K Q := by
 obtain ⟨nx, w', hr, V', h1 | h1⟩ := h
 ·obtain ⟨v, rfl, hrel⟩ := h1
  unfold Oper.wp
  rw [hr]
  exact hK V' v w' hrel
 ·obtain ⟨rfl, hrel⟩ := h1
  unfold Oper.wp
  rw [hr]
  exact hK V' undef w' hrel
theorem made1_ok (hL : LayOk P L) {Tab : TabP} (hC : CallOk P L Tab E sig call) {st : St L.D} (h : Rel L E st V a w) {i : Nat} {o : Oper} {d : Dl L.D} (hm : Made1 sig call i st o d) (hc : clean st (newOf L i o d) = true) (hd : dstOk E.nt o.dst = true)
  {K : Act → World → Prop} {Q : Exit → Act → World → Prop} (hK : ∀ V' v w', Rel L E (st.put o.dst d) V' (a.put o.dst v) w' → K (a.put o.dst v) w') : o.wp P a w K Q := by
 rcases hm with hv | ⟨f, az, k, r, hv, hr, rfl⟩
 ·exact (val_ok hL h hv hc hd).wp hK
 ·obtain ⟨m1, m2⟩ := hC.meets f az r hr
  exact call_ok hL h hv hC.tab hC.kept m1 m2 (hC.small f) hc hd hK
theorem Rel.fewer {st st' : St L.D} (h : Rel L E st V a w) (hb : ∀ b, st'.box b = st.box b) (hr : ∀ i r, st'.row i = some r → st.row i = some r) (hi : st'.imps = st.imps) (hct : st'.ctr = st.ctr) (hc0 : st'.c0 = st.c0) (ht : Le w w (Fz E st V w) (Fz E st' V w) → Same L w w (Fz E st V w) (Fz E st' V w) st st' V V a.tmps a.tmps (fun _ => False) → ∀ n, SR L w (Fz E st' V w) st' V a.tmps (st'.tmp n) (a.tmps.getD n undef)) : Rel L E st' V a w := by
 (have lab : ∀ {l}, Lab st' l → Lab st l := fun {l} h => by unfold Lab at h ⊢; rw [hct, hc0] at h; exact h); (have lab' : ∀ {l}, Lab st l → Lab st' l := fun {l} h => by unfold Lab; rw [hct, hc0]; exact h)
 have ow : ∀ k, Ow st' V k → Ow st V k := fun k hk => by
  rcases hk with (⟨b, cs, h1, h2⟩ | ⟨i, r, h1, h2⟩) | ⟨l, hl, e⟩
  ·exact .inl (.inl ⟨b, cs, by rw [← hb]; exact h1, h2⟩)
  ·exact .inl (.inr ⟨i, r, hr i r h1, h2⟩)
  ·exact .inr ⟨l, lab hl, e⟩
 have fz : Le w w (Fz E st V w) (Fz E st' V w) := .sub (fun k hk => by
  rcases hk with hk | ⟨h1, h2, h3⟩
  ·exact .inl hk
  ·exact .inr ⟨h1, h2, fun ho => h3 (ow k ho)⟩) fun l v hl => hl.imp id fun ⟨h1, h2⟩ => ⟨lab' h1, h2⟩
 have S : Same L w w (Fz E st V w) (Fz E st' V w) st st' V V a.tmps a.tmps (fun _ => False) := ⟨fz, fun i r' _ h' => ⟨r', hr i r' h', rfl, rfl, rfl⟩, fun b cs' _ h' => ⟨cs', by rw [← hb]; exact h', rfl, rfl⟩, fun _ _ => rfl⟩
 refine ⟨ht fz S, fun b cs h' => ?_, fun i r h' => ?_, fun b b' cs cs' h1 h2 => h.bb b b' cs cs' (by rw [← hb]; exact h1) (by rw [← hb]; exact h2), fun b cs i r h1 h2 => h.br b cs i r (by rw [← hb]; exact h1) (hr i r h2), fun i i' r r' k h1 h2 => h.rr i i' r r' k (hr i r h1) (hr i' r' h2), fun k hk => h.own k (ow k hk), h.old, h.fimp, h.size, h.kept, h.os, h.tape, h.output, h.defers, h.slots, fun q hq => ?_, by rw [hi]; exact h.impN, fun l hl => h.lab l (lab hl), fun l b cs hl h1 => h.lbx l b cs (lab hl) (by rw [← hb]; exact h1), fun l i r k hl h1 => h.lrw l i r k (lab hl) (hr i r h1), fun l l' k hl hl' => h.ll l l' k (lab hl) (lab hl'), fun n hn => by rw [hc0]; exact h.labF n (by rw [← hct]; exact hn), h.oldL, fun n hn => by rw [hc0]; exact h.qc n (by rw [← hct]; exact hn)⟩
 ·rw [hb] at h'
  obtain ⟨vs, T, g1, g2, g3⟩ := h.box b cs h'
  refine ⟨vs, T, g1, g2, fun j hj => ?_⟩
  obtain ⟨u, k1, k2, k3⟩ := g3 j hj
  exact ⟨u, k1, k2, k3.same S fun k hk => hk.elim⟩
 ·obtain ⟨p, q⟩ := h.row i r (hr i r h')
  exact ⟨fun hf => (p hf).mono fz, fun hf => (q hf).mono fz fun _ _ => rfl⟩
 ·have hq' : q < st.imps.length := by rw [← hi]; exact hq
  (obtain ⟨cs, p, g1, g2⟩ := h.imps q hq'); (have e : st'.imps[q] = st.imps[q] := by simp only [hi]); (rw [e])
  exact ⟨cs, p, by rw [hb]; exact g1, g2⟩
theorem Rel.less {st st' : St L.D} (h : Rel L E st V a w) (hb : ∀ b, st'.box b = st.box b) (hr : ∀ i, st'.row i = st.row i) (hi : st'.imps = st.imps) (hct : st'.ctr = st.ctr) (hc0 : st'.c0 = st.c0) (ht : ∀ n, SR L w (Fz E st V w) st V a.tmps (st.tmp n) (a.tmps.getD n undef) → SR L w (Fz E st V w) st V a.tmps (st'.tmp n) (a.tmps.getD n undef)) : Rel L E st' V a w :=
 h.fewer hb (fun i r h' => by rw [← hr]; exact h') hi hct hc0 fun _ S n => (ht n (h.tmp n)).same S fun _ hk => hk.elim
theorem look_ungs (n : Nat) (wt : Bool) : ∀ (l : List (Nat × SV L.D)) (m : Nat), look (ungs L n wt l) m = (look l m).map (ung1 L n wt)
 | [], _ => rfl
 | (k, s) :: l, m => by
  (simp only [ungs]); (rw [look_cons, look_cons])
  by_cases e : m = k
  ·rw [if_pos e, if_pos e]; rfl
  ·rw [if_neg e, if_neg e]; exact look_ungs n wt l m
theorem tmp_ung {st : St L.D} (n : Nat) (wt : Bool) (m : Nat) : St.tmp { st with tmps := ungs L n wt st.tmps } m = ung1 L n wt (st.tmp m) := by
 unfold St.tmp
 rw [look_ungs]
 cases look st.tmps m <;> rfl
theorem ung1_cases (n : Nat) (wt : Bool) (s : SV L.D) : (∃ s', s = .gd n wt s' ∧ ung1 L n wt s = s') ∨ ung1 L n wt s = s := by
 cases s with
 | gd j w' s =>
  unfold ung1
  cases hb : Nat.beq j n with
  | false => right; simp only [hb]
  | true =>
   obtain rfl := Nat.eq_of_beq_eq_true hb
   cases w' <;> cases wt <;> first | (left; exact ⟨s, rfl, by simp only [hb]⟩) | (right; simp only [hb])
 | _ => exact .inr rfl
theorem ment_ung {n : Nat} {wt : Bool} {k : Key} {s : SV L.D} (h : ment k s = false) : ment k (ung1 L n wt s) = false := by
 rcases ung1_cases n wt s with ⟨s', rfl, e⟩ | e
 ·rw [e]
  simp only [ment, Bool.or_eq_false_iff] at h
  exact h.2
 ·rw [e]; exact h
theorem mentT_ungs {n : Nat} {wt : Bool} {k : Key} : ∀ {l : List (Nat × SV L.D)}, mentT k l = false → mentT k (ungs L n wt l) = false
 | [], _ => rfl
 | (m, s) :: l, h => by
  (simp only [mentT, Bool.or_eq_false_iff] at h); (simp only [ungs, mentT, Bool.or_eq_false_iff])
  exact ⟨ment_ung h.1, mentT_ungs h.2⟩
theorem clean_ungs {st : St L.D} {n : Nat} {wt : Bool} : ∀ {ks : List Key}, clean st ks = true → clean { st with tmps := ungs L n wt st.tmps } ks = true
 | [], _ => rfl
 | k :: l, h => by
  simp only [clean, Bool.and_eq_true, Bool.not_eq_true'] at h ⊢
  exact ⟨⟨⟨mentT_ungs h.1.1.1, h.1.1.2⟩, h.1.2⟩, clean_ungs h.2⟩
def ungA : List (Nat × Bool) → SV L.D → SV L.D
 | [], s => s
 | (n, w) :: g, s => ungA g (ung1 L n w s)
theorem tmp_ungAll : ∀ (gl : List (Nat × Bool)) (st : St L.D) (m : Nat), St.tmp { st with tmps := ungAll L gl st.tmps } m = ungA gl (st.tmp m)
 | [], _, _ => rfl
 | (n, wt) :: g, st, m => by
  (have := tmp_ungAll g { st with tmps := ungs L n wt st.tmps } m); (simp only [ungAll, ungA]); (rw [← tmp_ung n wt m])
  exact this
theorem clean_ungAll : ∀ {gl : List (Nat × Bool)} {st : St L.D} {ks : List Key}, clean st ks = true → clean { st with tmps := ungAll L gl st.tmps } ks = true
 | [], _, _, h => h
 | (n, wt) :: g, st, ks, h => clean_ungAll (gl := g) (st := { st with tmps := ungs L n wt st.tmps }) (clean_ungs (n := n) (wt := wt) h)
theorem ungA_down {F : FS} {st : St L.D} {tm : Array Value} : ∀ {gl : List (Nat × Bool)} {s : SV L.D} {v : Value}, (∀ m u, (m, u) ∈ gl → tm.getD m undef = .bool u) → SR L w F st V tm s v → SR L w F st V tm (ungA gl s) v
 | [], _, _, _, h => h
 | (n, wt) :: g, s, v, hg, h => by
  refine ungA_down (gl := g) (fun m u hm => hg m u (List.mem_cons_of_mem _ hm)) ?_
  rcases ung1_cases n wt s with ⟨s', rfl, e⟩ | e
  ·rw [e]; exact h.gd_inv (hg n wt List.mem_cons_self)
  ·rw [e]; exact h
theorem ungA_up {F : FS} {st : St L.D} {tm : Array Value} : ∀ {gl : List (Nat × Bool)} {s : SV L.D} {v : Value}, (∀ m u, (m, u) ∈ gl → ment (0, m) s = true → tm.getD m undef = .bool u) → SR L w F st V tm (ungA gl s) v → SR L w F st V tm s v
 | [], _, _, _, h => h
 | (n, wt) :: g, s, v, hg, h => by
  rcases ung1_cases n wt s with ⟨s', rfl, e⟩ | e
  ·simp only [ungA, e] at h
   (have hn := hg n wt List.mem_cons_self (by simp [ment, keyEq])); (have := ungA_up (gl := g) (fun m u hm hk => hg m u (List.mem_cons_of_mem _ hm) (by simp only [ment, Bool.or_eq_true]; exact .inr hk)) h)
   exact .gd n wt s' v (fun _ => this) fun hne => absurd hn hne
  ·simp only [ungA, e] at h
   exact ungA_up (gl := g) (fun m u hm hk => hg m u (List.mem_cons_of_mem _ hm) hk) h
theorem guard_sem {st : St L.D} (h : Rel L E st V a w) : ∀ {q n : Nat} {wt g : Bool} {gl : List (Nat × Bool)}, guardOf L st q n wt = some (g, gl) →
  (g = true → a.tmps.getD n undef = .bool wt ∧ ∀ m u, (m, u) ∈ gl → a.tmps.getD m undef = .bool u) ∧ (g = false → a.tmps.getD n undef ≠ .bool wt) ∧ ∀ m u, (m, u) ∈ gl → m = n ∨ ∃ x, ment (0, m) (st.tmp x) = true
 | 0, _, _, _, _, hg => by cases hg
 | q + 1, n, wt, g, gl, hg => by
  simp only [guardOf] at hg
  split at hg
  ·rename_i b hb
   (obtain ⟨rfl, rfl⟩ := Prod.mk.inj (Option.some.inj hg)); (have hv := (hb ▸ h.tmp n).v_inv.1); (rw [flip_eq])
   refine ⟨fun e => ?_, fun e => ?_, fun m u hm => ?_⟩
   ·obtain rfl : b = wt := by simpa using e
    refine ⟨hv, fun m u hm => ?_⟩
    obtain ⟨rfl, rfl⟩ := Prod.mk.inj (List.mem_singleton.1 hm)
    exact hv
   ·intro he
    rw [hv] at he
    injection he with he
    rw [he] at e; simp at e
   ·obtain ⟨rfl, rfl⟩ := Prod.mk.inj (List.mem_singleton.1 hm)
    exact .inl rfl
  ·rename_i m u b hb
   split at hg
   ·rename_i c l hc
    (obtain ⟨rfl, rfl⟩ := Prod.mk.inj (Option.some.inj hg)); (obtain ⟨h1, h2, h3⟩ := guard_sem h hc); (have hs := hb ▸ h.tmp n); (rw [flip_eq])
    refine ⟨fun e => ?_, fun e => ?_, fun m' u' hm => ?_⟩
    ·rw [Bool.and_eq_true] at e
     (obtain ⟨g1, g2⟩ := h1 e.1); (obtain rfl : b = wt := by simpa using e.2); (have hv := (hs.gd_inv g1).v_inv.1)
     refine ⟨hv, fun m' u' hm => ?_⟩
     rcases List.mem_append.1 hm with hm | hm
     ·exact g2 m' u' hm
     ·obtain ⟨rfl, rfl⟩ := Prod.mk.inj (List.mem_singleton.1 hm)
      exact hv
    ·cases c with
     | true =>
      have hv := (hs.gd_inv (h1 rfl).1).v_inv.1
      intro he
      rw [hv] at he
      injection he with he
      rw [he] at e; simp at e
     | false =>
      have hv := hs.gd_und (h2 rfl)
      intro he
      rw [hv] at he
      cases he
    ·rcases List.mem_append.1 hm with hm | hm
     ·rcases h3 m' u' hm with rfl | hx
      ·exact .inr ⟨n, by rw [hb]; simp [ment, keyEq]⟩
      ·exact .inr hx
     ·obtain ⟨rfl, rfl⟩ := Prod.mk.inj (List.mem_singleton.1 hm)
      exact .inl rfl
   ·cases hg
  ·cases hg
theorem newRows_mem {i : Nat} : ∀ {rows : List (Nat × Option (Row L.D))}, newRows L i rows = true → ∀ j o, (j, o) ∈ rows → ∃ r, o = some r ∧ r.fz = false
 | [], _, _, _, h => by cases h
 | (k, some r) :: l, hn, j, o, h => by
  simp only [newRows, Bool.and_eq_true, Bool.not_eq_true'] at hn
  rcases List.mem_cons.1 h with e | h
  ·obtain ⟨rfl, rfl⟩ := Prod.mk.inj e; exact ⟨r, rfl, hn.1.2⟩
  ·exact newRows_mem hn.2 j o h
 | (k, none) :: l, hn, _, _, _ => by cases hn
theorem look_kill : ∀ (ks : List Nat) (j : Nat), look (ks.map fun k => (k, (none : Option (Row L.D)))) j = if j ∈ ks then some none else none
 | [], j => by simp [look]
 | k :: l, j => by
  rw [List.map_cons, look_cons, look_kill l j]
  by_cases e : j = k
  ·subst e; simp
  ·simp [e]
theorem froz_ok {st2 st3 : St L.D} (h : Rel L E st2 V a w) {rows : List (Nat × Option (Row L.D))} (hrow : ∀ j r, look rows j = some (some r) → st2.row j = some r ∧ r.fz = false) (hz : Le w w (Fz E st2 V w) (Fz E st3 V w)) (hg : ∀ j r k, look rows j = some (some r) → (V.rv j).ownBlock = some k → Fz E st3 V w k)
  (S : Same L w w (Fz E st2 V w) (Fz E st3 V w) st2 st3 V V a.tmps a.tmps (fun _ => False)) {s : SV L.D} {v : Value} (hs : SR L w (Fz E st2 V w) st2 V a.tmps s v) : SR L w (Fz E st3 V w) st3 V a.tmps (froz L rows s) v := by
 have same : SR L w (Fz E st3 V w) st3 V a.tmps s v := hs.same S fun _ hk => hk.elim
 cases s with
 | own j =>
  show SR L w (Fz E st3 V w) st3 V a.tmps (match look rows j with
   | some (some r) => .ro r.t r.xs
   | _ => .own j) v
  cases hl : look rows j with
  | none => exact same
  | some o =>
   cases o with
   | none => exact same
   | some r =>
    (obtain ⟨h1, h2⟩ := hrow j r hl); (rw [hs.own_inv h1])
    exact .c (((h.row j r h1).2 h2).reads hz fun k hk => hg j r k hl hk)
 | _ => exact same
theorem frozL_get (rows : List (Nat × Option (Row L.D))) : ∀ (cs : List (SV L.D)) (j : Nat), (frozL L rows cs).length = cs.length ∧ (frozL L rows cs).getD j .dead = froz L rows (cs.getD j .dead)
 | [], j => ⟨rfl, rfl⟩
 | s :: l, 0 => ⟨by simp [frozL, (frozL_get rows l 0).1], rfl⟩
 | s :: l, j + 1 => ⟨by simp [frozL, (frozL_get rows l 0).1], by simpa [frozL] using (frozL_get rows l j).2⟩
def frozT1 (rows : List (Nat × Option (Row L.D))) : SV L.D → SV L.D
 | .agg cs => .agg (frozL L rows cs)
 | s => froz L rows s
theorem frozT_get (rows : List (Nat × Option (Row L.D))) : ∀ (cs : List (SV L.D)) (j : Nat), (frozT L rows cs).length = cs.length ∧ (frozT L rows cs).getD j .dead = frozT1 rows (cs.getD j .dead)
 | [], j => ⟨rfl, rfl⟩
 | s :: l, 0 => ⟨by cases s <;> simp [frozT, (frozT_get rows l 0).1], by cases s <;> rfl⟩
 | s :: l, j + 1 => ⟨by cases s <;> simp [frozT, (frozT_get rows l 0).1], by have := (frozT_get rows l j).2; cases s <;> simpa [frozT] using this⟩
theorem froze_ok {st2 st3 : St L.D} (h : Rel L E st2 V a w) {rows : List (Nat × Option (Row L.D))} (hrow : ∀ j r, look rows j = some (some r) → st2.row j = some r ∧ r.fz = false) (hz : Le w w (Fz E st2 V w) (Fz E st3 V w)) (hg : ∀ j r k, look rows j = some (some r) → (V.rv j).ownBlock = some k → Fz E st3 V w k)
  (S : Same L w w (Fz E st2 V w) (Fz E st3 V w) st2 st3 V V a.tmps a.tmps (fun _ => False)) {s : SV L.D} {v : Value} (hs : SR L w (Fz E st2 V w) st2 V a.tmps s v) : SR L w (Fz E st3 V w) st3 V a.tmps (froze L rows s) v := by
 have agg : ∀ {cs : List (SV L.D)} {v : Value}, SR L w (Fz E st2 V w) st2 V a.tmps (.agg cs) v → SR L w (Fz E st3 V w) st3 V a.tmps (.agg (frozL L rows cs)) v := fun {cs v} hs => by
  obtain ⟨vs, rfl, hl, h1, hj⟩ := hs.agg_inv
  refine .agg _ vs (by rw [(frozL_get rows cs 0).1]; exact hl) h1 fun j hj' => ?_
  (rw [(frozL_get rows cs 0).1] at hj'); (rw [(frozL_get rows cs j).2])
  exact froz_ok h hrow hz hg S (hj j hj')
 cases s with
 | agg cs => exact agg hs
 | tup cs =>
  obtain ⟨vs, rfl, hl, hj⟩ := hs.tup_inv
  refine .tup _ vs (by rw [(frozT_get rows cs 0).1]; exact hl) fun j hj' => ?_
  (rw [(frozT_get rows cs 0).1] at hj'); (rw [(frozT_get rows cs j).2]); (have := hj j hj')
  generalize cs.getD j .dead = x at this
  cases x with
  | agg ds => exact agg this
  | _ => exact froz_ok h hrow hz hg S this
 | _ => exact froz_ok h hrow hz hg S hs
theorem clean_one {st : St L.D} : ∀ {ks : List Key}, clean st ks = true ↔ ∀ k ∈ ks, clean st [k] = true
 | [] => ⟨fun _ _ h => by (cases h), fun _ => rfl⟩
 | k :: l => by
  (have e : clean st (k :: l) = (clean st [k] && clean st l) := by simp [clean]); (rw [e, Bool.and_eq_true, clean_one (ks := l)])
  constructor
  ·rintro ⟨h1, h2⟩ x hx
   rcases List.mem_cons.1 hx with rfl | hx
   ·exact h1
   ·exact h2 x hx
  ·exact fun h => ⟨h k List.mem_cons_self, fun x hx => h x (List.mem_cons_of_mem _ hx)⟩
theorem clean_sub {st : St L.D} {ks ks' : List Key} (hs : ∀ k ∈ ks', k ∈ ks) (h : clean st ks = true) : clean st ks' = true := clean_one.2 fun k hk => clean_one.1 h k (hs k hk)
theorem getD_bool {tm : Array Value} {n : Nat} {b : Bool} (h : tm.getD n undef = .bool b) : tm[n]? = some (.bool b) := by
 rw [Array.getD_eq_getD_getElem?] at h
 cases hx : tm[n]? with
 | none => rw [hx] at h; cases h
 | some v => rw [hx] at h; exact congrArg some h
theorem made_ok (hL : LayOk P L) {Tab : TabP} (hC : CallOk P L Tab E sig call) {ops : Array Oper} {st : St L.D} (h : Rel L E st V a w) {i : Nat} {o : Oper} {d : Dl L.D} (hm : Made sig call ops.toList i st o d) (hc : clean st (newOf L i o d) = true) (hd : dstOk E.nt o.dst = true)
  {K : Act → World → Prop} {Q : Exit → Act → World → Prop} (hK : ∀ V' v w', Rel L E (st.put o.dst d) V' (a.put o.dst v) w' → K (a.put o.dst v) w') :
  if Region.wanted o (yielded ops a.tmps) then o.wp P a w K Q else K (a.put o.dst undef) w := by
 have A := at_of h hc hd
 unfold Made at hm
 cases hg : o.guard with
 | none =>
  (rw [hg] at hm); (simp only [Region.wanted, hg, if_true])
  exact made1_ok hL hC h hm hc hd hK
 | some g =>
  (obtain ⟨j, wt⟩ := g); (rw [hg] at hm); (obtain ⟨p, n, g, gl, s, ks, q0, B, hp, hn, hnd, hb, rfl, hq0, hw⟩ := hm); (obtain ⟨s1, s2, s3⟩ := guard_sem h hb)
  have hdn : ∀ t, o.dst = some t → n ≠ t := fun t ht e => by
   rw [ht] at hnd; subst e; simp [notDst] at hnd
  have hy : yielded ops a.tmps j = match a.tmps[n]? with | some (.bool b) => some b | _ => none := by
   unfold yielded
   (have : (ops[j]?).bind (·.dst) = some n := by rw [← Array.getElem?_toList, hp]; exact hn); (rw [this])
   rfl
  simp only [Region.wanted, hg]
  cases g with
  | true =>
   (obtain ⟨g1, g2⟩ := s1 rfl); (have hyt : (yielded ops a.tmps j == some wt) = true := by rw [hy, getD_bool g1]; simp); (rw [if_pos hyt]); (obtain ⟨d', m1, m2, m3, m6, m4, m5⟩ := hw rfl); (subst m4 m5)
   have h' : Rel L E { st with tmps := ungAll L gl st.tmps } V a w := h.less (fun _ => rfl) (fun _ => rfl) rfl rfl rfl fun m hs => by
    rw [tmp_ungAll]; exact ungA_down g2 hs
   have hsub : ∀ k, k ∈ newOf L i o d' → k ∈ newOf L i o { val := .gd n wt (froze L d'.rows d'.val), boxes := B, rows := (d'.rows.map (·.1)).map fun k => (k, none), ctr := q0 } := fun k hk => by
    unfold newOf at hk ⊢
    rw [m2] at hk
    simpa [List.map_map, Function.comp_def] using hk
   have hsub' : newOf L i o { val := .gd n wt (froze L d'.rows d'.val), boxes := B, rows := (d'.rows.map (·.1)).map fun k => (k, none), ctr := q0 } = newOf L i o d' := by
    unfold newOf; rw [m2]; simp [List.map_map, Function.comp_def]
   refine made1_ok hL hC h' m1 (by rw [← hsub']; exact clean_ungAll hc) hd fun V' v w' hrel => hK V' v w' ?_
   have hrows : ∀ k x, look d'.rows k = some x → ∃ r, x = some r ∧ r.fz = false := fun k x hx => newRows_mem m3 k x (look_mem hx)
   have hr2 : ∀ k r, look d'.rows k = some (some r) → (St.put { st with tmps := ungAll L gl st.tmps } o.dst d').row k = some r ∧ r.fz = false := fun k r hl => by
    (obtain ⟨r', e, hf⟩ := hrows k _ hl); (obtain rfl := Option.some.inj e)
    exact ⟨by rw [row_put, hl], hf⟩
   have hkill : ∀ k r, (st.put o.dst { val := .gd n wt (froze L d'.rows d'.val), boxes := B, rows := (d'.rows.map (·.1)).map fun k => (k, none), ctr := q0 }).row k = some r → look d'.rows k = none ∧ st.row k = some r := fun k r hkr => by
    (rw [row_put] at hkr); (simp only [look_kill] at hkr)
    by_cases hm : k ∈ d'.rows.map (·.1)
    ·rw [if_pos hm] at hkr; cases hkr
    ·rw [if_neg hm] at hkr
     refine ⟨look_none fun x hx => hm (List.mem_map.2 ⟨_, hx, rfl⟩), hkr⟩
   refine hrel.fewer (fun b => by rw [box_put, box_put, m2]; rfl) (fun k r hkr => ?_) rfl (by simp only [St.put, m6]) rfl fun hz S m => ?_
   ·obtain ⟨k1, k2⟩ := hkill k r hkr
    rw [row_put, k1]; exact k2
   ·-- the slots
    have hg' : ∀ k r q, look d'.rows k = some (some r) → (V'.rv k).ownBlock = some q → Fz E (st.put o.dst { val := .gd n wt (froze L d'.rows d'.val), boxes := B, rows := (d'.rows.map (·.1)).map fun k => (k, none), ctr := q0 }) V' w' q := fun k r q hl hq => by
     (obtain ⟨k1, k2⟩ := hr2 k r hl); (have hO' : Ob (St.put { st with tmps := ungAll L gl st.tmps } o.dst d') V' q := .inr ⟨k, r, k1, k2, hq⟩); (have hO : Ow (St.put { st with tmps := ungAll L gl st.tmps } o.dst d') V' q := .inl hO')
     refine .inr ⟨(hrel.own q hO).2, hrel.ow_lt hO, fun ho => ?_⟩
     rcases ho with (⟨b, cs, b1, b2⟩ | ⟨k', r', b1, b2, b3⟩) | ⟨l, hl, e⟩
     ·have b1' : (St.put { st with tmps := ungAll L gl st.tmps } o.dst d').box b = some cs := by
       rw [box_put] at b1 ⊢; rw [m2]; exact b1
      exact hrel.br b cs k r b1' k1 k2 (by rw [hq, b2])
     ·obtain ⟨e1, e2⟩ := hkill k' r' b1
      (have b1' : (St.put { st with tmps := ungAll L gl st.tmps } o.dst d').row k' = some r' := by rw [row_put, e1]; exact e2); (obtain rfl := hrel.rr k k' r r' q k1 b1' k2 b2 hq b3); (rw [hl] at e1; cases e1)
     ·refine hrel.lab_ob (l := l) ?_ e hO'
      unfold Lab at hl ⊢
      simp only [St.put, m6] at hl ⊢
      exact hl
    have old : ∀ m, (∀ t, o.dst = some t → m ≠ t) → SR L w' (Fz E (st.put o.dst { val := .gd n wt (froze L d'.rows d'.val), boxes := B, rows := (d'.rows.map (·.1)).map fun k => (k, none), ctr := q0 }) V' w') (st.put o.dst { val := .gd n wt (froze L d'.rows d'.val), boxes := B, rows := (d'.rows.map (·.1)).map fun k => (k, none), ctr := q0 }) V' (a.put o.dst v).tmps (st.tmp m) ((a.put o.dst v).tmps.getD m undef) := fun m hm => by
     have hs := (hrel.tmp m).same S fun _ hk => hk.elim
     have e : (St.put { st with tmps := ungAll L gl st.tmps } o.dst d').tmp m = ungA gl (st.tmp m) := by
      cases hdst : o.dst with
      | none => rw [tmp_put_none, tmp_ungAll]
      | some t => rw [tmp_put_other _ (hm t hdst), tmp_ungAll]
     rw [e] at hs
     refine ungA_up (fun q u hq hk => ?_) hs
     have : ∀ t, o.dst = some t → q ≠ t := fun t ht e' => by
      (have := clean_tmp hc (A.dst t ht).1 m); (rw [e'] at hk; rw [hk] at this; cases this)
     cases hdst : o.dst with
     | none => exact g2 q u hq
     | some t => rw [put_getD_other (this t hdst)]; exact g2 q u hq
    cases hdst : o.dst with
    | none =>
     (rw [hdst] at old); (rw [tmp_put_none]; exact old m (fun t ht => by cases ht))
    | some t =>
     by_cases e : m = t
     ·subst e
      (rw [tmp_put_same]); (have hx := hrel.tmp m); (rw [hdst, tmp_put_same] at hx); (rw [hdst] at hrel S hg' hr2 hz); (have := froze_ok hrel hr2 hz hg' S hx)
      refine .gd n wt _ _ (fun _ => this) fun hne => absurd ?_ hne
      rw [put_getD_other (hdn m hdst)]; exact g1
     ·rw [hdst] at old
      rw [tmp_put_other _ e]; exact old m (fun t' ht => by injection ht with ht; subst ht; exact e)
  | false =>
   have hne0 := s2 rfl
   have hne : (yielded ops a.tmps j == some wt) = false := by
    (rw [hy]); (have : a.tmps[n]? ≠ some (.bool wt) := fun e => hne0 (by rw [Array.getD_eq_getD_getElem?, e]; rfl))
    split
    ·rename_i b e
     have hb' : b ≠ wt := fun e' => this (by rw [e, e'])
     simpa using hb'
    ·rfl
   (rw [hne]); (simp only [Bool.false_eq_true, if_false])
   have hc1 : clean st (newOf L i o ({ val := SV.gd n wt s } : Dl L.D)) = true := clean_sub (fun k hk => by
    unfold newOf at hk ⊢
    simp only [List.map_nil, List.filter_nil, List.append_nil] at hk
    exact List.mem_append_left _ (List.mem_append_left _ hk)) hc
   have h1 : Rel L E (st.put o.dst { val := .gd n wt s }) V (a.put o.dst undef) w := by
    refine h.turn hc1 (at_of h hc1 hd).dst ((Ch.keep h _ o.dst _ _ (fun _ _ => rfl) (Nat.le_refl _) rfl rfl rfl).turn h) fun t ht => ?_
    refine .gd n wt s undef (fun he => ?_) fun _ => rfl
    exfalso
    rw [ht, put_getD_other (hdn t ht)] at he
    exact hne0 he
   have hq1 : orElse_ q0 st.ctr = st.ctr := by
    rcases (hq0 rfl).1 with e | e
    ·rw [e]; rfl
    ·rw [e]; cases st.ctr <;> rfl
   refine hK V undef w (h1.fewer (fun b => ?_) (fun k r hkr => ?_) rfl hq1 rfl fun hz S m => ?_)
   ·rw [box_put, box_put]
    cases hl : look B b with
    | none => simp only [hl]; rfl
    | some o =>
     (obtain ⟨cs, e1, e2⟩ := (hq0 rfl).2 b o (look_mem hl)); (simp only [hl, e1])
     exact e2.symm
   ·rw [row_put] at hkr ⊢
    simp only [look_kill] at hkr
    by_cases hm : k ∈ ks
    ·rw [if_pos hm] at hkr; cases hkr
    ·rw [if_neg hm] at hkr
     exact hkr
   ·have e : (st.put o.dst ({ val := .gd n wt s, boxes := B, rows := ks.map fun k => (k, none), ctr := q0 } : Dl L.D)).tmp m = (st.put o.dst { val := .gd n wt s }).tmp m := by cases o.dst <;> rfl
    rw [e]
    exact (h1.tmp m).same S fun _ hk => hk.elim
end
end Go.Proofs.YtfeikakkfnnaoaaGreatDoor.V
namespace Go.Proofs.YtfeikakkfnnaoaaGreatDoor.V
open Go
set_option linter.unusedVariables false
set_option linter.unusedSimpArgs false
section
variable {P : Program} {L : Lay} {E : Ent} {sig : FuncId → Sig} {call : (f : FuncId) → List (SV L.D) → Option (RT L.D (sig f).all)} {ρ : Type}
theorem ops_seq (hL : LayOk P L) {Tab : TabP} (hC : CallOk P L Tab E sig call) {ops : Array Oper} {K : St L.D → Option ρ} {x : ρ} {Q : Exit → Act → World → Prop} (hK : ∀ st V a w, K st = some x → Rel L E st V a w → Q .normal a w) :
  ∀ (l : List Oper) (i : Nat) (acc : List (List Key × List Key × List Key)) (st : St L.D) (V : Vl) (a : Act) (w : World), l = ops.toList.drop i → opsK L sig call E.nt ops.toList false i acc l st K = some x → Rel L E st V a w → wpOps P ops Q (List.range' i l.length) a w
 | [], i, acc, st, V, a, w, hl, h, hr => hK st V a w h hr
 | o :: l, i, acc, st, V, a, w, hl, h, hr => by
  have ho : ops[i]? = some o := by
   (have := congrArg (fun m => m[0]?) hl); (simp only [List.getElem?_cons_zero, List.getElem?_drop, Nat.add_zero, Array.getElem?_toList] at this)
   exact this.symm
  have hl' : l = ops.toList.drop (i + 1) := by
   have := congrArg List.tail hl
   simpa [List.tail_drop] using this
  (simp only [opsK] at h); (obtain ⟨d, hm, hn⟩ := oneK_made h)
  split at hn
  ·rename_i hc
   (rw [Bool.and_eq_true] at hc); (have step := made_ok hL hC hr hm hc.1 hc.2 (K := wpOps P ops Q (List.range' (i + 1) l.length)) (Q := Q) fun V' v w' hrel => ops_seq hL hC hK l (i + 1) acc _ V' _ w' hl' hn hrel); (simp only [List.length_cons, List.range'_succ, wpOps, ho])
   split
   ·rename_i hw
    rw [if_pos hw] at step
    exact .inl step
   ·rename_i hw
    rw [if_neg hw] at step
    exact step
  ·cases hn
theorem region_seq (hL : LayOk P L) {Tab : TabP} (hC : CallOk P L Tab E sig call) {ops : Array Oper} {K : St L.D → Option ρ} {x : ρ} {Q : Exit → Act → World → Prop} (hK : ∀ st V a w, K st = some x → Rel L E st V a w → Q .normal a w) {id : Nat} {st : St L.D} {V : Vl} {a : Act} {w : World}
  (h : opsK L sig call E.nt ops.toList false 0 [] ops.toList st K = some x) (hr : Rel L E st V a w) : (Code.region id ops false).wp P Q a w := by
 refine wp_region ?_
 have := ops_seq hL hC hK ops.toList 0 [] st V a w rfl h hr
 rwa [List.range_eq_range', ← Array.length_toList]
end
end Go.Proofs.YtfeikakkfnnaoaaGreatDoor.V
namespace Go.Proofs.YtfeikakkfnnaoaaGreatDoor.V
open Go
set_option linter.unusedVariables false
set_option linter.unusedSimpArgs false
structure Sub {D : TypeId → Type} (st1 st : St D) : Prop where
 box : ∀ b cs, st1.box b = some cs → st.box b = some cs
 row : ∀ j r, st1.row j = some r → st.row j = some r
 ctr : st1.ctr = none ∨ st1.ctr = st.ctr
section
variable {L : Lay} {st1 st : St L.D} {sig : FuncId → Sig}
theorem rowOf_mono (S : Sub st1 st) {s : SV L.D} {r : Row L.D} (h : rowOf L st1 s = some r) : rowOf L st s = some r := by
 cases s <;> first | exact S.row _ _ h | exact h
theorem memo_mono (S : Sub st1 st) {s : SV L.D} {p : List (SV L.D) × Nat} (h : memo s st1 = some p) : memo s st = some p := by
 unfold memo at h ⊢
 split at h
 ·split at h
  ·rename_i cs hb; simp only [S.box _ _ hb]; exact h
  ·cases h
 ·exact h
 ·exact h
 ·split at h
  ·rename_i r hr; simp only [S.row _ _ hr]; exact h
  ·cases h
 ·cases h
theorem good_mono (S : Sub st1 st) {s : SV L.D} (h : good st1 s = true) : good st s = true := by
 cases s <;> simp only [good] at h ⊢ <;> first | exact h | skip
 ·obtain ⟨r, hr⟩ := Option.isSome_iff_exists.1 h; rw [S.row _ _ hr]; rfl
 ·obtain ⟨r, hr⟩ := Option.isSome_iff_exists.1 h; rw [S.box _ _ hr]; rfl
theorem still_mono (S : Sub st1 st) {b : Bool} {c : Option Nat} {s : SV L.D} {p : SV L.D × List (Nat × Option (Row L.D)) × Option Nat} (h : still L b c st1 s = some p) : still L b c st s = some p := by
 cases s with
 | own j =>
  simp only [still] at h ⊢
  cases hr : st1.row j with
  | none => rw [hr] at h; cases b <;> cases h
  | some r => rw [hr] at h; rw [S.row _ _ hr]; exact h
 | _ => exact h
theorem stills_mono (S : Sub st1 st) {b : Bool} : ∀ {c : Option Nat} {l : List (SV L.D)} {p : List (SV L.D) × List (Nat × Option (Row L.D)) × Option Nat}, stills L b c st1 l = some p → stills L b c st l = some p
 | _, [], _, h => h
 | c, s :: l, p, h => by
  simp only [stills] at h ⊢
  split at h
  ·rename_i h1
   simp only [still_mono S h1]
   split at h
   ·rename_i h2; simp only [stills_mono S h2]; exact h
   ·cases h
  ·cases h
theorem still_none {b : Bool} {s s' : SV L.D} {u : List (Nat × Option (Row L.D))} {c1 : Option Nat} (h : still L b none st s = some (s', u, c1)) : c1 = none ∧ labs L u = [] ∧ ∀ c, still L b c st s = some (s', u, c) := by
 have fin : ∀ {x : SV L.D} {y : List (Nat × Option (Row L.D))}, some (x, y, (none : Option Nat)) = some (s', u, c1) → labs L y = [] → c1 = none ∧ labs L u = [] ∧ ∀ c : Option Nat, some (x, y, c) = some (s', u, c) := fun h hl => by
  (obtain ⟨rfl, e⟩ := Prod.mk.inj (Option.some.inj h)); (obtain ⟨rfl, rfl⟩ := Prod.mk.inj e)
  exact ⟨rfl, hl, fun _ => rfl⟩
 cases s with
 | v x => exact fin h rfl
 | nl t => exact fin h rfl
 | ro t xs => cases b with
  | false => exact fin h rfl
  | true => cases h
 | lr l t xs => cases b with
  | true => exact fin h rfl
  | false => cases h
 | own j =>
  simp only [still] at h ⊢
  cases hr : st.row j with
  | none => rw [hr] at h; cases b <;> cases h
  | some r =>
   rw [hr] at h
   cases b with
   | false => exact fin h rfl
   | true =>
    simp only at h
    split at h
    ·rename_i e; cases e
    ·cases h
 | _ => cases h
theorem stills_none {b : Bool} : ∀ {l l' : List (SV L.D)} {u : List (Nat × Option (Row L.D))} {c1 : Option Nat}, stills L b none st l = some (l', u, c1) → c1 = none ∧ labs L u = [] ∧ ∀ c, stills L b c st l = some (l', u, c)
 | [], l', u, c1, h => by
  (simp only [stills] at h); (obtain ⟨rfl, e⟩ := Prod.mk.inj (Option.some.inj h)); (obtain ⟨rfl, rfl⟩ := Prod.mk.inj e)
  exact ⟨rfl, rfl, fun _ => rfl⟩
 | s :: l, l', u, c1, h => by
  simp only [stills] at h
  split at h
  ·rename_i x a c2 h1
   obtain ⟨rfl, g1, g2⟩ := still_none h1
   split at h
   ·rename_i r a' c3 h2
    (obtain ⟨rfl, k1, k2⟩ := stills_none h2); (obtain ⟨rfl, e⟩ := Prod.mk.inj (Option.some.inj h)); (obtain ⟨rfl, rfl⟩ := Prod.mk.inj e)
    exact ⟨rfl, by rw [labs_app, g1, k1]; rfl, fun c => by simp only [stills, g2 c, k2 c]⟩
   ·cases h
  ·cases h
theorem stills_sub (S : Sub st1 st) {b : Bool} {l l' : List (SV L.D)} {u : List (Nat × Option (Row L.D))} {c1 : Option Nat} (h : stills L b st1.ctr st1 l = some (l', u, c1)) : ∃ c2, stills L b st.ctr st l = some (l', u, c2) ∧ ctrD (labs L u) c2 = ctrD (labs L u) c1 := by
 have h := stills_mono S h
 rcases S.ctr with hc | hc
 ·rw [hc] at h
  obtain ⟨rfl, g1, g2⟩ := stills_none h
  exact ⟨_, g2 _, by rw [g1]; rfl⟩
 ·rw [hc] at h; exact ⟨_, h, rfl⟩
theorem argOf_mono (S : Sub st1 st) {s : SV L.D} {p : SV L.D × List (Nat × Row L.D)} (h : argOf L st1 s = some p) : argOf L st s = some p := by
 cases s with
 | own j =>
  simp only [argOf] at h ⊢
  cases hr : st1.row j with
  | none => rw [hr] at h; cases h
  | some r => rw [hr] at h; rw [S.row _ _ hr]; exact h
 | _ => exact h
theorem argsOf_mono (S : Sub st1 st) : ∀ {l : List (SV L.D)} {p : List (SV L.D) × List (Nat × Row L.D)}, argsOf L st1 l = some p → argsOf L st l = some p
 | [], _, h => h
 | s :: l, p, h => by
  simp only [argsOf] at h ⊢
  split at h
  ·rename_i h1 h2
   simp only [argOf_mono S h1, argsOf_mono S h2]; exact h
  ·cases h
theorem capOf_mono (S : Sub st1 st) {s : SV L.D} {p : SV L.D × List (Nat × Row L.D) × List Nat} (h : capOf L st1 s = some p) : capOf L st s = some p := by
 unfold capOf at h ⊢
 split at h
 ·split at h
  ·rename_i cs hb
   simp only [S.box _ _ hb]
   split at h
   ·rename_i h1; simp only [argsOf_mono S h1]; exact h
   ·cases h
  ·cases h
 ·exact h
 ·split at h
  ·rename_i h1; simp only [argOf_mono S h1]; exact h
  ·cases h
theorem capsOf_mono (S : Sub st1 st) : ∀ {l : List (SV L.D)} {p : List (SV L.D) × List (Nat × Row L.D) × List Nat}, capsOf L st1 l = some p → capsOf L st l = some p
 | [], _, h => h
 | s :: l, p, h => by
  simp only [capsOf] at h ⊢
  split at h
  ·rename_i h1 h2
   simp only [capOf_mono S h1, capsOf_mono S h2]; exact h
  ·cases h
theorem capArgs_mono (S : Sub st1 st) : ∀ {l : List (SV L.D)} {p : List (Arg L)}, capArgs L st1 l = some p → capArgs L st l = some p
 | [], _, h => h
 | s :: l, p, h => by
  simp only [capArgs] at h ⊢
  split at h
  ·rename_i h1 h2
   simp only [capOf_mono S h1, capArgs_mono S h2]; exact h
  ·cases h
theorem movOf_mono (S : Sub st1 st) {s : SV L.D} {p : SV L.D × List Nat} (h : movOf L st1 s = some p) : movOf L st s = some p := by
 unfold movOf at h ⊢
 split at h
 ·exact h
 ·exact h
 ·exact h
 ·split at h
  ·rename_i r hr; simp only [S.row _ _ hr]; exact h
  ·cases h
 ·cases h
theorem movsOf_mono (S : Sub st1 st) : ∀ {l : List (SV L.D)} {p : List (SV L.D) × List Nat}, movsOf L st1 l = some p → movsOf L st l = some p
 | [], _, h => h
 | s :: l, p, h => by
  simp only [movsOf] at h ⊢
  split at h
  ·rename_i h1 h2
   simp only [movOf_mono S h1, movsOf_mono S h2]; exact h
  ·cases h
theorem rdt_eq {x : Operand} (h : rdo st x = rdo st1 x) (t : TypeId) : rdt L st t x = rdt L st1 t x := by
 unfold rdt
 split
 ·rfl
 ·exact h
theorem arg1_mono (S : Sub st1 st) {t : TypeId} {x : Operand} (he : rdo st x = rdo st1 x) {g : Arg L} {nk : Bool} (h : arg1 L nk st1 t x = some g) : arg1 L nk st t x = some g := by
 unfold arg1 at h ⊢
 rw [rdt_eq he]
 split at h
 ·split at h
  ·rename_i h1; simp only [argsOf_mono S h1]; exact h
  ·cases h
 ·split at h
  ·rename_i h1; simp only [capsOf_mono S h1]; exact h
  ·cases h
 ·exact h
 ·exact h
 ·split at h
  ·rename_i hk hb
   simp only [hk, S.box _ _ hb]
   split at h
   ·rename_i h1 h2; simp only [h1, movsOf_mono S h2]; exact h
   ·cases h
  ·cases h
 ·exact h
 ·split at h
  ·rename_i h1; simp only [argOf_mono S h1]; exact h
  ·cases h
theorem argX_mono (S : Sub st1 st) {t : TypeId} {x : Operand} (he : rdo st x = rdo st1 x) {g : Arg L} {nk mv : Bool} (h : argX L nk mv st1 t x = some g) : argX L nk mv st t x = some g := by
 cases mv with
 | false => exact arg1_mono S he h
 | true =>
  (simp only [argX, argM] at h ⊢); (rw [rdt_eq he])
  split at h
  ·rename_i h1; simp only [movOf_mono S h1]; exact h
  ·cases h
theorem args_mono (S : Sub st1 st) : ∀ {xs : List Operand} {ts : List TypeId} {gs : List (Arg L)} {nk mv : List Bool}, (∀ x ∈ xs, rdo st x = rdo st1 x) → args_ L nk mv st1 xs ts = some gs → args_ L nk mv st xs ts = some gs
 | [], _, _, _, _, _, h => h
 | x :: l, [], _, _, _, _, h => by cases h
 | x :: l, t :: ts, gs, _, _, he, h => by
  simp only [args_] at h ⊢
  split at h
  ·rename_i h1 h2
   simp only [argX_mono S (he x List.mem_cons_self) h1, args_mono S (fun y hy => he y (List.mem_cons_of_mem _ hy)) h2]; exact h
  ·cases h
theorem fill_mono (S : Sub st1 st) (fs : List (Nat × Nat)) : ∀ {ps : List (Nat × Operand)} {cs cs' : List (SV L.D)}, (∀ p ∈ ps, rdo st p.2 = rdo st1 p.2) → fillS L st1 fs cs ps = some cs' → fillS L st fs cs ps = some cs'
 | [], _, _, _, h => h
 | (j, x) :: ps, cs, cs', he, h => by
  unfold fillS at h ⊢
  split at h
  ·rename_i heq; cases heq
  ·rename_i heq
   (obtain ⟨e0, rfl⟩ := List.cons.inj heq); (obtain ⟨rfl, rfl⟩ := Prod.mk.inj e0)
   split at h
   ·split at h
    ·exact fill_mono S fs (fun p hp => he p (List.mem_cons_of_mem _ hp)) h
    ·cases h
   ·cases h
  ·rename_i hnn heq
   (obtain ⟨e0, rfl⟩ := List.cons.inj heq); (obtain ⟨rfl, rfl⟩ := Prod.mk.inj e0)
   split at h
   ·rename_i h1
    split at h
    ·rename_i h2
     (have hx := he (_, _) List.mem_cons_self); (simp only at hx); (simp only [Bool.and_eq_true] at h2); (simp only [h1, hx, good_mono S h2.1.1, h2.1.2, h2.2, Bool.and_true])
     exact fill_mono S fs (fun p hp => he p (List.mem_cons_of_mem _ hp)) h
    ·cases h
   ·cases h
theorem elems_mono (S : Sub st1 st) {e : TypeId} : ∀ {ps : List (Nat × Operand)} {c : Option Nat} {r : List (L.D e) × List (Nat × Option (Row L.D)) × Option Nat}, (∀ p ∈ ps, rdo st p.2 = rdo st1 p.2) → elems L st1 e c ps = some r → elems L st e c ps = some r
 | [], _, _, _, h => h
 | (j, x) :: ps, c, r, he, h => by
  (simp only [elems] at h ⊢); (have hx := rdt_eq (L := L) (he (j, x) List.mem_cons_self) e); (simp only at hx); (rw [hx])
  split at h
  ·rename_i h1 h2
   (simp only [Bool.and_eq_true] at h1); (simp only [good_mono S h1.1, h1.2, stills_mono S h2, Bool.and_true])
   split at h
   ·rename_i h3 h4
    simp only [h3, elems_mono S (fun p hp => he p (List.mem_cons_of_mem _ hp)) h4]; exact h
   ·cases h
  ·cases h
theorem elems_none {e : TypeId} : ∀ {ps : List (Nat × Operand)} {xs : List (L.D e)} {u : List (Nat × Option (Row L.D))} {c1 : Option Nat}, elems L st e none ps = some (xs, u, c1) → c1 = none ∧ labs L u = [] ∧ ∀ c, elems L st e c ps = some (xs, u, c)
 | [], xs, u, c1, h => by
  (simp only [elems] at h); (obtain ⟨rfl, e⟩ := Prod.mk.inj (Option.some.inj h)); (obtain ⟨rfl, rfl⟩ := Prod.mk.inj e)
  exact ⟨rfl, rfl, fun _ => rfl⟩
 | (j, x) :: ps, xs, u, c1, h => by
  simp only [elems] at h
  split at h
  ·rename_i cs a c2 h0 h1
   obtain ⟨rfl, g1, g2⟩ := stills_none h1
   split at h
   ·rename_i y l a' c3 h2 h3
    (obtain ⟨rfl, k1, k2⟩ := elems_none h3); (obtain ⟨rfl, e⟩ := Prod.mk.inj (Option.some.inj h)); (obtain ⟨rfl, rfl⟩ := Prod.mk.inj e)
    exact ⟨rfl, by rw [labs_app, g1, k1]; rfl, fun c => by simp only [elems, h0, g2 c, h2, k2 c]⟩
   ·cases h
  ·cases h
theorem elems_sub (S : Sub st1 st) {e : TypeId} {ps : List (Nat × Operand)} {xs : List (L.D e)} {u : List (Nat × Option (Row L.D))} {c1 : Option Nat} (he : ∀ p ∈ ps, rdo st p.2 = rdo st1 p.2) (h : elems L st1 e st1.ctr ps = some (xs, u, c1)) : ∃ c2, elems L st e st.ctr ps = some (xs, u, c2) ∧ ctrD (labs L u) c2 = ctrD (labs L u) c1 := by
 have h := elems_mono S he h
 rcases S.ctr with hc | hc
 ·rw [hc] at h
  obtain ⟨rfl, g1, g2⟩ := elems_none h
  exact ⟨_, g2 _, by rw [g1]; rfl⟩
 ·rw [hc] at h; exact ⟨_, h, rfl⟩
theorem callD_mono (S : Sub st1 st) {i : Nat} {f : FuncId} {az : List (Arg L)} {v : Vd L sig} (h : callD L sig st1.ctr i f az = some v) : callD L sig st.ctr i f az = some v := by
 rcases S.ctr with hc | hc
 ·rw [hc] at h
  unfold callD at h ⊢
  cases hn : (sig f).new with
  | true => rw [hn] at h; exact h
  | false =>
   (rw [hn] at h); (simp only at h ⊢)
   cases hct : (sig f).ctr with
   | false => rw [hct] at h; exact h
   | true =>
    rw [hct] at h
    split at h
    ·rename_i e; cases e
    ·cases h
 ·rw [← hc]; exact h
theorem tail_mono (S : Sub st1 st) {e t t' : TypeId} {s : SV L.D} {ys : List (L.D e)} (h : tail_ L st1 e t t' s = some ys) : tail_ L st e t t' s = some ys := by
 unfold tail_ at h ⊢
 split at h
 ·exact h
 ·exact h
 ·split at h
  ·rename_i h1 h2; simp only [h1, rowOf_mono S h2]; exact h
  ·cases h
theorem len_mono (S : Sub st1 st) {t : TypeId} {s : SV L.D} {n : Int} (h : lenOf L st1 t s = some n) : lenOf L st t s = some n := by
 unfold lenOf at h ⊢
 split at h
 ·exact h
 ·split at h
  ·rename_i h1; simp only [rowOf_mono S h1]; exact h
  ·cases h
 ·cases h
theorem bnd_mono {d n : Int} {x : Option Operand} (he : ∀ y, x = some y → rdo st y = rdo st1 y) (h : bnd L st1 d x = some n) : bnd L st d x = some n := by
 unfold bnd at h ⊢
 split at h
 ·exact h
 ·rw [he _ rfl]; exact h
end
end Go.Proofs.YtfeikakkfnnaoaaGreatDoor.V
namespace Go.Proofs.YtfeikakkfnnaoaaGreatDoor.V
open Go
set_option linter.unusedVariables false
set_option linter.unusedSimpArgs false
section
variable {L : Lay} {st1 st : St L.D} {sig : FuncId → Sig}
theorem valD_mono (S : Sub st1 st) {i : Nat} {o : Oper} {v : Vd L sig} (R : ∀ x ∈ o.op.operands, rdo st x = rdo st1 x) (h : valD L sig i st1 o = some v) : valD L sig i st o = some v := by
 unfold valD at h
 split at h
 ·rename_i x ho
  (have hx := R x (by simp [ho, Op.operands])); (simp only [valD, ho, rdt_eq hx]; exact h)
 ·rename_i x ho
  (have hx := R x (by simp [ho, Op.operands])); (simp only [valD, ho, rdt_eq hx]; exact h)
 ·rename_i n x y ho
  (have hn : st.tmp n = st1.tmp n := R (.tmp n) (by simp [ho, Op.operands])); (have hx := R x (by simp [ho, Op.operands])); (have hy := R y (by simp [ho, Op.operands])); (simp only [valD, ho, hn, hx, hy]; exact h)
 ·rename_i t ho
  simp only [valD, ho]; exact h
 ·rename_i t x ho
  (have hx := R x (by simp [ho, Op.operands])); (simp only [valD, ho, rdt_eq hx])
  split at h
  ·rename_i hg
   (simp only [Bool.and_eq_true] at hg); (simp only [hg.1.1, good_mono S hg.1.2, hg.2, Bool.and_true]; exact h)
  ·cases h
 ·rename_i t ps ho
  (have hp : ∀ p ∈ ps.toList, rdo st p.2 = rdo st1 p.2 := fun p hp => R p.2 (by simp [ho, Op.operands]; exact ⟨p.1, by simpa using hp⟩)); (simp only [valD, ho])
  split at h
  ·rename_i fs hk
   try simp only [hk]
   split at h
   ·rename_i cs hc; simp only [fill_mono S fs hp hc]; exact h
   ·cases h
  ·cases h
 ·rename_i t n ps ho
  (have hp : ∀ p ∈ ps.toList, rdo st p.2 = rdo st1 p.2 := fun p hp => R p.2 (by simp [ho, Op.operands]; exact ⟨p.1, by simpa using hp⟩)); (simp only [valD, ho])
  split at h
  ·rename_i e he
   try simp only [he]
   split at h
   ·rename_i xs u c' h1 h2
    (obtain ⟨c2, h3, h4⟩ := elems_sub S hp h2); (simp only [h1, h3, h4]; exact h)
   ·cases h
  ·cases h
 ·rename_i t x ho
  (have hx := R x (by simp [ho, Op.operands])); (simp only [valD, ho, hx])
  split at h
  ·rename_i cs off hm; simp only [memo_mono S hm]; exact h
  ·cases h
 ·rename_i t x y ho
  (have hx := R x (by simp [ho, Op.operands])); (have hy := R y (by simp [ho, Op.operands])); (simp only [valD, ho, hx, rdt_eq hy])
  split at h
  ·rename_i b off hg hpx
   (simp only [Bool.and_eq_true] at hg); (simp only [hg.1.1, good_mono S hg.1.2, hg.2, Bool.and_true, hpx])
   split at h
   ·rename_i cs hb; simp only [S.box _ _ hb]; exact h
   ·cases h
  ·rename_i j ix off hg hpx
   (simp only [Bool.and_eq_true] at hg); (simp only [hg.1.1, good_mono S hg.1.2, hg.2, Bool.and_true, hpx])
   split at h
   ·rename_i r hr
    simp only [S.row _ _ hr]
    split at h
    ·rename_i xs u c' h1 h2 h3
     (obtain ⟨c2, h4, h5⟩ := stills_sub S h2); (simp only [h4, h3]); (simp only [h1] at h ⊢); (rw [h5]; exact h)
    ·cases h
   ·cases h
  ·cases h
 ·rename_i x ho
  (have hx := R x (by simp [ho, Op.operands])); (simp only [valD, ho, hx])
  split at h
  ·rename_i f cs hc; exact h
  ·rename_i hnc
   split at h
   ·rename_i m hm
    simp only [memo_mono S hm]
    exact h
   ·cases h
 ·rename_i op t x y t' ho
  (have hx := R x (by simp [ho, Op.operands])); (have hy := R y (by simp [ho, Op.operands])); (simp only [valD, ho, hx, hy]; exact h)
 ·rename_i op t x ho
  (have hx := R x (by simp [ho, Op.operands])); (simp only [valD, ho, hx]; exact h)
 ·rename_i src dst x ho
  (have hx := R x (by simp [ho, Op.operands])); (simp only [valD, ho, hx])
  split at h
  ·exact h
  ·exact h
  ·exact h
  ·rename_i s h1 h2
   split at h
   ·rename_i e r h3 h4
    simp only [h3, rowOf_mono S h4]
    exact h
   ·cases h
  ·cases h
 ·rename_i t x y ho
  (have hx := R x (by simp [ho, Op.operands])); (have hy := R y (by simp [ho, Op.operands])); (simp only [valD, ho, hx, hy]; exact h)
 ·rename_i t x lo hi ho
  (have hx := R x (by simp [ho, Op.operands])); (have hlo : ∀ y, lo = some y → rdo st y = rdo st1 y := fun y e => R y (by simp [ho, Op.operands, e])); (have hhi : ∀ y, hi = some y → rdo st y = rdo st1 y := fun y e => R y (by simp [ho, Op.operands, e])); (simp only [valD, ho, hx])
  split at h
  ·rename_i h1 h2
   try simp only [h1, h2]
   split at h
   ·rename_i h3 h4; simp only [bnd_mono hlo h3, bnd_mono hhi h4]; exact h
   ·cases h
  ·rename_i h1 h2
   try simp only [h1, h2]
   split at h
   ·rename_i h5 h3 h4; simp only [h5, bnd_mono hlo h3, bnd_mono hhi h4]; exact h
   ·cases h
  ·rename_i h1 h2
   try simp only [h1, h2]
   split at h
   ·rename_i h5 h3 h4; simp only [h5, bnd_mono hlo h3, bnd_mono hhi h4]; exact h
   ·cases h
  ·rename_i h1 h2
   try simp only [h1, h2]
   split at h
   ·rename_i h5 h3 h4; simp only [h5, bnd_mono hlo h3, bnd_mono hhi h4]; exact h
   ·cases h
  ·rename_i h1 h2
   try simp only [h1, h2]
   split at h
   ·rename_i r hr
    simp only [S.row _ _ hr]
    split at h
    ·rename_i h5 h3 h4; simp only [h5, bnd_mono hlo h3, bnd_mono hhi h4]; exact h
    ·cases h
   ·cases h
  ·cases h
 ·rename_i s x f ho
  (have hx := R x (by simp [ho, Op.operands])); (simp only [valD, ho, hx])
  split at h
  ·rename_i h1 h2; simp only [h1, memo_mono S h2]; exact h
  ·cases h
 ·rename_i t x y ho
  (have hx := R x (by simp [ho, Op.operands])); (have hy := R y (by simp [ho, Op.operands])); (simp only [valD, ho, hx, hy])
  split at h
  ·exact h
  ·exact h
  ·exact h
  ·rename_i h1 h2 h3
   split at h
   ·rename_i r hr; simp only [S.row _ _ hr]; exact h
   ·cases h
  ·cases h
 ·rename_i t x y ho
  (have hx := R x (by simp [ho, Op.operands])); (have hy := R y (by simp [ho, Op.operands])); (simp only [valD, ho, hx, hy]; exact h)
 ·rename_i x n ho
  (have hx := R x (by simp [ho, Op.operands])); (simp only [valD, ho, hx]; exact h)
 ·rename_i f first c ho
  (have hc : c.toList.map (rdo st) = c.toList.map (rdo st1) := List.map_congr_left fun x hx => R x (by simp [ho, Op.operands]; right; simpa using hx)); (simp only [valD, ho, hc]; exact h)
 ·rename_i c ho
  (have hargs : ∀ x ∈ c.args.toList, rdo st x = rdo st1 x := fun x hx => R x (by simp [ho, Op.operands, Call.operands]; right; simpa using hx)); (simp only [valD, ho])
  split at h
  ·rename_i b hb
   try simp only [hb]
   split at h
   ·rename_i c' d' hbd
    have : builtinD L i st b c.args.toList c.argTypes.toList = some (c', d') := by
     unfold builtinD at hbd ⊢
     split at hbd
     ·rename_i x t e1 e2
      (have hx := hargs x (by rw [e1]; simp)); (simp only [e1, e2, rdt_eq hx])
      split at hbd
      ·rename_i n hn; simp only [len_mono S hn]; exact hbd
      ·cases hbd
     ·rename_i s x t t' e1 e2
      (have hs := hargs s (by rw [e1]; simp)); (have hx := hargs x (by rw [e1]; simp)); (simp only [e1, e2, rdt_eq hs, rdt_eq hx])
      split at hbd
      ·rename_i e he
       try simp only [he]
       split at hbd
       ·rename_i h1
        try simp only [h1]
        split at hbd
        ·rename_i h2; simp only [tail_mono S h2]; exact hbd
        ·cases hbd
       ·rename_i h1
        try simp only [h1]
        split at hbd
        ·rename_i r hr
         simp only [S.row _ _ hr]
         split at hbd
         ·rename_i h2 h3 h4; simp only [h2, h3, tail_mono S h4]; exact hbd
         ·cases hbd
        ·cases hbd
       ·cases hbd
      ·cases hbd
     ·rename_i x y t t' e1 e2
      (have hx := hargs x (by rw [e1]; simp)); (have hy := hargs y (by rw [e1]; simp)); (simp only [e1, e2, hx, hy]; exact hbd)
     ·rename_i x y t t' e1 e2
      (have hx := hargs x (by rw [e1]; simp)); (have hy := hargs y (by rw [e1]; simp)); (simp only [e1, e2, hx, hy]; exact hbd)
     ·rename_i s x t t' e1 e2
      (have hs := hargs s (by rw [e1]; simp)); (have hx := hargs x (by rw [e1]; simp)); (simp only [e1, e2, rdt_eq hs, rdt_eq hx])
      split at hbd
      ·rename_i e hb he
       try simp only [hb, he]
       split at hbd
       ·rename_i j h1
        try simp only [h1]
        split at hbd
        ·rename_i r hr
         simp only [S.row _ _ hr]
         split at hbd
         ·rename_i h2 h3 h4
          simp only [h2, h3, rowOf_mono S h4]; exact hbd
         ·cases hbd
        ·cases hbd
       ·cases hbd
      ·cases hbd
     ·cases hbd
    simp only [this]; exact h
   ·cases h
  ·rename_i f hf
   have hf0 := R f (by simp [ho, Op.operands, Call.operands, hf])
   try simp only [hf]
   simp only [hf0]
   split at h
   ·rename_i f' caps h1
    try simp only [h1]
    split at h
    ·rename_i az cs h2 h3; simp only [args_mono S hargs h2, capArgs_mono S h3]; exact callD_mono S h
    ·cases h
   ·cases h
  ·cases h
 ·cases h
end
end Go.Proofs.YtfeikakkfnnaoaaGreatDoor.V
namespace Go.Proofs.YtfeikakkfnnaoaaGreatDoor.V
open Go
set_option linter.unusedVariables false
set_option linter.unusedSimpArgs false
section
variable {P : Program} {L : Lay} {E : Ent} {sig : FuncId → Sig} {call : (f : FuncId) → List (SV L.D) → Option (RT L.D (sig f).all)} {ρ : Type}
def Agree (k : Key) (st st' : St L.D) : Prop := (k.1 = 0 → st.tmp k.2 = st'.tmp k.2) ∧ (k.1 = 1 → st.box k.2 = st'.box k.2) ∧ (k.1 = 2 → st.row k.2 = st'.row k.2) ∧ (k = (3, 0) → st.ctr = st'.ctr)
theorem Agree.refl (k : Key) (st : St L.D) : Agree k st st := ⟨fun _ => rfl, fun _ => rfl, fun _ => rfl, fun _ => rfl⟩
theorem Agree.symm {k : Key} {st st' : St L.D} (h : Agree k st st') : Agree k st' st := ⟨fun e => (h.1 e).symm, fun e => (h.2.1 e).symm, fun e => (h.2.2.1 e).symm, fun e => (h.2.2.2 e).symm⟩
theorem Agree.trans {k : Key} {a b c : St L.D} (h : Agree k a b) (h' : Agree k b c) : Agree k a c := ⟨fun e => (h.1 e).trans (h'.1 e), fun e => (h.2.1 e).trans (h'.2.1 e), fun e => (h.2.2.1 e).trans (h'.2.2.1 e), fun e => (h.2.2.2 e).trans (h'.2.2.2 e)⟩
theorem mem_writes {o : Oper} {d : Dl L.D} {k : Key} : k ∈ writesOf L o d ↔ (∃ n, o.dst = some n ∧ k = (0, n)) ∨ (∃ b x, (b, x) ∈ d.boxes ∧ k = (1, b)) ∨ (∃ j x, (j, x) ∈ d.rows ∧ k = (2, j)) ∨ (∃ n, d.ctr = some n) ∧ k = (3, 0) := by
 unfold writesOf
 simp only [List.mem_append, List.mem_map, Option.mem_toList, or_assoc]
 have hc : k ∈ ctrK d.ctr.isSome ↔ (∃ n, d.ctr = some n) ∧ k = (3, 0) := by
  cases d.ctr <;> simp [ctrK]
 rw [hc]
 constructor
 ·rintro (⟨n, h, rfl⟩ | ⟨⟨b, x⟩, h, rfl⟩ | ⟨⟨j, x⟩, h, rfl⟩ | h)
  ·exact .inl ⟨n, h, rfl⟩
  ·exact .inr (.inl ⟨b, x, h, rfl⟩)
  ·exact .inr (.inr (.inl ⟨j, x, h, rfl⟩))
  ·exact .inr (.inr (.inr h))
 ·rintro (⟨n, h, rfl⟩ | ⟨b, x, h, rfl⟩ | ⟨j, x, h, rfl⟩ | h)
  ·exact .inl ⟨n, h, rfl⟩
  ·exact .inr (.inl ⟨(b, x), h, rfl⟩)
  ·exact .inr (.inr (.inl ⟨(j, x), h, rfl⟩))
  ·exact .inr (.inr (.inr h))
theorem put_out {o : Oper} {d : Dl L.D} {k : Key} (h : k ∉ writesOf L o d) (st : St L.D) : Agree k (st.put o.dst d) st := by
 rw [mem_writes] at h
 refine ⟨fun e => ?_, fun e => ?_, fun e => ?_, fun e => ?_⟩
 ·cases hd : o.dst with
  | none => rfl
  | some n => exact tmp_put_other st (fun e' => h (.inl ⟨n, hd, by rw [← e', ← e]⟩)) d
 ·rw [box_put, look_none fun x hx => h (.inr (.inl ⟨k.2, x, hx, by rw [← e]⟩))]
 ·rw [row_put, look_none fun x hx => h (.inr (.inr (.inl ⟨k.2, x, hx, by rw [← e]⟩)))]
 ·show orElse_ d.ctr st.ctr = st.ctr
  cases hd : d.ctr with
  | none => rfl
  | some n => exact absurd (.inr (.inr (.inr ⟨⟨n, hd⟩, e⟩))) h
theorem put_in {o : Oper} {d : Dl L.D} {k : Key} (h : k ∈ writesOf L o d) (st st' : St L.D) : Agree k (st.put o.dst d) (st'.put o.dst d) := by
 rw [mem_writes] at h
 rcases h with ⟨n, hd, rfl⟩ | ⟨b, x, hx, rfl⟩ | ⟨j, x, hx, rfl⟩ | ⟨⟨n, hn⟩, rfl⟩
 ·refine ⟨fun _ => ?_, (fun e => by cases e), (fun e => by cases e), (fun e => by cases e)⟩
  rw [hd, tmp_put_same, tmp_put_same]
 ·refine ⟨(fun e => by cases e), fun _ => ?_, (fun e => by cases e), (fun e => by cases e)⟩
  (obtain ⟨y, hy⟩ := look_of_mem hx); (rw [box_put, box_put, hy])
 ·refine ⟨(fun e => by cases e), (fun e => by cases e), fun _ => ?_, (fun e => by cases e)⟩
  (obtain ⟨y, hy⟩ := look_of_mem hx); (rw [row_put, row_put, hy])
 ·refine ⟨(fun e => by cases e), (fun e => by cases e), (fun e => by cases e), fun _ => ?_⟩
  simp only [St.put, hn]; rfl
theorem put_both {k : Key} {st st' : St L.D} (h : Agree k st st') (o : Oper) (d : Dl L.D) : Agree k (st.put o.dst d) (st'.put o.dst d) := by
 by_cases hk : k ∈ writesOf L o d
 ·exact put_in hk st st'
 ·exact (put_out hk st).trans (h.trans (put_out hk st').symm)
theorem look_keepT {st : St L.D} {n : Nat} : ∀ {r : List Key}, (0, n) ∈ r → look (keepT L st r) n = some (st.tmp n)
 | [], h => by cases h
 | (0, m) :: l, h => by
  (simp only [keepT]); (rw [look_cons])
  by_cases e : n = m
  ·rw [if_pos e, e]
  ·rw [if_neg e]
   exact look_keepT ((List.mem_cons.1 h).resolve_left fun e' => e (Prod.mk.inj e').2)
 | (k + 1, m) :: l, h => by
  simp only [keepT]
  exact look_keepT ((List.mem_cons.1 h).resolve_left fun e' => by cases e')
theorem restr_tmp {st : St L.D} {r : List Key} {n : Nat} (h : (0, n) ∈ r) : (restr L st r).tmp n = st.tmp n := by
 show orDead (look (keepT L st r) n) = _
 rw [look_keepT h]; rfl
theorem keepB_mem {st : St L.D} : ∀ {r : List Key} {b : Nat} {o : Option (List (SV L.D))}, (b, o) ∈ keepB L st r → o = st.box b
 | [], _, _, h => by cases h
 | (0, m) :: l, b, o, h => keepB_mem (r := l) h
 | (1, m) :: l, b, o, h => by
  rcases List.mem_cons.1 h with e | h
  ·obtain ⟨rfl, rfl⟩ := Prod.mk.inj e; rfl
  ·exact keepB_mem (r := l) h
 | (k + 2, m) :: l, b, o, h => keepB_mem (r := l) h
theorem keepR_mem {st : St L.D} : ∀ {r : List Key} {b : Nat} {o : Option (Row L.D)}, (b, o) ∈ keepR L st r → o = st.row b
 | [], _, _, h => by cases h
 | (0, m) :: l, b, o, h => keepR_mem (r := l) h
 | (1, m) :: l, b, o, h => keepR_mem (r := l) h
 | (2, m) :: l, b, o, h => by
  rcases List.mem_cons.1 h with e | h
  ·obtain ⟨rfl, rfl⟩ := Prod.mk.inj e; rfl
  ·exact keepR_mem (r := l) h
 | (k + 3, m) :: l, b, o, h => keepR_mem (r := l) h
theorem restr_sub (st : St L.D) (r : List Key) : Sub (restr L st r) st := by
 refine ⟨fun b cs h => ?_, fun j x h => ?_, ?_⟩
 ·unfold St.box at h
  split at h
  ·rename_i o hl
   rw [keepB_mem (look_mem hl)] at h; exact h
  ·cases h
 ·unfold St.row at h
  split at h
  ·rename_i o hl
   rw [keepR_mem (look_mem hl)] at h; exact h
  ·cases h
 ·simp only [restr]
  split
  ·exact .inr rfl
  ·exact .inl rfl
theorem keep_eq {st st' : St L.D} : ∀ {r : List Key}, (∀ k ∈ r, Agree k st st') → keepT L st r = keepT L st' r ∧ keepB L st r = keepB L st' r ∧ keepR L st r = keepR L st' r
 | [], _ => ⟨rfl, rfl, rfl⟩
 | (0, m) :: l, h => by
  (obtain ⟨h1, h2, h3⟩ := keep_eq (r := l) fun k hk => h k (List.mem_cons_of_mem _ hk)); (have := (h _ List.mem_cons_self).1 rfl); (simp only at this)
  exact ⟨by simp only [keepT, h1, this], h2, h3⟩
 | (1, m) :: l, h => by
  (obtain ⟨h1, h2, h3⟩ := keep_eq (r := l) fun k hk => h k (List.mem_cons_of_mem _ hk)); (have := (h _ List.mem_cons_self).2.1 rfl); (simp only at this)
  exact ⟨h1, by simp only [keepB, h2, this], h3⟩
 | (2, m) :: l, h => by
  (obtain ⟨h1, h2, h3⟩ := keep_eq (r := l) fun k hk => h k (List.mem_cons_of_mem _ hk)); (have := (h _ List.mem_cons_self).2.2.1 rfl); (simp only at this)
  exact ⟨h1, h2, by simp only [keepR, h3, this]⟩
 | (k + 3, m) :: l, h => by
  obtain ⟨h1, h2, h3⟩ := keep_eq (r := l) fun k hk => h k (List.mem_cons_of_mem _ hk)
  exact ⟨h1, h2, h3⟩
theorem keyIn_get {k : Key} : ∀ {l : List Key}, keyIn k l = true → k ∈ l
 | [], h => by cases h
 | (a, b) :: l, h => by
  simp only [keyIn, Bool.or_eq_true, Bool.and_eq_true] at h
  rcases h with ⟨h1, h2⟩ | h
  ·rw [Nat.eq_of_beq_eq_true h1, Nat.eq_of_beq_eq_true h2]; exact List.mem_cons_self
  ·exact List.mem_cons_of_mem _ (keyIn_get h)
theorem restr_eq {st st' : St L.D} {r : List Key} (h : ∀ k ∈ r, Agree k st st') (hi : st.imps = st'.imps) (h0 : st.c0 = st'.c0) : restr L st r = restr L st' r := by
 obtain ⟨h1, h2, h3⟩ := keep_eq h
 cases hk : keyIn (3, 0) r with
 | false => simp only [restr, h1, h2, h3, hi, h0, hk]
 | true =>
  (have h4 := (h _ (keyIn_get hk)).2.2.2 rfl); (simp only [restr, h1, h2, h3, hi, h0, hk, h4])
theorem made1_mono {st1 st : St L.D} (S : Sub st1 st) {i : Nat} {o : Oper} {d : Dl L.D} (R : ∀ x ∈ o.op.operands, rdo st x = rdo st1 x) (h : Made1 sig call i st1 o d) : Made1 sig call i st o d := by
 rcases h with h | ⟨f, az, k, r, h, h1, h2⟩
 ·exact .inl (valD_mono S R h)
 ·exact .inr ⟨f, az, k, r, valD_mono S R h, h1, h2⟩
theorem keepT_none {st : St L.D} : ∀ {r : List Key} {n : Nat}, (0, n) ∉ r → look (keepT L st r) n = none
 | [], _, _ => rfl
 | (0, m) :: l, n, h => by
  (simp only [keepT]); (rw [look_cons, if_neg fun e => h (by rw [e]; exact List.mem_cons_self)])
  exact keepT_none fun h' => h (List.mem_cons_of_mem _ h')
 | (k + 1, m) :: l, n, h => by
  simp only [keepT]
  exact keepT_none fun h' => h (List.mem_cons_of_mem _ h')
theorem restr_cases (st : St L.D) (r : List Key) (n : Nat) : (restr L st r).tmp n = st.tmp n ∨ (restr L st r).tmp n = .dead := by
 by_cases h : (0, n) ∈ r
 ·exact .inl (restr_tmp h)
 ·right
  show orDead (look (keepT L st r) n) = _
  rw [keepT_none h]; rfl
theorem guardOf_restr {st : St L.D} {r : List Key} : ∀ {q n : Nat} {wt : Bool} {g : Bool × List (Nat × Bool)}, guardOf L (restr L st r) q n wt = some g → guardOf L st q n wt = some g
 | 0, _, _, _, h => by cases h
 | q + 1, n, wt, g, h => by
  simp only [guardOf] at h ⊢
  rcases restr_cases st r n with e | e
  ·rw [e] at h
   split at h
   ·exact h
   ·split at h
    ·rename_i c l hc
     rw [guardOf_restr hc]; exact h
    ·cases h
   ·cases h
  ·rw [e] at h; cases h
theorem made_mono {ops : List Oper} {st : St L.D} {r : List Key} {i : Nat} {o : Oper} {d : Dl L.D} (hr : ∀ n, n ∈ tmpsOf o → (0, n) ∈ r) (h : Made sig call ops i (restr L st r) o d) : Made sig call ops i st o d := by
 have R : ∀ x ∈ o.op.operands, rdo st x = rdo (restr L st r) x := fun x hx => by
  cases x with
  | tmp n =>
   refine (restr_tmp (hr n ?_)).symm
   unfold tmpsOf
   exact List.mem_filterMap.2 ⟨.tmp n, by simpa using hx, rfl⟩
  | _ => rfl
 unfold Made at h ⊢
 cases hgd : o.guard with
 | none =>
  rw [hgd] at h
  exact made1_mono (restr_sub st r) R h
 | some g =>
  (obtain ⟨j, wt⟩ := g); (rw [hgd] at h); (obtain ⟨p, n, g, gl, s, ks, q0, B, hp, hn, hnd, hb, hd, hq0, hw⟩ := h)
  refine ⟨p, n, g, gl, s, ks, q0, B, hp, hn, hnd, guardOf_restr hb, hd, fun e => ⟨(hq0 e).1.elim .inl fun e' => ?_, fun b x hx => ?_⟩, fun e => ?_⟩
  ·rcases (restr_sub st r).ctr with e0 | e0
   ·left; rw [e', e0]
   ·right; rw [e', e0]
  ·obtain ⟨cs, e1, e2⟩ := (hq0 e).2 b x hx
   exact ⟨cs, e1, (restr_sub st r).box b cs e2⟩
  obtain ⟨d', h1, h2⟩ := hw e
  refine ⟨d', made1_mono (st1 := { restr L st r with tmps := ungAll L gl (restr L st r).tmps }) (st := { st with tmps := ungAll L gl st.tmps }) ⟨(restr_sub st r).box, (restr_sub st r).row, (restr_sub st r).ctr⟩ (fun x hx => ?_) h1, h2⟩
  cases x with
  | tmp m =>
   show St.tmp _ m = St.tmp _ m
   rw [tmp_ungAll, tmp_ungAll]
   exact congrArg _ (R (.tmp m) hx)
  | _ => rfl
end
end Go.Proofs.YtfeikakkfnnaoaaGreatDoor.V
