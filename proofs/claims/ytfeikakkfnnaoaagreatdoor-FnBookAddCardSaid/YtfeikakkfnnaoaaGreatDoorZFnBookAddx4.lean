/- Part of the proof of the law FnBookAdd: what it uses of the texts that this session and the kit's print wrote. -/
import Derived.Test.YtfeikakkfnnaoaaGreatDoorZFnBookAddx3
import Derived.Laws.IdiomCopy
namespace Go.Proofs.YtfeikakkfnnaoaaGreatDoor.V
open Go
set_option linter.unusedVariables false
set_option linter.unusedSimpArgs false
section
variable {P : Program} {L : Lay} {E : Ent} {st : St L.D} {V : Vl} {a : Act} {w : World}
theorem run_storeIn {t : TypeId} {i : TypeInfo} (hi : P.info? t = some i) {u : Value} (hsz : u.cells.size = i.size) (h1 : ∀ v ∈ u.cells.toList, v.oneCell' = true) {b o : Nat} {vs : Array Value} {T : TypeId} {fz : Nat × Nat} (hfz : fz = (0, 0) ∨ vs.size ≤ fz.1) (hb : w.heap[b]? = some (.cells vs T fz)) (hl : o + u.cells.size ≤ vs.size) :
  (Instr.storeAt t (.pointer (some ⟨b, o, none⟩)) u).run P w = .ok () (w.setCells b o u.cells.toList) := by
 (have hf : ∀ q, q < vs.size → w.frozen? ⟨b, q, none⟩ = false := fun q hq => notFrozen hfz hb hq); (have hc : ∀ q, q < vs.size → (w.cell? ⟨b, q, none⟩).isSome = true := fun q hq => by simp [World.cell?, hb, hq]); (have := run_storeCells_cells (P := P) b o u.cells.toList 0 w (fun j hj => hc _ (by rw [Array.length_toList] at hj; omega)) (fun j hj => hf _ (by rw [Array.length_toList] at hj; omega)) h1); (simp only [Nat.add_zero] at this)
 simp [Instr.storeAt, Instr.sureAddr, storeVar, sizeOf, typeInfo, hi, hsz, this]
theorem getD_mix {α : Type} (cs xs : List α) (off n : Nat) (hx : xs.length = n) (hl : off + n ≤ cs.length) (d : α) (j : Nat) : (cs.take off ++ xs ++ cs.drop (off + n)).getD j d = if off ≤ j ∧ j < off + n then xs.getD (j - off) d else cs.getD j d := by
 (have h1 : (cs.take off).length = off := by simp; omega); (simp only [List.getD_eq_getElem?_getD])
 by_cases h : off ≤ j ∧ j < off + n
 ·rw [if_pos h, List.append_assoc, List.getElem?_append_right (by omega), h1, List.getElem?_append_left (by omega)]
 ·rw [if_neg h]
  by_cases hj : j < off
  ·rw [List.append_assoc, List.getElem?_append_left (by omega), List.getElem?_take, if_pos hj]
  ·have h2 : (cs.take off ++ xs).length = off + n := by rw [List.length_append]; omega
   rw [List.getElem?_append_right (by omega), h2, List.getElem?_drop]
   congr 2
   omega
theorem length_mix {α : Type} (cs xs : List α) (off n : Nat) (hx : xs.length = n) (hl : off + n ≤ cs.length) : (cs.take off ++ xs ++ cs.drop (off + n)).length = cs.length := by
 simp; omega
section
variable {b0 : Nat} {cs0 cs1 : List (SV L.D)} {dst : Option Nat} {s : SV L.D}
theorem ow_setBox (hb0 : st.box b0 = some cs0) {k : Nat} (h : Ob (st.put dst { val := s, boxes := [(b0, some cs1)] }) V k) : Ob st V k := by
 rcases h with ⟨b, cs, hb', e⟩ | ⟨i, r, hr, hf, e⟩
 ·rcases box_new hb' with ⟨rfl, _⟩ | ⟨hne, h0⟩
  ·exact .inl ⟨b, cs0, hb0, e⟩
  ·exact .inl ⟨b, cs, h0, e⟩
 ·rw [row_newBox] at hr
  exact .inr ⟨i, r, hr, hf, e⟩
theorem Ch.setBox (h : Rel L E st V a w) (hb0 : st.box b0 = some cs0) (ks : Key → Prop) (tm' : Array Value) {w' : World} (hw : ∀ k, k ≠ V.ba b0 → w'.heap[k]? = w.heap[k]?) (hz : w'.heap.size = w.heap.size) (os : w'.os = w.os) (tape : w'.tape = w.tape) (output : w'.output = w.output)
  (hb : BoxOk L E (st.put dst { val := s, boxes := [(b0, some cs1)] }) V tm' w' b0 cs1) (hlen : cs1.length = cs0.length) (hout : ∀ o, (o < V.bo b0 ∨ V.bo b0 + cs0.length ≤ o) → w'.cell? ⟨V.ba b0, o, none⟩ = w.cell? ⟨V.ba b0, o, none⟩) : Ch L E st V w ks (st.put dst { val := s, boxes := [(b0, some cs1)] }) V tm' w' where
 same := fun k hk => by
  by_cases e : k = V.ba b0
  ·exact .inr (.inl ⟨b0, cs0, hb0, e.symm⟩)
  ·exact .inl (hw k e)
 owned := fun k hk => .inr (ow_setBox hb0 hk)
 c0 := rfl
 labM := fun l hl => ⟨hl, rfl⟩
 labN := fun l hl => .inl hl
 labD := fun l l' k hl hn _ _ _ _ => absurd hl hn
 ctrF := fun n hn => ⟨n, hn, Nat.le_refl _⟩
 rowS := fun i r' _ hr => ⟨r', by rw [row_newBox] at hr; exact hr, rfl, rfl, rfl⟩
 boxS := fun b cs' hn hb' => by
  rcases box_new hb' with ⟨rfl, _⟩ | ⟨hne, h0⟩
  ·exact ⟨cs0, hb0, rfl, rfl⟩
  ·exact ⟨cs', h0, rfl, rfl⟩
 box := fun b cs hb' => by
  rcases box_new hb' with ⟨rfl, rfl⟩ | ⟨hne, h0⟩
  ·exact .inr hb
  ·exact .inl ⟨h0, rfl, rfl, hw _ fun e => hne (h.bb b b0 cs cs0 h0 hb0 e)⟩
 row := fun i r hr => by
  rw [row_newBox] at hr
  exact .inl ⟨hr, rfl, fun hf k hk => hw k fun e => h.br b0 cs0 i r hb0 hr hf (by rw [hk, e])⟩
 bb := fun b b' cs cs' h1 h2 e => by
  rcases box_new h1 with ⟨rfl, _⟩ | ⟨n1, g1⟩ <;> rcases box_new h2 with ⟨rfl, _⟩ | ⟨n2, g2⟩
  ·rfl
  ·exact h.bb _ b' cs0 cs' hb0 g2 e
  ·exact h.bb b _ cs cs0 g1 hb0 e
  ·exact h.bb b b' cs cs' g1 g2 e
 br := fun b cs i r h1 hr hf => by
  rw [row_newBox] at hr
  rcases box_new h1 with ⟨rfl, _⟩ | ⟨n1, g1⟩
  ·exact h.br _ cs0 i r hb0 hr hf
  ·exact h.br b cs i r g1 hr hf
 rr := fun i i' r r' k hr hr' hf hf' hk hk' => by
  rw [row_newBox] at hr hr'
  exact h.rr i i' r r' k hr hr' hf hf' hk hk'
 size := Nat.le_of_eq hz.symm
 os := os
 tape := tape
 output := output
 imps := rfl
 impB := fun b hb' cs h1 => by
  by_cases e : b = b0
  ·subst e
   obtain rfl : cs = cs0 := Option.some.inj (h1.symm.trans hb0)
   exact ⟨cs1, by rw [box_put, look_one, if_pos rfl], hlen, rfl, rfl, hout⟩
  ·exact ⟨cs, by rw [box_put, look_one, if_neg e]; exact h1, rfl, rfl, rfl, fun o _ => cell_same (hw _ fun e' => e (h.bb b b0 cs cs0 h1 hb0 e')) o⟩
end
theorem out_storeBox (hL : LayOk P L) {o : Oper} {ks : List Key} (A : At L E st V a w o ks) {t : TypeId} {x y : Operand} (ho : o.op = .store t x y) (hk : okT L t = true) (hg : good st (rdt L st t y) = true) (hn : (cellsOf (rdt L st t y)).length = (L.ti t).sz) {b off : Nat} (hx : rdo st x = .ptr b off) {cs : List (SV L.D)} (hb : st.box b = some cs) (hl : off + (L.ti t).sz ≤ cs.length) :
    Out P L E st o a w { val := .dead, boxes := [(b, some (cs.take off ++ cellsOf (rdt L st t y) ++ cs.drop (off + (L.ti t).sz)))] } := by
  have hko : (L.ti t).kind ≠ .other := by intro h; simp [okT, h] at hk
  obtain ⟨i, z, hi, hsz, _⟩ := hL.info t hko
  have hv := A.rel.opdT t y
  obtain ⟨cl, c1, cj⟩ := cells_ok hv (good_one hg hv A.rel.rv_one)
  rw [Array.length_toList] at cl
  have hp := (hx ▸ A.rel.opd x).ptr_inv hb
  obtain ⟨vs, T, hh, hvl, hcell⟩ := A.rel.box b cs hb
  have hus : (a.eval y).cells.size = (L.ti t).sz := cl.symm.trans hn
  have hfit : V.bo b + off + (a.eval y).cells.size ≤ vs.size := by rw [hus]; omega
  have hrun := run_storeIn (P := P) (t := t) hi (u := a.eval y) (by omega) c1 (o := V.bo b + off) (.inl rfl) hh hfit
  obtain ⟨vs', hh', hsz', hget⟩ := setCells_block (V.ba b) (a.eval y).cells.toList (V.bo b + off) w vs T (0, 0) hh
  obtain ⟨m1, m2, m3, m4⟩ := setCells_meta (V.ba b) (a.eval y).cells.toList (V.bo b + off) w
  have ho' : ∀ k, k ≠ V.ba b → (w.setCells (V.ba b) (V.bo b + off) (a.eval y).cells.toList).heap[k]? = w.heap[k]? := fun k hk => setCells_other _ _ _ _ k hk
  have hlen := length_mix cs (cellsOf (rdt L st t y)) off _ hn hl
  have S : Same L w (w.setCells (V.ba b) (V.bo b + off) (a.eval y).cells.toList) (Fz E st V w) (Fz E (st.put o.dst { val := .dead, boxes := [(b, some (cs.take off ++ cellsOf (rdt L st t y) ++ cs.drop (off + (L.ti t).sz)))] }) V (w.setCells (V.ba b) (V.bo b + off) (a.eval y).cells.toList)) st (st.put o.dst { val := .dead, boxes := [(b, some (cs.take off ++ cellsOf (rdt L st t y) ++ cs.drop (off + (L.ti t).sz)))] }) V V a.tmps (a.put o.dst undef).tmps (· ∈ ks) := {
    mem := fz_turn A.rel (fun k hk => by
      by_cases e : k = V.ba b
      · exact .inr (.inl ⟨b, cs, hb, e.symm⟩)
      · exact .inl (ho' k e)) (fun k hk => .inr (hk.imp (ow_setBox hb) id)) (Nat.le_of_eq m1.symm) (fun l hl => ⟨hl, rfl⟩)
    row := fun i r' _ hr => ⟨r', by rw [row_newBox] at hr; exact hr, rfl, rfl, rfl⟩
    box := fun b' cs' hn hb' => by
      rcases box_new hb' with ⟨rfl, _⟩ | ⟨hne, h0⟩
      · exact ⟨cs, hb, rfl, rfl⟩
      · exact ⟨cs', h0, rfl, rfl⟩
    tmp := fun j hj => by
      cases hdst : o.dst with
      | none => rfl
      | some n => exact put_getD_other (fun e => hj (by rw [e]; exact (A.dst n hdst).1)) undef }
  refine ⟨_, _, ?_, V, .inr ⟨rfl, A.rel.turn A.clean A.dst ((Ch.setBox (s := .dead) (dst := o.dst) A.rel hb (· ∈ ks) (a.put o.dst undef).tmps ho' m1 m2 m3 m4 ⟨vs', T, hh', by omega, fun j hj => ?_⟩ hlen (fun q hq => World.cell?_setCells_out _ _ _ _ _ (fun _ _ => by rw [Array.length_toList (xs := (a.eval y).cells)]; show q < _ ∨ _ ≤ q; omega))).turn A.rel) fun n hn => .dead _⟩⟩
  · unfold execOp
    simp only [ho, hp, Sem.run_bind, ← Nat.add_assoc]
    rw [hrun]
    rfl
  · rw [hlen] at hj
    have hq : V.bo b + j < vs.size := by omega
    rw [getD_mix cs _ off _ hn hl, hget (V.bo b + j) hq]
    by_cases h : off ≤ j ∧ j < off + (L.ti t).sz
    · rw [if_pos h, if_pos (by rw [Array.length_toList]; omega), show V.bo b + j - (V.bo b + off) = j - off by omega]
      have hjc : j - off < (a.eval y).cells.toList.length := by rw [Array.length_toList]; omega
      refine ⟨(a.eval y).cells.toList.getD (j - off) undef, ?_, ?_, ?_⟩
      · rw [getD_lt hjc]; exact List.getElem?_eq_getElem hjc
      · rw [getD_lt hjc]; exact c1 _ (List.getElem_mem _)
      · refine (cj (j - off) (by omega)).same S fun k hk => ?_
        have := clean_rdt A.clean t y k hk
        generalize rdt L st t y = s at this hn
        have h2 : j - off < (cellsOf s).length := by omega
        cases s <;> first | (simp only [cellsOf, List.length_singleton] at h2; have : j - off = 0 := by omega
                             rw [this]; assumption) | (simp only [ment] at this; exact mentL_getD this)
    · rw [if_neg h, if_neg (by rw [Array.length_toList]; omega)]
      obtain ⟨u, hu, hu1, hs⟩ := hcell j hj
      exact ⟨u, hu, hu1, hs.same S fun k hk => clean_box A.clean hk hb j⟩
end
end Go.Proofs.YtfeikakkfnnaoaaGreatDoor.V
namespace Go.Proofs.YtfeikakkfnnaoaaGreatDoor.V
open Go
set_option linter.unusedVariables false
set_option linter.unusedSimpArgs false
section
variable {P : Program} {L : Lay} {E : Ent} {st : St L.D} {V : Vl} {a : Act} {w : World}
theorem RowOk.block {w : World} {F : FS} {t : TypeId} {xs : List (L.D t)} {g c : Nat} (h : RowOk L w F (.slice (some ⟨g, 0, none⟩) xs.length c) t xs) : ∃ (cur : Array Value) (fz : Nat × Nat), (fz = (0, 0) ∨ (cur.size ≤ fz.1 ∧ (L.ti t).sz = 1)) ∧ w.heap[g]? = some (.cells cur t fz) ∧ xs.length ≤ c ∧ c ≤ maxLen ∧ cur.size = c * (L.ti t).sz ∧
  ∀ i j, (hi : i < xs.length) → j < (L.ti t).sz → ∃ u, cur[i * (L.ti t).sz + j]? = some u ∧ u.oneCell' = true ∧ CR L w F ((L.cell t xs[i]).getD j .dead) u := by
 obtain ⟨cells, ho, h1, hr⟩ := h
 rcases ho.2 with ⟨e, _⟩ | ⟨g', cap, cur, fz, e, hfz, hg, hnc, hcm, hcs, htake⟩
 ·cases e
 ·simp only [Value.slice.injEq, Option.some.injEq, Addr.mk.injEq, and_true, true_and] at e
  obtain ⟨rfl, rfl⟩ := e
  refine ⟨cur, fz, hfz, hg, hnc, hcm, hcs, fun i j hi hj => ?_⟩
  have hlt : i * (L.ti t).sz + j < xs.length * (L.ti t).sz := by
   (have : (i + 1) * (L.ti t).sz ≤ xs.length * (L.ti t).sz := Nat.mul_le_mul_right _ hi); (rw [Nat.add_mul] at this; omega)
  (have hlc : i * (L.ti t).sz + j < cells.length := by rw [show cells.length = xs.length * (L.ti t).sz from ho.1]; exact hlt); (have e : cells[i * (L.ti t).sz + j]? = cur[i * (L.ti t).sz + j]? := by rw [← htake, List.getElem?_take, if_pos hlt, Array.getElem?_toList]); (have := hr i j hi hj); (rw [getD_lt hlc] at this)
  exact ⟨_, by rw [← e]; exact List.getElem?_eq_getElem hlc, h1 _ (List.getElem_mem _), this⟩
theorem canon_cell (hL : LayOk P L) (b : Bool) (t : TypeId) (x : L.D t) (j : Nat) : canonT b ((L.cell t x).getD j .dead) = (L.cell t x).getD j .dead := by
 by_cases h : j < (L.cell t x).length
 ·rw [getD_lt h]
  rcases hL.form t x _ (List.getElem_mem h) with ⟨u, e, _⟩ | ⟨e', ys, e, _⟩ | ⟨l, e', ys, e, _⟩ <;> rw [e] <;> cases b <;> rfl
 ·rw [List.getD_eq_getElem?_getD, List.getElem?_eq_none (by omega)]; cases b <;> rfl
theorem getD_map_canon {D : TypeId → Type} (b : Bool) (l : List (SV D)) (j : Nat) : (l.map (canonT b)).getD j .dead = canonT b (l.getD j .dead) := by
 simp only [List.getD_eq_getElem?_getD, List.getElem?_map]
 cases l[j]? <;> cases b <;> rfl
theorem out_storeRow (hL : LayOk P L) {o : Oper} {ks : List Key} (A : At L E st V a w o ks) {t : TypeId} {x y : Operand} (ho : o.op = .store t x y) (hk : okT L t = true) (hg : good st (rdt L st t y) = true) (hn : (cellsOf (rdt L st t y)).length = (L.ti t).sz) {j ix off : Nat} (hx : rdo st x = .ep j ix off) {r : Row L.D} (hr : st.row j = some r) (hf : r.fz = false)
  {xs : List (SV L.D)} {u : List (Nat × Option (Row L.D))} {c' : Option Nat} (hs : stills L (L.labd r.t) st.ctr st (cellsOf (rdt L st t y)) = some (xs, u, c')) (hnd : nodupB (labs L u) = true) (hl : off + (L.ti t).sz ≤ (L.ti r.t).sz) (hu : u.any (fun p => Nat.beq p.1 j) = false) {z : L.D r.t}
  (hz : L.make r.t ((L.cell r.t (r.xs.getD ix (L.zd r.t))).take off ++ xs ++ (L.cell r.t (r.xs.getD ix (L.zd r.t))).drop (off + (L.ti t).sz)) = some z) :
  Out P L E st o a w { val := .dead, rows := (j, some { r with xs := r.xs.set ix z }) :: (j, none) :: u, ctr := ctrD (labs L u) c' } := by
 (have hko : (L.ti t).kind ≠ .other := by intro h; simp [okT, h] at hk); (obtain ⟨i, zz, hi, hsz, _⟩ := hL.info t hko); (have hv := A.rel.opdT t y); (obtain ⟨cl, c1, cj⟩ := cells_ok hv (good_one hg hv A.rel.rv_one)); (rw [Array.length_toList] at cl); (obtain ⟨g, c, hrv, hix, hp⟩ := (hx ▸ A.rel.opd x).ep_inv hr); (have hrow := (A.rel.row j r hr).2 hf); (rw [hrv] at hrow); (obtain ⟨cur, fz, hfz, hh, hnc, hcm, hcs, hold⟩ := hrow.block); (have hus : (a.eval y).cells.size = (L.ti t).sz := cl.symm.trans hn); (have hmul : (ix + 1) * (L.ti r.t).sz ≤ c * (L.ti r.t).sz := Nat.mul_le_mul_right _ (by omega)); (rw [Nat.add_mul, Nat.one_mul] at hmul); (have hfit : ix * (L.ti r.t).sz + off + (a.eval y).cells.size ≤ cur.size := by rw [hus, hcs]; omega); (have hrun := run_storeIn (P := P) (t := t) hi (u := a.eval y) (by omega) c1 (o := ix * (L.ti r.t).sz + off) (fzW hfz) hh hfit); (obtain ⟨cur', hh', hsz', hget⟩ := setCells_block g (a.eval y).cells.toList (ix * (L.ti r.t).sz + off) w cur r.t fz hh); (obtain ⟨m1, m2, m3, m4⟩ := setCells_meta g (a.eval y).cells.toList (ix * (L.ti r.t).sz + off) w); (have ho' : ∀ k, k ≠ g → (w.setCells g (ix * (L.ti r.t).sz + off) (a.eval y).cells.toList).heap[k]? = w.heap[k]? := fun k hk => setCells_other _ _ _ _ k hk)
 generalize w.setCells g (ix * (L.ti r.t).sz + off) (a.eval y).cells.toList = w' at hrun hh' m1 m2 m3 m4 ho'
 obtain ⟨sl, hfr, hst⟩ := stills_ok A.rel hs
 have hjn : ∀ j' o', (j', o') ∈ u → j' ≠ j := fun j' o' hm e => by
  (rw [List.any_eq_false] at hu); (have := hu _ hm); (rw [e] at this)
  simp at this
 have hfrd : Frd st ((j, none) :: u) := fun j' o' hm => by
  rcases List.mem_cons.1 hm with e | hm
  ·obtain ⟨rfl, rfl⟩ := Prod.mk.inj e
   exact ⟨r, hr, .inl rfl⟩
  ·exact hfr.frd j' o' hm
 (have hgone : ∀ k, (V.rv j).ownBlock = some k → Gone st V ((j, none) :: u) k := fun k hk => ⟨j, r, by rw [look_cons, if_pos rfl], hr, hf, hk⟩); (have hob : (V.rv j).ownBlock = some g := by rw [hrv]; rfl)
 have hsame : ∀ k, k < w.heap.size → w'.heap[k]? = w.heap[k]? ∨ Gone st V ((j, none) :: u) k := fun k hk => by
  by_cases e : k = g
  ·exact .inr (hgone k (by rw [e]; exact hob))
  ·exact .inl (ho' k e)
 (have hnew : ∀ k, ({ r with xs := r.xs.set ix z } : Row L.D).fz = false → (V.rv j).ownBlock = some k → w.heap.size ≤ k ∨ Gone st V ((j, none) :: u) k := fun k _ hk => .inr (hgone k hk)); (have hsize : w.heap.size ≤ w'.heap.size := Nat.le_of_eq m1.symm)
 have S : LabStep st V w w' ((j, none) :: u) j (V.rv j) (labs L u) (ctrD (labs L u) c') (labV st V (labs L u) st.ctr) := by
  have ne : ∀ j' ∈ labs L u, j' ≠ j := fun j' hj' => hjn j' none (labs_mem hj')
  refine hfr.step hnd (fun j' hj' => ⟨by rw [look_cons, if_neg (ne j' hj')]; exact hfr.look_lab hj', ne j' hj'⟩) (fun j' hj' k hk => ho' k fun e => ?_) fun j' hj' k hk e => ?_
  ·obtain ⟨r', hr', hf'⟩ := hfr.row hj'
   exact ne j' hj' (A.rel.rr j' j r' r k hr' hr hf' hf hk (by rw [hob, e]))
  ·obtain ⟨r', hr', hf'⟩ := hfr.row hj'
   exact ne j' hj' (A.rel.rr j' j r' r k hr' hr hf' hf hk e)
 have M := mix_mem (dst := o.dst) (s := .dead) (i0 := j) (r0 := { r with xs := r.xs.set ix z }) (v0 := V.rv j) A.rel hfrd (w' := w') hsize hsame hnew S
 refine ⟨_, _, ?_, { V.withRow j (V.rv j) with lv := labV st V (labs L u) st.ctr }, .inr ⟨rfl, A.rel.turn A.clean A.dst ((Ch.newRow (dst := o.dst) (s := .dead) (r0 := { r with xs := r.xs.set ix z }) A.rel (.inr ⟨r, hr, rfl, rfl, by simp⟩) hfrd _ hsize m2 m3 m4 hsame hnew S ⟨(fun h => by rw [show ({ r with xs := r.xs.set ix z } : Row L.D).fz = r.fz from rfl, hf] at h; cases h), fun _ => ?_⟩).turn A.rel) fun n hn => .dead _⟩⟩
 ·unfold execOp
  (simp only [ho, hp, Sem.run_bind]); (rw [hrun])
  rfl
 ·have hv0 : ({ V.withRow j (V.rv j) with lv := labV st V (labs L u) st.ctr } : Vl).rv j = .slice (some ⟨g, 0, none⟩) (r.xs.set ix z).length c := by simp [Vl.withRow, hrv]
  rw [hv0]
  refine rowOk_newT (by rw [hsz']; exact hfz) hh' (by simpa using hnc) hcm (by rw [hsz', hcs]) fun q jj hq hjj => ?_
  have hq' : q < r.xs.length := by simpa using hq
  have hpos : q * (L.ti r.t).sz + jj < cur.size := by
   (have : (q + 1) * (L.ti r.t).sz ≤ c * (L.ti r.t).sz := Nat.mul_le_mul_right _ (by omega)); (rw [Nat.add_mul] at this); (rw [hcs]; omega)
  rw [hget (q * (L.ti r.t).sz + jj) hpos, Array.length_toList, hus]
  by_cases e : q = ix
  ·subst e
   (have hcl : (L.cell r.t (r.xs.getD q (L.zd r.t))).length = (L.ti r.t).sz := hL.cell _ _); (simp only [List.getElem_set_self]); (rw [hL.make _ _ _ hz, getD_map_canon, getD_mix _ _ _ _ (by rw [sl]; exact hn) (by rw [hcl]; exact hl)])
   by_cases h : off ≤ jj ∧ jj < off + (L.ti t).sz
   ·rw [if_pos h, if_pos (by omega), show q * (L.ti r.t).sz + jj - (q * (L.ti r.t).sz + off) = jj - off by omega]
    (have hjc : jj - off < (a.eval y).cells.toList.length := by rw [Array.length_toList, hus]; omega); (have hjs : jj - off < (cellsOf (rdt L st t y)).length := by rw [hn]; omega)
    refine ⟨_, List.getElem?_eq_getElem hjc, ?_⟩
    have := hst w' _ M ⟨fun j' r' hm hr' => frz_reads A.rel hfrd hsize hsame hnew S hr' (by rw [look_cons, if_neg (hjn _ _ hm)]; exact hfr.lookf hm hr'), fun q' j' r' n' hq' hr' hn' => by
     obtain ⟨hq'', rfl⟩ := List.getElem?_eq_some_iff.1 hq'
     exact lab_reads A.rel hfrd hsize hsame hnew S hn' hq'' hr'⟩ (jj - off) hjs _ (cj (jj - off) hjs)
    rw [getD_map_canon, getD_lt hjc] at this
    exact this
   ·rw [if_neg h, if_neg (by omega)]
    obtain ⟨u', h1, _, h3⟩ := hold q jj hq' hjj
    refine ⟨u', h1, ?_⟩
    rw [canon_cell hL, getD_lt hq']
    exact h3.mono M
  ·have hno : ¬ (ix * (L.ti r.t).sz + off ≤ q * (L.ti r.t).sz + jj ∧ q * (L.ti r.t).sz + jj < ix * (L.ti r.t).sz + off + (L.ti t).sz) := by
    rcases Nat.lt_or_gt_of_ne e with h | h
    ·have : (q + 1) * (L.ti r.t).sz ≤ ix * (L.ti r.t).sz := Nat.mul_le_mul_right _ h
     rw [Nat.add_mul] at this; omega
    ·have : (ix + 1) * (L.ti r.t).sz ≤ q * (L.ti r.t).sz := Nat.mul_le_mul_right _ h
     rw [Nat.add_mul] at this; omega
   (rw [if_neg hno]); (obtain ⟨u', h1, _, h3⟩ := hold q jj hq' hjj)
   refine ⟨u', h1, ?_⟩
   simp only [List.getElem_set_ne (Ne.symm e)]
   exact h3.mono M
theorem fill_ok (h : Rel L E st V a w) (fs : List (Nat × Nat)) (place : Nat → Option (Nat × Nat)) (hp : ∀ j q, fs[j]? = some q → place j = some q) : ∀ {ps : List (Nat × Operand)} {cs cs' : List (SV L.D)} {arr : Array Value}, fillS L st fs cs ps = some cs' → arr.size = cs.length → (∀ j, j < cs.length → ∃ u, arr[j]? = some u ∧ u.oneCell' = true ∧ SR L w (Fz E st V w) st V a.tmps (cs.getD j .dead) u) →
  ∃ arr', Instr.fill place arr (ps.map fun p => (p.1, a.eval p.2)) = some arr' ∧ arr'.size = cs'.length ∧ cs'.length = cs.length ∧ ∀ j, j < cs'.length → ∃ u, arr'[j]? = some u ∧ u.oneCell' = true ∧ SR L w (Fz E st V w) st V a.tmps (cs'.getD j .dead) u
 | [], cs, cs', arr, hf, hs, hj => by
  (simp only [fillS, Option.some.injEq] at hf); (subst hf)
  exact ⟨arr, rfl, hs, rfl, hj⟩
 | (j, x) :: ps, cs, cs', arr, hf, hs, hj => by
  -- one part
  have step : ∀ (off n : Nat) (ds : List (SV L.D)), fs[j]? = some (off, n) → (a.eval x).cells.size = n → off + n ≤ cs.length → ds.length = cs.length → (∀ q, q < cs.length → ∃ u, (if off ≤ q ∧ q < off + n then (a.eval x).cells.toList[q - off]? else arr[q]?) = some u ∧ u.oneCell' = true ∧ SR L w (Fz E st V w) st V a.tmps (ds.getD q .dead) u) → fillS L st fs ds ps = some cs' →
    ∃ arr', Instr.fill place arr (((j, x) :: ps).map fun p => (p.1, a.eval p.2)) = some arr' ∧ arr'.size = cs'.length ∧ cs'.length = cs.length ∧ ∀ j, j < cs'.length → ∃ u, arr'[j]? = some u ∧ u.oneCell' = true ∧ SR L w (Fz E st V w) st V a.tmps (cs'.getD j .dead) u := by
   intro off n ds hfs hn hle hds hq hrest
   obtain ⟨g1, g2⟩ := Great.foldl_set off (a.eval x).cells.toList 0 arr
   obtain ⟨arr', e1, e2, e3, e4⟩ := fill_ok h fs place hp (ps := ps) (cs := ds) (arr := ((a.eval x).cells.toList.zipIdx 0).foldl (fun cs (x : Value × Nat) => cs.setIfInBounds (off + x.2) x.1) arr) hrest (by rw [g1, hs, hds]) (fun q hq' => by
    (rw [g2 q]); (obtain ⟨u, hu, hr⟩ := hq q (by omega))
    refine ⟨u, ?_, hr⟩
    rw [← hu, Array.length_toList, hn, Nat.add_zero]
    by_cases hc : off ≤ q ∧ q < off + n
    ·rw [if_pos hc, if_pos ⟨hc.1, hc.2, by omega⟩]
    ·rw [if_neg hc, if_neg (fun hh => hc ⟨hh.1, hh.2.1⟩)])
   refine ⟨arr', ?_, e2, by rw [e3, hds], e4⟩
   simp only [List.map_cons]
   unfold Instr.fill
   (simp only [hp j _ hfs]); (rw [if_neg (by simp; omega), ← e1])
   congr 1
   rw [← Array.foldl_toList, Array.toList_zipIdx]
  unfold fillS at hf
  split at hf
  ·rename_i heq
   cases heq
  ·rename_i j' ps' heq
   (obtain ⟨e0, rfl⟩ := List.cons.inj heq); (obtain ⟨rfl, rfl⟩ := Prod.mk.inj e0)
   split at hf
   ·rename_i off hfs
    split at hf
    ·rename_i t' hc
     have hlt := (List.getElem?_eq_some_iff.1 hc).1
     refine step off 1 _ hfs rfl (by omega) rfl (fun q hq => ?_) hf
     by_cases hqo : off ≤ q ∧ q < off + 1
     ·obtain rfl : q = off := by omega
      rw [if_pos hqo, Nat.sub_self]
      refine ⟨_, rfl, rfl, ?_⟩
      rw [List.getD_eq_getElem?_getD, hc]
      exact .nl t'
     ·rw [if_neg hqo]; exact hj q hq
    ·cases hf
   ·cases hf
  ·rename_i j' x' ps' hnn heq
   (obtain ⟨e0, rfl⟩ := List.cons.inj heq); (obtain ⟨rfl, rfl⟩ := Prod.mk.inj e0)
   split at hf
   ·rename_i off n hfs
    split at hf
    ·rename_i hg
     (simp only [Bool.and_eq_true] at hg); (obtain ⟨⟨hg, hbl⟩, hle⟩ := hg); (have hbl := Nat.eq_of_beq_eq_true hbl); (have hle := Nat.le_of_ble_eq_true hle); (have hv := h.opd x); (obtain ⟨cl, c1, cj⟩ := cells_ok hv (good_one hg hv h.rv_one)); (have hsz : (a.eval x).cells.size = n := by rw [← Array.length_toList, ← cl, hbl])
     refine step off n _ hfs hsz hle (length_mix _ _ _ _ hbl hle) (fun q hq => ?_) hf
     rw [getD_mix _ _ _ _ hbl hle]
     by_cases hc : off ≤ q ∧ q < off + n
     ·rw [if_pos hc, if_pos hc]
      have hlt : q - off < (a.eval x).cells.toList.length := by rw [Array.length_toList]; omega
      refine ⟨_, List.getElem?_eq_getElem hlt, c1 _ (List.getElem_mem _), ?_⟩
      (have := cj (q - off) (by omega)); (rw [getD_lt hlt] at this)
      exact this
     ·rw [if_neg hc, if_neg hc]; exact hj q hq
    ·cases hf
   ·cases hf
theorem places_ok (hL : LayOk P L) {t : TypeId} {fs : List (Nat × Nat)} (hk : (L.ti t).kind = .struct fs) : ∃ fields : Array Field, P.underlying t = some (.struct fields) ∧ fields.toList.mapM (fun f => (P.info? f.type).map fun i => (f.offset, i.size)) = some fs := by
 obtain ⟨fields, hu, hsz, hj⟩ := hL.struct t fs hk
 refine ⟨fields, hu, ?_⟩
 have key : ∀ (l : List Field) (m : List (Nat × Nat)), l.length = m.length → (∀ (j q n : Nat), m[j]? = some (q, n) → ∃ (f : Field) (i : TypeInfo), l[j]? = some f ∧ f.offset = q ∧ P.info? f.type = some i ∧ i.size = n) → l.mapM (fun f => (P.info? f.type).map fun i => (f.offset, i.size)) = some m := by
  intro l
  induction l with
  | nil => intro m hl _; rw [List.eq_nil_of_length_eq_zero hl.symm]; rfl
  | cons f l ih =>
   intro m hl hm
   cases m with
   | nil => cases hl
   | cons p m =>
    (obtain ⟨f', i, h1, h2, h3, h4⟩ := hm 0 p.1 p.2 rfl); (obtain rfl : f = f' := Option.some.inj h1); (have := ih m (by simpa using hl) fun j q n hj => by simpa using hm (j + 1) q n (by simpa using hj))
    simp [List.mapM_cons, h3, this, h2, h4]
 exact key _ _ (by simpa using hsz) fun j q n h => by simpa using hj j q n h
theorem out_build (hL : LayOk P L) {o : Oper} {ks : List Key} (A : At L E st V a w o ks) {t : TypeId} {ps : Array (Nat × Operand)} (ho : o.op = .build t ps) {fs : List (Nat × Nat)} (hk : (L.ti t).kind = .struct fs) {cs : List (SV L.D)} (hc : fillS L st fs (L.zero t) ps.toList = some cs) (hm : ∀ k ∈ ks, mentL k cs = false) : Out P L E st o a w { val := .agg cs } := by
 (obtain ⟨fields, hu, hpl⟩ := places_ok hL hk); (obtain ⟨i, z, hi, hz, hzs, hlen, h1, hj⟩ := zero_ok hL (t := t) (by simp [okT, hk]) (w := w) (F := Fz E st V w) (st := st) (V := V) (tm := a.tmps)); (rw [Array.length_toList (xs := z.cells)] at hlen)
 obtain ⟨arr, e1, e2, e3, e4⟩ := fill_ok A.rel fs (fs.toArray[·]?) (fun j q h => by simpa using h) hc (arr := z.cells) hlen.symm fun j hjl => by
  (have hjl' : j < z.cells.toList.length := by rw [Array.length_toList (xs := z.cells)]; omega); (have := (hj j hjl).2); (rw [getD_lt hjl'] at this)
  exact ⟨_, by rw [← Array.getElem?_toList]; exact List.getElem?_eq_getElem hjl', h1 _ (List.getElem_mem _), this⟩
 have hb : P.built t (ps.map fun p => (p.1, a.eval p.2)).toList = some arr := by
  unfold Program.built
  simp only [hi, hu, hz, hpl, Array.toList_map]
  exact e1
 refine Out.val A (v := .agg arr) ?_ (fun k hk' => hm k hk') ?_
 ·unfold execOp
  simp only [ho, Sem.run_bind, run_build w t _ arr hb]
  rfl
 ·have : SR L w (Fz E st V w) st V a.tmps (.agg cs) (.agg arr.toList.toArray) := .agg cs arr.toList (by rw [Array.length_toList (xs := arr), e2]) (fun v hv => by
   (obtain ⟨q, hq, rfl⟩ := List.getElem_of_mem hv); (rw [Array.length_toList (xs := arr), e2] at hq); (obtain ⟨u, h1, h2, _⟩ := e4 q hq); (rw [← Array.getElem?_toList, List.getElem?_eq_getElem (by rw [Array.length_toList (xs := arr), e2]; exact hq)] at h1)
   rw [Option.some.inj h1]; exact h2) fun q hq => by
   (obtain ⟨u, h1, _, h3⟩ := e4 q hq); (rw [List.getD_eq_getElem?_getD (l := arr.toList), Array.getElem?_toList, h1])
   exact h3
  exact this
theorem CR.v_inv' {w : World} {F : FS} {x u : Value} (h : CR L w F (.v x) u) : u = x := by
 cases h; rfl
theorem out_convRow (hL : LayOk P L) {o : Oper} {ks : List Key} (A : At L E st V a w o ks) {src dst e : TypeId} {x : Operand} (ho : o.op = .convert src dst x) (hs : elemOf L src = some e) (hd : (L.ti dst).kind = .str) (hk : (L.ti e).kind = .int .u8) {r : Row L.D} (hr : rowOf L st (rdo st x) = some r) (he : e = r.t) :
  Out P L E st o a w { val := .v (.string ⟨(r.xs.map (byteOf L r.t)).toArray⟩) } := by
 (subst he); (obtain ⟨hu, _⟩ := elem_info hL hs); (obtain ⟨A', c, hv, hA⟩ := rowCells A.rel hr (A.rel.opd x)); (obtain ⟨hs1, hb1, hz1, _, hcell⟩ := hL.byte r.t hk)
 refine Out.val A (v := .string ⟨(r.xs.map (byteOf L r.t)).toArray⟩) ?_ (fun _ _ => rfl) (.c (.v _ rfl))
 unfold execOp
 simp only [ho, hv, Sem.run_bind]
 by_cases hnil : r.xs = []
 ·have hc : ∀ w : World, (convert src dst (.slice A' r.xs.length c)).run P w = .ok (.string ByteArray.empty) w := fun w => by
   rw [run_convert_bytes_string w src dst r.t A' r.xs.length c hu (hL.int _ _ hk) (hL.str _ hd)]
   cases A' <;> simp [Conv.bytesToString, hnil, loadCells, loadCellsFrom] <;> rfl
  rw [hc, hnil]
  rfl
 ·obtain ⟨b, off, f, rfl, h1, h2⟩ := hA hnil
  have hnum : ∀ i, (hi : i < r.xs.length) → ∃ n, L.cell r.t r.xs[i] = [.v (.int .u8 n)] ∧ f i 0 = .int .u8 n := fun i hi => by
   (obtain ⟨n, hn⟩ := hcell r.xs[i]); (have := h2 i 0 hi (by omega)); (rw [hn] at this); (simp only [List.getD_cons_zero] at this)
   exact ⟨n, hn, this.v_inv'⟩
  have hr := run_convert_bytes_arg (P := P) (w := w) src r.t hu (hL.int _ _ hk) b off r.xs.length c (r.xs.map fun x => match L.cell r.t x with | [.v (.int _ n)] => n | _ => 0) (by simp) (fun i hi => by
   (have := h1 i 0 hi (by omega)); (rw [hs1, Nat.mul_one, Nat.add_zero] at this); (obtain ⟨n, hn, hf⟩ := hnum i hi); (rw [this, hf, List.getD_eq_getElem?_getD, List.getElem?_map, List.getElem?_eq_getElem hi])
   simp [hn]) dst (hL.str _ hd)
  rw [hr]
  have : strOfNums (r.xs.map fun x => match L.cell r.t x with | [.v (.int _ n)] => n | _ => 0) = ⟨(r.xs.map (byteOf L r.t)).toArray⟩ := by
   unfold strOfNums
   rw [List.map_map]
   congr 2
   refine List.map_congr_left fun x hx => ?_
   obtain ⟨n, hn⟩ := hcell x
   simp [byteOf, hn]
  rw [this]
  rfl
theorem out_min {o : Oper} {ks : List Key} (A : At L E st V a w o ks) {x y : Operand} {t t' : TypeId} (ho : o.op = .call { callee := .builtin .min, args := #[x, y], argTypes := #[t, t'] }) {k k' : IntKind} {m n : Int} (hx : rdo st x = .v (.int k m)) (hy : rdo st y = .v (.int k' n)) : Out P L E st o a w { val := .v (.int k (cond (decide (n < m)) n m)) } := by
 (have e1 := (hx ▸ A.rel.opd x).v_inv.1); (have e2 := (hy ▸ A.rel.opd y).v_inv.1)
 refine Out.val A (v := .int k (cond (decide (n < m)) n m)) ?_ (fun _ _ => rfl) (.c (.v _ rfl))
 unfold execOp
 simp [ho, resolve, invoke, builtin, e1, e2, run_min_int2, Bool.cond_decide]
theorem out_max {o : Oper} {ks : List Key} (A : At L E st V a w o ks) {x y : Operand} {t t' : TypeId} (ho : o.op = .call { callee := .builtin .max, args := #[x, y], argTypes := #[t, t'] }) {k k' : IntKind} {m n : Int} (hx : rdo st x = .v (.int k m)) (hy : rdo st y = .v (.int k' n)) : Out P L E st o a w { val := .v (.int k (cond (decide (n > m)) n m)) } := by
 (have e1 := (hx ▸ A.rel.opd x).v_inv.1); (have e2 := (hy ▸ A.rel.opd y).v_inv.1)
 refine Out.val A (v := .int k (cond (decide (n > m)) n m)) ?_ (fun _ _ => rfl) (.c (.v _ rfl))
 unfold execOp
 simp [ho, resolve, invoke, builtin, e1, e2, run_max_int2, Bool.cond_decide]
theorem run_copy_any {t e ty : TypeId} (hu : P.underlying t = some (.slice e)) {i : TypeInfo} (hi : P.info? e = some i) (b o dLen dCap : Nat) (p : Addr) (sLen sCap : Nat) (cs : List Value) (hn : cs.length = Nat.min sLen dLen * i.size)
  (hsrc : ∀ j v, cs[j]? = some v → w.cell? (p.add j) = some v) (hc : ∀ j, j < cs.length → (w.cell? ⟨b, o + j, none⟩).isSome = true) (hf : ∀ j, j < cs.length → w.frozen? ⟨b, o + j, none⟩ = false) (h1 : ∀ v ∈ cs, v.oneCell' = true) :
  (Builtin.copy_ #[t, t] ty #[.slice (some ⟨b, o, none⟩) dLen dCap, .slice (some p) sLen sCap]).run P w = .ok (goInt (Nat.min sLen dLen : Nat)) (w.setCells b o cs) := by
 (have hl := run_loadCells_list (P := P) (w := w) p cs hsrc); (have hst := run_storeCells_cells (P := P) b o cs 0 w (by simpa using hc) (by simpa using hf) h1)
 simp [Builtin.copy_, run_underlying hu, Builtin.lenOf, Builtin.firstCells, sizeOf, typeInfo, hi, ← hn, hl, hst]
theorem run_copy_zero {t e ty : TypeId} (hu : P.underlying t = some (.slice e)) {i : TypeInfo} (hi : P.info? e = some i) (d p : Option Addr) (dLen dCap sLen sCap : Nat) (hn : Nat.min sLen dLen = 0) :
  (Builtin.copy_ #[t, t] ty #[.slice d dLen dCap, .slice p sLen sCap]).run P w = .ok (goInt (Nat.min sLen dLen : Nat)) w := by
 have hl : ∀ (x : Addr), (loadCells x 0).run P w = .ok #[] w := fun x => by simpa using run_loadCells_list (P := P) (w := w) x [] (by simp)
 cases d <;> cases p <;> simp [Builtin.copy_, run_underlying hu, Builtin.lenOf, Builtin.firstCells, sizeOf, typeInfo, hi, hn, storeCells, hl]
theorem out_copy (hL : LayOk P L) {o : Oper} {ks : List Key} (A : At L E st V a w o ks) {x y : Operand} {t e : TypeId} (ho : o.op = .call { callee := .builtin .copy, args := #[x, y], argTypes := #[t, t] }) (hk : elemOf L t = some e) {j : Nat} (hx : rdt L st t x = .own j) {xs ys : List (L.D e)} (hr : st.row j = some ⟨e, false, xs⟩) {fz : Bool} (hy : rowOf L st (rdt L st t y) = some ⟨e, fz, ys⟩) :
  Out P L E st o a w { val := .v (.int .i64 (Nat.min ys.length xs.length : Nat)), rows := [(j, some ⟨e, false, ys.take xs.length ++ xs.drop ys.length⟩), (j, none)] } := by
 (obtain ⟨hu, hko, _, hsz, i, z, hinf, hs, hbt, hzero, hb0⟩ := elem_info hL hk); (have hv : a.eval x = V.rv j := (hx ▸ A.rel.opdT t x : SR L w _ st V a.tmps (.own j) _).own_inv hr); (have hrow := (A.rel.row j _ hr).2 rfl); (obtain ⟨p, c, hyv, hA⟩ := rowCells A.rel hy (A.rel.opdT t y))
 dsimp only at hrow hyv hA
 have hfrd : Frd st [(j, none)] := fun j' o' hm => by
  obtain ⟨rfl, rfl⟩ := Prod.mk.inj (List.mem_singleton.1 hm)
  exact ⟨_, hr, .inl rfl⟩
 have hgone : ∀ k, (V.rv j).ownBlock = some k → Gone st V [(j, none)] k := fun k hk => ⟨j, _, by rw [look_cons, if_pos rfl], hr, rfl, hk⟩
 -- what is left to show
 have fin : ∀ w' : World, (Builtin.copy_ #[t, t] o.type #[a.eval x, a.eval y]).run P w = .ok (goInt (Nat.min ys.length xs.length : Nat)) w' → w'.heap.size = w.heap.size → w'.os = w.os → w'.tape = w.tape → w'.output = w.output → (∀ k, (V.rv j).ownBlock ≠ some k → w'.heap[k]? = w.heap[k]?) →
   (∀ F, Le w w' (Fz E st V w) F → RowOk L w' F (V.rv j) e (ys.take xs.length ++ xs.drop ys.length)) → Out P L E st o a w { val := .v (.int .i64 (Nat.min ys.length xs.length : Nat)), rows := [(j, some ⟨e, false, ys.take xs.length ++ xs.drop ys.length⟩), (j, none)] } := fun w' hrun m1 m2 m3 m4 hoth hok => by
  have hsame : ∀ k, k < w.heap.size → w'.heap[k]? = w.heap[k]? ∨ Gone st V [(j, none)] k := fun k _ => by
   by_cases e' : (V.rv j).ownBlock = some k
   ·exact .inr (hgone k e')
   ·exact .inl (hoth k e')
  (have hsize : w.heap.size ≤ w'.heap.size := Nat.le_of_eq m1.symm); (have hnew : ∀ k, (⟨e, false, ys.take xs.length ++ xs.drop ys.length⟩ : Row L.D).fz = false → (V.rv j).ownBlock = some k → w.heap.size ≤ k ∨ Gone st V [(j, none)] k := fun k _ hk => .inr (hgone k hk)); (have M := mix_mem (dst := o.dst) (s := .v (.int .i64 (Nat.min ys.length xs.length : Nat))) (i0 := j) (r0 := ⟨e, false, ys.take xs.length ++ xs.drop ys.length⟩) (v0 := V.rv j) A.rel hfrd (w' := w') hsize hsame hnew labStep_nil)
  refine ⟨_, _, ?_, { V.withRow j (V.rv j) with lv := V.lv }, .inl ⟨_, rfl, A.rel.turn A.clean A.dst ((Ch.newRow (dst := o.dst) (s := .v (.int .i64 (Nat.min ys.length xs.length : Nat))) (r0 := ⟨e, false, ys.take xs.length ++ xs.drop ys.length⟩) A.rel (.inr ⟨_, hr, rfl, rfl, by simp; omega⟩) hfrd _ hsize m2 m3 m4 hsame hnew labStep_nil ⟨(fun h => by cases h), fun _ => ?_⟩).turn A.rel) fun n hn => .c (.v _ rfl)⟩⟩
  ·unfold execOp
   simp [ho, resolve, invoke, builtin, hrun, goInt]
  ·have hv0 : ({ V.withRow j (V.rv j) with lv := V.lv } : Vl).rv j = V.rv j := by simp [Vl.withRow]
   rw [hv0]
   exact hok _ M
 by_cases h0 : Nat.min ys.length xs.length = 0
 ·have e0 : ys.take xs.length ++ xs.drop ys.length = xs := by
   rcases Nat.eq_zero_or_pos ys.length with h | h
   ·rw [List.eq_nil_of_length_eq_zero h]; simp
   ·have : xs = [] := List.eq_nil_of_length_eq_zero (by simp only [Nat.min_def] at h0; split at h0 <;> omega)
    subst this; simp
  refine fin w ?_ rfl rfl rfl rfl (fun _ _ => rfl) fun F hF => ?_
  ·obtain ⟨q, l, cc, hsl⟩ : ∃ q cc, V.rv j = .slice q xs.length cc ∧ True := by
    obtain ⟨cells, ⟨_, h2⟩, _⟩ := hrow
    rcases h2 with ⟨e1, e2⟩ | ⟨g, cap, cur, fz, e1, _⟩
    ·exact ⟨none, 0, by rw [e1, e2], trivial⟩
    ·exact ⟨_, _, e1, trivial⟩
   rw [hv, cc, hyv]
   exact run_copy_zero hu hinf _ _ _ _ _ _ h0
  ·rw [e0]; exact hrow.mono hF fun _ _ => rfl
 ·have hmin : Nat.min ys.length xs.length ≤ ys.length ∧ Nat.min ys.length xs.length ≤ xs.length := ⟨Nat.min_le_left _ _, Nat.min_le_right _ _⟩
  obtain ⟨b, off, f, rfl, hc, hcr⟩ := hA (fun e' => h0 (by rw [e']; simp))
  obtain ⟨g, cap, hsl⟩ : ∃ g cap, V.rv j = .slice (some ⟨g, 0, none⟩) xs.length cap := by
   obtain ⟨cells, ⟨_, h2⟩, _⟩ := hrow
   rcases h2 with ⟨_, e2⟩ | ⟨g, cap, cur, fz, e1, _⟩
   ·exact absurd (by rw [e2]; simp) h0
   ·exact ⟨g, cap, e1⟩
  (rw [hsl] at hrow); (obtain ⟨cur, fz', hfz, hh, hnc, hcm, hcs, hold⟩ := hrow.block)
  generalize hm : Nat.min ys.length xs.length = m at *
  have hnews : ∀ j u, ((List.range (m * (L.ti e).sz)).map fun q => f (q / (L.ti e).sz) (q % (L.ti e).sz))[j]? = some u → w.cell? ((⟨b, off, none⟩ : Addr).add j) = some u ∧ u.oneCell' = true := fun j u hj => by
   by_cases hlt : j < m * (L.ti e).sz
   ·rw [cells_list m _ f hsz j hlt] at hj
    (have hd : j / (L.ti e).sz < m := Nat.div_lt_of_lt_mul (by rw [Nat.mul_comm]; exact hlt)); (have hmd := Nat.mod_lt j hsz); (rw [← Option.some.inj hj, Addr.add_mid]); (have := hc (j / (L.ti e).sz) (j % (L.ti e).sz) (Nat.lt_of_lt_of_le hd hmin.1) hmd); (rw [Nat.add_assoc, Nat.mul_comm, Nat.div_add_mod] at this)
    exact ⟨this, (hcr _ _ (Nat.lt_of_lt_of_le hd hmin.1) hmd).one⟩
   ·rw [List.getElem?_eq_none (by simp; omega)] at hj; cases hj
  have hget0 : ∀ q, q < m * (L.ti e).sz → ((List.range (m * (L.ti e).sz)).map fun q => f (q / (L.ti e).sz) (q % (L.ti e).sz))[q]? = some (f (q / (L.ti e).sz) (q % (L.ti e).sz)) := fun q hq => cells_list m _ f hsz q hq
  generalize hN : ((List.range (m * (L.ti e).sz)).map fun q => f (q / (L.ti e).sz) (q % (L.ti e).sz)) = news at hnews hget0
  have hl : news.length = m * (L.ti e).sz := by rw [← hN]; simp
  have hfit : news.length ≤ cur.size := by
   rw [hl, hcs]; exact Nat.mul_le_mul_right _ (by omega)
  (obtain ⟨cur', hh', hsz', hget⟩ := setCells_block g news 0 w cur e fz' hh); (obtain ⟨m1, m2, m3, m4⟩ := setCells_meta g news 0 w)
  refine fin (w.setCells g 0 news) ?_ m1 m2 m3 m4 (fun k hk => setCells_other _ _ _ _ k fun e' => hk (by rw [hsl, e']; rfl)) fun F M => ?_
  ·rw [hv, hsl, hyv, ← hm]
   refine run_copy_any hu hinf g 0 xs.length cap ⟨b, off, none⟩ ys.length c news (by rw [hs, hm]; exact hl) (fun j v hj => (hnews j v hj).1) (fun q hq => ?_) (fun q hq => ?_) fun v hv => ?_
   ·rw [Nat.zero_add]; simp [World.cell?, hh]; omega
   ·rw [Nat.zero_add]; exact notFrozen (fzW hfz) hh (by omega)
   ·obtain ⟨q, hq, rfl⟩ := List.getElem_of_mem hv
    exact (hnews q _ (List.getElem?_eq_getElem hq)).2
  ·have hxl : (ys.take xs.length ++ xs.drop ys.length).length = xs.length := by simp; omega
   (rw [hsl]); (have key : ∀ n, n = (ys.take xs.length ++ xs.drop ys.length).length → RowOk L (w.setCells g 0 news) F (.slice (some ⟨g, 0, none⟩) n cap) e (ys.take xs.length ++ xs.drop ys.length) := ?_)
   ·exact key _ hxl.symm
   rintro _ rfl
   refine rowOk_newT (by rw [hsz']; exact hfz) hh' (by omega) hcm (by rw [hsz', hcs]) fun q jj hq hjj => ?_
   have hq' : q < xs.length := by omega
   have hpos : q * (L.ti e).sz + jj < cur.size := by
    (have : (q + 1) * (L.ti e).sz ≤ cap * (L.ti e).sz := Nat.mul_le_mul_right _ (by omega)); (rw [Nat.add_mul] at this); (rw [hcs]; omega)
   rw [hget _ hpos, Nat.zero_add, Nat.sub_zero]
   by_cases hqm : q < m
   ·have hlt : q * (L.ti e).sz + jj < m * (L.ti e).sz := by
     (have : (q + 1) * (L.ti e).sz ≤ m * (L.ti e).sz := Nat.mul_le_mul_right _ hqm); (rw [Nat.add_mul] at this; omega)
    (have e1 : (q * (L.ti e).sz + jj) / (L.ti e).sz = q := by rw [Nat.mul_comm, Nat.mul_add_div hsz, Nat.div_eq_of_lt hjj, Nat.add_zero]); (have e2 : (q * (L.ti e).sz + jj) % (L.ti e).sz = jj := by rw [Nat.mul_comm, Nat.mul_add_mod, Nat.mod_eq_of_lt hjj]); (rw [if_pos ⟨Nat.zero_le _, by omega⟩, hget0 _ hlt, e1, e2])
    refine ⟨_, rfl, ?_⟩
    have e3 : (ys.take xs.length ++ xs.drop ys.length)[q] = ys[q]'(by omega) := by
     rw [List.getElem_append_left (by simp; omega), List.getElem_take]
    rw [e3]
    exact (hcr q jj (by omega) hjj).mono M
   ·have hge : m * (L.ti e).sz ≤ q * (L.ti e).sz + jj := by
     have : m * (L.ti e).sz ≤ q * (L.ti e).sz := Nat.mul_le_mul_right _ (by omega)
     omega
    (rw [if_neg (by omega)]); (obtain ⟨u', h1, _, h3⟩ := hold q jj hq' hjj)
    refine ⟨u', h1, ?_⟩
    have hylt : ys.length ≤ q := by
     simp only [Nat.min_def] at hm; split at hm <;> omega
    have e3 : (ys.take xs.length ++ xs.drop ys.length)[q] = xs[q] := by
     rw [List.getElem_append_right (by simp; omega), List.getElem_drop]
     congr 1; simp; omega
    rw [e3]
    exact h3.mono M
theorem out_copyC (hL : LayOk P L) {o : Oper} {ks : List Key} (A : At L E st V a w o ks) {x y : Operand} {t e : TypeId} (ho : o.op = .call { callee := .builtin .copy, args := #[x, y], argTypes := #[t, t] }) (hk : elemOf L t = some e) {j : Nat} (hx : rdt L st t x = .own j) {r r' : Row L.D} (hr : st.row j = some r) (hf : r.fz = false) (hy : rowOf L st (rdt L st t y) = some r') {xs ys : List (L.D e)} (hcx : castL r.xs = some xs) (hcy : castL r'.xs = some ys) :
  Out P L E st o a w { val := .v (.int .i64 (Nat.min ys.length xs.length : Nat)), rows := [(j, some ⟨e, false, ys.take xs.length ++ xs.drop ys.length⟩), (j, none)] } := by
 (obtain ⟨t1, f1, x1⟩ := r); (obtain ⟨t2, f2, x2⟩ := r')
 dsimp only at hf hcx hcy
 (subst hf); (obtain ⟨h1, e1⟩ := castL_eq hcx); (subst h1); (obtain ⟨h2, e2⟩ := castL_eq hcy); (subst h2); (subst e1 e2)
 exact out_copy hL A ho hk hx hr hy
end
end Go.Proofs.YtfeikakkfnnaoaaGreatDoor.V
namespace Go.Proofs.YtfeikakkfnnaoaaGreatDoor.V
open Go
set_option linter.unusedVariables false
set_option linter.unusedSimpArgs false
section
variable {P : Program} {L : Lay} {E : Ent} {st : St L.D} {V : Vl} {a : Act} {w : World}
def takeS (n c : Nat) : SV L.D → SV L.D
 | .fr _ _ => .own (n + c)
 | s => s
theorem take_len (n : Nat) : ∀ (c : Nat) (l : List (SV L.D)), (take_ L n c l).1.length = l.length
 | _, [] => rfl
 | c, s :: l => by
  cases s <;> simp only [take_, List.length_cons, take_len n (c + 1) l]
theorem take_get (n : Nat) : ∀ (c : Nat) (l : List (SV L.D)) (j : Nat), j < l.length → (take_ L n c l).1.getD j .dead = takeS n (c + j) (l.getD j .dead)
 | _, [], j, h => absurd h (Nat.not_lt_zero j)
 | c, s :: l, 0, _ => by cases s <;> rfl
 | c, s :: l, j + 1, h => by
  have := take_get n (c + 1) l j (by simpa using h)
  cases s <;> (simp only [take_, List.getD_cons_succ]; rw [this, Nat.add_right_comm]; rfl)
theorem take_look (n : Nat) : ∀ (c : Nat) (l : List (SV L.D)) (m : Nat) (o : Option (Row L.D)), look (take_ L n c l).2 m = some o → ∃ j t xs, j < l.length ∧ m = n + (c + j) ∧ l.getD j .dead = .fr t xs ∧ o = some ⟨t, false, xs⟩
 | _, [], _, _, h => by cases h
 | c, s :: l, m, o, h => by
  have key : ∀ {s : SV L.D}, look (take_ L n (c + 1) l).2 m = some o → ∃ j t xs, j < (s :: l).length ∧ m = n + (c + j) ∧ (s :: l).getD j .dead = .fr t xs ∧ o = some ⟨t, false, xs⟩ := fun h => by
   obtain ⟨j, t, xs, h1, h2, h3, h4⟩ := take_look n (c + 1) l m o h
   exact ⟨j + 1, t, xs, by simpa using h1, by omega, by simpa using h3, h4⟩
  cases s with
  | fr t xs =>
   (simp only [take_] at h); (rw [look_cons] at h)
   by_cases e : m = n + c
   ·rw [if_pos e] at h
    exact ⟨0, t, xs, by simp, by omega, rfl, (Option.some.inj h).symm⟩
   ·rw [if_neg e] at h; exact key h
  | _ => exact key h
theorem take_some (n : Nat) : ∀ (c : Nat) (l : List (SV L.D)) (j : Nat) (t : TypeId) (xs : List (L.D t)), j < l.length → l.getD j .dead = .fr t xs → look (take_ L n c l).2 (n + (c + j)) = some (some ⟨t, false, xs⟩)
 | _, [], j, _, _, h, _ => absurd h (Nat.not_lt_zero j)
 | c, s :: l, 0, t, xs, _, h => by
  (simp only [List.getD_cons_zero] at h); (subst h); (simp only [take_]); (rw [look_cons, if_pos (by omega)])
 | c, s :: l, j + 1, t, xs, h, hj => by
  (have := take_some n (c + 1) l j t xs (by simpa using h) (by simpa using hj)); (have e : n + (c + (j + 1)) = n + (c + 1 + j) := by omega); (rw [e])
  cases s with
  | fr t' xs' =>
   (simp only [take_]); (rw [look_cons, if_neg (by omega)])
   exact this
  | _ => exact this
theorem arg_ok (h : Rel L E st V a w) {s s' : SV L.D} {sh : List (Nat × Row L.D)} (hs : argOf L st s = some (s', sh)) {v : Value} (hv : SR L w (Fz E st V w) st V a.tmps s v) : (∀ j r, (j, r) ∈ sh → st.row j = some r) ∧ v.oneCell' = true ∧ (∀ t xs, s' ≠ .fr t xs) ∧
  ∀ F : FS, Le w w (Fz E st V w) F → (∀ j r k, (j, r) ∈ sh → r.fz = false → (V.rv j).ownBlock = some k → F k) → CR L w F s' v := by
 unfold argOf at hs
 split at hs
 ·obtain ⟨rfl, rfl⟩ := Prod.mk.inj (Option.some.inj hs)
  obtain ⟨rfl, h1⟩ := hv.v_inv
  exact ⟨fun _ _ hm => (by cases hm), h1, (fun _ _ e => by cases e), fun F _ _ => .v _ h1⟩
 ·obtain ⟨rfl, rfl⟩ := Prod.mk.inj (Option.some.inj hs)
  exact ⟨fun _ _ hm => (by cases hm), hv.ro_inv.one, (fun _ _ e => by cases e), fun F hF _ => hv.ro_inv.mono hF⟩
 ·obtain ⟨rfl, rfl⟩ := Prod.mk.inj (Option.some.inj hs)
  rw [hv.nl_inv]
  exact ⟨fun _ _ hm => (by cases hm), rfl, (fun _ _ e => by cases e), fun F _ _ => .ro0 _ none 0⟩
 ·split at hs
  ·rename_i j _ r hr
   (obtain ⟨rfl, rfl⟩ := Prod.mk.inj (Option.some.inj hs)); (rw [hv.own_inv hr])
   refine ⟨fun j' r' hm => ?_, h.rv_one j r hr, (fun _ _ e => by cases e), fun F hF hS => ?_⟩
   ·obtain ⟨rfl, rfl⟩ := Prod.mk.inj (List.mem_singleton.1 hm); exact hr
   ·obtain ⟨p, q⟩ := h.row j r hr
    cases hf : r.fz with
    | true => exact (p hf).mono hF
    | false => exact (q hf).reads hF fun k hk => hS j r k (List.mem_singleton.2 rfl) hf hk
  ·cases hs
 ·obtain ⟨rfl, rfl⟩ := Prod.mk.inj (Option.some.inj hs)
  exact ⟨fun _ _ hm => (by cases hm), hv.lr_inv.one, (fun _ _ e => by cases e), fun F hF _ => hv.lr_inv.mono hF⟩
 ·cases hs
theorem args_flat (h : Rel L E st V a w) : ∀ {cs cs' : List (SV L.D)} {sh : List (Nat × Row L.D)}, argsOf L st cs = some (cs', sh) → cs'.length = cs.length ∧ (∀ j r, (j, r) ∈ sh → st.row j = some r) ∧
  ∀ F : FS, Le w w (Fz E st V w) F → (∀ j r k, (j, r) ∈ sh → r.fz = false → (V.rv j).ownBlock = some k → F k) → ∀ j, j < cs.length → ∀ v, SR L w (Fz E st V w) st V a.tmps (cs.getD j .dead) v → CR L w F (cs'.getD j .dead) v
 | [], cs', sh, hs => by
  obtain ⟨rfl, rfl⟩ := Prod.mk.inj (Option.some.inj hs)
  exact ⟨rfl, fun _ _ hm => (by cases hm), fun _ _ _ j hj => absurd hj (Nat.not_lt_zero j)⟩
 | s :: l, cs', sh, hs => by
  simp only [argsOf] at hs
  split at hs
  ·rename_i x ua r ub h1 h2
   (obtain ⟨rfl, rfl⟩ := Prod.mk.inj (Option.some.inj hs)); (obtain ⟨hl, g1, g2⟩ := args_flat h h2)
   refine ⟨by simp [hl], fun j r hm => ?_, fun F hF hS j hj v hv => ?_⟩
   ·rcases List.mem_append.1 hm with hm | hm
    ·-- of the first one
     cases s <;> simp only [argOf] at h1 <;> first | cases h1; done | (obtain ⟨rfl, rfl⟩ := Prod.mk.inj (Option.some.inj h1); cases hm; done) | skip
     split at h1
     ·rename_i r0 hr0
      (obtain ⟨rfl, rfl⟩ := Prod.mk.inj (Option.some.inj h1)); (obtain ⟨rfl, rfl⟩ := Prod.mk.inj (List.mem_singleton.1 hm); exact hr0)
     ·cases h1
    ·exact g1 j r hm
   ·cases j with
    | zero => exact (arg_ok h h1 (by simpa using hv)).2.2.2 F hF fun j r k hm => hS j r k (List.mem_append_left _ hm)
    | succ j =>
     have := g2 F hF (fun j r k hm => hS j r k (List.mem_append_right _ hm)) j (by simpa using hj) v (by simpa using hv)
     simpa using this
  ·cases hs
theorem box_reads (h : Rel L E st V a w) {b : Nat} {cs cs' : List (SV L.D)} {sh : List (Nat × Row L.D)} (hb : st.box b = some cs) (hs : argsOf L st cs = some (cs', sh)) {F : FS} (hF : Le w w (Fz E st V w) F) (hS : ∀ j r k, (j, r) ∈ sh → r.fz = false → (V.rv j).ownBlock = some k → F k) (hB : F (V.ba b)) (off : Nat)
  {st' : St L.D} {V' : Vl} {tm' : Array Value} : SR L w F st' V' tm' (.rb cs' off) (.pointer (some ⟨V.ba b, V.bo b + off, none⟩)) := by
 (obtain ⟨hl, _, hj⟩ := args_flat h hs); (obtain ⟨vs, T, hh, hsz, hc⟩ := h.box b cs hb)
 have hcell : ∀ j, j < cs'.length → w.cell? ⟨V.ba b, V.bo b + j, none⟩ = some (vs.getD (V.bo b + j) undef) := fun j hjl => by
  obtain ⟨u, hu, _⟩ := hc j (by omega)
  simp [World.cell?, hh, hu]
 refine .rb cs' off (V.ba b) (V.bo b) (fun j => vs.getD (V.bo b + j) undef) (.inl hB) hcell fun j hjl => ?_
 (obtain ⟨u, hu, _, hr⟩ := hc j (by omega)); (have e : vs.getD (V.bo b + j) undef = u := by rw [Array.getD_eq_getD_getElem?, hu]; rfl)
 show CR L w F (cs'.getD j .dead) (vs.getD (V.bo b + j) undef)
 rw [e]
 exact hj F hF hS j (by omega) u hr
theorem mov_ok (h : Rel L E st V a w) {s s' : SV L.D} {g : List Nat} (hs : movOf L st s = some (s', g)) {v : Value} (hv : SR L w (Fz E st V w) st V a.tmps s v) : (∀ j ∈ g, ∃ r, st.row j = some r ∧ r.fz = false ∧ s' = .fr r.t r.xs ∧ v = V.rv j ∧ g = [j]) ∧
  (g = [] → (∃ t, s' = .fr t [] ∧ v = .slice none 0 0) ∨ ((∀ t xs, s' ≠ .fr t xs) ∧ CR L w (Fz E st V w) s' v)) := by
 unfold movOf at hs
 split at hs
 ·obtain ⟨rfl, rfl⟩ := Prod.mk.inj (Option.some.inj hs)
  obtain ⟨rfl, h1⟩ := hv.v_inv
  exact ⟨(fun _ hm => by cases hm), fun _ => .inr ⟨(fun _ _ e => by cases e), .v _ h1⟩⟩
 ·obtain ⟨rfl, rfl⟩ := Prod.mk.inj (Option.some.inj hs)
  exact ⟨(fun _ hm => by cases hm), fun _ => .inr ⟨(fun _ _ e => by cases e), hv.ro_inv⟩⟩
 ·obtain ⟨rfl, rfl⟩ := Prod.mk.inj (Option.some.inj hs)
  exact ⟨(fun _ hm => by cases hm), fun _ => .inl ⟨_, rfl, hv.nl_inv⟩⟩
 ·split at hs
  ·rename_i j _ r hr
   split at hs
   ·rename_i hf
    obtain ⟨rfl, rfl⟩ := Prod.mk.inj (Option.some.inj hs)
    refine ⟨fun j' hm => ?_, (fun e => by cases e)⟩
    obtain rfl := List.mem_singleton.1 hm
    exact ⟨r, hr, hf, rfl, hv.own_inv hr, rfl⟩
   ·rename_i hf
    obtain ⟨rfl, rfl⟩ := Prod.mk.inj (Option.some.inj hs)
    refine ⟨(fun _ hm => by cases hm), fun _ => .inr ⟨(fun _ _ e => by cases e), ?_⟩⟩
    rw [hv.own_inv hr]
    exact (h.row j r hr).1 hf
  ·cases hs
 ·cases hs
inductive ArgIs (L : Lay) (E : Ent) (st : St L.D) (V : Vl) (w : World) (g : Arg L) (v : Value) : Prop
 | flat (np : ∀ cs, g.sv ≠ .pb cs) (hl : g.lent = []) (hg : g.gone = []) (h : ∀ F : FS, Le w w (Fz E st V w) F → (∀ j r k, (j, r) ∈ g.shown → r.fz = false → (V.rv j).ownBlock = some k → F k) → (∀ b ∈ g.capt, F (V.ba b)) → ∀ st' V' tm', SR L w F st' V' tm' g.sv v)
 | lent (b off n : Nat) (cs cs' : List (SV L.D)) (hs : g.sv = .pb cs') (hl : g.lent = [(b, off, n, cs)]) (hb : st.box b = some cs) (hn : off + n ≤ cs.length) (h9 : n ≤ 900) (hm : movsOf L st ((cs.drop off).take n) = some (cs', g.gone)) (hv : v = .pointer (some ⟨V.ba b, V.bo b + off, none⟩))
 | mvd (e : TypeId) (xs : List (L.D e)) (hs : g.sv = .fr e xs) (hl : g.lent = []) (hv : (∃ j r, g.gone = [j] ∧ st.row j = some r ∧ r.fz = false ∧ (SV.fr (D := L.D) e xs) = .fr r.t r.xs ∧ v = V.rv j) ∨ (g.gone = [] ∧ xs = [] ∧ v = .slice none 0 0))
structure ArgOk (L : Lay) (E : Ent) (st : St L.D) (V : Vl) (w : World) (g : Arg L) (v : Value) : Prop where
 is : ArgIs L E st V w g v
 shown : ∀ j r, (j, r) ∈ g.shown → st.row j = some r
 capt : ∀ b ∈ g.capt, ∃ cs, st.box b = some cs
theorem cap_ok (hL : LayOk P L) (h : Rel L E st V a w) {s s' : SV L.D} {sh : List (Nat × Row L.D)} {bs : List Nat} (hs : capOf L st s = some (s', sh, bs)) {v : Value} (hv : SR L w (Fz E st V w) st V a.tmps s v) : (∀ j r, (j, r) ∈ sh → st.row j = some r) ∧ (∀ b ∈ bs, ∃ cs, st.box b = some cs) ∧ (∀ cs, s' ≠ .pb cs) ∧
  ∀ F : FS, Le w w (Fz E st V w) F → (∀ j r k, (j, r) ∈ sh → r.fz = false → (V.rv j).ownBlock = some k → F k) → (∀ b ∈ bs, F (V.ba b)) → ∀ st' V' tm', SR L w F st' V' tm' s' v := by
 unfold capOf at hs
 split at hs
 ·rename_i b off
  split at hs
  ·rename_i cs hb
   split at hs
   ·rename_i cs' sh' ha
    (obtain ⟨rfl, e⟩ := Prod.mk.inj (Option.some.inj hs)); (obtain ⟨rfl, rfl⟩ := Prod.mk.inj e); (rw [hv.ptr_inv hb])
    refine ⟨(args_flat h ha).2.1, fun b' hm => ?_, (fun _ e => by cases e), fun F hF hS hB st' V' tm' => box_reads h hb ha hF hS (hB b (List.mem_singleton.2 rfl)) off⟩
    obtain rfl := List.mem_singleton.1 hm; exact ⟨cs, hb⟩
   ·cases hs
  ·cases hs
 ·rename_i cs off
  (obtain ⟨rfl, e⟩ := Prod.mk.inj (Option.some.inj hs)); (obtain ⟨rfl, rfl⟩ := Prod.mk.inj e)
  refine ⟨fun _ _ hm => (by cases hm), (fun _ hm => by cases hm), (fun _ e => by cases e), fun F hF hS hB st' V' tm' => ?_⟩
  obtain ⟨b, o, f, hb, rfl, hu, hr⟩ := hv.rb_inv
  exact .rb cs off b o f (hF.keeps hb).1 hu fun j hj => (hr j hj).mono hF
 ·split at hs
  ·rename_i x sh' ha
   (obtain ⟨rfl, e⟩ := Prod.mk.inj (Option.some.inj hs)); (obtain ⟨rfl, rfl⟩ := Prod.mk.inj e); (obtain ⟨g1, _, _, g2⟩ := arg_ok h ha hv)
   refine ⟨g1, (fun _ hm => by cases hm), (fun cs e => ?_), fun F hF hS hB st' V' tm' => .c (g2 F hF hS)⟩
   (subst e); (have := g2 ⟨fun _ => True, fun _ _ => True⟩ (.sub (fun _ _ => trivial) fun _ _ _ => trivial) (fun _ _ _ _ _ _ => trivial))
   cases this
  ·cases hs
theorem caps_ok (hL : LayOk P L) (h : Rel L E st V a w) : ∀ {cs cs' : List (SV L.D)} {sh : List (Nat × Row L.D)} {bs : List Nat}, capsOf L st cs = some (cs', sh, bs) → ∀ vs : List Value, (∀ j, j < cs.length → SR L w (Fz E st V w) st V a.tmps (cs.getD j .dead) (vs.getD j undef)) → cs'.length = cs.length ∧ (∀ j r, (j, r) ∈ sh → st.row j = some r) ∧ (∀ b ∈ bs, ∃ cs, st.box b = some cs) ∧
  ∀ F : FS, Le w w (Fz E st V w) F → (∀ j r k, (j, r) ∈ sh → r.fz = false → (V.rv j).ownBlock = some k → F k) → (∀ b ∈ bs, F (V.ba b)) → ∀ st' V' tm' j, j < cs.length → SR L w F st' V' tm' (cs'.getD j .dead) (vs.getD j undef)
 | [], cs', sh, bs, hs, vs, hv => by
  (obtain ⟨rfl, e⟩ := Prod.mk.inj (Option.some.inj hs)); (obtain ⟨rfl, rfl⟩ := Prod.mk.inj e)
  exact ⟨rfl, fun _ _ hm => (by cases hm), (fun _ hm => by cases hm), fun _ _ _ _ _ _ _ j hj => absurd hj (Nat.not_lt_zero j)⟩
 | s :: l, cs', sh, bs, hs, vs, hv => by
  simp only [capsOf] at hs
  split at hs
  ·rename_i x ua p r ub q h1 h2
   (obtain ⟨rfl, e⟩ := Prod.mk.inj (Option.some.inj hs)); (obtain ⟨rfl, rfl⟩ := Prod.mk.inj e); (have e1 : ∀ j, vs.tail.getD j undef = vs.getD (j + 1) undef := fun j => by cases vs <;> rfl); (obtain ⟨hl, g1, g2, g3⟩ := caps_ok hL h h2 vs.tail fun j hj => by rw [e1]; simpa using hv (j + 1) (by simpa using hj)); (obtain ⟨k1, k2, _, k3⟩ := cap_ok (P := P) hL h h1 (by simpa using hv 0 (by simp)))
   refine ⟨by simp [hl], fun j r hm => (List.mem_append.1 hm).elim (k1 j r) (g1 j r), fun b hm => (List.mem_append.1 hm).elim (k2 b) (g2 b), fun F hF hS hB st' V' tm' j hj => ?_⟩
   cases j with
   | zero => exact k3 F hF (fun j r k hm => hS j r k (List.mem_append_left _ hm)) (fun b hm => hB b (List.mem_append_left _ hm)) st' V' tm'
   | succ j =>
    (have := g3 F hF (fun j r k hm => hS j r k (List.mem_append_right _ hm)) (fun b hm => hB b (List.mem_append_right _ hm)) st' V' tm' j (by simpa using hj)); (rw [e1] at this)
    simpa using this
  ·cases hs
theorem nkS_ok (b : Bool) {w : World} {F : FS} {s : SV L.D} {v : Value} (h : CR L w F s v) : CR L w F (nkS b s) v := by
 cases b with
 | false => cases s <;> exact h
 | true =>
  cases h with
  | ro0 t a c => exact .rn0 t a c
  | ro t xs b off c u hne hc hb hu hr => exact .rn t xs b off c u hne hc (.inl hb) hu hr
  | lr0 l t a c => exact .rn0 t a c
  | lr l t xs b off c u hne hc hl hu hr => exact .rn t xs b off c u hne hc (.inr ⟨l, _, hl, rfl⟩) hu hr
  | v _ h => exact .v _ h
  | rn0 t a c => exact .rn0 t a c
  | rn t xs b off c u hne hc hb hu hr => exact .rn t xs b off c u hne hc hb hu hr
  | ct n v h => exact .ct n v h
theorem arg1_ok (hL : LayOk P L) (h : Rel L E st V a w) {t : TypeId} {x : Operand} {g : Arg L} {nk : Bool} (hs : arg1 L nk st t x = some g) : ArgOk L E st V w g (a.eval x) := by
 have hv := h.opdT t x
 unfold arg1 at hs
 split at hs
 ·rename_i cs hx
  rw [hx] at hv
  split at hs
  ·rename_i cs' sh ha
   (obtain rfl := Option.some.inj hs); (obtain ⟨hl, g1, g2⟩ := args_flat h ha)
   refine ⟨.flat (fun _ e => by cases e) rfl rfl fun F hF hS hB st' V' tm' => ?_, g1, fun _ hm => by cases hm⟩
   (obtain ⟨vs, e, hlen, h1, hj⟩ := hv.agg_inv); (rw [e])
   exact .agg cs' vs (by omega) h1 fun j hjl => .c (g2 F hF hS j (by omega) _ (hj j (by omega)))
  ·cases hs
 ·rename_i f cs hx
  rw [hx] at hv
  split at hs
  ·rename_i cs' sh bs ha
   (obtain rfl := Option.some.inj hs); (obtain ⟨vs, e, hlen, hj⟩ := hv.cl_inv); (obtain ⟨hl, g1, g2, g3⟩ := caps_ok (P := P) hL h ha vs hj)
   refine ⟨.flat (fun _ e => by cases e) rfl rfl fun F hF hS hB st' V' tm' => ?_, g1, g2⟩
   rw [e]
   exact .cl f cs' vs (by omega) fun j hjl => g3 F hF hS hB st' V' tm' j (by omega)
  ·cases hs
 ·rename_i cs off hx
  (rw [hx] at hv); (obtain rfl := Option.some.inj hs)
  refine ⟨.flat (fun _ e => by cases e) rfl rfl fun F hF hS hB st' V' tm' => ?_, fun _ _ hm => (by cases hm), fun _ hm => by cases hm⟩
  (obtain ⟨b, o, f, hb, e, hu, hr⟩ := hv.rb_inv); (rw [e])
  exact .rb cs off b o f (hF.keeps hb).1 hu fun j hj => (hr j hj).mono hF
 ·rename_i t' y off hx
  (rw [hx] at hv); (obtain rfl := Option.some.inj hs)
  refine ⟨.flat (fun _ e => by cases e) rfl rfl fun F hF hS hB st' V' tm' => ?_, fun _ _ hm => (by cases hm), fun _ hm => by cases hm⟩
  (obtain ⟨b, o, f, hb, e, hu, hr⟩ := hv.rp_inv); (have hc := hL.cell t' y); (rw [e])
  exact .rb (L.cell t' y) off b o f (hF.keeps hb).1 (fun j hj => hu j (by omega)) fun j hj => (hr j (by omega)).mono hF
 ·rename_i b off hx
  rw [hx] at hv
  split at hs
  ·rename_i e cs hk hb
   split at hs
   ·rename_i cs' g' hle hm
    (obtain rfl := Option.some.inj hs); (rw [Bool.and_eq_true] at hle)
    exact ⟨.lent b off (L.ti e).sz cs cs' rfl rfl hb (Nat.le_of_ble_eq_true hle.1) (Nat.le_of_ble_eq_true hle.2) hm (hv.ptr_inv hb), fun _ _ hm => (by cases hm), fun _ hm => by cases hm⟩
   ·cases hs
  ·cases hs
 ·rename_i t' ys hx
  rw [hx] at hv
  split at hs
  ·obtain rfl := Option.some.inj hs
   exact ⟨.flat (fun _ e => by cases e) rfl rfl fun F hF hS hB st' V' tm' => .c (hv.rn_inv.mono hF), fun _ _ hm => (by cases hm), fun _ hm => by cases hm⟩
  ·cases hs
 ·split at hs
  ·rename_i s' sh ha
   (obtain rfl := Option.some.inj hs); (obtain ⟨g1, _, _, g2⟩ := arg_ok h ha hv)
   refine ⟨.flat (fun cs e => ?_) rfl rfl fun F hF hS hB st' V' tm' => .c (nkS_ok _ (g2 F hF hS)), g1, fun _ hm => by cases hm⟩
   (have := nkS_ok nk (g2 ⟨fun _ => True, fun _ _ => True⟩ (.sub (fun _ _ => trivial) fun _ _ _ => trivial) (fun _ _ _ _ _ _ => trivial))); (rw [show nkS nk s' = .pb cs from e] at this)
   cases this
  ·cases hs
theorem argX_ok (hL : LayOk P L) (h : Rel L E st V a w) {t : TypeId} {x : Operand} {g : Arg L} {nk mv : Bool} (hs : argX L nk mv st t x = some g) : ArgOk L E st V w g (a.eval x) := by
 cases mv with
 | false => exact arg1_ok (P := P) hL h hs
 | true =>
  simp only [argX, argM] at hs
  split at hs
  ·rename_i e xs g' hm
   (obtain rfl := Option.some.inj hs); (obtain ⟨g1, g2⟩ := mov_ok h hm (h.opdT t x))
   refine ⟨.mvd e xs rfl rfl ?_, fun _ _ hm => (by cases hm), fun _ hm => by cases hm⟩
   by_cases hg : g' = []
   ·rcases g2 hg with ⟨t', e', ev⟩ | ⟨hne, _⟩
    ·refine .inr ⟨hg, ?_, ev⟩
     injection e' with e0 e'
     subst e0
     exact eq_of_heq e'
    ·exact absurd rfl (hne e xs)
   ·obtain ⟨j, hj⟩ := List.exists_mem_of_ne_nil _ hg
    obtain ⟨r, hr, hf, es, ev, e1⟩ := g1 j hj
    exact .inl ⟨j, r, e1, hr, hf, es, ev⟩
  ·cases hs
theorem args_ok (hL : LayOk P L) (h : Rel L E st V a w) : ∀ {xs : List Operand} {ts : List TypeId} {gs : List (Arg L)} {nk mv : List Bool}, args_ L nk mv st xs ts = some gs → gs.length = xs.length ∧ ∀ p (hp : p < gs.length), ArgOk L E st V w gs[p] ((xs.map a.eval).getD p undef)
 | [], _, gs, _, _, hs => by
  (simp only [args_, Option.some.injEq] at hs); (subst hs)
  exact ⟨rfl, fun p hp => absurd hp (Nat.not_lt_zero p)⟩
 | x :: l, [], gs, _, _, hs => by cases hs
 | x :: l, t :: ts, gs, _, _, hs => by
  simp only [args_] at hs
  split at hs
  ·rename_i g r h1 h2
   (obtain rfl := Option.some.inj hs); (obtain ⟨hl, hj⟩ := args_ok hL h h2)
   refine ⟨by simp [hl], fun p hp => ?_⟩
   cases p with
   | zero => exact argX_ok (P := P) hL h h1
   | succ p =>
    have := hj p (by simpa using hp)
    simpa using this
  ·cases hs
theorem capArgs_ok (hL : LayOk P L) (h : Rel L E st V a w) : ∀ {cs : List (SV L.D)} {gs : List (Arg L)}, capArgs L st cs = some gs → ∀ vs : List Value, (∀ j, j < cs.length → SR L w (Fz E st V w) st V a.tmps (cs.getD j .dead) (vs.getD j undef)) → gs.length = cs.length ∧ ∀ p (hp : p < gs.length), ArgOk L E st V w gs[p] (vs.getD p undef)
 | [], gs, hs, vs, hv => by
  (simp only [capArgs, Option.some.injEq] at hs); (subst hs)
  exact ⟨rfl, fun p hp => absurd hp (Nat.not_lt_zero p)⟩
 | s :: l, gs, hs, vs, hv => by
  simp only [capArgs] at hs
  split at hs
  ·rename_i x sh bs r h1 h2
   (obtain rfl := Option.some.inj hs); (have e1 : ∀ j, vs.tail.getD j undef = vs.getD (j + 1) undef := fun j => by cases vs <;> rfl); (obtain ⟨hl, hj⟩ := capArgs_ok hL h h2 vs.tail fun j hj => by rw [e1]; simpa using hv (j + 1) (by simpa using hj))
   refine ⟨by simp [hl], fun p hp => ?_⟩
   cases p with
   | zero =>
    obtain ⟨k1, k2, k3, k4⟩ := cap_ok (P := P) hL h h1 (by simpa using hv 0 (by simp))
    exact ⟨.flat k3 rfl rfl k4, k1, k2⟩
   | succ p =>
    (have := hj p (by simpa using hp)); (rw [e1] at this)
    simpa using this
  ·cases hs
theorem movs_ok (h : Rel L E st V a w) : ∀ {cs cs' : List (SV L.D)} {g : List Nat}, movsOf L st cs = some (cs', g) → cs'.length = cs.length ∧ ∀ j, j < cs.length → ∃ gj, movOf L st (cs.getD j .dead) = some (cs'.getD j .dead, gj) ∧ ∀ i ∈ gj, i ∈ g
 | [], cs', g, hs => by
  obtain ⟨rfl, rfl⟩ := Prod.mk.inj (Option.some.inj hs)
  exact ⟨rfl, fun j hj => absurd hj (Nat.not_lt_zero j)⟩
 | s :: l, cs', g, hs => by
  simp only [movsOf] at hs
  split at hs
  ·rename_i x ga r gb h1 h2
   (obtain ⟨rfl, rfl⟩ := Prod.mk.inj (Option.some.inj hs)); (obtain ⟨hl, hj⟩ := movs_ok h h2)
   refine ⟨by simp [hl], fun j hjl => ?_⟩
   cases j with
   | zero => exact ⟨ga, by simpa using h1, fun i hi => List.mem_append_left _ hi⟩
   | succ j =>
    obtain ⟨gj, e, hg⟩ := hj j (by simpa using hjl)
    exact ⟨gj, by simpa using e, fun i hi => List.mem_append_right _ (hg i hi)⟩
  ·cases hs
end
end Go.Proofs.YtfeikakkfnnaoaaGreatDoor.V
namespace Go.Proofs.YtfeikakkfnnaoaaGreatDoor.V
open Go
set_option linter.unusedVariables false
set_option linter.unusedSimpArgs false
theorem nodupB_spec : ∀ {l : List Nat}, nodupB l = true → l.Nodup
 | [], _ => List.nodup_nil
 | n :: l, h => by
  simp only [nodupB, Bool.and_eq_true, Bool.not_eq_true'] at h
  refine List.nodup_cons.2 ⟨fun hm => ?_, nodupB_spec h.2⟩
  (have := h.1); (rw [List.any_eq_false] at this)
  exact this n hm (by simp)
theorem disjB_spec : ∀ {l m : List Nat}, disjB l m = true → ∀ n, n ∈ l → n ∉ m
 | x :: l, m, h, n, hn => by
  simp only [disjB, Bool.and_eq_true, Bool.not_eq_true'] at h
  rcases List.mem_cons.1 hn with rfl | hn
  ·intro hm
   (have := h.1); (rw [List.any_eq_false] at this)
   exact this n hm (by simp)
  ·exact disjB_spec h.2 n hn
theorem flat_uniq {α : Type} (f : α → List Nat) : ∀ {l : List α}, (l.flatMap f).Nodup → ∀ {p q : Nat} (hp : p < l.length) (hq : q < l.length) {x : Nat}, x ∈ f l[p] → x ∈ f l[q] → p = q
 | [], _, p, _, hp, _, _, _, _ => absurd hp (Nat.not_lt_zero p)
 | a :: l, h, p, q, hp, hq, x, h1, h2 => by
  rw [List.flatMap_cons, List.nodup_append] at h
  cases p with
  | zero =>
   cases q with
   | zero => rfl
   | succ q => exact absurd rfl (h.2.2 x (by simpa using h1) x (List.mem_flatMap.2 ⟨l[q]'(by simpa using hq), List.getElem_mem _, by simpa using h2⟩))
  | succ p =>
   cases q with
   | zero => exact absurd rfl (h.2.2 x (by simpa using h2) x (List.mem_flatMap.2 ⟨l[p]'(by simpa using hp), List.getElem_mem _, by simpa using h1⟩))
   | succ q => exact congrArg (· + 1) (flat_uniq f h.2.1 (by simpa using hp) (by simpa using hq) (by simpa using h1) (by simpa using h2))
section
variable {P : Program} {L : Lay} {E : Ent} {st : St L.D} {V : Vl} {a : Act} {w : World}
theorem movs_uniq : ∀ {cs cs' : List (SV L.D)} {g : List Nat}, movsOf L st cs = some (cs', g) → g.Nodup → ∀ {j j' i : Nat} {s s' : SV L.D} {gj gj' : List Nat}, j < cs.length → j' < cs.length → movOf L st (cs.getD j .dead) = some (s, gj) → movOf L st (cs.getD j' .dead) = some (s', gj') → i ∈ gj → i ∈ gj' → j = j'
 | [], cs', g, _, _, j, _, _, _, _, _, _, hj, _, _, _, _, _ => absurd hj (Nat.not_lt_zero j)
 | c :: l, cs', g, hs, hn, j, j', i, s, s', gj, gj', hj, hj', h1, h2, hi, hi' => by
  simp only [movsOf] at hs
  split at hs
  ·rename_i x ga r gb e1 e2
   (obtain ⟨rfl, rfl⟩ := Prod.mk.inj (Option.some.inj hs)); (rw [List.nodup_append] at hn)
   have inB : ∀ {q s gq}, q < l.length → movOf L st (l.getD q .dead) = some (s, gq) → ∀ i ∈ gq, i ∈ gb := fun {q s gq} hq he i hi => by
    (obtain ⟨_, hm⟩ := (movs_len e2 q hq)); (obtain ⟨hm1, hm2⟩ := hm); (rw [he] at hm1)
    exact hm2 i ((Prod.mk.inj (Option.some.inj hm1)).2 ▸ hi)
   cases j with
   | zero =>
    cases j' with
    | zero => rfl
    | succ j' =>
     (simp only [List.getD_cons_zero, List.getD_cons_succ] at h1 h2); (rw [e1] at h1); (obtain ⟨rfl, rfl⟩ := Prod.mk.inj (Option.some.inj h1))
     exact absurd rfl (hn.2.2 i hi i (inB (by simpa using hj') h2 i hi'))
   | succ j =>
    cases j' with
    | zero =>
     (simp only [List.getD_cons_zero, List.getD_cons_succ] at h1 h2); (rw [e1] at h2); (obtain ⟨rfl, rfl⟩ := Prod.mk.inj (Option.some.inj h2))
     exact absurd rfl (hn.2.2 i hi' i (inB (by simpa using hj) h1 i hi))
    | succ j' =>
     simp only [List.getD_cons_succ] at h1 h2
     exact congrArg (· + 1) (movs_uniq e2 hn.2.1 (by simpa using hj) (by simpa using hj') h1 h2 hi hi')
  ·cases hs
where
 movs_len {cs cs' : List (SV L.D)} {g : List Nat} (hs : movsOf L st cs = some (cs', g)) (j : Nat) (hj : j < cs.length) : ∃ gj, movOf L st (cs.getD j .dead) = some (cs'.getD j .dead, gj) ∧ ∀ i ∈ gj, i ∈ g := by
  induction cs generalizing cs' g j with
  | nil => exact absurd hj (Nat.not_lt_zero j)
  | cons c l ih =>
   simp only [movsOf] at hs
   split at hs
   ·rename_i x ga r gb h1 h2
    obtain ⟨rfl, rfl⟩ := Prod.mk.inj (Option.some.inj hs)
    cases j with
    | zero => exact ⟨ga, by simpa using h1, fun i hi => List.mem_append_left _ hi⟩
    | succ j =>
     obtain ⟨gj, e, hg⟩ := ih h2 j (by simpa using hj)
     exact ⟨gj, by simpa using e, fun i hi => List.mem_append_right _ (hg i hi)⟩
   ·cases hs
def startS (p : Nat) : SV L.D → SV L.D
 | .pb _ => .ptr p 0
 | .fr _ _ => .own (700000 + 1000 * p)
 | s => s
theorem startT_get : ∀ (p0 : Nat) (l : List (SV L.D)) (q : Nat), q < l.length → look (startT L p0 l) (p0 + q) = some (startS (p0 + q) (l.getD q .dead))
 | _, [], q, h => absurd h (Nat.not_lt_zero q)
 | p0, s :: l, 0, _ => by cases s <;> simp [startT, look, startS]
 | p0, s :: l, q + 1, h => by
  (have := startT_get (p0 + 1) l q (by simpa using h)); (have e : p0 + (q + 1) = p0 + 1 + q := by omega); (rw [e])
  cases s <;> (simp only [startT]; rw [look_cons, if_neg (by omega)]; simpa using this)
theorem startT_none : ∀ (p0 : Nat) (l : List (SV L.D)) (n : Nat), (n < p0 ∨ p0 + l.length ≤ n) → look (startT L p0 l) n = none
 | _, [], _, _ => rfl
 | p0, s :: l, n, h => by
  have := startT_none (p0 + 1) l n (by simp at h; omega)
  cases s <;> (simp only [startT]; rw [look_cons, if_neg (by simp at h; omega)]; exact this)
theorem startB_box : ∀ (p0 : Nat) (l : List (SV L.D)) (b : Nat) (o : Option (List (SV L.D))), look (startB L p0 l).1 b = some o → ∃ q cs, q < l.length ∧ b = p0 + q ∧ l.getD q .dead = .pb cs ∧ o = some (take_ L (700000 + 1000 * b) 0 cs).1
 | _, [], _, _, h => by cases h
 | p0, s :: l, b, o, h => by
  have key : look (startB L (p0 + 1) l).1 b = some o → ∃ q cs, q < (s :: l).length ∧ b = p0 + q ∧ (s :: l).getD q .dead = .pb cs ∧ o = some (take_ L (700000 + 1000 * b) 0 cs).1 := fun h => by
   obtain ⟨q, cs, h1, h2, h3, h4⟩ := startB_box (p0 + 1) l b o h
   exact ⟨q + 1, cs, by simpa using h1, by omega, by simpa using h3, h4⟩
  cases s with
  | pb cs =>
   (simp only [startB] at h); (rw [look_cons] at h)
   by_cases e : b = p0
   ·rw [if_pos e] at h
    exact ⟨0, cs, by simp, e, rfl, by rw [e]; exact (Option.some.inj h).symm⟩
   ·rw [if_neg e] at h; exact key h
  | _ => exact key h
theorem startB_row : ∀ (p0 : Nat) (l : List (SV L.D)) (m : Nat) (o : Option (Row L.D)), look (startB L p0 l).2 m = some o → (∃ q cs j t xs, q < l.length ∧ l.getD q .dead = .pb cs ∧ j < cs.length ∧ m = 700000 + 1000 * (p0 + q) + (0 + j) ∧ cs.getD j .dead = .fr t xs ∧ o = some ⟨t, false, xs⟩) ∨ ∃ q t xs, q < l.length ∧ l.getD q .dead = .fr t xs ∧ m = 700000 + 1000 * (p0 + q) ∧ o = some ⟨t, false, xs⟩
 | _, [], _, _, h => by cases h
 | p0, s :: l, m, o, h => by
  have key : look (startB L (p0 + 1) l).2 m = some o → (∃ q cs j t xs, q < (s :: l).length ∧ (s :: l).getD q .dead = .pb cs ∧ j < cs.length ∧ m = 700000 + 1000 * (p0 + q) + (0 + j) ∧ cs.getD j .dead = .fr t xs ∧ o = some ⟨t, false, xs⟩) ∨ ∃ q t xs, q < (s :: l).length ∧ (s :: l).getD q .dead = .fr t xs ∧ m = 700000 + 1000 * (p0 + q) ∧ o = some ⟨t, false, xs⟩ := fun h => by
   rcases startB_row (p0 + 1) l m o h with ⟨q, cs, j, t, xs, h1, h2, h3, h4, h5⟩ | ⟨q, t, xs, h1, h2, h3, h4⟩
   ·exact .inl ⟨q + 1, cs, j, t, xs, by simpa using h1, by simpa using h2, h3, by omega, h5⟩
   ·exact .inr ⟨q + 1, t, xs, by simpa using h1, by simpa using h2, by omega, h4⟩
  cases s with
  | fr t xs =>
   (simp only [startB] at h); (rw [look_cons] at h)
   by_cases e : m = 700000 + 1000 * p0
   ·rw [if_pos e] at h
    exact .inr ⟨0, t, xs, by simp, rfl, e, (Option.some.inj h).symm⟩
   ·rw [if_neg e] at h; exact key h
  | pb cs =>
   (simp only [startB] at h); (rw [look_append] at h)
   cases hl : look (take_ L (700000 + 1000 * p0) 0 cs).2 m with
   | some o' =>
    (rw [hl] at h); (obtain ⟨j, t, xs, h1, h2, h3, h4⟩ := take_look _ _ _ _ _ hl)
    exact .inl ⟨0, cs, j, t, xs, by simp, rfl, h1, h2, h3, by rw [← Option.some.inj h]; exact h4⟩
   | none => rw [hl] at h; exact key h
  | _ => exact key h
theorem startB_skip (p0 : Nat) {s : SV L.D} (h1 : ∀ cs, s ≠ .pb cs) (l : List (SV L.D)) : (startB L p0 (s :: l)).1 = (startB L (p0 + 1) l).1 := by
 cases s <;> first | rfl | exact absurd rfl (h1 _)
theorem startB_imps : ∀ (p0 : Nat) {gs : List (Arg L)}, (∀ p (hp : p < gs.length), ((∀ cs, gs[p].sv ≠ .pb cs) ∧ gs[p].lent = []) ∨ ∃ cs l, gs[p].sv = .pb cs ∧ gs[p].lent = [l]) → (startB L p0 (gs.map (·.sv))).1.length = (lentOf L gs).length ∧
  ∀ q (hq : q < (startB L p0 (gs.map (·.sv))).1.length), ∃ p l, p < gs.length ∧ (startB L p0 (gs.map (·.sv))).1[q].1 = p0 + p ∧ (lentOf L gs)[q]? = some l ∧ (∃ hp : p < gs.length, gs[p].lent = [l])
 | _, [], _ => ⟨rfl, fun q hq => absurd hq (Nat.not_lt_zero q)⟩
 | p0, g :: gs, h => by
  obtain ⟨hl, hj⟩ := startB_imps (p0 + 1) (gs := gs) fun p hp => by
   have := h (p + 1) (by simpa using hp)
   simpa only [List.getElem_cons_succ] using this
  rcases h 0 (by simp) with ⟨h1, h2⟩ | ⟨cs, l, h1, h2⟩
  ·simp only [List.getElem_cons_zero] at h1 h2
   (have e1 : (startB L p0 ((g :: gs).map (·.sv))).1 = (startB L (p0 + 1) (gs.map (·.sv))).1 := startB_skip p0 h1 _); (have e2 : lentOf L (g :: gs) = lentOf L gs := by simp [lentOf, h2]); (simp only [e1, e2])
   refine ⟨hl, fun q hq => ?_⟩
   obtain ⟨p, l, a1, a2, a3, a4, a5⟩ := hj q hq
   exact ⟨p + 1, l, by simpa using a1, by omega, a3, by simpa using a4, by simpa using a5⟩
  ·simp only [List.getElem_cons_zero] at h1 h2
   have e1 : startB L p0 ((g :: gs).map (·.sv)) = ((p0, some (take_ L (700000 + 1000 * p0) 0 cs).1) :: (startB L (p0 + 1) (gs.map (·.sv))).1, (take_ L (700000 + 1000 * p0) 0 cs).2 ++ (startB L (p0 + 1) (gs.map (·.sv))).2) := by
    simp only [List.map_cons, h1, startB]
   (have e2 : lentOf L (g :: gs) = l :: lentOf L gs := by simp [lentOf, h2]); (rw [e2]); (simp only [e1])
   refine ⟨by simp [hl], fun q hq => ?_⟩
   cases q with
   | zero => exact ⟨0, l, by simp, rfl, rfl, by simp, h2⟩
   | succ q =>
    obtain ⟨p, l', a1, a2, a3, a4, a5⟩ := hj q (by simpa using hq)
    exact ⟨p + 1, l', by simpa using a1, by simpa using (by omega : _ = p0 + (p + 1)), by simpa using a3, by simpa using a4, by simpa using a5⟩
def startV (w : World) (vals : List Value) : Vl where
 ba p := match vals.getD p undef with | .pointer (some x) => x.block | _ => 0
 bo p := match vals.getD p undef with | .pointer (some x) => x.off | _ => 0
 rv m := match vals.getD ((m - 700000) / 1000) undef with
  | .slice p l c => .slice p l c
  | _ => (w.cell? ⟨match vals.getD ((m - 700000) / 1000) undef with | .pointer (some x) => x.block | _ => 0, (match vals.getD ((m - 700000) / 1000) undef with | .pointer (some x) => x.off | _ => 0) + (m - 700000) % 1000, none⟩).getD undef
 lv _ := (0, undef)
def ShownB (L : Lay) (V : Vl) (gs : List (Arg L)) (k : Nat) : Prop := (∃ j r, (j, r) ∈ shownOf L gs ∧ r.fz = false ∧ (V.rv j).ownBlock = some k) ∨ ∃ b ∈ captOf L gs, V.ba b = k
def ImpB (L : Lay) (V : Vl) (gs : List (Arg L)) (k : Nat) : Prop := (∃ l ∈ lentOf L gs, V.ba l.1 = k) ∨ ∃ j ∈ goneOf L gs, (V.rv j).ownBlock = some k
def callE (L : Lay) (E : Ent) (st : St L.D) (V : Vl) (w : World) (gs : List (Arg L)) (n : Nat) (q : Option Nat) : Ent where
 nt := n
 w0 := w
 F0 := ⟨fun k => Fz E st V w k ∨ ShownB L V gs k, (Fz E st V w).lb⟩
 Imp := ImpB L V gs
 adr := (lentOf L gs).map fun l => (V.ba l.1, V.bo l.1 + l.2.1)
 q := q
structure Lends (L : Lay) (E : Ent) (st : St L.D) (V : Vl) (w : World) (gs : List (Arg L)) (vals : List Value) : Prop where
 len : gs.length = vals.length
 arg : ∀ p (hp : p < gs.length), ArgOk L E st V w gs[p] (vals.getD p undef)
 boxes : ((lentOf L gs).map (·.1)).Nodup
 gone : (goneOf L gs).Nodup
 apart : ∀ j, j ∈ (shownOf L gs).map (·.1) → j ∉ goneOf L gs
 capt : ∀ b, b ∈ captOf L gs → b ∉ (lentOf L gs).map (·.1)
section
variable {gs : List (Arg L)} {vals : List Value}
theorem Lends.shown (H : Lends L E st V w gs vals) {j : Nat} {r : Row L.D} (h : (j, r) ∈ shownOf L gs) : st.row j = some r := by
 (obtain ⟨g, hg, hm⟩ := List.mem_flatMap.1 h); (obtain ⟨p, hp, rfl⟩ := List.getElem_of_mem hg)
 exact (H.arg p hp).shown j r hm
theorem Lends.captB (H : Lends L E st V w gs vals) {b : Nat} (h : b ∈ captOf L gs) : ∃ cs, st.box b = some cs := by
 (obtain ⟨g, hg, hm⟩ := List.mem_flatMap.1 h); (obtain ⟨p, hp, rfl⟩ := List.getElem_of_mem hg)
 exact (H.arg p hp).capt b hm
theorem Lends.lent (H : Lends L E st V w gs vals) {l : Nat × Nat × Nat × List (SV L.D)} (h : l ∈ lentOf L gs) : st.box l.1 = some l.2.2.2 ∧ l.2.1 + l.2.2.1 ≤ l.2.2.2.length := by
 (obtain ⟨g, hg, hm⟩ := List.mem_flatMap.1 h); (obtain ⟨p, hp, rfl⟩ := List.getElem_of_mem hg)
 cases (H.arg p hp).is with
 | flat _ hl => rw [hl] at hm; cases hm
 | mvd _ _ _ hl => rw [hl] at hm; cases hm
 | lent b off n cs cs' _ hl hb hn =>
  (rw [hl] at hm); (obtain rfl := List.mem_singleton.1 hm)
  exact ⟨hb, hn⟩
theorem Lends.fr (h : Rel L E st V a w) (H : Lends L E st V w gs vals) {p : Nat} (hp : p < gs.length) {cs : List (SV L.D)} (hs : gs[p].sv = .pb cs) : ∃ (b off n : Nat) (ds : List (SV L.D)), gs[p].lent = [(b, off, n, ds)] ∧ st.box b = some ds ∧ off + n ≤ ds.length ∧ n ≤ 900 ∧ cs.length = n ∧ vals.getD p undef = .pointer (some ⟨V.ba b, V.bo b + off, none⟩) ∧
  ∃ xs T, w.heap[V.ba b]? = some (.cells xs T (0, 0)) ∧ V.bo b + ds.length ≤ xs.size ∧ ∀ j, j < n → ∃ u gj, xs[V.bo b + off + j]? = some u ∧ u.oneCell' = true ∧ movOf L st (ds.getD (off + j) .dead) = some (cs.getD j .dead, gj) ∧ (∀ i ∈ gj, i ∈ gs[p].gone) ∧ SR L w (Fz E st V w) st V a.tmps (ds.getD (off + j) .dead) u := by
 cases (H.arg p hp).is with
 | flat np => exact absurd hs (np cs)
 | mvd _ _ hs' => rw [hs'] at hs; cases hs
 | lent b off n ds cs' hs' hl hb hn h9 hm hv =>
  (obtain rfl : cs' = cs := by rw [hs'] at hs; injection hs); (obtain ⟨ml, mj⟩ := movs_ok h hm); (have hdl : ((ds.drop off).take n).length = n := by simp; omega); (obtain ⟨xs, T, hh, hx, hc⟩ := h.box b ds hb)
  refine ⟨b, off, n, ds, hl, hb, hn, h9, by omega, hv, xs, T, hh, hx, fun j hj => ?_⟩
  (obtain ⟨gj, e1, e2⟩ := mj j (by omega)); (obtain ⟨u, hu, h1, hr⟩ := hc (off + j) (by omega))
  have e : ((ds.drop off).take n).getD j .dead = ds.getD (off + j) .dead := by
   simp only [List.getD_eq_getElem?_getD, List.getElem?_take, if_pos hj, List.getElem?_drop]
  rw [e] at e1
  exact ⟨u, gj, by rw [Nat.add_assoc]; exact hu, h1, e1, e2, hr⟩
theorem Lends.impOw (h : Rel L E st V a w) (H : Lends L E st V w gs vals) {k : Nat} (hk : ImpB L V gs k) (hg : ∀ j ∈ goneOf L gs, ∃ r, st.row j = some r ∧ r.fz = false) : Ob st V k := by
 rcases hk with ⟨l, hl, e⟩ | ⟨j, hj, e⟩
 ·exact .inl ⟨l.1, _, (H.lent hl).1, e⟩
 ·obtain ⟨r, hr, hf⟩ := hg j hj
  exact .inr ⟨j, r, hr, hf, e⟩
end
end
end Go.Proofs.YtfeikakkfnnaoaaGreatDoor.V
namespace Go.Proofs.YtfeikakkfnnaoaaGreatDoor.V
open Go
set_option linter.unusedVariables false
set_option linter.unusedSimpArgs false
section
variable {P : Program} {L : Lay} {E : Ent} {st : St L.D} {V : Vl} {a : Act} {w : World}
theorem mov_row {s s' : SV L.D} {g : List Nat} (hs : movOf L st s = some (s', g)) {j : Nat} (hj : j ∈ g) : ∃ r, s = .own j ∧ st.row j = some r ∧ r.fz = false ∧ s' = .fr r.t r.xs := by
 unfold movOf at hs
 split at hs
 ·obtain ⟨rfl, rfl⟩ := Prod.mk.inj (Option.some.inj hs); cases hj
 ·obtain ⟨rfl, rfl⟩ := Prod.mk.inj (Option.some.inj hs); cases hj
 ·obtain ⟨rfl, rfl⟩ := Prod.mk.inj (Option.some.inj hs); cases hj
 ·split at hs
  ·rename_i r hr
   split at hs
   ·rename_i hf
    (obtain ⟨rfl, rfl⟩ := Prod.mk.inj (Option.some.inj hs)); (obtain rfl := List.mem_singleton.1 hj)
    exact ⟨r, rfl, hr, hf, rfl⟩
   ·obtain ⟨rfl, rfl⟩ := Prod.mk.inj (Option.some.inj hs); cases hj
  ·cases hs
 ·cases hs
theorem movs_from : ∀ {cs cs' : List (SV L.D)} {g : List Nat}, movsOf L st cs = some (cs', g) → ∀ i ∈ g, ∃ r, st.row i = some r ∧ r.fz = false
 | [], cs', g, hs, i, hi => by
  obtain ⟨rfl, rfl⟩ := Prod.mk.inj (Option.some.inj hs); cases hi
 | c :: l, cs', g, hs, i, hi => by
  simp only [movsOf] at hs
  split at hs
  ·rename_i x ga r gb h1 h2
   obtain ⟨rfl, rfl⟩ := Prod.mk.inj (Option.some.inj hs)
   rcases List.mem_append.1 hi with hi | hi
   ·obtain ⟨r, _, h3, h4, _⟩ := mov_row h1 hi
    exact ⟨r, h3, h4⟩
   ·exact movs_from h2 i hi
  ·cases hs
theorem flat_nodup {α : Type} (f : α → List Nat) : ∀ {l : List α}, (l.flatMap f).Nodup → ∀ {p : Nat} (hp : p < l.length), (f l[p]).Nodup
 | [], _, p, hp => absurd hp (Nat.not_lt_zero p)
 | a :: l, h, p, hp => by
  rw [List.flatMap_cons, List.nodup_append] at h
  cases p with
  | zero => exact h.1
  | succ p => exact flat_nodup f h.2.1 (by simpa using hp)
theorem startB_get : ∀ (p0 : Nat) (l : List (SV L.D)) (q : Nat) (cs : List (SV L.D)), q < l.length → l.getD q .dead = .pb cs → look (startB L p0 l).1 (p0 + q) = some (some (take_ L (700000 + 1000 * (p0 + q)) 0 cs).1)
 | _, [], q, _, h, _ => absurd h (Nat.not_lt_zero q)
 | p0, s :: l, 0, cs, _, h => by
  (simp only [List.getD_cons_zero] at h); (subst h); (simp only [startB, Nat.add_zero]); (rw [look_cons, if_pos rfl])
 | p0, s :: l, q + 1, cs, hq, h => by
  (have := startB_get (p0 + 1) l q cs (by simpa using hq) (by simpa using h)); (have e : p0 + (q + 1) = p0 + 1 + q := by omega); (rw [e])
  cases s with
  | pb cs' =>
   (simp only [startB]); (rw [look_cons, if_neg (by omega)])
   exact this
  | _ => exact this
section
variable {gs : List (Arg L)} {vals : List Value}
theorem Lends.goneRow (H : Lends L E st V w gs vals) {j : Nat} (hj : j ∈ goneOf L gs) : ∃ r, st.row j = some r ∧ r.fz = false := by
 (obtain ⟨g, hg, hm⟩ := List.mem_flatMap.1 hj); (obtain ⟨p, hp, rfl⟩ := List.getElem_of_mem hg)
 cases (H.arg p hp).is with
 | flat _ _ hg => rw [hg] at hm; cases hm
 | mvd e xs _ _ hv =>
  rcases hv with ⟨j', r, hg, hr, hf, _⟩ | ⟨hg, _⟩
  ·rw [hg] at hm
   obtain rfl := List.mem_singleton.1 hm
   exact ⟨r, hr, hf⟩
  ·rw [hg] at hm; cases hm
 | lent b off n ds cs' hs' hl hb hn h9 hmv hv => exact movs_from hmv j hm
theorem Lends.f_not_imp {n : Nat} {q : Option Nat} (h : Rel L E st V a w) (H : Lends L E st V w gs vals) {k : Nat} (hF : (callE L E st V w gs n q).F0 k) : ¬ ImpB L V gs k := by
 intro hI
 have ho := H.impOw h hI fun j hj => H.goneRow hj
 rcases hF with hF | hS
 ·exact h.fz_not hF (.inl ho)
 ·rcases hS with ⟨j, r, hm, hf, e⟩ | ⟨b, hb, e⟩
  ·have hr := H.shown hm
   rcases hI with ⟨l, hl, e'⟩ | ⟨j', hj', e'⟩
   ·exact h.br l.1 _ j r (H.lent hl).1 hr hf (by rw [e, e'])
   ·obtain ⟨r', hr', hf'⟩ := H.goneRow hj'
    obtain rfl := h.rr j j' r r' k hr hr' hf hf' e e'
    exact H.apart j (List.mem_map.2 ⟨(j, r), hm, rfl⟩) hj'
  ·obtain ⟨cs, hcs⟩ := H.captB hb
   rcases hI with ⟨l, hl, e'⟩ | ⟨j', hj', e'⟩
   ·obtain rfl := h.bb b l.1 _ _ hcs (H.lent hl).1 (e.trans e'.symm)
    exact H.capt _ hb (List.mem_map.2 ⟨l, hl, rfl⟩)
   ·obtain ⟨r', hr', hf'⟩ := H.goneRow hj'
    exact h.br b cs j' r' hcs hr' hf' (by rw [e', e])
theorem Lends.f_lt {n : Nat} {q : Option Nat} (h : Rel L E st V a w) (H : Lends L E st V w gs vals) {k : Nat} (hF : (callE L E st V w gs n q).F0 k) : k < w.heap.size := by
 rcases hF with hF | ⟨j, r, hm, hf, e⟩ | ⟨b, hb, e⟩
 ·exact h.fz_lt hF
 ·exact h.row_lt (H.shown hm) hf e
 ·obtain ⟨cs, hcs⟩ := H.captB hb
  rw [← e]; exact h.box_lt hcs
theorem lb_apart (h : Rel L E st V a w) {l k : Nat} {v : LV} (hl : (Fz E st V w).lb l v) (hk : v.2.ownBlock = some k) : k < w.heap.size ∧ ¬ Ob st V k := by
 rcases hl with hl | ⟨hl, rfl⟩
 ·obtain ⟨h1, h2⟩ := h.oldL l v k hl hk
  refine ⟨Nat.lt_of_lt_of_le h1 h.size, fun ho => ?_⟩
  rcases (h.own k (.inl ho)).2 with h3 | h3
  ·omega
  ·exact h2 h3
 ·exact ⟨h.lab_lt hl hk, h.lab_ob hl hk⟩
theorem noFr_SR {F : FS} {st' : St L.D} {V' : Vl} {tm : Array Value} {s : SV L.D} {v : Value} (h : SR L w F st' V' tm s v) {t : TypeId} {xs : List (L.D t)} (e : s = .fr t xs) : False := by
 subst e
 cases h with
 | c h => cases h
theorem RowOk.isSlice {F : FS} {v : Value} {t : TypeId} {xs : List (L.D t)} (h : RowOk L w F v t xs) : ∃ p l c, v = .slice p l c := by
 obtain ⟨_, ⟨_, h2⟩, _⟩ := h
 rcases h2 with ⟨rfl, _⟩ | ⟨g, cap, cur, fz, rfl, _⟩
 ·exact ⟨none, 0, 0, rfl⟩
 ·exact ⟨_, _, _, rfl⟩
theorem startB_app : ∀ (p : Nat) (l : List (SV L.D)) (n : Nat), startB L p (l ++ [.ct n]) = startB L p l
 | p, [], n => rfl
 | p, s :: l, n => by
  have := startB_app (p + 1) l n
  cases s <;> simp only [List.cons_append, startB, this]
theorem ctOf_app {D : TypeId → Type} : ∀ (l m : List (SV D)), ctOf l = none → ctOf (l ++ m) = ctOf m
 | [], m, _ => rfl
 | s :: l, m, h => by
  cases s <;> first | exact ctOf_app l m h | cases h
theorem no_lab {az : List (SV L.D)} {l : Nat} : ¬ Lab (start L az) l := by
 rintro ⟨n, h1, h2, h3⟩
 (have h1' : ctOf az = some n := h1); (have : (start L az).c0 = n := by simp only [start, h1'])
 omega
inductive AzOk (gs : List (Arg L)) (E : Ent) (st : St L.D) (V : Vl) (w : World) : List (SV L.D) → Prop
 | no : AzOk gs E st V w (gs.map (·.sv))
 | ct (n : Nat) (h : ∀ l v, (Fz E st V w).lb l v → l < n) : AzOk gs E st V w (gs.map (·.sv) ++ [.ct n])
theorem AzOk.eB {az : List (SV L.D)} (h : AzOk gs E st V w az) : startB L 0 az = startB L 0 (gs.map (·.sv)) := by
 cases h with
 | no => rfl
 | ct n h => exact startB_app 0 _ n
theorem AzOk.get {az : List (SV L.D)} (h : AzOk gs E st V w az) {p : Nat} (hp : p < gs.length) : p < az.length ∧ az.getD p .dead = gs[p].sv := by
 cases h with
 | no => exact ⟨by simpa using hp, by rw [getD_lt (by simpa using hp), List.getElem_map]⟩
 | ct n h => exact ⟨by simp; omega, by rw [getD_lt (by simp; omega), List.getElem_append_left (by simpa using hp), List.getElem_map]⟩
theorem AzOk.far {az : List (SV L.D)} (h : AzOk gs E st V w az) {p : Nat} (hp : ¬ p < gs.length) : (p < az.length ∧ ∃ n, az.getD p .dead = .ct n) ∨ ¬ p < az.length := by
 cases h with
 | no => exact .inr (by simpa using hp)
 | ct n h =>
  by_cases e : p < (gs.map (·.sv) ++ [SV.ct (D := L.D) n]).length
  ·refine .inl ⟨e, n, ?_⟩
   obtain rfl : p = gs.length := by simp at e; omega
   simp [List.getD_eq_getElem?_getD]
  ·exact .inr e
theorem AzOk.ctr {az : List (SV L.D)} (h : AzOk gs E st V w az) (hn : ctOf (gs.map (·.sv)) = none) : ∀ n, (start L az).ctr = some n → (start L az).c0 = n ∧ ∀ l v, (Fz E st V w).lb l v → l < n := fun n hc => by
 have hc' : ctOf az = some n := hc
 refine ⟨by simp only [start, hc'], ?_⟩
 cases h with
 | no => rw [hn] at hc'; cases hc'
 | ct m h =>
  (rw [ctOf_app _ _ hn] at hc'); (obtain rfl : m = n := Option.some.inj hc')
  exact h
theorem start_ok {az : List (SV L.D)} (h : Rel L E st V a w) (H : Lends L E st V w gs vals) (A : AzOk gs E st V w az) (hn : ctOf (gs.map (·.sv)) = none) : Rel L (callE L E st V w gs vals.length (ctOf az)) (start L az) (startV w vals) ⟨vals.toArray, []⟩ w := by
 have svs : ∀ p (hp : p < gs.length), (gs.map (·.sv)).getD p .dead = gs[p].sv := fun p hp => by
  rw [getD_lt (by simpa using hp), List.getElem_map]
 (have eB := A.eB); (have bx : ∀ b, (start L az).box b = (start L (gs.map (·.sv))).box b := fun b => by simp only [start, St.box, eB]); (have rw_ : ∀ b, (start L az).row b = (start L (gs.map (·.sv))).row b := fun b => by simp only [start, St.row, eB])
 -- a box
 have BX : ∀ b cs, (start L az).box b = some cs → ∃ (hp : b < gs.length) (ds : List (SV L.D)), gs[b].sv = .pb ds ∧ cs = (take_ L (700000 + 1000 * b) 0 ds).1 := fun b cs hb => by
  rw [bx] at hb
  unfold St.box at hb
  split at hb
  ·rename_i o hl
   (obtain ⟨q, ds, h1, h2, h3, h4⟩ := startB_box 0 _ b o hl); (obtain rfl : b = q := by omega); (have hp : b < gs.length := by simpa using h1); (rw [svs b hp] at h3)
   exact ⟨hp, ds, h3, by rw [h4] at hb; exact (Option.some.inj hb).symm⟩
  ·cases hb
 -- a row
 have RW : ∀ m r, (start L az).row m = some r → ∃ (q : Nat) (u : Value), ∃ hq : q < gs.length, r.fz = false ∧ (startV w vals).rv m = u ∧ ((∃ (j b off n : Nat) (D : List (SV L.D)), j < n ∧ gs[q].lent = [(b, off, n, D)] ∧ m = 700000 + 1000 * q + j ∧
   ((∃ j', j' ∈ gs[q].gone ∧ u = V.rv j' ∧ (∃ r', st.row j' = some r' ∧ r'.fz = false ∧ RowOk L w (Fz E st V w) u r.t r.xs) ∧ ∃ cs gj, movsOf L st ((D.drop off).take n) = some (cs, gs[q].gone) ∧ j < ((D.drop off).take n).length ∧ movOf L st (((D.drop off).take n).getD j .dead) = some (cs.getD j .dead, gj) ∧ j' ∈ gj) ∨ (u = .slice none 0 0 ∧ r.xs = []))) ∨
   (gs[q].lent = [] ∧ m = 700000 + 1000 * q ∧ ((∃ j', j' ∈ gs[q].gone ∧ u = V.rv j' ∧ ∃ r', st.row j' = some r' ∧ r'.fz = false ∧ RowOk L w (Fz E st V w) u r.t r.xs) ∨ (u = .slice none 0 0 ∧ r.xs = [])))) := fun m r hr => by
  rw [rw_] at hr
  unfold St.row at hr
  split at hr
  ·rename_i o hl
   rcases startB_row 0 _ m o hl with ⟨q, cs, j, t, xs, h1, h2, h3, h4, h5, h6⟩ | ⟨q, t, xs, h1, h2, h3, h4⟩
   ·have hq : q < gs.length := by simpa using h1
    (rw [svs q hq] at h2); (rw [h6] at hr); (obtain rfl := Option.some.inj hr); (obtain ⟨b, off, n, ds, e1, e2, e3, e4, e5, e6, xs', T, e7, e8, e9⟩ := H.fr h hq h2); (obtain ⟨u, gj, f1, f2, f3, f4, f5⟩ := e9 j (by omega)); (have hj9 : j < 1000 := by omega)
    have hrv : (startV w vals).rv m = u := by
     (have d1 : (m - 700000) / 1000 = q := by omega); (have d2 : (m - 700000) % 1000 = j := by omega); (simp only [startV, d1, d2, e6])
     simp [World.cell?, e7, f1]
    refine ⟨q, u, hq, rfl, hrv, .inl ⟨j, b, off, n, ds, by omega, e1, by omega, ?_⟩⟩
    (rw [h5] at f3); (obtain ⟨g1, g2⟩ := mov_ok h f3 f5)
    by_cases hg : gj = []
    ·rcases g2 hg with ⟨t', e, ev⟩ | ⟨hne, _⟩
     ·refine .inr ⟨ev, ?_⟩
      injection e with e0 e
      subst e0
      exact eq_of_heq e
     ·exact absurd rfl (hne t xs)
    ·obtain ⟨j', hj'⟩ := List.exists_mem_of_ne_nil _ hg
     obtain ⟨r', hr', hf', es, ev, _⟩ := g1 j' hj'
     refine .inl ⟨j', f4 j' hj', ev, ⟨r', hr', hf', ?_⟩, ?_⟩
     ·injection es with e0 es
      (subst e0); (obtain rfl := eq_of_heq es); (rw [ev])
      exact (h.row j' r' hr').2 hf'
     ·cases (H.arg q hq).is with
      | flat np => exact absurd h2 (np cs)
      | mvd _ _ hs' => rw [hs'] at h2; cases h2
      | lent b' off' n' ds' cs' hs' hl' hb' hn' h9' hm' hv' =>
       (obtain rfl : cs' = cs := by rw [hs'] at h2; injection h2); (rw [e1] at hl'); (simp only [List.cons.injEq, Prod.mk.injEq, and_true] at hl'); (obtain ⟨rfl, rfl, rfl, rfl⟩ := hl')
       refine ⟨_, gj, hm', by simp; omega, ?_, hj'⟩
       have e : ((ds.drop off).take n).getD j .dead = ds.getD (off + j) .dead := by
        simp only [List.getD_eq_getElem?_getD, List.getElem?_take, if_pos (by omega : j < n), List.getElem?_drop]
       rw [e, h5]; exact f3
   ·have hq : q < gs.length := by simpa using h1
    (rw [svs q hq] at h2); (rw [h4] at hr); (obtain rfl := Option.some.inj hr); (have d1 : (m - 700000) / 1000 = q := by omega)
    cases (H.arg q hq).is with
    | flat _ _ _ hf => exact absurd h2 (fun e => noFr_SR (hf ⟨fun _ => True, fun _ _ => True⟩ (.sub (fun _ _ => trivial) fun _ _ _ => trivial) (fun _ _ _ _ _ _ => trivial) (fun _ _ => trivial) st V #[]) e)
    | lent _ _ _ _ _ hs' => rw [hs'] at h2; cases h2
    | mvd e ys hs' hl' hv =>
     rw [hs'] at h2
     injection h2 with e0 e1
     (subst e0); (obtain rfl := eq_of_heq e1)
     rcases hv with ⟨j', r', hg, hr', hf', es, ev⟩ | ⟨hg, hx, ev⟩
     ·have hrow := (h.row j' r' hr').2 hf'
      obtain ⟨p, l, c, hsl⟩ := hrow.isSlice
      have hrv : (startV w vals).rv m = V.rv j' := by
       simp only [startV, d1, ev, hsl]
      refine ⟨q, V.rv j', hq, rfl, hrv, .inr ⟨hl', by omega, .inl ⟨j', by rw [hg]; exact List.mem_singleton.2 rfl, rfl, r', hr', hf', ?_⟩⟩⟩
      injection es with e0 es
      (subst e0); (obtain rfl := eq_of_heq es)
      exact hrow
     ·refine ⟨q, .slice none 0 0, hq, rfl, by simp only [startV, d1, ev], .inr ⟨hl', by omega, .inr ⟨rfl, hx⟩⟩⟩
  ·cases hr
 have OB : ∀ b cs, (start L az).box b = some cs → ∃ l, l ∈ lentOf L gs ∧ (startV w vals).ba b = V.ba l.1 ∧ ∃ hp : b < gs.length, gs[b].lent.map (·.1) = [l.1] := fun b cs hb => by
  (obtain ⟨hp, ds, h1, h2⟩ := BX b cs hb); (obtain ⟨b', off, n, ds', e1, e2, e3, e4, e5, e6, _⟩ := H.fr h hp h1)
  exact ⟨(b', off, n, ds'), List.mem_flatMap.2 ⟨gs[b], List.getElem_mem _, by rw [e1]; exact List.mem_singleton.2 rfl⟩, by simp only [startV, e6], hp, by rw [e1]; rfl⟩
 have OR : ∀ m r k, (start L az).row m = some r → ((startV w vals).rv m).ownBlock = some k → ∃ j', j' ∈ goneOf L gs ∧ (V.rv j').ownBlock = some k := fun m r k hr hk => by
  (obtain ⟨q, u, hq, _, hu, hc⟩ := RW m r hr); (rw [hu] at hk)
  rcases hc with ⟨_, _, _, _, _, _, _, _, ⟨j', hj', rfl, _⟩ | ⟨rfl, _⟩⟩ | ⟨_, _, ⟨j', hj', rfl, _⟩ | ⟨rfl, _⟩⟩
  ·exact ⟨j', List.mem_flatMap.2 ⟨gs[q], List.getElem_mem _, hj'⟩, hk⟩
  ·cases hk
  ·exact ⟨j', List.mem_flatMap.2 ⟨gs[q], List.getElem_mem _, hj'⟩, hk⟩
  ·cases hk
 have OW : ∀ k, Ow (start L az) (startV w vals) k → ImpB L V gs k := fun k hk => by
  rcases hk with (⟨b, cs, hb, e⟩ | ⟨m, r, hr, _, e⟩) | ⟨l, hl, _⟩
  ·obtain ⟨l, hl, e', _⟩ := OB b cs hb
   exact .inl ⟨l, hl, by rw [← e', e]⟩
  ·exact .inr (OR m r k hr e)
  ·exact absurd hl no_lab
 have lentUniq : ∀ {p q b : Nat} (hp : p < gs.length) (hq : q < gs.length), gs[p].lent.map (·.1) = [b] → gs[q].lent.map (·.1) = [b] → p = q := fun {p q b} hp hq e1 e2 => by
  (have := H.boxes); (rw [show (lentOf L gs).map (·.1) = gs.flatMap fun g => g.lent.map (·.1) by simp [lentOf, List.map_flatMap]] at this)
  exact flat_uniq (fun g : Arg L => g.lent.map (·.1)) this hp hq (x := b) (by rw [e1]; exact List.mem_singleton.2 rfl) (by rw [e2]; exact List.mem_singleton.2 rfl)
 have boxUniq : ∀ {b b' : Nat} {cs cs' : List (SV L.D)}, (start L az).box b = some cs → (start L az).box b' = some cs' → (startV w vals).ba b = (startV w vals).ba b' → b = b' := fun {b b' cs cs'} hb hb' e => by
  (obtain ⟨l, hl, e1, hp, e2⟩ := OB _ _ hb); (obtain ⟨l', hl', e1', hp', e2'⟩ := OB _ _ hb'); (have : l.1 = l'.1 := h.bb _ _ _ _ (H.lent hl).1 (H.lent hl').1 (by rw [← e1, ← e1', e]))
  exact lentUniq hp hp' e2 (by rw [this]; exact e2')
 (have notOw : ∀ k, (callE L E st V w gs vals.length (ctOf az)).F0 k → ¬ Ow (start L az) (startV w vals) k := fun k hk ho => H.f_not_imp h hk (OW k ho)); (have FF : Le w w (Fz E st V w) (Fz (callE L E st V w gs vals.length (ctOf az)) (start L az) (startV w vals) w) := .sub (fun k hk => .inl (.inl hk)) fun l v hl => .inl hl)
 have tmpQ : ∀ q, q < az.length → (start L az).tmp q = startS q (az.getD q .dead) := fun q hq => by
  (have := startT_get 0 az q hq); (rw [Nat.zero_add] at this)
  unfold St.tmp start
  simp only [this]; rfl
 have tmpP : ∀ q, q < gs.length → (start L az).tmp q = startS q ((gs.map (·.sv)).getD q .dead) := fun q hq => by
  rw [tmpQ q (A.get hq).1, (A.get hq).2, svs q hq]
 have shape : ∀ p (hp : p < gs.length), ((∀ cs, gs[p].sv ≠ .pb cs) ∧ gs[p].lent = []) ∨ ∃ cs l, gs[p].sv = .pb cs ∧ gs[p].lent = [l] := fun p hp => by
  cases (H.arg p hp).is with
  | flat np hl => exact .inl ⟨np, hl⟩
  | mvd e xs hs' hl => exact .inl ⟨(fun cs e => by rw [hs'] at e; cases e), hl⟩
  | lent b off n ds cs' hs' hl => exact .inr ⟨cs', _, hs', hl⟩
 refine ⟨fun n => ?_, fun b cs hb => ?_, fun m r hr => ?_, fun b b' cs cs' => boxUniq, fun b cs m r hb hr hf e => ?_, fun m m' r r' k hr hr' _ _ e e' => ?_, fun k hk => ⟨fun hF => notOw k hF hk, .inr (OW k hk)⟩, fun k hk => H.f_lt h hk, fun k hk => H.f_not_imp h hk, Nat.le_refl _, fun _ _ _ => rfl, rfl, rfl, rfl, rfl, by simp [callE], fun q hq => ?_, ?_, fun l hl => absurd hl no_lab, fun l _ _ hl => absurd hl no_lab, fun l _ _ _ hl => absurd hl no_lab, fun l _ _ hl => absurd hl no_lab, fun n hc => ?_, fun l v k hl hk => ?_, fun n hc => ?_⟩
 ·-- the slots
  by_cases hn : n < gs.length
  ·have ev : ({ tmps := vals.toArray, defers := [] } : Act).tmps.getD n undef = vals.getD n undef := by simp [List.getD_eq_getElem?_getD]
   rw [ev, tmpP n hn, svs n hn]
   cases (H.arg n hn).is with
   | flat np hl hg hf =>
    have e : startS n gs[n].sv = gs[n].sv := by
     have nf := fun t xs e => noFr_SR (t := t) (xs := xs) (hf ⟨fun _ => True, fun _ _ => True⟩ (.sub (fun _ _ => trivial) fun _ _ _ => trivial) (fun _ _ _ _ _ _ => trivial) (fun _ _ => trivial) st V #[]) e
     generalize gs[n].sv = s at np nf
     cases s <;> first | rfl | exact absurd rfl (np _) | exact (nf _ _ rfl).elim
    rw [e]
    refine hf _ FF (fun j r k hm hf' e' => Or.inl (Or.inr (Or.inl ⟨j, r, List.mem_flatMap.2 ⟨gs[n], List.getElem_mem _, hm⟩, hf', e'⟩))) (fun b hb => Or.inl (Or.inr (Or.inr ⟨b, List.mem_flatMap.2 ⟨gs[n], List.getElem_mem _, hb⟩, rfl⟩))) _ _ _
   | lent b off m ds cs' hs' hl hb hm h9 hmv hv =>
    rw [hs']
    refine .ptr n 0 _ fun _ _ => ?_
    (rw [hv]); (simp only [startV, hv, Nat.add_zero])
   | mvd e xs hs' hl' hv =>
    rw [hs']
    refine .own _ _ fun r hr => ?_
    have d1 : (700000 + 1000 * n - 700000) / 1000 = n := by omega
    rcases hv with ⟨j', r', hg, hr', hf', es, ev⟩ | ⟨hg, hx, ev⟩
    ·obtain ⟨p, l, c, hsl⟩ := ((h.row j' r' hr').2 hf').isSlice
     simp only [startV, d1, ev, hsl]
    ·simp only [startV, d1, ev]
  ·rcases A.far hn with ⟨h1, m, h2⟩ | h1
   ·rw [tmpQ n h1, h2]; exact .ct m _
   ·have : (start L az).tmp n = .dead := by
     have := startT_none 0 az n (.inr (by omega))
     unfold St.tmp start
     simp only [this]; rfl
    rw [this]; exact .dead _
 ·-- the boxes
  (obtain ⟨hp, ds, h1, h2⟩ := BX b cs hb); (obtain ⟨b', off, n, ds', e1, e2, e3, e4, e5, e6, xs, T, e7, e8, e9⟩ := H.fr h hp h1); (subst h2); (have hlen := take_len (L := L) (700000 + 1000 * b) 0 ds); (have hba : (startV w vals).ba b = V.ba b' := by simp only [startV, e6]); (have hbo : (startV w vals).bo b = V.bo b' + off := by simp only [startV, e6])
  refine ⟨xs, T, by rw [hba]; exact e7, by rw [hbo, hlen]; omega, fun j hj => ?_⟩
  (rw [hlen] at hj); (obtain ⟨u, gj, f1, f2, f3, f4, f5⟩ := e9 j (by omega))
  refine ⟨u, by rw [hbo]; exact f1, f2, ?_⟩
  (rw [take_get _ _ _ _ hj, Nat.zero_add]); (obtain ⟨g1, g2⟩ := mov_ok h f3 f5)
  have hown : ∀ t xs', ds.getD j .dead = .fr t xs' → SR L w (Fz (callE L E st V w gs vals.length (ctOf az)) (start L az) (startV w vals) w) (start L az) (startV w vals) vals.toArray (.own (700000 + 1000 * b + j)) u := fun t xs' _ => .own _ u fun r hr => by
   (have d1 : (700000 + 1000 * b + j - 700000) / 1000 = b := by omega); (have d2 : (700000 + 1000 * b + j - 700000) % 1000 = j := by omega); (simp only [startV, d1, d2, e6])
   simp [World.cell?, e7, f1]
  by_cases hg : gj = []
  ·rcases g2 hg with ⟨t', e, ev⟩ | ⟨hne, hcr⟩
   ·rw [e]; exact hown _ _ e
   ·have e : takeS (700000 + 1000 * b) j (ds.getD j .dead) = ds.getD j .dead := by
     generalize ds.getD j .dead = s at hne
     cases s <;> first | rfl | exact absurd rfl (hne _ _)
    rw [e]
    exact .c (hcr.mono FF)
  ·obtain ⟨j', hj'⟩ := List.exists_mem_of_ne_nil _ hg
   (obtain ⟨r', hr', hf', es, ev, _⟩ := g1 j' hj'); (rw [es]; exact hown _ _ es)
 ·-- the rows
  obtain ⟨q, u, hq, hf, hu, hc⟩ := RW m r hr
  refine ⟨(fun hf' => by rw [hf] at hf'; cases hf'), fun _ => ?_⟩
  rw [hu]
  have nil_ : u = .slice none 0 0 → r.xs = [] → RowOk L w (Fz (callE L E st V w gs vals.length (ctOf az)) (start L az) (startV w vals) w) u r.t r.xs := fun e hx => by
   rw [e, hx]
   exact ⟨[], ⟨by simp, .inl ⟨rfl, rfl⟩⟩, (fun u hu => by cases hu), fun i j hi => absurd hi (Nat.not_lt_zero i)⟩
  rcases hc with ⟨_, _, _, _, _, _, _, _, ⟨j', _, _, ⟨r', _, _, hrow⟩, _⟩ | ⟨e, hx⟩⟩ | ⟨_, _, ⟨j', _, _, r', _, _, hrow⟩ | ⟨e, hx⟩⟩
  ·exact hrow.mono FF fun _ _ => rfl
  ·exact nil_ e hx
  ·exact hrow.mono FF fun _ _ => rfl
  ·exact nil_ e hx
 ·obtain ⟨l, hl, e1, _⟩ := OB b cs hb
  (obtain ⟨j', hj', e2⟩ := OR m r _ hr e); (obtain ⟨r', hr', hf'⟩ := H.goneRow hj')
  exact h.br l.1 _ j' r' (H.lent hl).1 hr' hf' (by rw [e2, e1])
 ·-- no two rows in one block
  (obtain ⟨q, u, hq, _, hu, hc⟩ := RW m r hr); (obtain ⟨q2, u2, hq2, _, hu2, hc2⟩ := RW m' r' hr'); (rw [hu] at e); (rw [hu2] at e'); (have hgn := H.gone)
  -- both come from one argument
  have same : ∀ {x x2 : Nat}, x ∈ gs[q].gone → u = V.rv x → (∃ r', st.row x = some r' ∧ r'.fz = false) → x2 ∈ gs[q2].gone → u2 = V.rv x2 → (∃ r', st.row x2 = some r' ∧ r'.fz = false) → x = x2 ∧ q = q2 := fun {x x2} hx hux hr1 hx2 hux2 hr2 => by
   (obtain ⟨rx, hrx, hfx⟩ := hr1); (obtain ⟨rx2, hrx2, hfx2⟩ := hr2); (have e1 := h.rr x x2 rx rx2 k hrx hrx2 hfx hfx2 (by rw [← hux]; exact e) (by rw [← hux2]; exact e')); (subst e1)
   exact ⟨rfl, flat_uniq (fun g : Arg L => g.gone) hgn hq hq2 hx hx2⟩
  rcases hc with ⟨j, b, off, n, D, hj, hD, hm, ⟨x, hx, hux, ⟨rx, hrx, hfx, _⟩, cs, gj, g1, g2, g3, g4⟩ | ⟨e0, _⟩⟩ | ⟨hD, hm, ⟨x, hx, hux, rx, hrx, hfx, _⟩ | ⟨e0, _⟩⟩
  ·rcases hc2 with ⟨j2, b2, off2, n2, D2, hj2, hD2, hm2, ⟨x2, hx2, hux2, ⟨rx2, hrx2, hfx2, _⟩, cs2, gj2, k1, k2, k3, k4⟩ | ⟨e0, _⟩⟩ | ⟨hD2, hm2, ⟨x2, hx2, hux2, rx2, hrx2, hfx2, _⟩ | ⟨e0, _⟩⟩
   ·obtain ⟨rfl, rfl⟩ := same hx hux ⟨rx, hrx, hfx⟩ hx2 hux2 ⟨rx2, hrx2, hfx2⟩
    (rw [hD] at hD2); (simp only [List.cons.injEq, Prod.mk.injEq, and_true] at hD2); (obtain ⟨rfl, rfl, rfl, rfl⟩ := hD2); (have := movs_uniq g1 (flat_nodup (fun g : Arg L => g.gone) hgn hq) g2 k2 g3 k3 g4 k4)
    omega
   ·rw [e0] at e'; cases e'
   ·obtain ⟨rfl, rfl⟩ := same hx hux ⟨rx, hrx, hfx⟩ hx2 hux2 ⟨rx2, hrx2, hfx2⟩
    rw [hD] at hD2; cases hD2
   ·rw [e0] at e'; cases e'
  ·rw [e0] at e; cases e
  ·rcases hc2 with ⟨j2, b2, off2, n2, D2, hj2, hD2, hm2, ⟨x2, hx2, hux2, ⟨rx2, hrx2, hfx2, _⟩, cs2, gj2, k1, k2, k3, k4⟩ | ⟨e0, _⟩⟩ | ⟨hD2, hm2, ⟨x2, hx2, hux2, rx2, hrx2, hfx2, _⟩ | ⟨e0, _⟩⟩
   ·obtain ⟨rfl, rfl⟩ := same hx hux ⟨rx, hrx, hfx⟩ hx2 hux2 ⟨rx2, hrx2, hfx2⟩
    rw [hD] at hD2; cases hD2
   ·rw [e0] at e'; cases e'
   ·obtain ⟨rfl, rfl⟩ := same hx hux ⟨rx, hrx, hfx⟩ hx2 hux2 ⟨rx2, hrx2, hfx2⟩
    omega
   ·rw [e0] at e'; cases e'
  ·rw [e0] at e; cases e
 ·-- the lent boxes
  (have hq' : q < (startB L 0 (gs.map (·.sv))).1.length := by simpa [start, eB] using hq); (obtain ⟨p, l, hp, e1, e2, _, e3⟩ := (startB_imps 0 shape).2 q hq')
  have e0 : (start L az).imps[q] = p := by
   (have : (start L az).imps[q] = (startB L 0 (gs.map (·.sv))).1[q].1 := by simp [start, eB]); (rw [this, e1]; omega)
  cases (H.arg p hp).is with
  | flat np hl => rw [hl] at e3; cases e3
  | mvd _ _ _ hl => rw [hl] at e3; cases e3
  | lent b off n ds cs' hs' hl hb hn h9 hm hv =>
   (rw [hl] at e3); (obtain rfl := (List.cons.inj e3).1); (have hbx := startB_get 0 (gs.map (·.sv)) p cs' (by simpa using hp) (by rw [svs p hp]; exact hs')); (rw [Nat.zero_add] at hbx)
   have hb2 : (start L az).box p = some (take_ L (700000 + 1000 * p) 0 cs').1 := by
    have hbx' : look (start L az).boxes p = some (some (take_ L (700000 + 1000 * p) 0 cs').1) := by simp only [start, eB]; exact hbx
    unfold St.box
    rw [hbx']
   refine ⟨_, (V.ba b, V.bo b + off), by rw [e0]; exact hb2, by simp [callE, e2], ?_, ?_, fun _ _ => rfl⟩
   ·rw [e0]; simp only [startV, hv]
   ·rw [e0]; simp only [startV, hv]
 ·have := (startB_imps 0 shape).1
  simpa [start, callE, eB] using this
 ·obtain ⟨h1, h2⟩ := A.ctr hn n hc
  exact ⟨Nat.le_of_eq h1, fun l v hl => by rw [h1]; exact h2 l v hl⟩
 ·-- labels lie apart from what is lent
  have hlt := lb_apart h hl hk
  exact ⟨hlt.1, fun hI => hlt.2 (H.impOw h hI fun j hj => H.goneRow hj)⟩
 ·have hc' : ctOf az = some n := hc
  show ctOf az = some (start L az).c0
  rw [(A.ctr hn n hc).1]; exact hc'
end
end
end Go.Proofs.YtfeikakkfnnaoaaGreatDoor.V
namespace Go.Proofs.YtfeikakkfnnaoaaGreatDoor.V
open Go
set_option linter.unusedVariables false
set_option linter.unusedSimpArgs false
def packV : List (List Sh) → List Bool → List Value → List Value
 | [], _, _ => []
 | s :: l, a, vs => (match a with
   | true :: _ => .agg (vs.take s.length).toArray
   | _ => vs.headD undef) :: packV l a.tail (vs.drop s.length)
def valueV : List Value → Value
 | [x] => x
 | l => .tuple l.toArray
section
variable {D : TypeId → Type}
def IsFr (s : SV D) : Prop := ∃ t xs, s = .fr t xs
def OwnV (cs : List (SV D)) (vs : List Value) (c k : Nat) : Prop := c < cs.length ∧ IsFr (cs.getD c .dead) ∧ (vs.getD c undef).ownBlock = some k
def NL (s : Sig) (c : Option Nat) (cs : List (SV D)) (l : Nat) : Prop := ∃ m n, c = some m ∧ ctOf (cs.drop (s.res.flatten.length + s.fin.flatten.length)) = some n ∧ m ≤ l ∧ l < n
def PF (E : Ent) (s : Sig) (q : Option Nat) (cs : List (SV D)) (vs : List Value) (lv : Nat → LV) (w' : World) : FS where
 fz := fun k => E.F0 k ∨ ((E.w0.heap.size ≤ k ∨ E.Imp k) ∧ k < w'.heap.size ∧ (∀ c, ¬ OwnV cs vs c k) ∧ (∀ p ∈ E.adr, p.1 ≠ k) ∧ ∀ l, NL s q cs l → (lv l).2.ownBlock ≠ some k)
 lb := fun l v => E.F0.lb l v ∨ (NL s q cs l ∧ v = lv l)
end
structure PostV (L : Lay) (E : Ent) (s : Sig) (q : Option Nat) (cs : List (SV L.D)) (vs : List Value) (lv : Nat → LV) (v : Value) (w' : World) : Prop where
 len : vs.length = cs.length
 val : v = valueV (packV s.res s.aggs vs)
 one : ∀ u ∈ vs, u.oneCell' = true
 fr : ∀ c t xs, c < cs.length → cs.getD c .dead = .fr t xs → RowOk L w' (PF E s q cs vs lv w') (vs.getD c undef) t xs
 ro : ∀ c, c < cs.length → ¬ IsFr (cs.getD c .dead) → CR L w' (PF E s q cs vs lv w') (cs.getD c .dead) (vs.getD c undef)
 apart : ∀ c c' k, OwnV cs vs c k → OwnV cs vs c' k → c = c'
 own : ∀ c k, OwnV cs vs c k → ¬ E.F0 k ∧ (E.w0.heap.size ≤ k ∨ E.Imp k) ∧ ∀ p ∈ E.adr, p.1 ≠ k
 lab : ∀ l, NL s q cs l → LabOk w' (lv l)
 labO : ∀ l k, NL s q cs l → (lv l).2.ownBlock = some k → ¬ E.F0 k ∧ (E.w0.heap.size ≤ k ∨ E.Imp k) ∧ (∀ p ∈ E.adr, p.1 ≠ k) ∧ ∀ c, ¬ OwnV cs vs c k
 labD : ∀ l l' k, NL s q cs l → NL s q cs l' → (lv l).2.ownBlock = some k → (lv l').2.ownBlock = some k → l = l'
 ctr : ∀ m n, q = some m → ctOf (cs.drop (s.res.flatten.length + s.fin.flatten.length)) = some n → m ≤ n
 fin : ∀ q p, E.adr[q]? = some p → ∃ xs T, w'.heap[p.1]? = some (.cells xs T (0, 0)) ∧ p.2 + (s.fin.getD q []).length ≤ xs.size ∧ ∀ j, j < (s.fin.getD q []).length → xs[p.2 + j]? = some (vs.getD (s.res.flatten.length + (s.fin.take q).flatten.length + j) undef)
 outer : ∀ q p, E.adr[q]? = some p → ∀ o, (o < p.2 ∨ p.2 + (s.fin.getD q []).length ≤ o) → w'.cell? ⟨p.1, o, none⟩ = E.w0.cell? ⟨p.1, o, none⟩
 size : E.w0.heap.size ≤ w'.heap.size
 kept : ∀ k, k < E.w0.heap.size → ¬ E.Imp k → w'.heap[k]? = E.w0.heap[k]?
 os : w'.os = E.w0.os
 tape : w'.tape = E.w0.tape
 output : w'.output = E.w0.output
structure PostM (L : Lay) (E : Ent) (s : Sig) (cs : List (SV L.D)) (vs : List Value) (v : Value) (w' : World) : Prop where
 len : vs.length = cs.length
 one : ∀ u ∈ vs, u.oneCell' = true
 ptr : ∃ (g o : Nat) (xs : Array Value) (T : TypeId), v = .pointer (some ⟨g, o, none⟩) ∧ (E.w0.heap.size ≤ g ∨ E.Imp g) ∧ w'.heap[g]? = some (.cells xs T (0, 0)) ∧ o + cs.length ≤ xs.size ∧ (∀ j, j < cs.length → xs[o + j]? = some (vs.getD j undef)) ∧
  ∀ c, c < cs.length → CR L w' ⟨fun k => E.F0 k ∨ ((E.w0.heap.size ≤ k ∨ E.Imp k) ∧ k < w'.heap.size ∧ k ≠ g), E.F0.lb⟩ (cs.getD c .dead) (vs.getD c undef)
 size : E.w0.heap.size ≤ w'.heap.size
 kept : ∀ k, k < E.w0.heap.size → ¬ E.Imp k → w'.heap[k]? = E.w0.heap[k]?
 os : w'.os = E.w0.os
 tape : w'.tape = E.w0.tape
 output : w'.output = E.w0.output
def PostA (L : Lay) (E : Ent) (s : Sig) (q : Option Nat) (cs : List (SV L.D)) (vs : List Value) (lv : Nat → LV) (v : Value) (w' : World) : Prop := match s.new with
 | true => PostM L E s cs vs v w'
 | false => PostV L E s q cs vs lv v w'
abbrev TabP := (Nat → Prop) → World → Prop
def TabKept (T : TabP) : Prop := ∀ F F' w w', T F w → (∀ k, F k → F' k ∧ w'.heap[k]? = w.heap[k]?) → T F' w'
def Meets (P : Program) (L : Lay) (Tab : TabP) (s : Sig) (f : FuncId) (az : List (SV L.D)) (r : RT L.D s.all) : Prop := ∀ (E : Ent) (V : Vl) (vals : List Value), Tab E.F0 E.w0 → E.nt = vals.length → E.q = ctOf az → ((ctOf az = none → az.length = vals.length) ∧ vals.length ≤ az.length) → Rel L E (start L az) V ⟨vals.toArray, []⟩ E.w0 →
 Calls P f vals.toArray E.w0 fun | .returned v, w' => ∃ vs lv, PostA L E s (ctOf az) (enc s.all r) vs lv v w' | _, _ => False
section
variable {P : Program} {L : Lay} {E : Ent} {st : St L.D} {V : Vl} {a : Act} {w : World}
theorem enc_len {D : TypeId → Type} : ∀ (l : List Sh) (r : RT D l), (enc l r).length = l.length
 | [], _ => rfl
 | [s], _ => rfl
 | s :: t :: l, (x, y) => by simp [enc, enc_len (t :: l) y]
theorem enc_cell {D : TypeId → Type} : ∀ (l : List Sh) (r : RT D l) (c : Nat), c < l.length → ∃ s, l[c]? = some s ∧ ∃ x, (enc l r).getD c .dead = enc1 s x
 | [], _, c, h => absurd h (Nat.not_lt_zero c)
 | [s], x, c, h => by
  obtain rfl : c = 0 := by simp at h; omega
  exact ⟨s, rfl, x, rfl⟩
 | s :: t :: l, (x, y), 0, _ => ⟨s, rfl, x, rfl⟩
 | s :: t :: l, (x, y), c + 1, h => by
  obtain ⟨s', h1, x', h2⟩ := enc_cell (t :: l) y c (by simpa using h)
  exact ⟨s', by simpa using h1, x', by simpa [enc] using h2⟩
def Flt (L : Lay) (t : TypeId) : Prop := (L.zero t).any isNl = false ∨ L.labd t = true
theorem roS_false {L : Lay} : ∀ {l : List Sh}, roS L l = false → ∀ (c : Nat) (s : Sh), l[c]? = some s → (∀ t, s ≠ .ro t) ∧ (∀ t, s = .fr t → Flt L t) ∧ ∀ t, s = .lr t → Flt L t
 | [], _, c, s, h => by simp at h
 | x :: l, hr, 0, s, h => by
  obtain rfl : x = s := by simpa using h
  have key : ∀ {t : TypeId}, ((L.zero t).any isNl && !L.labd t) = false → Flt L t := fun {t} h => by
   rcases Bool.and_eq_false_iff.1 h with h | h
   ·exact .inl h
   ·exact .inr (by simpa using h)
  cases x <;> simp only [roS, Bool.or_eq_false_iff] at hr <;> refine ⟨fun t e => ?_, fun t e => ?_, fun t e => ?_⟩ <;> first | (cases e; done) | (cases hr; done) | skip
  all_goals injection e with e; subst e; exact key hr.1
 | x :: l, hr, c + 1, s, h => by
  have : roS L l = false := by
   cases x <;> simp only [roS, Bool.or_eq_false_iff] at hr <;> first | exact hr | exact hr.2 | (cases hr; done)
  exact roS_false this c s (by simpa using h)
def Deep (L : Lay) (s : SV L.D) : Prop := (∃ u, s = .v u) ∨ (∃ n, s = .ct n) ∨ ∃ l t xs, s = .lr l t xs ∧ Flt L t
theorem Flt.deep (hL : LayOk P L) {t : TypeId} (h : Flt L t) (x : L.D t) {j : Nat} (hj : j < (L.ti t).sz) : Deep L ((L.cell t x).getD j .dead) := by
 (have hl : j < (L.cell t x).length := by rw [hL.cell]; exact hj); (rw [getD_lt hl])
 rcases h with h | h
 ·exact .inl (hL.flat t _ h _ (List.getElem_mem _))
 ·rcases hL.form t x _ (List.getElem_mem hl) with ⟨u, e, _⟩ | ⟨e', ys, e, hb⟩ | ⟨l, e', ys, e, _, h'⟩
  ·exact .inl ⟨u, e⟩
  ·rw [h] at hb; cases hb
  ·exact .inr (.inr ⟨l, e', ys, e, h'⟩)
theorem CR.deep (hL : LayOk P L) {w : World} {F F' : FS} (hlb : ∀ l v, F.lb l v → F'.lb l v) {s : SV L.D} {v : Value} (h : CR L w F s v) : Deep L s → CR L w F' s v := by
 induction h with
 | v x h => exact fun _ => .v x h
 | ct n v h => exact fun _ => .ct n v h
 | ro0 t a c => exact fun _ => .ro0 t a c
 | ro t xs => rintro (⟨u, e⟩ | ⟨n, e⟩ | ⟨l, t, xs, e, _⟩) <;> cases e
 | lr0 l t a c => exact fun _ => .lr0 l t a c
 | lr l t xs b off c u hne hc hl hu hr ih =>
  rintro (⟨u, e⟩ | ⟨n, e⟩ | ⟨l', t', xs', e, hf⟩)
  ·cases e
  ·cases e
  ·injection e with e1 e2 e3
   subst e2
   exact .lr l t xs b off c u hne hc (hlb _ _ hl) hu fun i j hi hj => ih i j hi hj (hf.deep hL _ hj)
 | rn0 t a c => exact fun _ => .rn0 t a c
 | rn t xs => rintro (⟨u, e⟩ | ⟨n, e⟩ | ⟨l, t, xs, e, _⟩) <;> cases e
theorem RowOk.deep (hL : LayOk P L) {w : World} {F F' : FS} (hlb : ∀ l v, F.lb l v → F'.lb l v) {v : Value} {t : TypeId} {xs : List (L.D t)} (hz : Flt L t) (h : RowOk L w F v t xs) : RowOk L w F' v t xs := by
 obtain ⟨cells, ho, h1, hr⟩ := h
 exact ⟨cells, ho, h1, fun i j hi hj => (hr i j hi hj).deep hL hlb (hz.deep hL _ hj)⟩
theorem back_look : ∀ {lent : List (Nat × Nat × Nat × List (SV L.D))} {fin : List (List Sh)} {cells : List (SV L.D)}, finOk L lent fin = true → ∀ {b : Nat} {o : Option (List (SV L.D))}, look (back_ L lent cells) b = some o → ∃ q off n old, lent[q]? = some (b, off, n, old) ∧ n = (fin.getD q []).length ∧ o = some (old.take off ++ (cells.drop (fin.take q).flatten.length).take n ++ old.drop (off + n))
 | [], _, _, _, b, o, h => by cases h
 | (b0, off, n, old) :: l, [], _, hf, _, _, _ => by cases hf
 | (b0, off, n, old) :: l, s :: ss, cells, hf, b, o, h => by
  (simp only [finOk, Bool.and_eq_true] at hf); (have hn := Nat.eq_of_beq_eq_true hf.1); (simp only [back_] at h); (rw [look_cons] at h)
  by_cases e : b = b0
  ·rw [if_pos e] at h
   subst e
   exact ⟨0, off, n, old, rfl, by simpa using hn, by simpa using (Option.some.inj h).symm⟩
  ·rw [if_neg e] at h
   obtain ⟨q, off', n', old', h1, h2, h3⟩ := back_look hf.2 h
   refine ⟨q + 1, off', n', old', by simpa using h1, by simpa using h2, ?_⟩
   rw [h3, List.drop_drop, hn]
   simp
theorem back_some : ∀ {lent : List (Nat × Nat × Nat × List (SV L.D))} {cells : List (SV L.D)} {l : Nat × Nat × Nat × List (SV L.D)}, l ∈ lent → ∃ o, look (back_ L lent cells) l.1 = some o
 | (b0, off, n, old) :: r, cells, l, h => by
  (simp only [back_]); (rw [look_cons])
  by_cases e : l.1 = b0
  ·exact ⟨_, by rw [if_pos e]⟩
  ·rw [if_neg e]
   rcases List.mem_cons.1 h with rfl | h
   ·exact absurd rfl e
   ·exact back_some h
theorem look_none {α : Type} : ∀ {l : List (Nat × α)} {n : Nat}, (∀ x, (n, x) ∉ l) → look l n = none
 | [], _, _ => rfl
 | (k, x) :: l, n, h => by
  rw [look_cons]
  by_cases e : n = k
  ·subst e; exact absurd List.mem_cons_self (h x)
  ·rw [if_neg e]; exact look_none fun y hy => h y (List.mem_cons_of_mem _ hy)
end
end Go.Proofs.YtfeikakkfnnaoaaGreatDoor.V
namespace Go.Proofs.YtfeikakkfnnaoaaGreatDoor.V
open Go
set_option linter.unusedVariables false
set_option linter.unusedSimpArgs false
section
variable {P : Program} {L : Lay} {E : Ent} {st : St L.D} {V : Vl} {a : Act} {w : World}
def callV (L : Lay) (V : Vl) (i : Nat) (cs : List (SV L.D)) (vs : List Value) (q : Option Nat) (lv : Nat → LV) : Vl where
 ba := V.ba
 bo := V.bo
 rv m := match look (take_ L (ident i 1) 0 cs).2 m with
  | some _ => vs.getD (m - ident i 1) undef
  | none => V.rv m
 lv l := match q with
  | some m => if l < m then V.lv l else lv l
  | none => V.lv l
section
variable {gs : List (Arg L)} {vals vs : List Value} {s : Sig} {r : RT L.D s.all} {v : Value} {w' : World} {i : Nat} {dst : Option Nat} {q : Option Nat} {lv : Nat → LV}
theorem row_call (H : Lends L E st V w gs vals) {m : Nat} {x : Row L.D} (hr : (st.put dst (after_ L i s gs r)).row m = some x) :
  (∃ j t xs, j < (enc s.all r).length ∧ m = ident i 1 + (0 + j) ∧ (enc s.all r).getD j .dead = .fr t xs ∧ x = ⟨t, false, xs⟩ ∧ (callV L V i (enc s.all r) vs q lv).rv m = vs.getD j undef) ∨
  (m ∉ goneOf L gs ∧ (callV L V i (enc s.all r) vs q lv).rv m = V.rv m ∧ ∃ x1, st.row m = some x1 ∧ ((x = x1 ∧ (roS L s.all = true → m ∉ (shownOf L gs).map (·.1))) ∨ (roS L s.all = true ∧ x = { x1 with fz := true } ∧ (m, x1) ∈ shownOf L gs))) := by
 (rw [row_put] at hr); (simp only [after_] at hr); (rw [look_append, look_append] at hr)
 cases h1 : look (take_ L (ident i 1) 0 (enc s.all r)).2 m with
 | some o =>
  (rw [h1] at hr); (obtain ⟨j, t, xs, h2, h3, h4, h5⟩ := take_look _ _ _ _ _ h1); (subst h5)
  refine .inl ⟨j, t, xs, h2, h3, h4, (Option.some.inj hr).symm, ?_⟩
  (simp only [callV, h1]); (rw [h3, Nat.zero_add, Nat.add_sub_cancel_left])
 | none =>
  (rw [h1] at hr); (have hv : (callV L V i (enc s.all r) vs q lv).rv m = V.rv m := by simp only [callV, h1]); (simp only [Option.none_or] at hr)
  cases h2 : look ((goneOf L gs).map fun j => (j, (none : Option (Row L.D)))) m with
  | some o =>
   (rw [h2] at hr); (obtain ⟨j, _, e⟩ := List.mem_map.1 (look_mem h2)); (obtain ⟨_, rfl⟩ := Prod.mk.inj e)
   cases hr
  | none =>
   (rw [h2] at hr); (simp only [Option.none_or] at hr)
   have hg : m ∉ goneOf L gs := fun hm => by
    (obtain ⟨y, hy⟩ := look_of_mem (l := (goneOf L gs).map fun j => (j, (none : Option (Row L.D)))) (n := m) (x := none) (List.mem_map.2 ⟨m, hm, rfl⟩)); (rw [h2] at hy; cases hy)
   refine .inr ⟨hg, hv, ?_⟩
   cases hro : roS L s.all with
   | false => rw [hro] at hr; exact ⟨x, hr, .inl ⟨rfl, fun h => by cases h⟩⟩
   | true =>
    (rw [hro] at hr); (simp only at hr)
    cases h3 : look ((shownOf L gs).map fun p => (p.1, some { p.2 with fz := true })) m with
    | none =>
     rw [h3] at hr
     refine ⟨x, hr, .inl ⟨rfl, fun _ hm => ?_⟩⟩
     (obtain ⟨p, hp, rfl⟩ := List.mem_map.1 hm); (obtain ⟨y, hy⟩ := look_of_mem (l := (shownOf L gs).map fun p => (p.1, some { p.2 with fz := true })) (n := p.1) (x := some { p.2 with fz := true }) (List.mem_map.2 ⟨p, hp, rfl⟩)); (rw [h3] at hy; cases hy)
    | some o =>
     (rw [h3] at hr); (obtain ⟨p, hp, e⟩ := List.mem_map.1 (look_mem h3)); (obtain ⟨rfl, rfl⟩ := Prod.mk.inj e)
     exact ⟨p.2, H.shown hp, .inr ⟨rfl, (Option.some.inj hr).symm, hp⟩⟩
theorem box_call {b : Nat} {cs : List (SV L.D)} (hf : finOk L (lentOf L gs) s.fin = true) (hb : (st.put dst (after_ L i s gs r)).box b = some cs) :
  (∃ q off n old, (lentOf L gs)[q]? = some (b, off, n, old) ∧ n = (s.fin.getD q []).length ∧ cs = old.take off ++ (((take_ L (ident i 1) 0 (enc s.all r)).1.drop s.res.flatten.length).drop (s.fin.take q).flatten.length).take n ++ old.drop (off + n)) ∨
  ((∀ l ∈ lentOf L gs, l.1 ≠ b) ∧ st.box b = some cs) := by
 (rw [box_put] at hb); (simp only [after_] at hb)
 cases h1 : look (back_ L (lentOf L gs) ((take_ L (ident i 1) 0 (enc s.all r)).1.drop s.res.flatten.length)) b with
 | some o =>
  (rw [h1] at hb); (obtain ⟨q, off, n, old, h2, h3, h4⟩ := back_look hf h1); (rw [h4] at hb)
  exact .inl ⟨q, off, n, old, h2, h3, (Option.some.inj hb).symm⟩
 | none =>
  rw [h1] at hb
  refine .inr ⟨fun l hl e => ?_, hb⟩
  (obtain ⟨o, ho⟩ := back_some (cells := (take_ L (ident i 1) 0 (enc s.all r)).1.drop s.res.flatten.length) hl); (rw [e, h1] at ho; cases ho)
theorem box_call_old (H : Lends L E st V w gs vals) (hf : finOk L (lentOf L gs) s.fin = true) {b : Nat} {cs : List (SV L.D)} (hb : (st.put dst (after_ L i s gs r)).box b = some cs) : ∃ cs0, st.box b = some cs0 ∧ ((∃ l ∈ lentOf L gs, l.1 = b) ∨ (∀ l ∈ lentOf L gs, l.1 ≠ b) ∧ cs = cs0) := by
 rcases box_call hf hb with ⟨q, off, n, old, h1, _⟩ | ⟨h1, h2⟩
 ·have := List.mem_of_getElem? h1
  exact ⟨_, (H.lent this).1, .inl ⟨_, this, rfl⟩⟩
 ·exact ⟨cs, h2, .inr ⟨h1, rfl⟩⟩
section
theorem imp_ow {k : Nat} (h : Rel L E st V a w) (H : Lends L E st V w gs vals) (hk : ImpB L V gs k) : Ob st V k := H.impOw h hk fun j hj => H.goneRow hj
theorem adr_of {k : Nat} (H : Lends L E st V w gs vals) {l : Nat × Nat × Nat × List (SV L.D)} (hl : l ∈ lentOf L gs) {n : Nat} {q0 : Option Nat} (hk : ∀ p ∈ (callE L E st V w gs n q0).adr, p.1 ≠ k) : V.ba l.1 ≠ k := hk _ (List.mem_map.2 ⟨l, hl, rfl⟩)
theorem new_old {n0 : Nat} {q0 : Option Nat} (h : Rel L E st V a w) (H : Lends L E st V w gs vals) {k : Nat} (h2 : w.heap.size ≤ k ∨ ImpB L V gs k) (h3 : ∀ p ∈ (callE L E st V w gs n0 q0).adr, p.1 ≠ k) :
  (∀ b cs, st.box b = some cs → V.ba b ≠ k) ∧ (∀ m x, m ∉ goneOf L gs → st.row m = some x → x.fz = false → (V.rv m).ownBlock ≠ some k) ∧ ∀ l, Lab st l → (V.lv l).2.ownBlock ≠ some k := by
 refine ⟨fun b cs hb e => ?_, fun m x hm hx hfz e => ?_, fun l hl e => ?_⟩
 ·rcases h2 with h2 | ⟨l, hl, e'⟩ | ⟨j, hj, e'⟩
  ·have := h.box_lt hb
   omega
  ·exact adr_of H hl h3 e'
  ·obtain ⟨y, hy, hyf⟩ := H.goneRow hj
   exact h.br b cs j y hb hy hyf (by rw [e', e])
 ·rcases h2 with h2 | ⟨l, hl, e'⟩ | ⟨j, hj, e'⟩
  ·have := h.row_lt hx hfz e
   omega
  ·exact h.br l.1 _ m x (H.lent hl).1 hx hfz (by rw [e, e'])
  ·obtain ⟨y, hy, hyf⟩ := H.goneRow hj
   obtain rfl := h.rr m j x y k hx hy hfz hyf e e'
   exact hm hj
 ·rcases h2 with h2 | h2
  ·have := h.lab_lt hl e
   omega
  ·exact h.lab_ob hl e (imp_ow h H h2)
theorem newR_old {n0 : Nat} {q0 : Option Nat} (h : Rel L E st V a w) (H : Lends L E st V w gs vals) (Q : PostV L (callE L E st V w gs n0 q0) s q (enc s.all r) vs lv v w') {c k : Nat} (ho : OwnV (enc s.all r) vs c k) :
  (∀ b cs, st.box b = some cs → V.ba b ≠ k) ∧ (∀ m x, m ∉ goneOf L gs → st.row m = some x → x.fz = false → (V.rv m).ownBlock ≠ some k) ∧ ∀ l, Lab st l → (V.lv l).2.ownBlock ≠ some k := by
 obtain ⟨_, h2, h3⟩ := Q.own c k ho
 exact new_old h H h2 h3
def CtrOk (st : St L.D) (s : Sig) (q : Option Nat) (cs : List (SV L.D)) : Prop := (q = none ∧ ctOf (cs.drop (s.res.flatten.length + s.fin.flatten.length)) = none) ∨ ∃ m, q = some m ∧ st.ctr = some m
theorem ctr_after (z : CtrOk st s q (enc s.all r)) {n : Nat} (hn : (st.put dst (after_ L i s gs r)).ctr = some n) : (ctOf ((enc s.all r).drop (s.res.flatten.length + s.fin.flatten.length)) = none ∧ st.ctr = some n) ∨ ∃ m, q = some m ∧ st.ctr = some m ∧ ctOf ((enc s.all r).drop (s.res.flatten.length + s.fin.flatten.length)) = some n := by
 simp only [St.put, after_] at hn
 cases hc : ctOf ((enc s.all r).drop (s.res.flatten.length + s.fin.flatten.length)) with
 | none =>
  rw [hc] at hn
  exact .inl ⟨rfl, hn⟩
 | some n' =>
  (rw [hc] at hn); (obtain rfl : n' = n := Option.some.inj hn)
  rcases z with ⟨_, h2⟩ | ⟨m, h1, h2⟩
  ·rw [hc] at h2; cases h2
  ·exact .inr ⟨m, h1, h2, rfl⟩
theorem lab_call (z : CtrOk st s q (enc s.all r)) {l : Nat} (hl : Lab (st.put dst (after_ L i s gs r)) l) : (Lab st l ∧ (callV L V i (enc s.all r) vs q lv).lv l = V.lv l) ∨ (NL s q (enc s.all r) l ∧ ¬ Lab st l ∧ (callV L V i (enc s.all r) vs q lv).lv l = lv l) := by
 (obtain ⟨n, hn, h1, h2⟩ := hl); (have h1 : st.c0 ≤ l := h1)
 have hold : ∀ m, st.ctr = some m → l < m → (callV L V i (enc s.all r) vs q lv).lv l = V.lv l := fun m hm hlt => by
  simp only [callV]
  rcases z with ⟨z, _⟩ | ⟨m', z, z'⟩
  ·rw [z]
  ·obtain rfl : m' = m := Option.some.inj (z'.symm.trans hm)
   rw [z]; exact if_pos hlt
 rcases ctr_after z hn with ⟨_, h3⟩ | ⟨m, h3, h4, h5⟩
 ·exact .inl ⟨⟨n, h3, h1, h2⟩, hold n h3 h2⟩
 ·by_cases hlt : l < m
  ·exact .inl ⟨⟨m, h4, h1, hlt⟩, hold m h4 hlt⟩
  ·refine .inr ⟨⟨m, n, h3, h5, by omega, h2⟩, fun ⟨m', h6, _, h7⟩ => ?_, ?_⟩
   ·obtain rfl := Option.some.inj (h6.symm.trans h4)
    exact hlt h7
   ·simp only [callV, h3]; exact if_neg hlt
theorem lab_new (h : Rel L E st V a w) (z : CtrOk st s q (enc s.all r)) {l : Nat} (hl : NL s q (enc s.all r) l) : Lab (st.put dst (after_ L i s gs r)) l ∧ (callV L V i (enc s.all r) vs q lv).lv l = lv l := by
 obtain ⟨m, n, h1, h2, h3, h4⟩ := hl
 rcases z with ⟨z, _⟩ | ⟨m', z, z'⟩
 ·rw [h1] at z; cases z
 ·obtain rfl := Option.some.inj (z.symm.trans h1)
  refine ⟨⟨n, ?_, Nat.le_trans (h.labF _ z').1 h3, h4⟩, ?_⟩
  ·simp only [St.put, after_, h2]; rfl
  ·simp only [callV, h1]; exact if_neg (by omega)
theorem lab_old (h : Rel L E st V a w) (z : CtrOk st s q (enc s.all r)) (hc : ∀ m n, q = some m → ctOf ((enc s.all r).drop (s.res.flatten.length + s.fin.flatten.length)) = some n → m ≤ n) {l : Nat} (hl : Lab st l) : Lab (st.put dst (after_ L i s gs r)) l ∧ (callV L V i (enc s.all r) vs q lv).lv l = V.lv l := by
 obtain ⟨m, h1, h2, h3⟩ := hl
 have hv : (callV L V i (enc s.all r) vs q lv).lv l = V.lv l := by
  simp only [callV]
  rcases z with ⟨z, _⟩ | ⟨m', z, z'⟩
  ·rw [z]
  ·obtain rfl := Option.some.inj (z'.symm.trans h1)
   rw [z]; exact if_pos h3
 refine ⟨?_, hv⟩
 cases hct : ctOf ((enc s.all r).drop (s.res.flatten.length + s.fin.flatten.length)) with
 | none => exact ⟨m, by simp only [St.put, after_, hct]; exact h1, h2, h3⟩
 | some n =>
  rcases z with ⟨_, z⟩ | ⟨m', z, z'⟩
  ·rw [hct] at z; cases z
  ·obtain rfl := Option.some.inj (z'.symm.trans h1)
   exact ⟨n, by simp only [St.put, after_, hct]; rfl, h2, Nat.lt_of_lt_of_le h3 (hc _ n z hct)⟩
theorem ob_call {n0 : Nat} {q0 : Option Nat} (h : Rel L E st V a w) (H : Lends L E st V w gs vals) (hf : finOk L (lentOf L gs) s.fin = true) (Q : PostV L (callE L E st V w gs n0 q0) s q (enc s.all r) vs lv v w') {k : Nat} (hk : Ob (st.put dst (after_ L i s gs r)) (callV L V i (enc s.all r) vs q lv) k) :
  (∃ c, OwnV (enc s.all r) vs c k) ∨ (∃ b cs, st.box b = some cs ∧ V.ba b = k) ∨ ∃ m x, m ∉ goneOf L gs ∧ st.row m = some x ∧ x.fz = false ∧ (V.rv m).ownBlock = some k ∧ (roS L s.all = true → m ∉ (shownOf L gs).map (·.1)) := by
 rcases hk with ⟨b, cs, hb, e⟩ | ⟨m, x, hx, hfz, e⟩
 ·obtain ⟨cs0, h0, _⟩ := box_call_old H hf hb
  exact .inr (.inl ⟨b, cs0, h0, e⟩)
 ·rcases row_call (V := V) (vs := vs) (q := q) (lv := lv) H hx with ⟨j, t, xs, h1, h2, h3, h4, h5⟩ | ⟨h1, h2, x1, h3, h4⟩
  ·rw [h5] at e
   exact .inl ⟨j, h1, ⟨t, xs, h3⟩, e⟩
  ·rw [h2] at e
   rcases h4 with ⟨rfl, h5⟩ | ⟨_, rfl, _⟩
   ·exact .inr (.inr ⟨m, x, h1, h3, hfz, e, h5⟩)
   ·cases hfz
theorem ow_call {n0 : Nat} {q0 : Option Nat} (h : Rel L E st V a w) (H : Lends L E st V w gs vals) (hf : finOk L (lentOf L gs) s.fin = true) (z : CtrOk st s q (enc s.all r)) (Q : PostV L (callE L E st V w gs n0 q0) s q (enc s.all r) vs lv v w') {k : Nat} (hk : Ow (st.put dst (after_ L i s gs r)) (callV L V i (enc s.all r) vs q lv) k) :
  (∃ c, OwnV (enc s.all r) vs c k) ∨ (∃ b cs, st.box b = some cs ∧ V.ba b = k) ∨ (∃ m x, m ∉ goneOf L gs ∧ st.row m = some x ∧ x.fz = false ∧ (V.rv m).ownBlock = some k ∧ (roS L s.all = true → m ∉ (shownOf L gs).map (·.1))) ∨ (∃ l, Lab st l ∧ (V.lv l).2.ownBlock = some k) ∨ ∃ l, NL s q (enc s.all r) l ∧ (lv l).2.ownBlock = some k := by
 rcases hk with hk | ⟨l, hl, e⟩
 ·rcases ob_call h H hf Q hk with hk | hk | hk
  ·exact .inl hk
  ·exact .inr (.inl hk)
  ·exact .inr (.inr (.inl hk))
 ·rcases lab_call (V := V) (vs := vs) (lv := lv) z hl with ⟨h1, h2⟩ | ⟨h1, _, h2⟩
  ·rw [h2] at e; exact .inr (.inr (.inr (.inl ⟨l, h1, e⟩)))
  ·rw [h2] at e; exact .inr (.inr (.inr (.inr ⟨l, h1, e⟩)))
theorem lb_call {n0 : Nat} {q0 : Option Nat} (h : Rel L E st V a w) (z : CtrOk st s q (enc s.all r)) (Q : PostV L (callE L E st V w gs n0 q0) s q (enc s.all r) vs lv v w') : ∀ l u, (PF (callE L E st V w gs n0 q0) s q (enc s.all r) vs lv w').lb l u → (Fz E (st.put dst (after_ L i s gs r)) (callV L V i (enc s.all r) vs q lv) w').lb l u := by
 rintro l u ((hl | ⟨hl, rfl⟩) | ⟨hl, rfl⟩)
 ·exact .inl hl
 ·obtain ⟨h1, h2⟩ := lab_old (i := i) (dst := dst) (gs := gs) (vs := vs) (lv := lv) h z Q.ctr hl
  exact .inr ⟨h1, h2.symm⟩
 ·obtain ⟨h1, h2⟩ := lab_new (V := V) (i := i) (dst := dst) (gs := gs) (vs := vs) (lv := lv) h z hl
  exact .inr ⟨h1, h2.symm⟩
theorem pf_call {n0 : Nat} {q0 : Option Nat} (h : Rel L E st V a w) (H : Lends L E st V w gs vals) (hf : finOk L (lentOf L gs) s.fin = true) (z : CtrOk st s q (enc s.all r)) (Q : PostV L (callE L E st V w gs n0 q0) s q (enc s.all r) vs lv v w') (hro : roS L s.all = true) (hcp : captOf L gs = []) {k : Nat} (hk : PF (callE L E st V w gs n0 q0) s q (enc s.all r) vs lv w' k) :
  Fz E (st.put dst (after_ L i s gs r)) (callV L V i (enc s.all r) vs q lv) w' k := by
 have hw : w.heap.size ≤ w'.heap.size := Q.size
 rcases hk with (hk | hk) | ⟨h1, h2, h3, h4, h5⟩
 ·-- what stayed
  rcases hk with hk | ⟨g1, g2, g3⟩
  ·exact .inl hk
  ·refine .inr ⟨g1, by omega, fun ho => ?_⟩
   rcases ow_call h H hf z Q ho with ⟨c, hc⟩ | ⟨b, cs, hb, e⟩ | ⟨m, x, _, hx, hfz, e, _⟩ | ho | ⟨l, hl, e⟩
   ·exact (Q.own c k hc).1 (.inl (.inr ⟨g1, g2, g3⟩))
   ·exact g3 (.inl (.inl ⟨b, cs, hb, e⟩))
   ·exact g3 (.inl (.inr ⟨m, x, hx, hfz, e⟩))
   ·exact g3 (.inr ho)
   ·exact (Q.labO l k hl e).1 (.inl (.inr ⟨g1, g2, g3⟩))
 ·rcases hk with ⟨j, x, hm, hfz, e⟩ | ⟨b, hb, _⟩
  ·have hx := H.shown hm
   (have hOb : Ob st V k := .inr ⟨j, x, hx, hfz, e⟩); (have hOw : Ow st V k := .inl hOb)
   refine .inr ⟨(h.own k hOw).2, by have := h.ow_lt hOw; omega, fun ho => ?_⟩
   rcases ow_call h H hf z Q ho with ⟨c, hc⟩ | ⟨b, cs, hb, e'⟩ | ⟨m, x', _, hx', hfz', e', hs⟩ | ⟨l, hl, e'⟩ | ⟨l, hl, e'⟩
   ·exact (Q.own c k hc).1 (.inr (.inl ⟨j, x, hm, hfz, e⟩))
   ·exact h.br b cs j x hb hx hfz (by rw [e, e'])
   ·obtain rfl := h.rr j m x x' k hx hx' hfz hfz' e e'
    exact hs hro (List.mem_map.2 ⟨(j, x), hm, rfl⟩)
   ·exact h.lab_ob hl e' hOb
   ·exact (Q.labO l k hl e').1 (.inr (.inl ⟨j, x, hm, hfz, e⟩))
  ·rw [hcp] at hb; cases hb
 ·obtain ⟨o1, o2, o3⟩ := new_old h H h1 h4
  refine .inr ⟨?_, h2, fun ho => ?_⟩
  ·rcases h1 with h1 | h1
   ·have : w.heap.size ≤ k := h1
    exact .inl (Nat.le_trans h.size this)
   ·exact (h.own k (.inl (imp_ow h H h1))).2
  ·rcases ow_call h H hf z Q ho with ⟨c, hc⟩ | ⟨b, cs, hb, e⟩ | ⟨m, x, hm, hx, hfz, e, _⟩ | ⟨l, hl, e⟩ | ⟨l, hl, e⟩
   ·exact h3 c hc
   ·exact o1 b cs hb e
   ·exact o2 m x hm hx hfz e
   ·exact o3 l hl e
   ·exact h5 l hl e
theorem pfz_call {n0 : Nat} {q0 : Option Nat} (h : Rel L E st V a w) (H : Lends L E st V w gs vals) (hf : finOk L (lentOf L gs) s.fin = true) (z : CtrOk st s q (enc s.all r)) (Q : PostV L (callE L E st V w gs n0 q0) s q (enc s.all r) vs lv v w') (hro : roS L s.all = true) (hcp : captOf L gs = []) :
  Le w' w' (PF (callE L E st V w gs n0 q0) s q (enc s.all r) vs lv w') (Fz E (st.put dst (after_ L i s gs r)) (callV L V i (enc s.all r) vs q lv) w') := .sub (fun k hk => pf_call h H hf z Q hro hcp hk) (lb_call h z Q)
theorem fz_call {n0 : Nat} {q0 : Option Nat} (h : Rel L E st V a w) (H : Lends L E st V w gs vals) (hf : finOk L (lentOf L gs) s.fin = true) (z : CtrOk st s q (enc s.all r)) (Q : PostV L (callE L E st V w gs n0 q0) s q (enc s.all r) vs lv v w') :
  Le w w' (Fz E st V w) (Fz E (st.put dst (after_ L i s gs r)) (callV L V i (enc s.all r) vs q lv) w') := by
 have hw : w.heap.size ≤ w'.heap.size := Q.size
 refine ⟨fun k hk => ⟨?_, Q.kept k (h.fz_lt hk) fun hi => h.fz_not hk (.inl (imp_ow h H hi))⟩, fun l u hl => ⟨lb_call h z Q l u (.inl hl), fun k hk => ?_⟩⟩
 ·rcases hk with hk | ⟨g1, g2, g3⟩
  ·exact .inl hk
  ·refine .inr ⟨g1, by omega, fun ho => ?_⟩
   rcases ow_call h H hf z Q ho with ⟨c, hc⟩ | ⟨b, cs, hb, e⟩ | ⟨m, x, _, hx, hfz, e, _⟩ | ho | ⟨l, hl, e⟩
   ·exact (Q.own c k hc).1 (.inl (.inr ⟨g1, g2, g3⟩))
   ·exact g3 (.inl (.inl ⟨b, cs, hb, e⟩))
   ·exact g3 (.inl (.inr ⟨m, x, hx, hfz, e⟩))
   ·exact g3 (.inr ho)
   ·exact (Q.labO l k hl e).1 (.inl (.inr ⟨g1, g2, g3⟩))
 ·obtain ⟨h1, h2⟩ := lb_apart h hl hk
  exact Q.kept k h1 fun hi => h2 (imp_ow h H hi)
theorem cell_call {n0 : Nat} {q0 : Option Nat} (hL : LayOk P L) (h : Rel L E st V a w) (H : Lends L E st V w gs vals) (hf : finOk L (lentOf L gs) s.fin = true) (z : CtrOk st s q (enc s.all r)) (Q : PostV L (callE L E st V w gs n0 q0) s q (enc s.all r) vs lv v w') (hcp : captOf L gs = [] ∨ roS L s.all = false) {c : Nat} (hc : c < (enc s.all r).length) (tm : Array Value) :
  SR L w' (Fz E (st.put dst (after_ L i s gs r)) (callV L V i (enc s.all r) vs q lv) w') (st.put dst (after_ L i s gs r)) (callV L V i (enc s.all r) vs q lv) tm ((take_ L (ident i 1) 0 (enc s.all r)).1.getD c .dead) (vs.getD c undef) := by
 rw [take_get _ _ _ _ hc, Nat.zero_add]
 by_cases hfr : IsFr ((enc s.all r).getD c .dead)
 ·obtain ⟨t, xs, e⟩ := hfr
  (have hl := take_some (ident i 1) 0 (enc s.all r) c t xs hc e); (rw [Nat.zero_add] at hl); (rw [e])
  refine .own (ident i 1 + c) _ fun _ _ => ?_
  (simp only [callV, hl]); (rw [Nat.add_sub_cancel_left])
 ·have e : takeS (ident i 1) c ((enc s.all r).getD c .dead) = (enc s.all r).getD c .dead := by
   generalize (enc s.all r).getD c .dead = x at hfr
   cases x <;> first | rfl | exact absurd ⟨_, _, rfl⟩ hfr
  (rw [e]); (have hro := Q.ro c hc hfr)
  cases hr : roS L s.all with
  | true => exact .c (hro.mono (pfz_call h H hf z Q hr (hcp.resolve_right (by rw [hr]; simp))))
  | false =>
   (rw [enc_len] at hc); (obtain ⟨sh, h1, x, h2⟩ := enc_cell s.all r c hc); (obtain ⟨g1, g2, g3⟩ := roS_false hr c sh h1)
   refine .c (hro.deep hL (lb_call h z Q) ?_)
   rw [h2] at hfr ⊢
   cases sh with
   | int k => exact .inl ⟨_, rfl⟩
   | bool => exact .inl ⟨_, rfl⟩
   | str => exact .inl ⟨_, rfl⟩
   | ct => exact .inr (.inl ⟨_, rfl⟩)
   | lr t => exact .inr (.inr ⟨x.1, t, x.2, rfl, g3 t rfl⟩)
   | ro t => exact absurd rfl (g1 t)
   | fr t => exact absurd ⟨t, x, rfl⟩ hfr
theorem rowOk_call {n0 : Nat} {q0 : Option Nat} (hL : LayOk P L) (h : Rel L E st V a w) (H : Lends L E st V w gs vals) (hf : finOk L (lentOf L gs) s.fin = true) (z : CtrOk st s q (enc s.all r)) (Q : PostV L (callE L E st V w gs n0 q0) s q (enc s.all r) vs lv v w') (hcp : captOf L gs = [] ∨ roS L s.all = false) {c : Nat} {t : TypeId} {xs : List (L.D t)} (hc : c < (enc s.all r).length) (e : (enc s.all r).getD c .dead = .fr t xs) :
  RowOk L w' (Fz E (st.put dst (after_ L i s gs r)) (callV L V i (enc s.all r) vs q lv) w') (vs.getD c undef) t xs := by
 have hro := Q.fr c t xs hc e
 cases hr : roS L s.all with
 | true => exact hro.mono (pfz_call h H hf z Q hr (hcp.resolve_right (by rw [hr]; simp))) fun _ _ => rfl
 | false =>
  (rw [enc_len] at hc); (obtain ⟨sh, h1, x, h2⟩ := enc_cell s.all r c hc); (obtain ⟨g1, g2, _⟩ := roS_false hr c sh h1); (rw [h2] at e)
  cases sh with
  | fr t' =>
   simp only [enc1] at e
   injection e with e0 e1
   subst e0
   exact hro.deep hL (lb_call h z Q) (g2 _ rfl)
  | ro t' => simp only [enc1] at e; cases e
  | int k => simp only [enc1] at e; cases e
  | bool => simp only [enc1] at e; cases e
  | str => simp only [enc1] at e; cases e
  | lr t' => simp only [enc1] at e; cases e
  | ct => simp only [enc1] at e; cases e
end
end
end
end Go.Proofs.YtfeikakkfnnaoaaGreatDoor.V
