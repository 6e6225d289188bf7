/- Part of the proof of the law FnBookAdd: what it uses of the texts that this session and the kit's print wrote. -/
import Derived.Test.YtfeikakkfnnaoaaGreatDoorZFnBookAddx2
import Derived.Lib.ConvBytes
import Derived.Laws.BytesArg
import Derived.Great.BuildSlice
import Derived.Great.FillDense
import Derived.Lib.AppendStr
import Derived.Deep.Upon
import Derived.ArgAppend
namespace Go.Proofs.YtfeikakkfnnaoaaGreatDoor.V
open Go
set_option linter.unusedVariables false
set_option linter.unusedSimpArgs false
section
variable {L : Lay} {w : World} {F : FS}
def RowR (L : Lay) (w : World) (F : FS) (Q : Nat → Prop) (t : TypeId) (xs : List (L.D t)) (u : Value) : Prop := ∃ A c, u = .slice A xs.length c ∧ (xs ≠ [] → xs.length ≤ c ∧ ∃ (b off : Nat) (f : Nat → Nat → Value), A = some ⟨b, off, none⟩ ∧ Q b ∧ (∀ i j, i < xs.length → j < (L.ti t).sz → w.cell? ⟨b, off + i * (L.ti t).sz + j, none⟩ = some (f i j)) ∧
  ∀ i j, (h : i < xs.length) → j < (L.ti t).sz → CR L w F ((L.cell t xs[i]).getD j .dead) (f i j))
theorem CR.row {t : TypeId} {xs : List (L.D t)} {u : Value} (h : CR L w F (.ro t xs) u) : ∃ A c, u = .slice A xs.length c ∧ (xs ≠ [] → xs.length ≤ c ∧ ∃ (b off : Nat) (f : Nat → Nat → Value), A = some ⟨b, off, none⟩ ∧ F b ∧ (∀ i j, i < xs.length → j < (L.ti t).sz → w.cell? ⟨b, off + i * (L.ti t).sz + j, none⟩ = some (f i j)) ∧
  ∀ i j, (h : i < xs.length) → j < (L.ti t).sz → CR L w F ((L.cell t xs[i]).getD j .dead) (f i j)) := by
 cases h with
 | ro0 t a c => exact ⟨a, c, rfl, fun h => absurd rfl h⟩
 | ro t xs b off c f hne hc hb hu hr => exact ⟨_, c, rfl, fun _ => ⟨hc, b, off, f, rfl, hb, hu, hr⟩⟩
theorem RowR.imp {Q Q' : Nat → Prop} {t : TypeId} {xs : List (L.D t)} {u : Value} (h : RowR L w F Q t xs u) (hq : ∀ k, Q k → Q' k) : RowR L w F Q' t xs u := by
 obtain ⟨A, c, e, h⟩ := h
 refine ⟨A, c, e, fun hne => ?_⟩
 obtain ⟨h1, b, off, f, h2, h3, h4⟩ := h hne
 exact ⟨h1, b, off, f, h2, hq b h3, h4⟩
theorem RowR.row {Q : Nat → Prop} {t : TypeId} {xs : List (L.D t)} {u : Value} (h : RowR L w F Q t xs u) : ∃ A c, u = .slice A xs.length c ∧ (xs ≠ [] → xs.length ≤ c ∧ ∃ (b off : Nat) (f : Nat → Nat → Value), A = some ⟨b, off, none⟩ ∧ Q b ∧ (∀ i j, i < xs.length → j < (L.ti t).sz → w.cell? ⟨b, off + i * (L.ti t).sz + j, none⟩ = some (f i j)) ∧
  ∀ i j, (h : i < xs.length) → j < (L.ti t).sz → CR L w F ((L.cell t xs[i]).getD j .dead) (f i j)) := h
theorem CR.rowK {t : TypeId} {xs : List (L.D t)} {u : Value} (h : CR L w F (.ro t xs) u) : RowR L w F F.keeps t xs u := RowR.imp (Q := F.fz) h.row fun _ hk => .inl hk
theorem CR.rowL {l : Nat} {t : TypeId} {xs : List (L.D t)} {u : Value} (h : CR L w F (.lr l t xs) u) : RowR L w F F.keeps t xs u := by
 cases h with
 | lr0 l t a c => exact ⟨a, c, rfl, fun h => absurd rfl h⟩
 | lr l t xs b off c f hne hc hl hu hr => exact ⟨_, c, rfl, fun _ => ⟨hc, b, off, f, rfl, .inr ⟨l, _, hl, rfl⟩, hu, hr⟩⟩
theorem CR.rowN {t : TypeId} {xs : List (L.D t)} {u : Value} (h : CR L w F (.rn t xs) u) : RowR L w F F.keeps t xs u := by
 cases h with
 | rn0 t a c => exact ⟨a, c, rfl, fun h => absurd rfl h⟩
 | rn t xs b off c f hne hc hb hu hr => exact ⟨_, c, rfl, fun _ => ⟨hc, b, off, f, rfl, hb, hu, hr⟩⟩
theorem RowOk.rowR {v : Value} {t : TypeId} {xs : List (L.D t)} (h : RowOk L w F v t xs) : RowR L w F (fun k => v.ownBlock = some k) t xs v := by
 obtain ⟨cells, ho, h1, hr⟩ := h
 rcases ho.2 with ⟨rfl, hn⟩ | ⟨g, cap, cur, fz, rfl, _, hg, hnc, _, hcs, htake⟩
 ·exact ⟨none, 0, by rw [hn], fun hne => absurd (List.eq_nil_of_length_eq_zero hn) hne⟩
 ·refine ⟨_, cap, rfl, fun _ => ⟨hnc, g, 0, fun i j => cells.getD (i * (L.ti t).sz + j) undef, rfl, rfl, fun i j hi hj => ?_, hr⟩⟩
  have hlt : i * (L.ti t).sz + j < xs.length * (L.ti t).sz := by
   (have : (i + 1) * (L.ti t).sz ≤ xs.length * (L.ti t).sz := Nat.mul_le_mul_right _ hi); (rw [Nat.add_mul] at this; omega)
  (rw [Nat.zero_add, cell_of_row w g _ cur t fz hg]); (have hl : cells.length = xs.length * (L.ti t).sz := ho.1)
  show cur[i * (L.ti t).sz + j]? = some (cells.getD (i * (L.ti t).sz + j) undef)
  (rw [List.getD_eq_getElem?_getD, List.getElem?_eq_getElem (by omega), Option.getD_some]); (have e : cells[i * (L.ti t).sz + j]? = cur.toList[i * (L.ti t).sz + j]? := by rw [← htake, List.getElem?_take, if_pos hlt]); (rw [← Array.getElem?_toList, ← e, List.getElem?_eq_getElem (by omega)])
theorem SR.lr_inv {st : St L.D} {V : Vl} {tm : Array Value} {l : Nat} {t : TypeId} {xs : List (L.D t)} {u : Value} (h : SR L w F st V tm (.lr l t xs) u) : CR L w F (.lr l t xs) u := by
 cases h with
 | c h => exact h
theorem SR.rn_inv {st : St L.D} {V : Vl} {tm : Array Value} {t : TypeId} {xs : List (L.D t)} {u : Value} (h : SR L w F st V tm (.rn t xs) u) : CR L w F (.rn t xs) u := by
 cases h with
 | c h => exact h
theorem at_lt {α : Type} {xs : List α} {n : Int} (h0 : 0 ≤ n) (h : n < xs.length) (z : α) : ∃ hn : n.toNat < xs.length, at_ xs n z = xs[n.toNat] := by
 have hn : n.toNat < xs.length := by omega
 exact ⟨hn, getD_lt hn z⟩
end
section
variable {P : Program} {L : Lay} {E : Ent} {st : St L.D} {V : Vl} {a : Act} {w : World}
theorem elem_of {t e : TypeId} (h : P.underlying t = some (.slice e)) : P.elem t = e ∧ P.underlying t = some (.slice (P.elem t)) := by
 have : P.elem t = e := by unfold Program.elem; rw [h]
 exact ⟨this, by rw [this]; exact h⟩
theorem rowOf_ok (h : Rel L E st V a w) {s : SV L.D} {u : Value} {r : Row L.D} (hs : rowOf L st s = some r) (hu : SR L w (Fz E st V w) st V a.tmps s u) : RowR L w (Fz E st V w) (fun k => (Fz E st V w).keeps k ∨ Ob st V k) r.t r.xs u := by
 unfold rowOf at hs
 split at hs
 ·rename_i j
  (obtain ⟨p, q⟩ := h.row j r hs); (rw [hu.own_inv hs])
  cases hf : r.fz with
  | true => exact (p hf).rowK.imp fun k hk => .inl hk
  | false => exact (q hf).rowR.imp fun k hk => .inr (.inr ⟨j, r, hs, hf, hk⟩)
 ·obtain rfl := Option.some.inj hs
  exact hu.ro_inv.rowK.imp fun k hk => .inl hk
 ·obtain rfl := Option.some.inj hs
  rw [hu.nl_inv]
  exact ⟨none, 0, rfl, fun h => absurd rfl h⟩
 ·obtain rfl := Option.some.inj hs
  exact hu.lr_inv.rowL.imp fun k hk => .inl hk
 ·obtain rfl := Option.some.inj hs
  exact hu.rn_inv.rowN.imp fun k hk => .inl hk
 ·cases hs
theorem out_len (hL : LayOk P L) {o : Oper} {ks : List Key} (A : At L E st V a w o ks) {x : Operand} {t : TypeId} (ho : o.op = .call { callee := .builtin .len, args := #[x], argTypes := #[t] }) {n : Int} (hn : lenOf L st t (rdt L st t x) = some n) : Out P L E st o a w { val := .v (.int .i64 n) } := by
 have hu := A.rel.opdT t x
 unfold lenOf at hn
 split at hn
 ·rename_i s hk hs
  (obtain rfl := Option.some.inj hn); (rw [hs] at hu)
  refine Out.val A (v := .int .i64 s.size) ?_ (fun _ _ => rfl) (.c (.v _ rfl))
  unfold execOp
  simp [ho, resolve, invoke, builtin, hu.v_inv.1, run_len_string w t o.type s (hL.str t hk), goInt]
 ·rename_i e hk
  split at hn
  ·rename_i r hr
   (obtain rfl := Option.some.inj hn); (obtain ⟨A', c, hv, _⟩ := (rowOf_ok A.rel hr hu).row)
   refine Out.val A (v := .int .i64 r.xs.length) ?_ (fun _ _ => rfl) (.c (.v _ rfl))
   unfold execOp
   simp [ho, resolve, invoke, builtin, hv, run_len_slice w t o.type A' r.xs.length c (elem_of (hL.slice t e hk).1).2, goInt]
  ·cases hn
 ·cases hn
theorem out_index (hL : LayOk P L) {o : Oper} {ks : List Key} (A : At L E st V a w o ks) {t : TypeId} {x y : Operand} (ho : o.op = .index t x y) (hk : (L.ti t).kind = .str) {s : ByteArray} {k : IntKind} {n : Int} (hx : rdo st x = .v (.string s)) (hy : rdo st y = .v (.int k n)) (h0 : 0 ≤ n) (h1 : n < s.size) :
  Out P L E st o a w { val := .v (.int .u8 (s.data.toList.getD n.toNat 0).toNat) } := by
 (have e1 := (hx ▸ A.rel.opd x).v_inv.1); (have e2 := (hy ▸ A.rel.opd y).v_inv.1); (have hn : n.toNat < s.size := by omega)
 have hs : s[n.toNat]? = some (s.data.toList.getD n.toNat 0) := by
  (have hl : s.data.toList.length = s.size := by rw [Array.length_toList]; rfl); (rw [getD_lt (by omega)])
  exact Array.getElem?_eq_getElem (xs := s.data) hn
 refine Out.val A (v := .int .u8 (s.data.toList.getD n.toNat 0).toNat) ?_ (fun _ _ => rfl) (.c (.v _ rfl))
 unfold execOp
 simp only [ho, e1, e2, Instr.index, asIntOf, Sem.run_bind, Sem.run_pure, Result.andThen_ok, run_underlying (hL.str t hk), if_pos h0, hs]
theorem out_extract {o : Oper} {ks : List Key} (A : At L E st V a w o ks) {x : Operand} {n : Nat} (ho : o.op = .extract x n) {l : List (SV L.D)} {s : SV L.D} (hx : rdo st x = .tup l) (hs : l[n]? = some s) (hm : ∀ k ∈ ks, ment k s = false) : Out P L E st o a w { val := s } := by
 (obtain ⟨vs, hv, hl, hj⟩ := (hx ▸ A.rel.opd x).tup_inv); (obtain ⟨hn, rfl⟩ := List.getElem?_eq_some_iff.1 hs); (have := hj n hn); (rw [getD_lt hn, getD_lt (by omega)] at this)
 refine Out.val A (v := vs[n]) ?_ hm this
 unfold execOp
 (simp only [ho, hv, Instr.extract, Sem.run_bind]); (rw [show (vs.toArray)[n]? = some vs[n] by simp [hl ▸ hn]])
 rfl
theorem out_makeFunc {o : Oper} {ks : List Key} (A : At L E st V a w o ks) {f : FuncId} {c : Array Operand} (ho : o.op = .makeFunc (.func f) #[] c) : Out P L E st o a w { val := .cl f (c.toList.map (rdo st)) } := by
 refine Out.val A (v := .func (.func f) #[] (c.toList.map a.eval).toArray) ?_ (fun k hk => ?_) (.cl f _ _ (by simp) fun j hj => ?_)
 ·unfold execOp
  have : c.map a.eval = (c.toList.map a.eval).toArray := by rw [← Array.toList_map, Array.toArray_toList]
  simp [ho, Instr.makeFunc, this]
 ·simp only [ment]
  have : ∀ l : List Operand, mentL k (l.map (rdo st)) = false := by
   intro l
   induction l with
   | nil => rfl
   | cons x l ih => simp only [List.map_cons, mentL, clean_rdo A.clean x k hk, ih, Bool.or_self]
  exact this _
 ·rw [List.length_map] at hj
  rw [getD_lt (by simpa using hj), getD_lt (by simpa using hj), List.getElem_map, List.getElem_map]
  exact A.rel.opd _
theorem out_indexAddr (hL : LayOk P L) {o : Oper} {ks : List Key} (A : At L E st V a w o ks) {t e : TypeId} {x y : Operand} (ho : o.op = .indexAddr t x y) (hk : elemOf L t = some e) {xs : List (L.D e)} {k : IntKind} {n : Int} (hx : RowR L w (Fz E st V w) (Fz E st V w).keeps e xs (a.eval x)) (hy : rdo st y = .v (.int k n)) (h0 : 0 ≤ n) (h1 : n < xs.length) :
  Out P L E st o a w { val := .rp e (at_ xs n (L.zd e)) 0 } := by
 (obtain ⟨hn, hat⟩ := at_lt h0 h1 (L.zd e)); (have e2 := (hy ▸ A.rel.opd y).v_inv.1); (obtain ⟨A', c, hv, hrow⟩ := hx.row); (obtain ⟨hc, b, off, f, rfl, hb, hu, hr⟩ := hrow (by intro h; rw [h] at hn; exact absurd hn (Nat.not_lt_zero _)))
 have hsl : P.underlying t = some (.slice e) ∧ ∃ i, P.info? e = some i ∧ i.size = (L.ti e).sz := by
  unfold elemOf at hk
  split at hk
  ·rename_i e' hke
   (obtain rfl := Option.some.inj hk); (obtain ⟨p, _, _, i, z, q, r, _⟩ := hL.slice t e' hke)
   exact ⟨p, i, q, r⟩
  ·cases hk
 (obtain ⟨hsu, i, hi, hsz⟩ := hsl); (rw [hat])
 refine Out.val A (v := .pointer (some ⟨b, (off + n.toNat * (L.ti e).sz) + 0, none⟩)) ?_ (fun _ _ => rfl) (.rp e _ 0 b _ (f n.toNat) hb (fun j hj => hu _ j hn hj) fun j hj => hr _ j hn hj)
 unfold execOp
 (simp only [ho, hv, e2, Sem.run_bind]); (rw [run_indexAt_slice w t _ _ _ k n (elem_of hsu).2, if_pos ⟨h0, by omega⟩])
 simp [(elem_of hsu).1, sizeOf, typeInfo, hi, hsz, Addr.add_mid]
theorem out_indexOwn (hL : LayOk P L) {o : Oper} {ks : List Key} (A : At L E st V a w o ks) {t : TypeId} {x y : Operand} (ho : o.op = .indexAddr t x y) {j : Nat} {r : Row L.D} (hk : elemOf L t = some r.t) {k : IntKind} {n : Int} (hx : rdo st x = .own j) (hr : st.row j = some r) (hy : rdo st y = .v (.int k n)) (h0 : 0 ≤ n) (h1 : n < r.xs.length) :
  r.fz = false → Out P L E st o a w { val := .ep j n.toNat 0 } := by
 intro hf
 (have hn : n.toNat < r.xs.length := by omega); (have e2 := (hy ▸ A.rel.opd y).v_inv.1); (have hxo := hx ▸ A.rel.opd x); (have hv := hxo.own_inv hr); (obtain ⟨cells, hown, _⟩ := (A.rel.row j r hr).2 hf)
 rcases hown.2 with ⟨_, hz⟩ | ⟨g, cap, cur, fz, he, _, hg, hnc, _⟩
 ·omega
 have hsl : P.underlying t = some (.slice r.t) ∧ ∃ i, P.info? r.t = some i ∧ i.size = (L.ti r.t).sz := by
  unfold elemOf at hk
  split at hk
  ·rename_i e' hke
   (have hk := Option.some.inj hk); (obtain ⟨p, _, _, i, z, q, rr, _⟩ := hL.slice t e' hke); (rw [hk] at p q rr)
   exact ⟨p, i, q, rr⟩
  ·cases hk
 obtain ⟨hsu, i, hi, hsz⟩ := hsl
 refine Out.val A (v := .pointer (some ⟨g, n.toNat * (L.ti r.t).sz + 0, none⟩)) ?_ (fun k hk => ?_) (.ep j _ 0 _ fun r' hr' => ?_)
 ·unfold execOp
  (simp only [ho, hv, he, e2, Sem.run_bind]); (rw [run_indexAt_slice w t _ _ _ k n (elem_of hsu).2, if_pos ⟨h0, by omega⟩])
  simp [(elem_of hsu).1, sizeOf, typeInfo, hi, hsz, Addr.add_mid]
 ·have := clean_rdo A.clean x k hk
  rw [hx] at this
  exact this
 ·obtain rfl : r = r' := Option.some.inj (hr.symm.trans hr')
  exact ⟨g, cap, he, hn, rfl⟩
theorem CR.cut {w : World} {F : FS} {t : TypeId} {xs : List (L.D t)} {A : Option Addr} {c : Nat} (h : CR L w F (.ro t xs) (.slice A xs.length c)) {lo hi : Nat} (h1 : lo ≤ hi) (h2 : hi ≤ xs.length) (hc : xs ≠ [] → xs.length ≤ c) :
  CR L w F (.ro t ((xs.take hi).drop lo)) (sliced A lo hi c (L.ti t).sz) := by
 have hl : ((xs.take hi).drop lo).length = hi - lo := by simp; omega
 unfold sliced
 by_cases he : hi = lo
 ·have : (xs.take hi).drop lo = [] := List.eq_nil_of_length_eq_zero (by omega)
  rw [this, he, Nat.sub_self]
  exact .ro0 _ _ _
 ·obtain ⟨A', c', hv, hrow⟩ := h.row
  injection hv with e1 e2 e3
  (subst e1); (subst e3); (have hne : xs ≠ [] := fun h => by rw [h] at h2; simp at h2; omega); (obtain ⟨hlc, b, off, f, rfl, hb, hu, hr⟩ := hrow hne); (rw [if_neg (by omega), Option.map_some, Addr.add_mid, ← hl])
  refine .ro t _ b (off + lo * (L.ti t).sz) _ (fun i j => f (lo + i) j) (fun h => by rw [h] at hl; simp at hl; omega) (by omega) hb (fun i j hi' hj => ?_) fun i j hi' hj => ?_
  ·have := hu (lo + i) j (by omega) hj
   rw [Nat.add_mul, ← Nat.add_assoc] at this
   exact this
  ·have : ((xs.take hi).drop lo)[i] = xs[lo + i]'(by omega) := by simp
   rw [this]
   exact hr (lo + i) j (by omega) hj
theorem RowR.rn {w : World} {F : FS} {t : TypeId} {xs : List (L.D t)} {u : Value} (h : RowR L w F F.keeps t xs u) : CR L w F (.rn t xs) u := by
 obtain ⟨A, c, rfl, h⟩ := h
 by_cases hne : xs = []
 ·subst hne; exact .rn0 t A c
 ·obtain ⟨h1, b, off, f, rfl, hb, hu, hr⟩ := h hne
  exact .rn t xs b off c f hne h1 hb hu hr
theorem RowR.cut {w : World} {F : FS} {Q : Nat → Prop} {t : TypeId} {xs : List (L.D t)} {A : Option Addr} {c : Nat} (h : RowR L w F Q t xs (.slice A xs.length c)) {lo hi : Nat} (h1 : lo ≤ hi) (h2 : hi ≤ xs.length) :
  RowR L w F Q t ((xs.take hi).drop lo) (sliced A lo hi c (L.ti t).sz) := by
 have hl : ((xs.take hi).drop lo).length = hi - lo := by simp; omega
 unfold sliced
 by_cases he : hi = lo
 ·have : (xs.take hi).drop lo = [] := List.eq_nil_of_length_eq_zero (by omega)
  rw [this, he, Nat.sub_self]
  exact ⟨_, _, rfl, fun h => absurd rfl h⟩
 ·obtain ⟨A', c', hv, hrow⟩ := h.row
  injection hv with e1 e2 e3
  (subst e1); (subst e3); (have hne : xs ≠ [] := fun h => by rw [h] at h2; simp at h2; omega); (obtain ⟨hlc, b, off, f, rfl, hb, hu, hr⟩ := hrow hne); (rw [if_neg (by omega), Option.map_some, Addr.add_mid, ← hl])
  refine ⟨_, _, rfl, fun _ => ⟨by omega, b, off + lo * (L.ti t).sz, fun i j => f (lo + i) j, rfl, hb, fun i j hi' hj => ?_, fun i j hi' hj => ?_⟩⟩
  ·have := hu (lo + i) j (by omega) hj
   rw [Nat.add_mul, ← Nat.add_assoc] at this
   exact this
  ·have : ((xs.take hi).drop lo)[i] = xs[lo + i]'(by omega) := by simp
   rw [this]
   exact hr (lo + i) j (by omega) hj
theorem bounds_ok (isS : Bool) {len cap : Nat} {lo hi : Option Value} {l h : Int} (hlo : (lo = none ∧ l = 0) ∨ ∃ k, lo = some (.int k l)) (hhi : (hi = none ∧ h = len) ∨ ∃ k, hi = some (.int k h)) (h0 : 0 ≤ l) (h1 : l ≤ h) (h2 : h ≤ len) (hc : len ≤ cap) (w : World) :
  (Instr.sliceBounds isS len cap lo hi none).run P w = .ok (l.toNat, h.toNat, cap) w := by
 (have eh : (h.toNat : Int) = h := Int.toNat_of_nonneg (by omega)); (have b1 : ∀ k code, (Instr.sliceBound (.int k h) cap code).run P w = .ok h.toNat w := fun k code => run_sliceBound w k h cap code (by omega) (by omega)); (have b2 : ∀ k code, (Instr.sliceBound (.int k l) h.toNat code).run P w = .ok l.toNat w := fun k code => run_sliceBound w k l h.toNat code h0 (by omega)); (have b3 : ∀ k code, h = (len : Int) → (Instr.sliceBound (.int k l) len code).run P w = .ok l.toNat w := fun k code e => run_sliceBound w k l len code h0 (by omega))
 rcases hlo with ⟨rfl, rfl⟩ | ⟨k, rfl⟩ <;> rcases hhi with ⟨rfl, rfl⟩ | ⟨k', rfl⟩ <;> simp [Instr.sliceBounds, b1, b2, b3]
theorem bnd_ok (h : Rel L E st V a w) {d n : Int} {x : Option Operand} (hb : bnd L st d x = some n) : (x.map a.eval = none ∧ n = d) ∨ ∃ k, x.map a.eval = some (.int k n) := by
 unfold bnd at hb
 split at hb
 ·exact .inl ⟨rfl, (Option.some.inj hb).symm⟩
 ·rename_i x
  split at hb
  ·rename_i k n' hx
   (obtain rfl := Option.some.inj hb); (have e1 := (hx ▸ h.opd x).v_inv.1)
   exact .inr ⟨k, by rw [Option.map_some, e1]⟩
  ·cases hb
theorem slice_kind (hL : LayOk P L) {t e : TypeId} (hk : (L.ti t).kind = .slice e) : P.underlying t = some (.slice e) ∧ ∃ i, P.info? e = some i ∧ i.size = (L.ti e).sz := by
 obtain ⟨p, _, _, i, z, q, r, _⟩ := hL.slice t e hk
 exact ⟨p, i, q, r⟩
theorem run_cut (hL : LayOk P L) {t e : TypeId} (hk : (L.ti t).kind = .slice e) {A : Option Addr} {len cap : Nat} {lo hi : Option Value} {l h : Int} (hlo : (lo = none ∧ l = 0) ∨ ∃ k, lo = some (.int k l)) (hhi : (hi = none ∧ h = len) ∨ ∃ k, hi = some (.int k h)) (h0 : 0 ≤ l) (h1 : l ≤ h) (h2 : h ≤ len) (hc : len ≤ cap) (w : World) :
  (Instr.sliceAt t (.slice A len cap) lo hi none).run P w = .ok (sliced A l.toNat h.toNat cap (L.ti e).sz) w := by
 (obtain ⟨hu, i, hi', hsz⟩ := slice_kind hL hk); (obtain ⟨he, hu'⟩ := elem_of hu); (rw [run_sliceAt_slice w t _ _ _ _ hu', run_slice_any w t A len cap hu', bounds_ok true hlo hhi h0 h1 h2 hc, he])
 simp [Result.andThen, sizeOf, typeInfo, hi', hsz]
theorem out_cutS (hL : LayOk P L) {o : Oper} {ks : List Key} (A : At L E st V a w o ks) {t : TypeId} {x : Operand} {lo hi : Option Operand} (ho : o.op = .slice t x lo hi none) (hk : (L.ti t).kind = .str) {s : ByteArray} (hx : rdo st x = .v (.string s)) {l h : Int} (hl : bnd L st 0 lo = some l) (hh : bnd L st (s.size : Int) hi = some h) (h0 : 0 ≤ l) (h1 : l ≤ h) (h2 : h ≤ s.size) :
  Out P L E st o a w { val := .v (.string (s.extract l.toNat h.toNat)) } := by
 have e1 := (hx ▸ A.rel.opd x).v_inv.1
 refine Out.val A (v := .string (s.extract l.toNat h.toNat)) ?_ (fun _ _ => rfl) (.c (.v _ rfl))
 unfold execOp
 (simp only [ho, e1, Sem.run_bind, Option.map_none]); (rw [run_sliceAt_string w t _ _ _ _ (hL.str t hk)])
 simp [Instr.slice, run_underlying (hL.str t hk), bounds_ok false (bnd_ok A.rel hl) (bnd_ok A.rel hh) h0 h1 h2 (Nat.le_refl _)]
theorem out_cutR (hL : LayOk P L) {o : Oper} {ks : List Key} (A : At L E st V a w o ks) {t e : TypeId} {x : Operand} {lo hi : Option Operand} (ho : o.op = .slice t x lo hi none) (hk : (L.ti t).kind = .slice e) {xs : List (L.D e)} (hx : rdo st x = .ro e xs) {l h : Int} (hl : bnd L st 0 lo = some l) (hh : bnd L st (xs.length : Int) hi = some h) (h0 : 0 ≤ l) (h1 : l ≤ h) (h2 : h ≤ xs.length) :
  Out P L E st o a w { val := .ro e ((xs.take h.toNat).drop l.toNat) } := by
 (have hcr := (hx ▸ A.rel.opd x).ro_inv); (obtain ⟨A', c, hv, hrow⟩ := hcr.row); (rw [hv] at hcr)
 by_cases hne : xs = []
 ·subst hne
  (have hl0 : l = 0 := by simp at h2; omega); (have hh0 : h = 0 := by simp at h2; omega); (subst hl0; subst hh0)
  refine Out.val A (v := sliced A' (0 : Int).toNat (0 : Int).toNat c (L.ti e).sz) ?_ (fun _ _ => rfl) (.c ?_)
  ·unfold execOp
   (simp only [ho, hv, Sem.run_bind, Option.map_none]); (rw [run_cut hL hk (bnd_ok A.rel hl) (bnd_ok A.rel hh) h0 h1 h2 (Nat.zero_le _)])
   rfl
  ·exact hcr.cut (Nat.le_refl _) (Nat.zero_le _) fun h => absurd rfl h
 ·refine Out.val A (v := sliced A' l.toNat h.toNat c (L.ti e).sz) ?_ (fun _ _ => rfl) (.c (hcr.cut (by omega) (by omega) fun h => (hrow h).1))
  unfold execOp
  (simp only [ho, hv, Sem.run_bind, Option.map_none]); (rw [run_cut hL hk (bnd_ok A.rel hl) (bnd_ok A.rel hh) h0 h1 h2 (hrow hne).1])
  rfl
theorem out_cutN (hL : LayOk P L) {o : Oper} {ks : List Key} (A : At L E st V a w o ks) {t e : TypeId} {x : Operand} {lo hi : Option Operand} (ho : o.op = .slice t x lo hi none) (hk : (L.ti t).kind = .slice e) {xs : List (L.D e)} (hx : RowR L w (Fz E st V w) (Fz E st V w).keeps e xs (a.eval x)) {l h : Int} (hl : bnd L st 0 lo = some l) (hh : bnd L st (xs.length : Int) hi = some h) (h0 : 0 ≤ l) (h1 : l ≤ h) (h2 : h ≤ xs.length) :
  Out P L E st o a w { val := .rn e ((xs.take h.toNat).drop l.toNat) } := by
 (obtain ⟨A', c, hv, hrow⟩ := hx.row); (rw [hv] at hx)
 by_cases hne : xs = []
 ·subst hne
  (have hl0 : l = 0 := by simp at h2; omega); (have hh0 : h = 0 := by simp at h2; omega); (subst hl0; subst hh0)
  refine Out.val A (v := sliced A' (0 : Int).toNat (0 : Int).toNat c (L.ti e).sz) ?_ (fun _ _ => rfl) (.c ?_)
  ·unfold execOp
   (simp only [ho, hv, Sem.run_bind, Option.map_none]); (rw [run_cut hL hk (bnd_ok A.rel hl) (bnd_ok A.rel hh) h0 h1 h2 (Nat.zero_le _)])
   rfl
  ·exact (hx.cut (Nat.le_refl _) (Nat.zero_le _)).rn
 ·refine Out.val A (v := sliced A' l.toNat h.toNat c (L.ti e).sz) ?_ (fun _ _ => rfl) (.c (hx.cut (by omega) (by omega)).rn)
  unfold execOp
  (simp only [ho, hv, Sem.run_bind, Option.map_none]); (rw [run_cut hL hk (bnd_ok A.rel hl) (bnd_ok A.rel hh) h0 h1 h2 (hrow hne).1])
  rfl
theorem okT_und (hL : LayOk P L) {t : TypeId} (h : okT L t = true) : ∃ d, P.underlying t = some d := by
 unfold okT at h
 cases hg : isAgg L t with
 | true =>
  unfold isAgg at hg
  split at hg
  ·rename_i fs hfs
   obtain ⟨fields, hu, _⟩ := hL.struct t fs hfs
   exact ⟨_, hu⟩
  ·cases hg
 | false =>
  obtain ⟨d, hd, _⟩ := hL.plain t hg (by intro he; rw [he] at h; cases h)
  exact ⟨d, hd⟩
theorem out_convInt (hL : LayOk P L) {o : Oper} {ks : List Key} (A : At L E st V a w o ks) {src dst : TypeId} {x : Operand} (ho : o.op = .convert src dst x) {k k' : IntKind} {n : Int} (hx : rdo st x = .v (.int k n)) (hd : (L.ti dst).kind = .int k') (hs : okT L src = true) : Out P L E st o a w { val := .v (.int k' (k'.wrap n)) } := by
 (have e1 := (hx ▸ A.rel.opd x).v_inv.1); (obtain ⟨d, hu⟩ := okT_und hL hs)
 refine Out.val A (v := .int k' (k'.wrap n)) ?_ (fun _ _ => rfl) (.c (.v _ rfl))
 unfold execOp
 simp [ho, e1, convert, run_underlying hu, run_underlying (hL.int dst k' hd), Conv.intToInt]
theorem out_convStr (hL : LayOk P L) {o : Oper} {ks : List Key} (A : At L E st V a w o ks) {src dst : TypeId} {x : Operand} (ho : o.op = .convert src dst x) {s : ByteArray} (hx : rdo st x = .v (.string s)) (hd : (L.ti dst).kind = .str) (hs : okT L src = true) : Out P L E st o a w { val := .v (.string s) } := by
 (have e1 := (hx ▸ A.rel.opd x).v_inv.1); (obtain ⟨d, hu⟩ := okT_und hL hs)
 refine Out.val A (v := .string s) ?_ (fun _ _ => rfl) (.c (.v _ rfl))
 unfold execOp
 simp [ho, e1, convert, run_underlying hu, run_underlying (hL.str dst hd)]
theorem ofByte_cell (hL : LayOk P L) {e : TypeId} (hk : (L.ti e).kind = .int .u8) (b : UInt8) : L.cell e (ofByte L e b) = [.v (.int .u8 (b.toNat : Int))] := by
 (obtain ⟨x, hx⟩ := (hL.byte e hk).2.2.2.1 (b.toNat : Int)); (have : ofByte L e b = x := by unfold ofByte; rw [hx]); (rw [this, hL.make e _ x hx]; cases L.labd e <;> rfl)
end
end Go.Proofs.YtfeikakkfnnaoaaGreatDoor.V
namespace Go.Proofs.YtfeikakkfnnaoaaGreatDoor.V
open Go
set_option linter.unusedVariables false
set_option linter.unusedSimpArgs false
theorem beq_ne {n m : Nat} (h : n ≠ m) : Nat.beq n m = false := by
 cases hb : Nat.beq n m with
 | false => rfl
 | true => exact absurd (Nat.eq_of_beq_eq_true hb) h
theorem look_one {α : Type} (k : Nat) (x : α) (n : Nat) : look [(k, x)] n = if n = k then some x else none := by
 by_cases h : n = k
 ·subst h; simp [look]
 ·simp [look, beq_ne h, h]
theorem look_cons {α : Type} (k : Nat) (x : α) (l : List (Nat × α)) (n : Nat) : look ((k, x) :: l) n = if n = k then some x else look l n := by
 by_cases h : n = k
 ·subst h; simp [look]
 ·simp [look, beq_ne h, h]
section
variable {P : Program} {L : Lay} {E : Ent} {st : St L.D} {V : Vl} {a : Act} {w : World}
def Frz (st : St L.D) (u : List (Nat × Option (Row L.D))) : Prop := ∀ j o, (j, o) ∈ u → ∃ r, st.row j = some r ∧ o = some { r with fz := true }
theorem frz_look {u : List (Nat × Option (Row L.D))} (hu : Frz st u) {j : Nat} {o : Option (Row L.D)} (h : look u j = some o) : ∃ r, st.row j = some r ∧ o = some { r with fz := true } := hu j o (look_mem h)
theorem row_frz {u : List (Nat × Option (Row L.D))} (hu : Frz st u) (dst : Option Nat) (s : SV L.D) {i : Nat} {r : Row L.D} (h : (st.put dst { val := s, rows := u }).row i = some r) : ∃ r0, st.row i = some r0 ∧ (r = r0 ∨ r = { r0 with fz := true }) := by
 rw [row_put] at h
 cases hl : look u i with
 | none => rw [hl] at h; exact ⟨r, h, .inl rfl⟩
 | some o =>
  (rw [hl] at h); (obtain ⟨r0, h0, rfl⟩ := frz_look hu hl)
  exact ⟨r0, h0, .inr (Option.some.inj h).symm⟩
theorem ow_frz {u : List (Nat × Option (Row L.D))} (hu : Frz st u) (dst : Option Nat) (s : SV L.D) {k : Nat} (h : Ob (st.put dst { val := s, rows := u }) V k) : Ob st V k := by
 rcases h with ⟨b, cs, hb, e⟩ | ⟨i, r, hr, hf, e⟩
 ·exact .inl ⟨b, cs, hb, e⟩
 ·obtain ⟨r0, h0, h1⟩ := row_frz hu dst s hr
  rcases h1 with rfl | rfl
  ·exact .inr ⟨i, _, h0, hf, e⟩
  ·cases hf
theorem fz_frz (h : Rel L E st V a w) {u : List (Nat × Option (Row L.D))} (hu : Frz st u) (dst : Option Nat) (s : SV L.D) : Le w w (Fz E st V w) (Fz E (st.put dst { val := s, rows := u }) V w) := by
 refine .sub (fun k hk => ?_) fun l v hl => hl
 rcases hk with hk | ⟨h1, h2, h3⟩
 ·exact .inl hk
 ·exact .inr ⟨h1, h2, fun ho => h3 (ho.imp (ow_frz hu dst s) id)⟩
theorem Ch.frz (h : Rel L E st V a w) {u : List (Nat × Option (Row L.D))} (hu : Frz st u) (ks : Key → Prop) (dst : Option Nat) (s : SV L.D) (tm' : Array Value) : Ch L E st V w ks (st.put dst { val := s, rows := u }) V tm' w where
 same := fun k hk => .inl rfl
 owned := fun k hk => .inr (ow_frz hu dst s hk)
 c0 := rfl
 labM := fun l hl => ⟨hl, rfl⟩
 labN := fun l hl => .inl hl
 labD := fun l l' k hl hn _ _ _ _ => absurd hl hn
 ctrF := fun n hn => ⟨n, hn, Nat.le_refl _⟩
 rowS := fun i r' _ hr => by
  obtain ⟨r0, h0, h1⟩ := row_frz hu dst s hr
  rcases h1 with rfl | rfl
  ·exact ⟨_, h0, rfl, rfl, rfl⟩
  ·exact ⟨_, h0, rfl, rfl, rfl⟩
 boxS := fun b cs' _ hb => ⟨cs', hb, rfl, rfl⟩
 box := fun b cs hb => .inl ⟨hb, rfl, rfl, rfl⟩
 row := fun i r hr => by
  rw [row_put] at hr
  cases hl : look u i with
  | none => rw [hl] at hr; exact .inl ⟨hr, rfl, fun _ _ _ => rfl⟩
  | some o =>
   (rw [hl] at hr); (obtain ⟨r0, h0, rfl⟩ := frz_look hu hl); (obtain rfl := Option.some.inj hr)
   refine .inr ⟨fun _ => ?_, fun hf => by cases hf⟩
   obtain ⟨p, q⟩ := h.row i r0 h0
   cases hf : r0.fz with
   | true => exact (p hf).mono (fz_frz h hu dst s)
   | false =>
    refine (q hf).reads (fz_frz h hu dst s) fun k hk => ?_
    have ho : Ob st V k := .inr ⟨i, r0, h0, hf, hk⟩
    refine .inr ⟨(h.own k (.inl ho)).2, h.ob_lt ho, fun ho' => ?_⟩
    rcases ho' with (⟨b, cs, hb, e⟩ | ⟨i', r', hr', hf', hk'⟩) | ⟨l, hl, e⟩
    ·exact h.br b cs i r0 hb h0 hf (by rw [hk, e])
    ·have hr0 := hr'
     obtain ⟨r1, h1, h2⟩ := row_frz hu dst s hr'
     rcases h2 with rfl | rfl
     ·obtain rfl := h.rr i i' r0 _ k h0 h1 hf hf' hk hk'
      (rw [row_put, hl] at hr0); (rw [← Option.some.inj hr0] at hf')
      cases hf'
     ·cases hf'
    ·exact h.lab_ob hl e ho
 bb := h.bb
 br := fun b cs i r hb hr hf => by
  obtain ⟨r0, h0, h1⟩ := row_frz hu dst s hr
  rcases h1 with rfl | rfl
  ·exact h.br b cs i _ hb h0 hf
  ·cases hf
 rr := fun i i' r r' k hr hr' hf hf' hk hk' => by
  (obtain ⟨r0, h0, h1⟩ := row_frz hu dst s hr); (obtain ⟨r1, h2, h3⟩ := row_frz hu dst s hr')
  rcases h1 with rfl | rfl
  ·rcases h3 with rfl | rfl
   ·exact h.rr i i' _ _ k h0 h2 hf hf' hk hk'
   ·cases hf'
  ·cases hf
 size := Nat.le_refl _
 os := rfl
 tape := rfl
 output := rfl
 imps := rfl
 impB := fun b _ cs hb => ⟨cs, hb, rfl, rfl, rfl, fun _ _ => rfl⟩
theorem Rel.putF (h : Rel L E st V a w) {u : List (Nat × Option (Row L.D))} (hu : Frz st u) {dst : Option Nat} {s : SV L.D} {ks : List Key} (hc : clean st ks = true) (hd : ∀ n, dst = some n → (0, n) ∈ ks ∧ n < E.nt) {v : Value}
  (hv : ∀ n, dst = some n → SR L w (Fz E (st.put dst { val := s, rows := u }) V w) (st.put dst { val := s, rows := u }) V (a.put dst v).tmps s v) : Rel L E (st.put dst { val := s, rows := u }) V (a.put dst v) w :=
 h.turn hc hd ((Ch.frz h hu _ dst s _).turn h) hv
theorem out_cutOwn (hL : LayOk P L) {o : Oper} {ks : List Key} (A : At L E st V a w o ks) {t : TypeId} {x : Operand} {lo hi : Option Operand} (ho : o.op = .slice t x lo hi none) {j : Nat} {r : Row L.D} (hk : (L.ti t).kind = .slice r.t) (hx : rdo st x = .own j) (hr : st.row j = some r) {l h : Int} (hl : bnd L st 0 lo = some l) (hh : bnd L st (r.xs.length : Int) hi = some h) (h0 : 0 ≤ l) (h1 : l ≤ h) (h2 : h ≤ r.xs.length) :
  Out P L E st o a w { val := .ro r.t ((r.xs.take h.toNat).drop l.toNat), rows := [(j, some { r with fz := true })] } := by
 have hu : Frz st [(j, some { r with fz := true })] := fun j' o' hm => by
  obtain ⟨rfl, rfl⟩ := Prod.mk.inj (List.mem_singleton.1 hm)
  exact ⟨r, hr, rfl⟩
 have hv := (hx ▸ A.rel.opd x).own_inv hr
 -- the row reads, its block now staying
 have hrow : CR L w (Fz E (st.put o.dst { val := .ro r.t ((r.xs.take h.toNat).drop l.toNat), rows := [(j, some { r with fz := true })] }) V w) (.ro r.t r.xs) (V.rv j) := by
  have C := Ch.frz A.rel hu (fun _ => False) o.dst (.ro r.t ((r.xs.take h.toNat).drop l.toNat)) a.tmps
  have hj : (st.put o.dst { val := .ro r.t ((r.xs.take h.toNat).drop l.toNat), rows := [(j, some { r with fz := true })] }).row j = some { r with fz := true } := by
   rw [row_put, look_one, if_pos rfl]
  rcases C.row j _ hj with ⟨hr0, _, _⟩ | hh'
  ·obtain ⟨p, q⟩ := A.rel.row j _ hr0
   exact (p rfl).mono (fz_frz A.rel hu _ _)
  ·exact hh'.1 rfl
 (obtain ⟨A', c, he, hrw⟩ := hrow.row); (rw [he] at hrow)
 have hle : r.xs.length ≤ c ∨ r.xs = [] := by
  by_cases hne : r.xs = []
  ·exact .inr hne
  ·exact .inl (hrw hne).1
 (have hcap : r.xs.length ≤ c ∨ (r.xs.length = 0) := hle.imp id (fun h => by rw [h]; rfl)); (have hcap' : r.xs.length ≤ c := by rcases hcap with h | h <;> omega)
 refine ⟨.value (sliced A' l.toNat h.toNat c (L.ti r.t).sz), w, ?_, V, .inl ⟨_, rfl, A.rel.putF hu A.clean A.dst fun n hn => .c (hrow.cut (by omega) (by omega) fun hne => (hrw hne).1)⟩⟩
 unfold execOp
 (simp only [ho, hv, he, Sem.run_bind, Option.map_none]); (rw [run_cut hL hk (bnd_ok A.rel hl) (bnd_ok A.rel hh) h0 h1 h2 hcap'])
 rfl
def Vl.withBox (V : Vl) (b k o : Nat) : Vl := { V with ba := fun b' => if b' = b then k else V.ba b', bo := fun b' => if b' = b then o else V.bo b' }
def Vl.withRow (V : Vl) (i : Nat) (v : Value) : Vl := { V with rv := fun i' => if i' = i then v else V.rv i' }
section
variable {b0 : Nat} {cs0 : List (SV L.D)} {dst : Option Nat} {s : SV L.D}
theorem box_new {b : Nat} {cs : List (SV L.D)} (h : (st.put dst { val := s, boxes := [(b0, some cs0)] }).box b = some cs) : (b = b0 ∧ cs = cs0) ∨ (b ≠ b0 ∧ st.box b = some cs) := by
 rw [box_put, look_one] at h
 by_cases e : b = b0
 ·rw [if_pos e] at h; exact .inl ⟨e, (Option.some.inj h).symm⟩
 ·rw [if_neg e] at h; exact .inr ⟨e, h⟩
theorem row_newBox {i : Nat} : (st.put dst { val := s, boxes := [(b0, some cs0)] }).row i = st.row i := by rw [row_put]; rfl
theorem Ch.newBox (h : Rel L E st V a w) {ks : Key → Prop} (hk : ks (1, b0)) (hi : b0 ∉ st.imps) (tm' : Array Value) {w' : World} (hw : ∀ k, k < w.heap.size → w'.heap[k]? = w.heap[k]?) (hz : w.heap.size < w'.heap.size) (os : w'.os = w.os) (tape : w'.tape = w.tape) (output : w'.output = w.output)
  (hb : BoxOk L E (st.put dst { val := s, boxes := [(b0, some cs0)] }) (V.withBox b0 w.heap.size 0) tm' w' b0 cs0) : Ch L E st V w ks (st.put dst { val := s, boxes := [(b0, some cs0)] }) (V.withBox b0 w.heap.size 0) tm' w' where
 same := fun k hk => .inl (hw k hk)
 owned := fun k hk => by
  rcases hk with ⟨b, cs, hb', e⟩ | ⟨i, r, hr, hf, e⟩
  ·rcases box_new hb' with ⟨rfl, _⟩ | ⟨hne, h0⟩
   ·left; simp [Vl.withBox] at e; omega
   ·right; exact .inl ⟨b, cs, h0, by simpa [Vl.withBox, hne] using e⟩
  ·rw [row_newBox] at hr
   exact .inr (.inr ⟨i, r, hr, hf, e⟩)
 c0 := rfl
 labM := fun l hl => ⟨hl, rfl⟩
 labN := fun l hl => .inl hl
 labD := fun l l' k hl hn _ _ _ _ => absurd hl hn
 ctrF := fun n hn => ⟨n, hn, Nat.le_refl _⟩
 rowS := fun i r' _ hr => ⟨r', by rw [row_newBox] at hr; exact hr, rfl, rfl, rfl⟩
 boxS := fun b cs' hn hb' => by
  rcases box_new hb' with ⟨rfl, _⟩ | ⟨hne, h0⟩
  ·exact absurd hk hn
  ·exact ⟨cs', h0, by simp [Vl.withBox, hne], by simp [Vl.withBox, hne]⟩
 box := fun b cs hb' => by
  rcases box_new hb' with ⟨rfl, rfl⟩ | ⟨hne, h0⟩
  ·exact .inr hb
  ·exact .inl ⟨h0, by simp [Vl.withBox, hne], by simp [Vl.withBox, hne], hw _ (h.box_lt h0)⟩
 row := fun i r hr => by
  rw [row_newBox] at hr
  exact .inl ⟨hr, rfl, fun hf k hk => hw k (h.row_lt hr hf hk)⟩
 bb := fun b b' cs cs' h1 h2 e => by
  rcases box_new h1 with ⟨rfl, _⟩ | ⟨n1, g1⟩ <;> rcases box_new h2 with ⟨rfl, _⟩ | ⟨n2, g2⟩
  ·rfl
  ·simp [Vl.withBox, n2] at e; have := h.box_lt g2; omega
  ·simp [Vl.withBox, n1] at e; have := h.box_lt g1; omega
  ·simp [Vl.withBox, n1, n2] at e; exact h.bb b b' cs cs' g1 g2 e
 br := fun b cs i r h1 hr hf => by
  rw [row_newBox] at hr
  rcases box_new h1 with ⟨rfl, _⟩ | ⟨n1, g1⟩
  ·intro e; simp [Vl.withBox] at e; have := h.row_lt hr hf e; omega
  ·have := h.br b cs i r g1 hr hf
   simpa [Vl.withBox, n1] using this
 rr := fun i i' r r' k hr hr' hf hf' hk hk' => by
  rw [row_newBox] at hr hr'
  exact h.rr i i' r r' k hr hr' hf hf' hk hk'
 size := Nat.le_of_lt hz
 os := os
 tape := tape
 output := output
 imps := rfl
 impB := fun b hb' cs h1 => by
  have hne : b ≠ b0 := fun e => hi (e ▸ hb')
  exact ⟨cs, by rw [box_put, look_one, if_neg hne]; exact h1, rfl, by simp [Vl.withBox, hne], by simp [Vl.withBox, hne], fun o _ => cell_same (hw _ (h.box_lt h1)) o⟩
theorem Ch.newBoxAt (h : Rel L E st V a w) {k0 o0 : Nat} (hk0 : w.heap.size ≤ k0) {ks : Key → Prop} (hk : ks (1, b0)) (hi : b0 ∉ st.imps) (tm' : Array Value) {w' : World} (hw : ∀ k, k < w.heap.size → w'.heap[k]? = w.heap[k]?) (hz : w.heap.size ≤ w'.heap.size) (os : w'.os = w.os) (tape : w'.tape = w.tape) (output : w'.output = w.output)
  (hb : BoxOk L E (st.put dst { val := s, boxes := [(b0, some cs0)] }) (V.withBox b0 k0 o0) tm' w' b0 cs0) : Ch L E st V w ks (st.put dst { val := s, boxes := [(b0, some cs0)] }) (V.withBox b0 k0 o0) tm' w' where
 same := fun k hk => .inl (hw k hk)
 owned := fun k hk => by
  rcases hk with ⟨b, cs, hb', e⟩ | ⟨i, r, hr, hf, e⟩
  ·rcases box_new hb' with ⟨rfl, _⟩ | ⟨hne, h0⟩
   ·left; simp [Vl.withBox] at e; omega
   ·right; exact .inl ⟨b, cs, h0, by simpa [Vl.withBox, hne] using e⟩
  ·rw [row_newBox] at hr
   exact .inr (.inr ⟨i, r, hr, hf, e⟩)
 c0 := rfl
 labM := fun l hl => ⟨hl, rfl⟩
 labN := fun l hl => .inl hl
 labD := fun l l' k hl hn _ _ _ _ => absurd hl hn
 ctrF := fun n hn => ⟨n, hn, Nat.le_refl _⟩
 rowS := fun i r' _ hr => ⟨r', by rw [row_newBox] at hr; exact hr, rfl, rfl, rfl⟩
 boxS := fun b cs' hn hb' => by
  rcases box_new hb' with ⟨rfl, _⟩ | ⟨hne, h0⟩
  ·exact absurd hk hn
  ·exact ⟨cs', h0, by simp [Vl.withBox, hne], by simp [Vl.withBox, hne]⟩
 box := fun b cs hb' => by
  rcases box_new hb' with ⟨rfl, rfl⟩ | ⟨hne, h0⟩
  ·exact .inr hb
  ·exact .inl ⟨h0, by simp [Vl.withBox, hne], by simp [Vl.withBox, hne], hw _ (h.box_lt h0)⟩
 row := fun i r hr => by
  rw [row_newBox] at hr
  exact .inl ⟨hr, rfl, fun hf k hk => hw k (h.row_lt hr hf hk)⟩
 bb := fun b b' cs cs' h1 h2 e => by
  rcases box_new h1 with ⟨rfl, _⟩ | ⟨n1, g1⟩ <;> rcases box_new h2 with ⟨rfl, _⟩ | ⟨n2, g2⟩
  ·rfl
  ·simp [Vl.withBox, n2] at e; have := h.box_lt g2; omega
  ·simp [Vl.withBox, n1] at e; have := h.box_lt g1; omega
  ·simp [Vl.withBox, n1, n2] at e; exact h.bb b b' cs cs' g1 g2 e
 br := fun b cs i r h1 hr hf => by
  rw [row_newBox] at hr
  rcases box_new h1 with ⟨rfl, _⟩ | ⟨n1, g1⟩
  ·intro e; simp [Vl.withBox] at e; have := h.row_lt hr hf e; omega
  ·have := h.br b cs i r g1 hr hf
   simpa [Vl.withBox, n1] using this
 rr := fun i i' r r' k hr hr' hf hf' hk hk' => by
  rw [row_newBox] at hr hr'
  exact h.rr i i' r r' k hr hr' hf hf' hk hk'
 size := hz
 os := os
 tape := tape
 output := output
 imps := rfl
 impB := fun b hb' cs h1 => by
  have hne : b ≠ b0 := fun e => hi (e ▸ hb')
  exact ⟨cs, by rw [box_put, look_one, if_neg hne]; exact h1, rfl, by simp [Vl.withBox, hne], by simp [Vl.withBox, hne], fun o _ => cell_same (hw _ (h.box_lt h1)) o⟩
end
theorem same_newBox (h : Rel L E st V a w) {b0 : Nat} {cs0 : List (SV L.D)} {dst : Option Nat} {s : SV L.D} {ks : List Key} (hk : (1, b0) ∈ ks) (hd : ∀ n, dst = some n → (0, n) ∈ ks) {v : Value} {w' : World} (hw : ∀ k, k < w.heap.size → w'.heap[k]? = w.heap[k]?) (hz : w.heap.size < w'.heap.size) :
  Same L w w' (Fz E st V w) (Fz E (st.put dst { val := s, boxes := [(b0, some cs0)] }) (V.withBox b0 w.heap.size 0) w') st (st.put dst { val := s, boxes := [(b0, some cs0)] }) V (V.withBox b0 w.heap.size 0) a.tmps (a.put dst v).tmps (· ∈ ks) where
 mem := by
  refine ⟨fun k hk' => ?_, lb_turn h (fun k hk => .inl (hw k hk)) fun l hl => ⟨hl, rfl⟩⟩
  refine ⟨?_, hw k (h.fz_lt hk')⟩
  rcases hk' with hk' | ⟨h1, h2, h3⟩
  ·exact .inl hk'
  ·refine .inr ⟨h1, by omega, fun ho => h3 ?_⟩
   rcases ho with (⟨b, cs, hb', e⟩ | ⟨i, r, hr, hf, e⟩) | hl
   ·rcases box_new hb' with ⟨rfl, _⟩ | ⟨hne, h0⟩
    ·simp [Vl.withBox] at e; omega
    ·exact .inl (.inl ⟨b, cs, h0, by simpa [Vl.withBox, hne] using e⟩)
   ·rw [row_newBox] at hr; exact .inl (.inr ⟨i, r, hr, hf, e⟩)
   ·exact .inr hl
 row := fun i r' _ hr => ⟨r', by rw [row_newBox] at hr; exact hr, rfl, rfl, rfl⟩
 box := fun b cs' hn hb' => by
  rcases box_new hb' with ⟨rfl, _⟩ | ⟨hne, h0⟩
  ·exact absurd hk hn
  ·exact ⟨cs', h0, by simp [Vl.withBox, hne], by simp [Vl.withBox, hne]⟩
 tmp := fun j hj => by
  cases hdst : dst with
  | none => rfl
  | some n => exact put_getD_other (fun e => hj (by rw [e]; exact hd n hdst)) v
theorem same_newBoxAt (h : Rel L E st V a w) {k0 o0 : Nat} (hk0 : w.heap.size ≤ k0) {b0 : Nat} {cs0 : List (SV L.D)} {dst : Option Nat} {s : SV L.D} {ks : List Key} (hk : (1, b0) ∈ ks) (hd : ∀ n, dst = some n → (0, n) ∈ ks) {v : Value} {w' : World} (hw : ∀ k, k < w.heap.size → w'.heap[k]? = w.heap[k]?) (hz : w.heap.size ≤ w'.heap.size) :
  Same L w w' (Fz E st V w) (Fz E (st.put dst { val := s, boxes := [(b0, some cs0)] }) (V.withBox b0 k0 o0) w') st (st.put dst { val := s, boxes := [(b0, some cs0)] }) V (V.withBox b0 k0 o0) a.tmps (a.put dst v).tmps (· ∈ ks) where
 mem := by
  refine ⟨fun k hk' => ?_, lb_turn h (fun k hk => .inl (hw k hk)) fun l hl => ⟨hl, rfl⟩⟩
  refine ⟨?_, hw k (h.fz_lt hk')⟩
  rcases hk' with hk' | ⟨h1, h2, h3⟩
  ·exact .inl hk'
  ·refine .inr ⟨h1, by omega, fun ho => h3 ?_⟩
   rcases ho with (⟨b, cs, hb', e⟩ | ⟨i, r, hr, hf, e⟩) | hl
   ·rcases box_new hb' with ⟨rfl, _⟩ | ⟨hne, h0⟩
    ·simp [Vl.withBox] at e; omega
    ·exact .inl (.inl ⟨b, cs, h0, by simpa [Vl.withBox, hne] using e⟩)
   ·rw [row_newBox] at hr; exact .inl (.inr ⟨i, r, hr, hf, e⟩)
   ·exact .inr hl
 row := fun i r' _ hr => ⟨r', by rw [row_newBox] at hr; exact hr, rfl, rfl, rfl⟩
 box := fun b cs' hn hb' => by
  rcases box_new hb' with ⟨rfl, _⟩ | ⟨hne, h0⟩
  ·exact absurd hk hn
  ·exact ⟨cs', h0, by simp [Vl.withBox, hne], by simp [Vl.withBox, hne]⟩
 tmp := fun j hj => by
  cases hdst : dst with
  | none => rfl
  | some n => exact put_getD_other (fun e => hj (by rw [e]; exact hd n hdst)) v
theorem Rel.newBox (h : Rel L E st V a w) {b0 : Nat} {cs0 : List (SV L.D)} {dst : Option Nat} {ks : List Key} (hc : clean st ks = true) (hd : ∀ n, dst = some n → (0, n) ∈ ks ∧ n < E.nt) (hk : (1, b0) ∈ ks) (hi : b0 ∉ st.imps) {vs : List Value} {T : TypeId}
  (hl : cs0.length = vs.length) (h1 : ∀ v ∈ vs, v.oneCell' = true) (hs : ∀ j, j < cs0.length → (∀ k ∈ ks, ment k (cs0.getD j .dead) = false) ∧ SR L w (Fz E st V w) st V a.tmps (cs0.getD j .dead) (vs.getD j undef)) :
  Rel L E (st.put dst { val := .ptr b0 0, boxes := [(b0, some cs0)] }) (V.withBox b0 w.heap.size 0) (a.put dst (.pointer (some ⟨w.heap.size, 0, none⟩))) (w.alloc (.cells vs.toArray T)) := by
 (have hw : ∀ k, k < w.heap.size → (w.alloc (.cells vs.toArray T)).heap[k]? = w.heap[k]? := fun k hk => heap_alloc_old w _ hk); (have hz : w.heap.size < (w.alloc (.cells vs.toArray T)).heap.size := by simp); (have S := same_newBox (s := .ptr b0 0) (cs0 := cs0) (v := .pointer (some ⟨w.heap.size, 0, none⟩)) h hk (fun n hn => (hd n hn).1) hw hz)
 refine h.turn hc hd ((Ch.newBox h hk hi _ hw hz rfl rfl rfl ⟨vs.toArray, T, ?_, ?_, fun j hj => ⟨vs.getD j undef, ?_, ?_, ?_⟩⟩).turn h) fun n hn => ?_
 ·simp only [Vl.withBox, if_true]; exact heap_alloc_new w _
 ·simp [Vl.withBox, hl]
 ·simp only [Vl.withBox, if_true, Nat.zero_add]
  rw [getD_lt (by omega)]
  simp [hl ▸ hj]
 ·rw [getD_lt (by omega)]; exact h1 _ (List.getElem_mem _)
 ·exact (hs j hj).2.same S (hs j hj).1
 ·refine .ptr b0 0 _ fun cs hcs => ?_
  simp [Vl.withBox]
theorem zero_ok (hL : LayOk P L) {t : TypeId} (hk : okT L t = true) {w : World} {F : FS} {st : St L.D} {V : Vl} {tm : Array Value} : ∃ i z, P.info? t = some i ∧ i.zero = some z ∧ z.cells.size = (L.ti t).sz ∧ (L.zero t).length = z.cells.toList.length ∧ (∀ v ∈ z.cells.toList, v.oneCell' = true) ∧
  ∀ j, j < (L.zero t).length → (∀ k, ment k ((L.zero t).getD j .dead) = false) ∧ SR L w F st V tm ((L.zero t).getD j .dead) (z.cells.toList.getD j undef) := by
 (have hko : (L.ti t).kind ≠ .other := by intro h; simp [okT, h] at hk); (obtain ⟨i, z, hi, hsz, _, hz, hcs, _, _, hl, hj⟩ := hL.info t hko); (have hlen : (L.zero t).length = z.cells.toList.length := by rw [show z.cells.toList.length = z.cells.size from Array.length_toList]; omega)
 refine ⟨i, z, hi, hz, hcs, hlen, fun v hv => ?_, fun j hjl => ?_⟩
 ·obtain ⟨j, hjl, rfl⟩ := List.getElem_of_mem hv
  obtain ⟨u, hu, h1, _⟩ := hj j (by omega)
  have : z.cells.toList[j] = u := by
   (have := Array.getElem?_toList (xs := z.cells) (i := j)); (rw [hu, List.getElem?_eq_getElem hjl] at this)
   exact Option.some.inj this
  rw [this]; exact h1
 ·obtain ⟨u, hu, h1, hc⟩ := hj j hjl
  have e : z.cells.toList.getD j undef = u := by
   rw [List.getD_eq_getElem?_getD, Array.getElem?_toList, hu]; rfl
  rw [e, getD_lt hjl]
  rcases hc with hc | ⟨t', hc, rfl⟩
  ·rw [hc]; exact ⟨fun _ => rfl, .c (.v _ h1)⟩
  ·rw [hc]; exact ⟨fun _ => rfl, .nl t'⟩
theorem out_alloc (hL : LayOk P L) {o : Oper} {ks : List Key} (A : At L E st V a w o ks) {t : TypeId} (ho : o.op = .alloc t) (hk : okT L t = true) {b0 : Nat} (hb : (1, b0) ∈ ks) (hi : b0 ∉ st.imps) : Out P L E st o a w { val := .ptr b0 0, boxes := [(b0, some (L.zero t))] } := by
 obtain ⟨i, z, hinf, hz, hcs, hlen, h1, hj⟩ := zero_ok hL hk (w := w) (F := Fz E st V w) (st := st) (V := V) (tm := a.tmps)
 refine ⟨_, _, ?_, _, .inl ⟨_, rfl, A.rel.newBox A.clean A.dst hb hi (T := t) hlen h1 fun j hjl => ⟨fun k _ => (hj j hjl).1 k, (hj j hjl).2⟩⟩⟩
 unfold execOp
 simp [ho, Instr.alloc, zeroValue, typeInfo, hinf, hz, newVar, newRow]
theorem cells_ok {w : World} {F : FS} {st : St L.D} {V : Vl} {tm : Array Value} {s : SV L.D} {u : Value} (h : SR L w F st V tm s u) (h1 : u.oneCell' = true ∨ ∃ cs, s = .agg cs) : (cellsOf s).length = u.cells.toList.length ∧ (∀ v ∈ u.cells.toList, v.oneCell' = true) ∧
  ∀ j, j < (cellsOf s).length → SR L w F st V tm ((cellsOf s).getD j .dead) (u.cells.toList.getD j undef) := by
 have one : ∀ s : SV L.D, cellsOf s = [s] → u.oneCell' = true → SR L w F st V tm s u → (cellsOf s).length = u.cells.toList.length ∧ (∀ v ∈ u.cells.toList, v.oneCell' = true) ∧ ∀ j, j < (cellsOf s).length → SR L w F st V tm ((cellsOf s).getD j .dead) (u.cells.toList.getD j undef) := by
  intro s hs hu h
  (have hc : u.cells = #[u] := by cases u <;> first | rfl | cases hu); (rw [hs, hc])
  refine ⟨rfl, fun v hv => ?_, fun j hj => ?_⟩
  ·simp at hv; rw [hv]; exact hu
  ·simp at hj; subst hj; exact h
 rcases h1 with hu | ⟨cs, rfl⟩
 ·cases s <;> first | exact one _ rfl hu h | (obtain ⟨vs, rfl, _⟩ := h.agg_inv; cases hu)
 ·obtain ⟨vs, rfl, hl, h1, hj⟩ := h.agg_inv
  exact ⟨by simpa [cellsOf, Value.cells] using hl, by simpa [Value.cells] using h1, fun j hj' => by simpa [cellsOf, Value.cells] using hj j hj'⟩
theorem good_one {w : World} {F : FS} {st : St L.D} {V : Vl} {tm : Array Value} {s : SV L.D} {u : Value} (hg : good st s = true) (h : SR L w F st V tm s u) (hr : ∀ j r, st.row j = some r → (V.rv j).oneCell' = true) : u.oneCell' = true ∨ ∃ cs, s = .agg cs := by
 cases s with
 | v x => left; rw [h.v_inv.1]; exact h.v_inv.2
 | ro t xs => exact .inl h.ro_inv.one
 | nl t => left; rw [h.nl_inv]; rfl
 | own j =>
  left
  (simp only [good, Option.isSome_iff_exists] at hg); (obtain ⟨r, hg⟩ := hg); (rw [h.own_inv hg]; exact hr j r hg)
 | ptr b off =>
  left
  (simp only [good, Option.isSome_iff_exists] at hg); (obtain ⟨cs, hg⟩ := hg); (rw [h.ptr_inv hg]; rfl)
 | ep => cases hg
 | rp t x off => left; obtain ⟨_, _, _, _, rfl, _⟩ := h.rp_inv; rfl
 | agg cs => exact .inr ⟨cs, rfl⟩
 | tup => cases hg
 | cl f cs => left; obtain ⟨_, rfl, _⟩ := h.cl_inv; rfl
 | rb cs off => left; obtain ⟨_, _, _, _, rfl, _⟩ := h.rb_inv; rfl
 | pb => cases hg
 | fr => cases hg
 | gd => cases hg
 | lr l t xs => exact .inl h.lr_inv.one
 | rn t xs => exact .inl h.rn_inv.one
 | ct => cases hg
 | dead => cases hg
theorem Rel.rv_one (h : Rel L E st V a w) : ∀ j r, st.row j = some r → (V.rv j).oneCell' = true := by
 intro j r hr
 obtain ⟨p, q⟩ := h.row j r hr
 cases hf : r.fz with
 | true => exact (p hf).one
 | false =>
  obtain ⟨cells, ho, _⟩ := q hf
  rcases ho.2 with ⟨e, _⟩ | ⟨g, cap, cur, fz, e, _⟩ <;> rw [e] <;> rfl
theorem out_box (hL : LayOk P L) {o : Oper} {ks : List Key} (A : At L E st V a w o ks) {t : TypeId} {x : Operand} (ho : o.op = .box t x) (hg : good st (rdt L st t x) = true) {b0 : Nat} (hb : (1, b0) ∈ ks) : Out P L E st o a w { val := .ptr b0 0, boxes := [(b0, some (cellsOf (rdt L st t x)))] } := by
  have hv := A.rel.opdT t x
  obtain ⟨hl, h1, hj⟩ := cells_ok hv (good_one hg hv A.rel.rv_one)
  have hm := clean_rdt A.clean t x
  refine ⟨_, _, ?_, _, .inl ⟨_, rfl, A.rel.newBox A.clean A.dst hb (clean_imps A.clean b0 hb) (T := t) hl h1 fun j hjl => ⟨fun k hk => ?_, hj j hjl⟩⟩⟩
  · unfold execOp
    simp [ho, Instr.box, newVar, newRow]
  · have := hm k hk
    generalize rdt L st t x = s at this hjl
    cases s <;> first | (simp only [cellsOf, List.length_singleton] at hjl; have : j = 0 := by omega
                         subst this; assumption) | (simp only [ment] at this; exact mentL_getD this)
def Frd (st : St L.D) (u : List (Nat × Option (Row L.D))) : Prop := ∀ j o, (j, o) ∈ u → ∃ r, st.row j = some r ∧ (o = none ∨ o = some { r with fz := true })
def Gone (st : St L.D) (V : Vl) (u : List (Nat × Option (Row L.D))) (k : Nat) : Prop := ∃ j r, look u j = some none ∧ st.row j = some r ∧ r.fz = false ∧ (V.rv j).ownBlock = some k
section
variable {i0 : Nat} {r0 : Row L.D} {u : List (Nat × Option (Row L.D))} {dst : Option Nat} {s : SV L.D} {v0 : Value} {c' : Option Nat} {lv' : Nat → LV}
theorem row_mix (hu : Frd st u) {i : Nat} {r : Row L.D} (h : (st.put dst { val := s, rows := (i0, some r0) :: u, ctr := c' }).row i = some r) : (i = i0 ∧ r = r0) ∨ (i ≠ i0 ∧ ∃ r1, st.row i = some r1 ∧ ((look u i = none ∧ r = r1) ∨ (look u i = some (some r) ∧ r = { r1 with fz := true }))) := by
 rw [row_put, look_cons] at h
 by_cases e : i = i0
 ·rw [if_pos e] at h; exact .inl ⟨e, (Option.some.inj h).symm⟩
 ·rw [if_neg e] at h
  refine .inr ⟨e, ?_⟩
  cases hl : look u i with
  | none => rw [hl] at h; exact ⟨r, h, .inl ⟨rfl, rfl⟩⟩
  | some o =>
   (rw [hl] at h); (obtain ⟨r1, h1, h2⟩ := hu i o (look_mem hl))
   rcases h2 with rfl | rfl
   ·cases h
   ·have h := Option.some.inj h
    exact ⟨r1, h1, .inr ⟨by rw [h], h.symm⟩⟩
theorem box_newRow {b : Nat} : (st.put dst { val := s, rows := (i0, some r0) :: u, ctr := c' }).box b = st.box b := by rw [box_put]; rfl
theorem ow_mix (hu : Frd st u) {k : Nat} (h : Ob (st.put dst { val := s, rows := (i0, some r0) :: u, ctr := c' }) { V.withRow i0 v0 with lv := lv' } k) : (r0.fz = false ∧ v0.ownBlock = some k) ∨ (Ob st V k ∧ ((∃ b cs, st.box b = some cs ∧ V.ba b = k) ∨ ∃ i r, i ≠ i0 ∧ look u i = none ∧ st.row i = some r ∧ r.fz = false ∧ (V.rv i).ownBlock = some k)) := by
 rcases h with ⟨b, cs, hb, e⟩ | ⟨i, r, hr, hf, e⟩
 ·rw [box_newRow] at hb
  exact .inr ⟨.inl ⟨b, cs, hb, e⟩, .inl ⟨b, cs, hb, e⟩⟩
 ·rcases row_mix hu hr with ⟨rfl, rfl⟩ | ⟨hne, r1, h1, h2⟩
  ·exact .inl ⟨hf, by simpa [Vl.withRow] using e⟩
  ·have e' : (V.rv i).ownBlock = some k := by simpa [Vl.withRow, hne] using e
   rcases h2 with ⟨hl, rfl⟩ | ⟨_, rfl⟩
   ·exact .inr ⟨.inr ⟨i, r, h1, hf, e'⟩, .inr ⟨i, r, hne, hl, h1, hf, e'⟩⟩
   ·cases hf
theorem gone_ow {k : Nat} (hg : Gone st V u k) : Ob st V k := by
 obtain ⟨j, r, _, hr, hf, e⟩ := hg
 exact .inr ⟨j, r, hr, hf, e⟩
theorem gone_box (h : Rel L E st V a w) {b : Nat} {cs : List (SV L.D)} (hb : st.box b = some cs) : ¬ Gone st V u (V.ba b) := fun ⟨j, r, _, hr, hf, e⟩ => h.br b cs j r hb hr hf e
theorem gone_row (h : Rel L E st V a w) {i : Nat} {r : Row L.D} {k : Nat} (hn : look u i ≠ some none) (hr : st.row i = some r) (hf : r.fz = false) (e : (V.rv i).ownBlock = some k) : ¬ Gone st V u k := fun ⟨j, r', hl, hr', hf', e'⟩ => by
 obtain rfl := h.rr i j r r' k hr hr' hf hf' e e'
 exact hn hl
def rtOf (st : St L.D) (j : Nat) : TypeId := match st.row j with
 | some r => r.t
 | none => 0
theorem rtOf_eq {j : Nat} {r : Row L.D} (h : st.row j = some r) : rtOf st j = r.t := by unfold rtOf; rw [h]
structure LabStep (st : St L.D) (V : Vl) (w w' : World) (u : List (Nat × Option (Row L.D))) (i0 : Nat) (v0 : Value) (js : List Nat) (c' : Option Nat) (lv' : Nat → LV) : Prop where
 ctr : (js = [] ∧ c' = none ∧ lv' = V.lv) ∨ ∃ n, st.ctr = some n ∧ c' = some (n + js.length) ∧ ∀ l, lv' l = if l < n then V.lv l else (rtOf st (js.getD (l - n) 0), V.rv (js.getD (l - n) 0))
 nd : js.Nodup
 row : ∀ j ∈ js, look u j = some none ∧ j ≠ i0 ∧ ∃ r, st.row j = some r ∧ r.fz = false
 keep : ∀ j ∈ js, ∀ k, (V.rv j).ownBlock = some k → w'.heap[k]? = w.heap[k]?
 far : ∀ j ∈ js, ∀ k, (V.rv j).ownBlock = some k → v0.ownBlock ≠ some k
theorem labStep_nil {w w' : World} : LabStep st V w w' u i0 v0 [] none V.lv := ⟨.inl ⟨rfl, rfl, rfl⟩, List.nodup_nil, (fun _ h => by cases h), (fun _ h => by cases h), fun _ h => by cases h⟩
theorem LabStep.old {w' : World} {js : List Nat} (S : LabStep st V w w' u i0 v0 js c' lv') (l : Nat) (hl : Lab st l) : Lab (st.put dst { val := s, rows := (i0, some r0) :: u, ctr := c' }) l ∧ lv' l = V.lv l := by
 obtain ⟨m, hm, h1, h2⟩ := hl
 rcases S.ctr with ⟨_, rfl, rfl⟩ | ⟨n, hn, rfl, hlv⟩
 ·exact ⟨⟨m, hm, h1, h2⟩, rfl⟩
 ·obtain rfl : n = m := Option.some.inj (hn.symm.trans hm)
  exact ⟨⟨n + js.length, rfl, h1, by omega⟩, by rw [hlv, if_pos h2]⟩
theorem LabStep.new {w' : World} {js : List Nat} (S : LabStep st V w w' u i0 v0 js c' lv') (l : Nat) (hl : Lab (st.put dst { val := s, rows := (i0, some r0) :: u, ctr := c' }) l) (hn : ¬ Lab st l) : ∃ n, st.ctr = some n ∧ n ≤ l ∧ ∃ (hq : l - n < js.length), (lv' l).2 = V.rv js[l - n] ∧ (lv' l).1 = rtOf st js[l - n] := by
 obtain ⟨m, hm, h1, h2⟩ := hl
 rcases S.ctr with ⟨_, rfl, rfl⟩ | ⟨n, hc, rfl, hlv⟩
 ·exact absurd ⟨m, hm, h1, h2⟩ hn
 ·obtain rfl : n + js.length = m := Option.some.inj hm
  have hle : n ≤ l := by
   rcases Nat.lt_or_ge l n with h3 | h3
   ·exact absurd ⟨n, hc, h1, h3⟩ hn
   ·exact h3
  (have hq : l - n < js.length := by omega); (have e := hlv l); (rw [if_neg (by omega), getD_lt hq] at e)
  exact ⟨n, hc, hle, hq, by rw [e], by rw [e]⟩
theorem mix_mem (h : Rel L E st V a w) (hu : Frd st u) {w' : World} (hz : w.heap.size ≤ w'.heap.size) (hsame : ∀ k, k < w.heap.size → w'.heap[k]? = w.heap[k]? ∨ Gone st V u k) (hnew : ∀ k, r0.fz = false → v0.ownBlock = some k → w.heap.size ≤ k ∨ Gone st V u k) {js : List Nat} (S : LabStep st V w w' u i0 v0 js c' lv') :
  Le w w' (Fz E st V w) (Fz E (st.put dst { val := s, rows := (i0, some r0) :: u, ctr := c' }) { V.withRow i0 v0 with lv := lv' } w') :=
 fz_turn h (fun k hk => (hsame k hk).imp id gone_ow) (fun k hk => by
  rcases hk with hk | ⟨l, hl, e⟩
  ·rcases ow_mix hu hk with ⟨hf, e⟩ | ⟨ho, _⟩
   ·exact (hnew k hf e).imp id fun h => .inl (gone_ow h)
   ·exact .inr (.inl ho)
  ·by_cases h0 : Lab st l
   ·have e' : (lv' l).2.ownBlock = some k := e
    rw [(S.old (dst := dst) (s := s) (r0 := r0) l h0).2] at e'
    exact .inr (.inr ⟨l, h0, e'⟩)
   ·obtain ⟨n, _, _, hq, h3, h3t⟩ := S.new l hl h0
    (obtain ⟨_, _, r, hr, hf⟩ := S.row _ (List.getElem_mem hq)); (have e' : (lv' l).2.ownBlock = some k := e); (rw [h3] at e')
    exact .inr (.inl (.inr ⟨_, r, hr, hf, e'⟩))) hz (S.old (dst := dst) (s := s) (r0 := r0))
theorem frz_reads (h : Rel L E st V a w) (hu : Frd st u) {w' : World} (hz : w.heap.size ≤ w'.heap.size) (hsame : ∀ k, k < w.heap.size → w'.heap[k]? = w.heap[k]? ∨ Gone st V u k) (hnew : ∀ k, r0.fz = false → v0.ownBlock = some k → w.heap.size ≤ k ∨ Gone st V u k) {js : List Nat} (S : LabStep st V w w' u i0 v0 js c' lv')
  {i : Nat} {r1 : Row L.D} (h1 : st.row i = some r1) (hl : look u i = some (some { r1 with fz := true })) : CR L w' (Fz E (st.put dst { val := s, rows := (i0, some r0) :: u, ctr := c' }) { V.withRow i0 v0 with lv := lv' } w') (.ro r1.t r1.xs) (V.rv i) := by
 (have M := mix_mem (dst := dst) (s := s) (i0 := i0) (v0 := v0) h hu hz hsame hnew S); (obtain ⟨p, q⟩ := h.row i r1 h1)
 cases hf : r1.fz with
 | true => exact (p hf).mono M
 | false =>
  have hblk : ∀ k, (V.rv i).ownBlock = some k → w'.heap[k]? = w.heap[k]? := fun k hk' => (hsame k (h.row_lt h1 hf hk')).resolve_right (gone_row h (by rw [hl]; simp) h1 hf hk')
  refine ((q hf).mono M hblk).reads (Le.refl _ _) fun k hk' => ?_
  have ho : Ob st V k := .inr ⟨i, r1, h1, hf, hk'⟩
  refine .inr ⟨(h.own k (.inl ho)).2, Nat.lt_of_lt_of_le (h.ob_lt ho) hz, fun ho' => ?_⟩
  rcases ho' with ho' | ⟨l, hl', e⟩
  case inr =>
   by_cases h0 : Lab st l
   ·have e' : (lv' l).2.ownBlock = some k := e
    rw [(S.old (dst := dst) (s := s) (r0 := r0) l h0).2] at e'
    exact h.lab_ob h0 e' ho
   ·obtain ⟨n, _, _, hq, h3, h3t⟩ := S.new l hl' h0
    (obtain ⟨hj, _, r, hr, hf'⟩ := S.row _ (List.getElem_mem hq)); (have e' : (lv' l).2.ownBlock = some k := e); (rw [h3] at e'); (have := h.rr i _ r1 r k h1 hr hf hf' hk' e'); (rw [← this, hl] at hj; cases hj)
  rcases ow_mix hu ho' with ⟨hf0, e⟩ | ⟨_, h3⟩
  ·rcases hnew k hf0 e with h4 | h4
   ·have := h.ob_lt ho; omega
   ·exact gone_row h (by rw [hl]; simp) h1 hf hk' h4
  ·rcases h3 with ⟨b, cs, hb, e⟩ | ⟨i', r', hne', hl', hr', hf', e'⟩
   ·exact h.br b cs i r1 hb h1 hf (by rw [hk', e])
   ·obtain rfl := h.rr i i' r1 r' k h1 hr' hf hf' hk' e'
    rw [hl] at hl'; cases hl'
theorem Ch.newRow (h : Rel L E st V a w) {ks : Key → Prop} (hk : ks (2, i0) ∨ ∃ r, st.row i0 = some r ∧ v0 = V.rv i0 ∧ r0.t = r.t ∧ r0.xs.length = r.xs.length) (hu : Frd st u) (tm' : Array Value) {w' : World} (hz : w.heap.size ≤ w'.heap.size) (os : w'.os = w.os) (tape : w'.tape = w.tape) (output : w'.output = w.output)
  (hsame : ∀ k, k < w.heap.size → w'.heap[k]? = w.heap[k]? ∨ Gone st V u k) (hnew : ∀ k, r0.fz = false → v0.ownBlock = some k → w.heap.size ≤ k ∨ Gone st V u k)
  {js : List Nat} (S : LabStep st V w w' u i0 v0 js c' lv')
  (hrow : RowIs L E (st.put dst { val := s, rows := (i0, some r0) :: u, ctr := c' }) { V.withRow i0 v0 with lv := lv' } w' i0 r0) : Ch L E st V w ks (st.put dst { val := s, rows := (i0, some r0) :: u, ctr := c' }) { V.withRow i0 v0 with lv := lv' } tm' w' := by
 -- a key that stays does not lie in a block that is let go
 (have box_not : ∀ b cs, st.box b = some cs → ¬ Gone st V u (V.ba b) := fun b cs hb => gone_box h hb); (have row_not : ∀ i r k, look u i ≠ some none → st.row i = some r → r.fz = false → (V.rv i).ownBlock = some k → ¬ Gone st V u k := fun i r k hn hr hf e => gone_row h hn hr hf e)
 have owned : ∀ k, Ob (st.put dst { val := s, rows := (i0, some r0) :: u, ctr := c' }) { V.withRow i0 v0 with lv := lv' } k → w.heap.size ≤ k ∨ Ob st V k := fun k hk => by
  rcases ow_mix hu hk with ⟨hf, e⟩ | ⟨ho, _⟩
  ·exact (hnew k hf e).imp id gone_ow
  ·exact .inr ho
 have same : ∀ k, k < w.heap.size → (w'.heap[k]? = w.heap[k]?) ∨ Ob st V k := fun k hk => (hsame k hk).imp id gone_ow
 exact {
  same := same
  owned := owned
  c0 := rfl
  labM := S.old (dst := dst) (s := s) (r0 := r0)
  labN := fun l hl => by
   by_cases h0 : Lab st l
   ·exact .inl h0
   ·obtain ⟨n, _, _, hq, h3, h3t⟩ := S.new l hl h0
    (obtain ⟨hj, hji, r, hr, hf⟩ := S.row _ (List.getElem_mem hq)); (have h3' : (({ V.withRow i0 v0 with lv := lv' } : Vl).lv l).2 = V.rv js[l - n] := h3); (have h4' : (({ V.withRow i0 v0 with lv := lv' } : Vl).lv l).1 = r.t := h3t.trans (rtOf_eq hr))
    unfold LabOk
    rw [h3', h4']
    refine .inr ⟨?_, fun k e => ⟨.inr (.inr ⟨_, r, hr, hf, e⟩), ?_⟩⟩
    ·obtain ⟨cells, ho, _⟩ := (h.row _ r hr).2 hf
     exact ⟨_, _, cells, ho.move fun k hk => S.keep _ (List.getElem_mem hq) k hk⟩
    ·rintro (⟨b, cs, hb, e'⟩ | ⟨i, r', hr', hf', e'⟩)
     ·rw [box_newRow] at hb
      exact h.br b cs _ r hb hr hf (by rw [e]; exact congrArg some e'.symm)
     ·rcases row_mix hu hr' with ⟨rfl, rfl⟩ | ⟨hne, r1, h1, h2⟩
      ·exact S.far _ (List.getElem_mem hq) k e (by simpa [Vl.withRow] using e')
      ·have e'' : (V.rv i).ownBlock = some k := by simpa [Vl.withRow, hne] using e'
       rcases h2 with ⟨hl', rfl⟩ | ⟨_, rfl⟩
       ·obtain rfl := h.rr _ i r _ k hr h1 hf hf' e e''
        rw [hl'] at hj; cases hj
       ·cases hf'
  labD := fun l l' k hl h0 hl' h0' e e' => by
   (obtain ⟨n, hn, hle, hq, h3, h3t⟩ := S.new l hl h0); (obtain ⟨n', hn', hle', hq', h3', _⟩ := S.new l' hl' h0'); (obtain rfl : n = n' := Option.some.inj (hn.symm.trans hn')); (obtain ⟨_, _, r, hr, hf⟩ := S.row _ (List.getElem_mem hq)); (obtain ⟨_, _, r', hr', hf'⟩ := S.row _ (List.getElem_mem hq')); (have e1 : (lv' l).2.ownBlock = some k := e); (have e2 : (lv' l').2.ownBlock = some k := e'); (rw [h3] at e1); (rw [h3'] at e2); (have := (List.getElem_inj S.nd).1 (h.rr _ _ r r' k hr hr' hf hf' e1 e2))
   omega
  ctrF := fun m hm => by
   rcases S.ctr with ⟨_, rfl, _⟩ | ⟨n, hn, rfl, _⟩
   ·exact ⟨m, hm, Nat.le_refl _⟩
   ·obtain rfl : n + js.length = m := Option.some.inj hm
    exact ⟨n, hn, Nat.le_add_right _ _⟩
  rowS := fun i r' hn hr => by
   rcases row_mix hu hr with ⟨rfl, e0⟩ | ⟨hne, r1, h1, h2⟩
   ·rcases hk with hk | ⟨r, hr0, hv0, ht, hl⟩
    ·exact absurd hk hn
    ·exact ⟨r, hr0, by simp [Vl.withRow, hv0], by rw [e0, ht], by rw [e0, hl]⟩
   ·rcases h2 with ⟨_, rfl⟩ | ⟨_, rfl⟩
    ·exact ⟨_, h1, by simp [Vl.withRow, hne], rfl, rfl⟩
    ·exact ⟨_, h1, by simp [Vl.withRow, hne], rfl, rfl⟩
  boxS := fun b cs' _ hb => ⟨cs', by rw [box_newRow] at hb; exact hb, rfl, rfl⟩
  box := fun b cs hb => by
   rw [box_newRow] at hb
   exact .inl ⟨hb, rfl, rfl, (hsame _ (h.box_lt hb)).resolve_right (box_not b cs hb)⟩
  row := fun i r hr => by
   rcases row_mix hu hr with ⟨rfl, rfl⟩ | ⟨hne, r1, h1, h2⟩
   ·exact .inr hrow
   ·rcases h2 with ⟨hl, rfl⟩ | ⟨hl, rfl⟩
    ·refine .inl ⟨h1, by simp [Vl.withRow, hne], fun hf k hk' => (hsame k (h.row_lt h1 hf hk')).resolve_right (row_not i r k (by rw [hl]; simp) h1 hf hk')⟩
    ·refine .inr ⟨fun _ => ?_, fun hf => by cases hf⟩
     (have hv : ({ V.withRow i0 v0 with lv := lv' } : Vl).rv i = V.rv i := by simp [Vl.withRow, hne]); (rw [hv])
     exact frz_reads (r1 := r1) h hu hz hsame hnew S h1 hl
  bb := fun b b' cs cs' h1 h2 e => by
   rw [box_newRow] at h1 h2
   exact h.bb b b' cs cs' h1 h2 e
  br := fun b cs i r hb hr hf => by
   rw [box_newRow] at hb
   rcases row_mix hu hr with ⟨rfl, rfl⟩ | ⟨hne, r1, h1, h2⟩
   ·intro e
    simp only [Vl.withRow, if_true] at e
    rcases hnew _ hf e with h3 | h3
    ·have := h.box_lt hb; omega
    ·exact box_not b cs hb h3
   ·rcases h2 with ⟨hl, rfl⟩ | ⟨_, rfl⟩
    ·have := h.br b cs i r hb h1 hf
     simpa [Vl.withRow, hne] using this
    ·cases hf
  rr := fun i i' r r' k hr hr' hf hf' e e' => by
   rcases row_mix hu hr with ⟨rfl, rfl⟩ | ⟨n1, r1, h1, h2⟩ <;> rcases row_mix hu hr' with ⟨rfl, rfl⟩ | ⟨n2, r2, h3, h4⟩
   ·rfl
   ·exfalso
    simp only [Vl.withRow, if_true] at e
    rcases h4 with ⟨hl, rfl⟩ | ⟨_, rfl⟩
    ·have e'' : (V.rv i').ownBlock = some k := by simpa [Vl.withRow, n2] using e'
     rcases hnew _ hf e with h5 | h5
     ·have := h.row_lt h3 hf' e''; omega
     ·exact row_not i' _ k (by rw [hl]; simp) h3 hf' e'' h5
    ·cases hf'
   ·exfalso
    simp only [Vl.withRow, if_true] at e'
    rcases h2 with ⟨hl, rfl⟩ | ⟨_, rfl⟩
    ·have e'' : (V.rv i).ownBlock = some k := by simpa [Vl.withRow, n1] using e
     rcases hnew _ hf' e' with h5 | h5
     ·have := h.row_lt h1 hf e''; omega
     ·exact row_not i _ k (by rw [hl]; simp) h1 hf e'' h5
    ·cases hf
   ·rcases h2 with ⟨_, rfl⟩ | ⟨_, rfl⟩
    ·rcases h4 with ⟨_, rfl⟩ | ⟨_, rfl⟩
     ·exact h.rr i i' _ _ k h1 h3 hf hf' (by simpa [Vl.withRow, n1] using e) (by simpa [Vl.withRow, n2] using e')
     ·cases hf'
    ·cases hf
  size := hz
  os := os
  tape := tape
  output := output
  imps := rfl
  impB := fun b _ cs hb => ⟨cs, by rw [box_newRow]; exact hb, rfl, rfl, rfl, fun o _ => cell_same ((hsame _ (h.box_lt hb)).resolve_right (box_not b cs hb)) o⟩ }
end
end
end Go.Proofs.YtfeikakkfnnaoaaGreatDoor.V
namespace Go.Proofs.YtfeikakkfnnaoaaGreatDoor.V
open Go
set_option linter.unusedVariables false
set_option linter.unusedSimpArgs false
section
variable {P : Program} {L : Lay} {E : Ent} {st : St L.D} {V : Vl} {a : Act} {w : World} {u : List (Nat × Option (Row L.D))}
theorem Rel.newRowL (h : Rel L E st V a w) {i0 : Nat} {r0 : Row L.D} {u : List (Nat × Option (Row L.D))} {dst : Option Nat} {ks : List Key} (hc : clean st ks = true) (hd : ∀ n, dst = some n → (0, n) ∈ ks ∧ n < E.nt) (hk : (2, i0) ∈ ks) (hu : Frd st u) {v0 : Value} {w' : World} (hz : w.heap.size ≤ w'.heap.size) (os : w'.os = w.os) (tape : w'.tape = w.tape) (output : w'.output = w.output)
  (hsame : ∀ k, k < w.heap.size → w'.heap[k]? = w.heap[k]? ∨ Gone st V u k) (hnew : ∀ k, r0.fz = false → v0.ownBlock = some k → w.heap.size ≤ k ∨ Gone st V u k) {js : List Nat} {c' : Option Nat} {lv' : Nat → LV} (S : LabStep st V w w' u i0 v0 js c' lv')
  (hrow : RowIs L E (st.put dst { val := .own i0, rows := (i0, some r0) :: u, ctr := c' }) { V.withRow i0 v0 with lv := lv' } w' i0 r0) : Rel L E (st.put dst { val := .own i0, rows := (i0, some r0) :: u, ctr := c' }) { V.withRow i0 v0 with lv := lv' } (a.put dst v0) w' := by
 refine h.turn hc hd ((Ch.newRow h (.inl hk) hu _ hz os tape output hsame hnew S hrow).turn h) fun n hn => .own i0 v0 fun r hr => ?_
 simp [Vl.withRow]
theorem Rel.newRow (h : Rel L E st V a w) {i0 : Nat} {r0 : Row L.D} {u : List (Nat × Option (Row L.D))} {dst : Option Nat} {ks : List Key} (hc : clean st ks = true) (hd : ∀ n, dst = some n → (0, n) ∈ ks ∧ n < E.nt) (hk : (2, i0) ∈ ks) (hu : Frd st u) {v0 : Value} {w' : World} (hz : w.heap.size ≤ w'.heap.size) (os : w'.os = w.os) (tape : w'.tape = w.tape) (output : w'.output = w.output)
  (hsame : ∀ k, k < w.heap.size → w'.heap[k]? = w.heap[k]? ∨ Gone st V u k) (hnew : ∀ k, r0.fz = false → v0.ownBlock = some k → w.heap.size ≤ k ∨ Gone st V u k)
  (hrow : RowIs L E (st.put dst { val := .own i0, rows := (i0, some r0) :: u }) (V.withRow i0 v0) w' i0 r0) : Rel L E (st.put dst { val := .own i0, rows := (i0, some r0) :: u }) (V.withRow i0 v0) (a.put dst v0) w' :=
 h.newRowL hc hd hk hu hz os tape output hsame hnew labStep_nil hrow
theorem RowOk.readsL {w : World} {F F' : FS} {v : Value} {t : TypeId} {xs : List (L.D t)} {l : Nat} (h : RowOk L w F v t xs) (hF : Le w w F F') (hl : F'.lb l (t, v)) : CR L w F' (.lr l t xs) v := by
 obtain ⟨A, c, rfl, hrow⟩ := h.rowR
 by_cases hx : xs = []
 ·subst hx; exact .lr0 l t A c
 ·obtain ⟨hc, b, off, f, rfl, _, hu, hr⟩ := hrow hx
  exact .lr l t xs b off c f hx hc hl hu fun i j hi hj => (hr i j hi hj).mono hF
theorem lab_reads (h : Rel L E st V a w) (hu : Frd st u) {w' : World} {i0 : Nat} {r0 : Row L.D} {v0 : Value} {dst : Option Nat} {s : SV L.D} {c' : Option Nat} {lv' : Nat → LV} (hz : w.heap.size ≤ w'.heap.size) (hsame : ∀ k, k < w.heap.size → w'.heap[k]? = w.heap[k]? ∨ Gone st V u k) (hnew : ∀ k, r0.fz = false → v0.ownBlock = some k → w.heap.size ≤ k ∨ Gone st V u k) {js : List Nat} (S : LabStep st V w w' u i0 v0 js c' lv')
  {n q : Nat} (hn : st.ctr = some n) (hq : q < js.length) {r : Row L.D} (hr : st.row js[q] = some r) : CR L w' (Fz E (st.put dst { val := s, rows := (i0, some r0) :: u, ctr := c' }) { V.withRow i0 v0 with lv := lv' } w') (.lr (n + q) r.t r.xs) (V.rv js[q]) := by
 (have M := mix_mem (dst := dst) (s := s) (i0 := i0) (v0 := v0) h hu hz hsame hnew S); (obtain ⟨_, _, r', hr', hf⟩ := S.row _ (List.getElem_mem hq)); (obtain rfl : r' = r := Option.some.inj (hr'.symm.trans hr))
 refine (((h.row _ _ hr).2 hf).mono M fun k hk => S.keep _ (List.getElem_mem hq) k hk).readsL (Le.refl _ _) (.inr ?_)
 rcases S.ctr with ⟨rfl, _⟩ | ⟨m, hm, rfl, hlv⟩
 ·exact absurd hq (Nat.not_lt_zero _)
 ·obtain rfl : n = m := Option.some.inj (hn.symm.trans hm)
  obtain ⟨h1, _⟩ := h.labF n hn
  exact ⟨⟨n + js.length, rfl, by show st.c0 ≤ _; omega, by omega⟩, by show _ = lv' _; rw [hlv, if_neg (by omega), Nat.add_sub_cancel_left, getD_lt hq, rtOf_eq hr]⟩
theorem frd_nil : Frd st [] := fun _ _ h => by cases h
theorem elem_info (hL : LayOk P L) {t e : TypeId} (hk : elemOf L t = some e) : P.underlying t = some (.slice e) ∧ (L.ti e).kind ≠ .other ∧ (∃ t', (L.ti t').kind = .slice e) ∧ 0 < (L.ti e).sz ∧ ∃ i z, P.info? e = some i ∧ i.size = (L.ti e).sz ∧ i.bytes = (L.ti e).bytes ∧ i.zero = some z ∧ 0 < i.bytes := by
 unfold elemOf at hk
 split at hk
 ·rename_i e' hke
  (obtain rfl := Option.some.inj hk); (obtain ⟨p, q, r⟩ := hL.slice t e' hke)
  exact ⟨p, q, ⟨t, hke⟩, r⟩
 ·cases hk
theorem CR.of_zero {b : Bool} {w : World} {F : FS} {s : SV L.D} {u : Value} (h1 : u.oneCell' = true) (h : s = .v u ∨ ∃ e, s = .nl e ∧ u = .slice none 0 0) : CR L w F (canonT b s) u := by
 rcases h with rfl | ⟨e, rfl, rfl⟩
 ·cases b <;> exact .v _ h1
 ·cases b
  ·exact .ro0 e none 0
  ·exact .lr0 0 e none 0
theorem out_make (hL : LayOk P L) {o : Oper} {ks : List Key} (A : At L E st V a w o ks) {t e : TypeId} {x y : Operand} (ho : o.op = .makeSlice t x y) (hk : elemOf L t = some e) {n c : Int} (hx : rdo st x = .v (.int .i64 n)) (hy : rdo st y = .v (.int .i64 c)) (h0 : 0 ≤ n) (h1 : n ≤ c) (h2 : c * (L.ti e).bytes ≤ 281474976710656) {i0 : Nat} (hi : (2, i0) ∈ ks) :
  Out P L E st o a w { val := .own i0, rows := [(i0, some ⟨e, false, List.replicate n.toNat (L.zd e)⟩)] } := by
 (have e1 := (hx ▸ A.rel.opd x).v_inv.1); (have e2 := (hy ▸ A.rel.opd y).v_inv.1); (obtain ⟨hu, hko, ⟨t', hke⟩, hsz, i, z, hinf, hs, hb, hz, hb0⟩ := elem_info hL hk); (obtain ⟨i', z', hinf', _, _, hz', hcs, _, _, hzl, hzj⟩ := hL.info e hko); (obtain rfl : i' = i := Option.some.inj (hinf'.symm.trans hinf)); (obtain rfl : z' = z := Option.some.inj (hz'.symm.trans hz))
 have hc63 : c ≤ 9223372036854775807 := by
  (have h3 : (1 : Int) ≤ (L.ti e).bytes := by omega); (have : c * 1 ≤ c * (L.ti e).bytes := Int.mul_le_mul_of_nonneg_left h3 (by omega))
  omega
 (have hbs : (i'.bytes : Int) * c ≤ 281474976710656 := by rw [hb, Int.mul_comm]; exact h2); (have hr := run_make (P := P) w t e i' z' hu hinf hz .i64 .i64 n c h0 h1 hbs hc63); (have hzd := hL.zd t' e hke); (have hnc : n.toNat ≤ c.toNat := by omega)
 refine ⟨_, _, ?_, _, .inl ⟨_, rfl, A.rel.newRow A.clean A.dst hi frd_nil (v0 := .slice (some ⟨w.heap.size, 0, none⟩) n.toNat c.toNat) (w' := w.alloc (.cells (madeCells z'.cells (c.toNat * i'.size)) e)) (by simp) rfl rfl rfl (fun k hk => .inl (heap_alloc_old w _ hk)) (fun k _ hk => ?_) ⟨(fun h => by cases h), fun _ => ?_⟩⟩⟩
 ·unfold execOp
  simp only [ho, e1, e2, Sem.run_bind, hr]
  rfl
 ·simp [Value.ownBlock] at hk; left; omega
 ·have hv : (V.withRow i0 (.slice (some ⟨w.heap.size, 0, none⟩) n.toNat c.toNat)).rv i0 = .slice (some ⟨w.heap.size, 0, none⟩) n.toNat c.toNat := by simp [Vl.withRow]
  (rw [hv]); (have hlen : (List.replicate n.toNat (L.zd e)).length = n.toNat := List.length_replicate)
  conv => arg 4; rw [← hlen]
  refine rowOk_new (heap_alloc_new w _) (by rw [hlen]; exact hnc) (by unfold maxLen; omega) (by rw [size_madeCells, hs]) fun q j hq hj => ?_
  (rw [hlen] at hq); (obtain ⟨u, hu', h1', hcz⟩ := hzj j (by omega))
  refine ⟨u, ?_, ?_⟩
  ·have hlt : q * (L.ti e).sz + j < c.toNat * i'.size := by
    (have : (q + 1) * (L.ti e).sz ≤ c.toNat * (L.ti e).sz := Nat.mul_le_mul_right _ (by omega)); (rw [Nat.add_mul] at this); (rw [hs]; omega)
   have hmod : (q * (L.ti e).sz + j) % z'.cells.size = j := by rw [hcs, Nat.mul_comm, Nat.mul_add_mod, Nat.mod_eq_of_lt hj]
   unfold madeCells
   rw [Array.getElem?_map, Array.getElem?_range, if_pos hlt, Option.map_some]
   congr 1
   rw [hmod, Array.getElem!_eq_getD, Array.getD_eq_getD_getElem?, hu']
   rfl
  ·have : ((L.zero e).map (canonT (L.labd e))).getD j .dead = canonT (L.labd e) ((L.zero e)[j]'(by omega)) := by
    rw [getD_lt (by simp; omega), List.getElem_map]
   rw [List.getElem_replicate, hzd, this]
   exact .of_zero h1' hcz
theorem look_of_mem {α : Type} : ∀ {l : List (Nat × α)} {n : Nat} {x : α}, (n, x) ∈ l → ∃ y, look l n = some y
 | (k, z) :: l, n, x, h => by
  rw [look_cons]
  by_cases e : n = k
  ·exact ⟨z, by rw [if_pos e]⟩
  ·rw [if_neg e]
   rcases List.mem_cons.1 h with h | h
   ·exact absurd (Prod.mk.inj h).1 e
   ·exact look_of_mem h
theorem frz_nil : Frz st [] := fun _ _ h => by cases h
theorem Frz.frd {u : List (Nat × Option (Row L.D))} (h : Frz st u) : Frd st u := fun j o hm => by
 obtain ⟨r, hr, ho⟩ := h j o hm
 exact ⟨r, hr, .inr ho⟩
theorem Frz.app {u u' : List (Nat × Option (Row L.D))} (h : Frz st u) (h' : Frz st u') : Frz st (u ++ u') := fun j o hm => (List.mem_append.1 hm).elim (h j o) (h' j o)
theorem Frz.look {u : List (Nat × Option (Row L.D))} (h : Frz st u) {j : Nat} {r : Row L.D} (hm : (j, some { r with fz := true }) ∈ u) (hr : st.row j = some r) : look u j = some (some { r with fz := true }) := by
 (obtain ⟨y, hy⟩ := look_of_mem hm); (obtain ⟨r', hr', ho⟩ := h j y (look_mem hy)); (obtain rfl : r' = r := Option.some.inj (hr'.symm.trans hr)); (rw [hy, ho])
theorem labs_app : ∀ (u u' : List (Nat × Option (Row L.D))), labs L (u ++ u') = labs L u ++ labs L u'
 | [], _ => rfl
 | (j, none) :: u, u' => by simp only [List.cons_append, labs, labs_app u u']
 | (j, some r) :: u, u' => by simp only [List.cons_append, labs, labs_app u u']
theorem labs_mem {u : List (Nat × Option (Row L.D))} {j : Nat} (h : j ∈ labs L u) : (j, none) ∈ u := by
 induction u with
 | nil => cases h
 | cons p u ih =>
  obtain ⟨k, o⟩ := p
  cases o with
  | none =>
   rcases List.mem_cons.1 h with rfl | h
   ·exact List.mem_cons_self
   ·exact List.mem_cons_of_mem _ (ih h)
  | some r => exact List.mem_cons_of_mem _ (ih h)
structure StOk (st : St L.D) (b : Bool) (c : Option Nat) (u : List (Nat × Option (Row L.D))) (c' : Option Nat) : Prop where
 frz : b = false → Frz st u
 lab : b = true → ∀ j o, (j, o) ∈ u → o = none ∧ ∃ r, st.row j = some r ∧ r.fz = false
 ctr : c' = c.map (· + (labs L u).length)
 ok : labs L u ≠ [] → ∃ n, c = some n
theorem StOk.nil (st : St L.D) (b : Bool) (c : Option Nat) : StOk st b c [] c := ⟨fun _ => frz_nil, (fun _ _ _ h => by cases h), by cases c <;> rfl, fun h => absurd rfl h⟩
theorem StOk.app {b : Bool} {c c1 c2 : Option Nat} {u u' : List (Nat × Option (Row L.D))} (h : StOk st b c u c1) (h' : StOk st b c1 u' c2) : StOk st b c (u ++ u') c2 where
 frz := fun e => (h.frz e).app (h'.frz e)
 lab := fun e j o hm => (List.mem_append.1 hm).elim (h.lab e j o) (h'.lab e j o)
 ctr := by rw [h'.ctr, h.ctr, labs_app, List.length_append]; cases c <;> simp [Nat.add_assoc]
 ok := fun hn => by
  by_cases e : labs L u = []
  ·rw [labs_app, e, List.nil_append] at hn
   (obtain ⟨n, hn⟩ := h'.ok hn); (rw [h.ctr] at hn)
   cases c with
   | none => cases hn
   | some m => exact ⟨m, rfl⟩
  ·exact h.ok e
theorem StOk.frd {b : Bool} {c c' : Option Nat} {u : List (Nat × Option (Row L.D))} (h : StOk st b c u c') : Frd st u := by
 cases b with
 | false => exact (h.frz rfl).frd
 | true =>
  intro j o hm
  obtain ⟨rfl, r, hr, _⟩ := h.lab rfl j o hm
  exact ⟨r, hr, .inl rfl⟩
theorem StOk.lookf {b : Bool} {c c' : Option Nat} {u : List (Nat × Option (Row L.D))} (h : StOk st b c u c') {j : Nat} {r : Row L.D} (hm : (j, some { r with fz := true }) ∈ u) (hr : st.row j = some r) : look u j = some (some { r with fz := true }) := by
 cases b with
 | false => exact (h.frz rfl).look hm hr
 | true => have := (h.lab rfl _ _ hm).1; cases this
structure GivR (L : Lay) (st : St L.D) (V : Vl) (w' : World) (F' : FS) (c : Option Nat) (u : List (Nat × Option (Row L.D))) : Prop where
 ro : ∀ j r, (j, some { r with fz := true }) ∈ u → st.row j = some r → CR L w' F' (.ro r.t r.xs) (V.rv j)
 lr : ∀ q j r n, (labs L u)[q]? = some j → st.row j = some r → c = some n → CR L w' F' (.lr (n + q) r.t r.xs) (V.rv j)
theorem GivR.left {w' : World} {F' : FS} {c : Option Nat} {u u' : List (Nat × Option (Row L.D))} (h : GivR L st V w' F' c (u ++ u')) : GivR L st V w' F' c u :=
 ⟨fun j r hm => h.ro j r (List.mem_append_left _ hm), fun q j r n hq => h.lr q j r n (by rw [labs_app, List.getElem?_append_left (List.getElem?_eq_some_iff.1 hq).1]; exact hq)⟩
theorem GivR.right {b : Bool} {w' : World} {F' : FS} {c c1 : Option Nat} {u u' : List (Nat × Option (Row L.D))} (h : GivR L st V w' F' c (u ++ u')) (h1 : StOk st b c u c1) : GivR L st V w' F' c1 u' :=
 ⟨fun j r hm => h.ro j r (List.mem_append_right _ hm), fun q j r n hq hr hn => by
  rw [h1.ctr] at hn
  cases hc : c with
  | none => rw [hc] at hn; cases hn
  | some m =>
   (rw [hc] at hn); (obtain rfl := Option.some.inj hn); (have := h.lr ((labs L u).length + q) j r m (by rw [labs_app, List.getElem?_append_right (by omega), Nat.add_sub_cancel_left]; exact hq) hr hc); (rw [← Nat.add_assoc] at this)
   exact this⟩
theorem still_ok (h : Rel L E st V a w) {b : Bool} {c c' : Option Nat} {s s' : SV L.D} {u : List (Nat × Option (Row L.D))} (hs : still L b c st s = some (s', u, c')) : StOk st b c u c' ∧ ∀ (w' : World) (F' : FS), Le w w' (Fz E st V w) F' → GivR L st V w' F' c u →
  ∀ v, SR L w (Fz E st V w) st V a.tmps s v → CR L w' F' (canonT b s') v := by
 unfold still at hs
 have cl : ∀ {b : Bool} {s : SV L.D}, (∀ t, s ≠ .nl t) → canonT b s = s := fun {b s} hn => by cases b <;> cases s <;> first | rfl | exact absurd rfl (hn _)
 split at hs
 ·obtain ⟨rfl, e⟩ := Prod.mk.inj (Option.some.inj hs)
  obtain ⟨rfl, rfl⟩ := Prod.mk.inj e
  refine ⟨.nil _ _ _, fun w' F' hM _ v hv => ?_⟩
  rw [cl (fun _ e => by cases e), hv.v_inv.1]; exact .v _ hv.v_inv.2
 ·split at hs
  ·obtain ⟨rfl, e⟩ := Prod.mk.inj (Option.some.inj hs)
   obtain ⟨rfl, rfl⟩ := Prod.mk.inj e
   exact ⟨.nil _ _ _, fun w' F' hM _ v hv => hv.ro_inv.mono hM⟩
  ·cases hs
 ·obtain ⟨rfl, e⟩ := Prod.mk.inj (Option.some.inj hs)
  obtain ⟨rfl, rfl⟩ := Prod.mk.inj e
  refine ⟨.nil _ _ _, fun w' F' hM _ v hv => ?_⟩
  rw [hv.nl_inv]
  cases b
  ·exact .ro0 _ none 0
  ·exact .lr0 0 _ none 0
 ·split at hs
  ·obtain ⟨rfl, e⟩ := Prod.mk.inj (Option.some.inj hs)
   obtain ⟨rfl, rfl⟩ := Prod.mk.inj e
   exact ⟨.nil _ _ _, fun w' F' hM _ v hv => hv.lr_inv.mono hM⟩
  ·cases hs
 ·rename_i j
  split at hs
  ·rename_i r hr
   (obtain ⟨rfl, e⟩ := Prod.mk.inj (Option.some.inj hs)); (obtain ⟨rfl, rfl⟩ := Prod.mk.inj e)
   refine ⟨⟨fun _ j' o hm => ?_, (fun e => by cases e), by cases c <;> rfl, fun h => absurd rfl h⟩, fun w' F' hM hR v hv => ?_⟩
   ·obtain ⟨rfl, rfl⟩ := Prod.mk.inj (List.mem_singleton.1 hm)
    exact ⟨r, hr, rfl⟩
   ·rw [hv.own_inv hr]
    exact hR.ro j r (List.mem_singleton.2 rfl) hr
  ·rename_i r hr
   split at hs
   ·rename_i n hf
    (obtain ⟨rfl, e⟩ := Prod.mk.inj (Option.some.inj hs)); (obtain ⟨rfl, rfl⟩ := Prod.mk.inj e)
    refine ⟨⟨(fun e => by cases e), fun _ j' o hm => ?_, rfl, fun _ => ⟨n, rfl⟩⟩, fun w' F' hM hR v hv => ?_⟩
    ·obtain ⟨rfl, rfl⟩ := Prod.mk.inj (List.mem_singleton.1 hm)
     exact ⟨rfl, r, hr, hf⟩
    ·rw [hv.own_inv hr]
     exact hR.lr 0 j r n rfl hr rfl
   ·cases hs
  ·cases hs
 ·cases hs
theorem stills_ok (h : Rel L E st V a w) {b : Bool} : ∀ {c c' : Option Nat} {cs cs' : List (SV L.D)} {u : List (Nat × Option (Row L.D))}, stills L b c st cs = some (cs', u, c') → cs'.length = cs.length ∧ StOk st b c u c' ∧ ∀ (w' : World) (F' : FS), Le w w' (Fz E st V w) F' → GivR L st V w' F' c u →
  ∀ j, j < cs.length → ∀ v, SR L w (Fz E st V w) st V a.tmps (cs.getD j .dead) v → CR L w' F' ((cs'.map (canonT b)).getD j .dead) v
 | c, c', [], cs', u, hs => by
  (obtain ⟨rfl, e⟩ := Prod.mk.inj (Option.some.inj hs)); (obtain ⟨rfl, rfl⟩ := Prod.mk.inj e)
  exact ⟨rfl, .nil _ _ _, fun _ _ _ _ j hj => absurd hj (Nat.not_lt_zero j)⟩
 | c, c', s :: l, cs', u, hs => by
  simp only [stills] at hs
  split at hs
  ·rename_i x ua c1 h1
   split at hs
   ·rename_i r ub c2 h2
    (obtain ⟨rfl, e⟩ := Prod.mk.inj (Option.some.inj hs)); (obtain ⟨rfl, rfl⟩ := Prod.mk.inj e); (obtain ⟨f1, g1⟩ := still_ok h h1); (obtain ⟨hl, f2, g2⟩ := stills_ok h h2)
    refine ⟨by simp [hl], f1.app f2, fun w' F' hM hR j hj v hv => ?_⟩
    cases j with
    | zero => exact g1 w' F' hM hR.left v (by simpa using hv)
    | succ j =>
     have := g2 w' F' hM (hR.right f1) j (by simpa using hj) v (by simpa using hv)
     simpa using this
   ·cases hs
  ·cases hs
theorem elems_ok (hL : LayOk P L) (h : Rel L E st V a w) {e : TypeId} : ∀ {ps : List (Nat × Operand)} {c c' : Option Nat} {xs : List (L.D e)} {u : List (Nat × Option (Row L.D))}, elems L st e c ps = some (xs, u, c') → xs.length = ps.length ∧ StOk st (L.labd e) c u c' ∧ (∀ p ∈ ps, (a.eval p.2).cells.size = (L.ti e).sz) ∧
  ∀ (w' : World) (F' : FS), Le w w' (Fz E st V w) F' → GivR L st V w' F' c u →
  ∀ i j, (hi : i < xs.length) → j < (L.ti e).sz → ∃ v, ((ps.map fun p => a.eval p.2)[i]?).bind (fun v => v.cells[j]?) = some v ∧ CR L w' F' ((L.cell e xs[i]).getD j .dead) v
 | [], c, c', xs, u, hs => by
  (obtain ⟨rfl, e⟩ := Prod.mk.inj (Option.some.inj hs)); (obtain ⟨rfl, rfl⟩ := Prod.mk.inj e)
  exact ⟨rfl, .nil _ _ _, (fun p hp => by cases hp), fun _ _ _ _ i j hi => absurd hi (Nat.not_lt_zero i)⟩
 | (q, x) :: ps, c, c', xs, u, hs => by
  simp only [elems] at hs
  split at hs
  ·rename_i cs ua c1 hg h1
   split at hs
   ·rename_i y l ub c2 hm h2
    (obtain ⟨rfl, pe⟩ := Prod.mk.inj (Option.some.inj hs)); (obtain ⟨rfl, rfl⟩ := Prod.mk.inj pe); clear pe hs; (rw [Bool.and_eq_true] at hg); (obtain ⟨hg, hbl⟩ := hg); (have hbl := Nat.eq_of_beq_eq_true hbl); (have hv := h.opdT e x); (obtain ⟨cl, c1', cj⟩ := cells_ok hv (good_one hg hv h.rv_one)); (have hsz : (a.eval x).cells.size = (L.ti e).sz := by rw [← hbl, cl, Array.length_toList]); (obtain ⟨sl, f1, g1⟩ := stills_ok h h1); (obtain ⟨hl, f2, hz, g2⟩ := elems_ok hL h h2)
    refine ⟨by simp [hl], f1.app f2, fun p hp => ?_, fun w' F' hM hR i j hi hj => ?_⟩
    ·rcases List.mem_cons.1 hp with rfl | hp
     ·exact hsz
     ·exact hz p hp
    ·cases i with
     | zero =>
      have hjc : j < (cellsOf (rdt L st e x)).length := by omega
      refine ⟨(a.eval x).cells.toList.getD j undef, ?_, ?_⟩
      ·have hjs : j < (a.eval x).cells.toList.length := by omega
       (rw [getD_lt hjs]); (simp only [List.map_cons, List.getElem?_cons_zero, Option.bind_some]); (rw [← Array.getElem?_toList, List.getElem?_eq_getElem hjs])
      ·have := g1 w' F' hM hR.left j hjc _ (cj j hjc)
       rw [List.getElem_cons_zero, hL.make e cs y hm]
       exact this
     | succ i =>
      have := g2 w' F' hM (hR.right f1) i j (by simpa using hi) hj
      simpa using this
   ·cases hs
  ·cases hs
theorem stills_ment {b : Bool} {k : Nat} : ∀ {c c' : Option Nat} {cs cs' : List (SV L.D)} {u : List (Nat × Option (Row L.D))}, stills L b c st cs = some (cs', u, c') → mentL (2, k) cs = false → ∀ j o, (j, o) ∈ u → j ≠ k
 | c, c', [], cs', u, hs, _ => by
  (obtain ⟨_, e⟩ := Prod.mk.inj (Option.some.inj hs)); (obtain ⟨rfl, _⟩ := Prod.mk.inj e)
  intro j o hm; cases hm
 | c, c', s :: l, cs', u, hs, hk => by
  (simp only [mentL, Bool.or_eq_false_iff] at hk); (simp only [stills] at hs)
  split at hs
  ·rename_i x ua c1 h1
   split at hs
   ·rename_i r ub c2 h2
    (obtain ⟨_, e⟩ := Prod.mk.inj (Option.some.inj hs)); (obtain ⟨rfl, _⟩ := Prod.mk.inj e)
    intro j o hm
    rcases List.mem_append.1 hm with hm | hm
    ·have key : ∀ i, s = .own i → (j, o) ∈ ua → i = j := fun i hi hm => by
      (subst hi); (simp only [still] at h1)
      split at h1
      ·obtain ⟨_, e⟩ := Prod.mk.inj (Option.some.inj h1)
       obtain ⟨rfl, _⟩ := Prod.mk.inj e
       exact (Prod.mk.inj (List.mem_singleton.1 hm)).1.symm
      ·split at h1
       ·obtain ⟨_, e⟩ := Prod.mk.inj (Option.some.inj h1)
        obtain ⟨rfl, _⟩ := Prod.mk.inj e
        exact (Prod.mk.inj (List.mem_singleton.1 hm)).1.symm
       ·cases h1
      ·cases h1
     cases s with
     | own i =>
      rintro rfl
      obtain rfl := key i rfl hm
      simp [ment, keyEq] at hk
     | v => simp only [still, Option.some.injEq, Prod.mk.injEq] at h1; rw [← h1.2.1] at hm; cases hm
     | nl => simp only [still, Option.some.injEq, Prod.mk.injEq] at h1; rw [← h1.2.1] at hm; cases hm
     | ro => cases b <;> simp only [still, Option.some.injEq, Prod.mk.injEq] at h1 <;> first | (rw [← h1.2.1] at hm; cases hm; done) | cases h1
     | lr => cases b <;> simp only [still, Option.some.injEq, Prod.mk.injEq] at h1 <;> first | (rw [← h1.2.1] at hm; cases hm; done) | cases h1
     | _ => simp only [still] at h1; cases h1
    ·exact stills_ment h2 hk.2 j o hm
   ·cases hs
  ·cases hs
theorem ment_cells {k : Key} {s : SV L.D} (h : ment k s = false) : mentL k (cellsOf s) = false := by
 cases s <;> simp only [cellsOf, mentL, Bool.or_false] <;> exact h
theorem elems_ment {ks : List Key} (hc : clean st ks = true) {k : Nat} (hk : (2, k) ∈ ks) {e : TypeId} : ∀ {ps : List (Nat × Operand)} {c c' : Option Nat} {xs : List (L.D e)} {u : List (Nat × Option (Row L.D))}, elems L st e c ps = some (xs, u, c') → ∀ j o, (j, o) ∈ u → j ≠ k
 | [], c, c', xs, u, hs => by
  (obtain ⟨_, e⟩ := Prod.mk.inj (Option.some.inj hs)); (obtain ⟨rfl, _⟩ := Prod.mk.inj e)
  intro j o hm; cases hm
 | (q, x) :: ps, c, c', xs, u, hs => by
  simp only [elems] at hs
  split at hs
  ·rename_i cs ua c1 hg h1
   split at hs
   ·rename_i y l ub c2 hm h2
    (obtain ⟨_, pe⟩ := Prod.mk.inj (Option.some.inj hs)); (obtain ⟨rfl, _⟩ := Prod.mk.inj pe)
    intro j o hm
    rcases List.mem_append.1 hm with hm | hm
    ·exact stills_ment h1 (ment_cells (clean_rdt hc e x _ hk)) j o hm
    ·exact elems_ment hc hk h2 j o hm
   ·cases hs
  ·cases hs
def labV (st : St L.D) (V : Vl) (js : List Nat) (c : Option Nat) : Nat → LV := match js, c with
 | _ :: _, some n => fun l => if l < n then V.lv l else (rtOf st (js.getD (l - n) 0), V.rv (js.getD (l - n) 0))
 | _, _ => V.lv
theorem nodupB_iff : ∀ {l : List Nat}, nodupB l = true → l.Nodup
 | [], _ => List.nodup_nil
 | n :: l, h => by
  simp only [nodupB, Bool.and_eq_true, Bool.not_eq_true', List.any_eq_false] at h
  refine List.nodup_cons.2 ⟨fun hm => ?_, nodupB_iff h.2⟩
  have := h.1 n hm
  simp at this
theorem StOk.step {b : Bool} {c' : Option Nat} {u u0 : List (Nat × Option (Row L.D))} (h : StOk st b st.ctr u c') (hn : nodupB (labs L u) = true) {w w' : World} {i0 : Nat} {v0 : Value} (hl : ∀ j ∈ labs L u, look u0 j = some none ∧ j ≠ i0)
  (keep : ∀ j ∈ labs L u, ∀ k, (V.rv j).ownBlock = some k → w'.heap[k]? = w.heap[k]?) (far : ∀ j ∈ labs L u, ∀ k, (V.rv j).ownBlock = some k → v0.ownBlock ≠ some k) : LabStep st V w w' u0 i0 v0 (labs L u) (ctrD (labs L u) c') (labV st V (labs L u) st.ctr) := by
 refine ⟨?_, nodupB_iff hn, fun j hj => ⟨(hl j hj).1, (hl j hj).2, ?_⟩, keep, far⟩
 ·cases hj : labs L u with
  | nil => exact .inl ⟨rfl, rfl, rfl⟩
  | cons j js =>
   obtain ⟨n, hc⟩ := h.ok (by rw [hj]; simp)
   refine .inr ⟨n, hc, ?_, fun l => by rw [hc]; rfl⟩
   (have := h.ctr); (rw [hj, hc] at this); (rw [this]; rfl)
 ·have hm := labs_mem hj
  cases b with
  | false => obtain ⟨r, _, e⟩ := h.frz rfl j none hm; cases e
  | true => exact (h.lab rfl j none hm).2
theorem StOk.look_lab {b : Bool} {c c' : Option Nat} {u : List (Nat × Option (Row L.D))} (h : StOk st b c u c') {j : Nat} (hj : j ∈ labs L u) : look u j = some none := by
 (have hm := labs_mem hj); (obtain ⟨y, hy⟩ := look_of_mem hm)
 cases b with
 | false => obtain ⟨r, _, e⟩ := h.frz rfl j none hm; cases e
 | true => rw [hy, (h.lab rfl j y (look_mem hy)).1]
theorem StOk.row {b : Bool} {c c' : Option Nat} {u : List (Nat × Option (Row L.D))} (h : StOk st b c u c') {j : Nat} (hj : j ∈ labs L u) : ∃ r, st.row j = some r ∧ r.fz = false := by
 have hm := labs_mem hj
 cases b with
 | false => obtain ⟨r, _, e⟩ := h.frz rfl j none hm; cases e
 | true => exact (h.lab rfl j none hm).2
theorem dense_map (f : Operand → Value) : ∀ (l : List (Nat × Operand)) (q : Nat), dense q l = true → (l.map fun p => (p.1, f p.2)) = ((l.map fun p => f p.2).zipIdx q).map fun x => (x.2, x.1)
 | [], _, _ => rfl
 | (j, x) :: l, q, h => by
  (simp only [dense, Bool.and_eq_true] at h); (have hj := Nat.eq_of_beq_eq_true h.1); (subst hj); (simp only [List.map_cons, List.zipIdx_cons, dense_map f l (j + 1) h.2])
theorem out_buildSlice (hL : LayOk P L) {o : Oper} {ks : List Key} (A : At L E st V a w o ks) {t e : TypeId} {n : Nat} {ps : Array (Nat × Operand)} (ho : o.op = .buildSlice t n ps) (hk : elemOf L t = some e) (hd : dense 0 ps.toList = true) (hn : ps.toList.length = n) (hz : n * (L.ti e).sz ≤ 16777216) {xs : List (L.D e)} {u : List (Nat × Option (Row L.D))} {c' : Option Nat} (he : elems L st e st.ctr ps.toList = some (xs, u, c')) (hnd : nodupB (labs L u) = true) {i0 : Nat} (hi : (2, i0) ∈ ks) :
  Out P L E st o a w { val := .own i0, rows := (i0, some ⟨e, false, xs⟩) :: u, ctr := ctrD (labs L u) c' } := by
 (obtain ⟨hu, hko, _, hsz, i, z, hinf, hs, hb, hzero, hb0⟩ := elem_info hL hk); (obtain ⟨i', z', hinf', _, _, hz', hcs, _⟩ := hL.info e hko); (obtain rfl : i' = i := Option.some.inj (hinf'.symm.trans hinf)); (obtain rfl : z' = z := Option.some.inj (hz'.symm.trans hzero)); (obtain ⟨hl, hf, hcz, hg⟩ := elems_ok hL A.rel he); (have hxn : xs.length = n := by omega); (have hvl : (ps.toList.map fun p => a.eval p.2).length = n := by rw [List.length_map]; exact hn)
 have hcz' : ∀ v ∈ ps.toList.map (fun p => a.eval p.2), v.cells.size = (L.ti e).sz := fun v hv => by
  obtain ⟨p, hp, rfl⟩ := List.mem_map.1 hv
  exact hcz p hp
 have hparts : (ps.map fun p => (p.1, a.eval p.2)).toList = ((ps.toList.map fun p => a.eval p.2).zipIdx 0).map fun x => (x.2, x.1) := by
  rw [Array.toList_map]; exact dense_map a.eval _ 0 hd
 have hcur : ((ps.toList.map fun p => a.eval p.2).flatMap fun v => v.cells.toList).toArray.size = n * (L.ti e).sz := by
  rw [List.size_toArray, ← hvl]
  have : ∀ l : List Value, (∀ v ∈ l, v.cells.size = (L.ti e).sz) → (l.flatMap fun v => v.cells.toList).length = l.length * (L.ti e).sz := by
   intro l
   induction l with
   | nil => intro _; simp
   | cons v l ih =>
    intro h
    rw [List.flatMap_cons, List.length_append, ih fun v hv => h v (List.mem_cons_of_mem _ hv), Array.length_toList, h v List.mem_cons_self, List.length_cons, Nat.add_mul]; omega
  exact this _ hcz'
 have hrun : (Instr.buildSlice t n (ps.map fun p => (p.1, a.eval p.2))).run P w = .ok (.slice (some ⟨w.heap.size, 0, none⟩) n n) (w.alloc (.cells ((ps.toList.map fun p => a.eval p.2).flatMap fun v => v.cells.toList).toArray e)) := by
  by_cases hn0 : n = 0
  ·subst hn0
   (have hnil : ps.toList = [] := List.eq_nil_of_length_eq_zero hn); (have : ps = #[] := by cases ps; simp at hnil; rw [hnil]); (subst this)
   simp [Instr.buildSlice, run_underlying hu, sizeOf, typeInfo, hinf, Instr.fill, newRow, Array.range_zero']
  ·refine run_buildSlice w t e n _ _ i' z' hu hinf hzero (by rw [hs]; omega) (by rw [hs]; exact Nat.ne_of_gt (Nat.mul_pos (by omega) hsz)) ?_
   rw [hparts, hs]
   exact Great.fill_whole hsz _ _ hcz' (by rw [hvl]; simp)
 have S : LabStep st V w (w.alloc (.cells ((ps.toList.map fun p => a.eval p.2).flatMap fun v => v.cells.toList).toArray e)) u i0 (.slice (some ⟨w.heap.size, 0, none⟩) n n) (labs L u) (ctrD (labs L u) c') (labV st V (labs L u) st.ctr) := by
  have blk : ∀ j ∈ labs L u, ∀ k, (V.rv j).ownBlock = some k → k < w.heap.size := fun j hj k hk => by
   obtain ⟨r, hr, hfr⟩ := hf.row hj
   exact A.rel.row_lt hr hfr hk
  refine hf.step hnd (fun j hj => ⟨hf.look_lab hj, elems_ment A.clean hi he j none (labs_mem hj)⟩) (fun j hj k hk => heap_alloc_old w _ (blk j hj k hk)) fun j hj k hk e => ?_
  ·have := blk j hj k hk
   simp [Value.ownBlock] at e
   omega
 have M := mix_mem (dst := o.dst) (s := .own i0) (i0 := i0) (r0 := ⟨e, false, xs⟩) (v0 := .slice (some ⟨w.heap.size, 0, none⟩) n n) A.rel hf.frd (w' := w.alloc (.cells ((ps.toList.map fun p => a.eval p.2).flatMap fun v => v.cells.toList).toArray e)) (by simp) (fun k hk => .inl (heap_alloc_old w _ hk)) (fun k _ hk => by simp [Value.ownBlock] at hk; left; omega) S
 refine ⟨_, _, ?_, _, .inl ⟨_, rfl, A.rel.newRowL A.clean A.dst hi hf.frd (v0 := .slice (some ⟨w.heap.size, 0, none⟩) n n) (w' := w.alloc (.cells ((ps.toList.map fun p => a.eval p.2).flatMap fun v => v.cells.toList).toArray e)) (by simp) rfl rfl rfl (fun k hk => .inl (heap_alloc_old w _ hk)) (fun k _ hk => by simp [Value.ownBlock] at hk; left; omega) S ⟨(fun h => by cases h), fun _ => ?_⟩⟩⟩
 ·unfold execOp
  simp only [ho, Sem.run_bind, hrun]
  rfl
 ·have hv : ({ V.withRow i0 (.slice (some ⟨w.heap.size, 0, none⟩) n n) with lv := labV st V (labs L u) st.ctr } : Vl).rv i0 = .slice (some ⟨w.heap.size, 0, none⟩) n n := by simp [Vl.withRow]
  rw [hv]
  conv => arg 4; rw [← hxn]
  have hnm : n ≤ maxLen := by
   have : n * 1 ≤ n * (L.ti e).sz := Nat.mul_le_mul_left _ hsz
   unfold maxLen; omega
  (have hcur' := hcur); (rw [← hxn] at hcur')
  refine rowOk_new (heap_alloc_new w _) (Nat.le_refl _) (by rw [hxn]; exact hnm) hcur' fun q j hq hj => ?_
  obtain ⟨v, hv1, hv2⟩ := hg _ _ M ⟨fun j r hm hr => frz_reads A.rel hf.frd (by simp) (fun k hk => .inl (heap_alloc_old w _ hk)) (fun k _ hk => by simp [Value.ownBlock] at hk; left; omega) S hr (hf.lookf hm hr), fun q j r n hq hr hn => by
   obtain ⟨hq', rfl⟩ := List.getElem?_eq_some_iff.1 hq
   exact lab_reads A.rel hf.frd (by simp) (fun k hk => .inl (heap_alloc_old w _ hk)) (fun k _ hk => by simp [Value.ownBlock] at hk; left; omega) S hn hq' hr⟩ q j hq hj
  refine ⟨v, ?_, hv2⟩
  (rw [List.getElem?_toArray, Great.flat_get hsz _ hcz']); (have h1 : (q * (L.ti e).sz + j) / (L.ti e).sz = q := by rw [Nat.mul_comm, Nat.mul_add_div hsz, Nat.div_eq_of_lt hj, Nat.add_zero]); (have h2 : (q * (L.ti e).sz + j) % (L.ti e).sz = j := by rw [Nat.mul_comm, Nat.mul_add_mod, Nat.mod_eq_of_lt hj]); (rw [h1, h2])
  exact hv1
end
end Go.Proofs.YtfeikakkfnnaoaaGreatDoor.V
namespace Go.Proofs.YtfeikakkfnnaoaaGreatDoor.V
open Go
set_option linter.unusedVariables false
set_option linter.unusedSimpArgs false
theorem notFrozen {w : World} {b : Nat} {vs : Array Value} {T : TypeId} {fz : Nat × Nat} (hfz : fz = (0, 0) ∨ vs.size ≤ fz.1) (hb : w.heap[b]? = some (.cells vs T fz)) {q : Nat} (hq : q < vs.size) : w.frozen? ⟨b, q, none⟩ = false := by
 (obtain ⟨lo, hi⟩ := fz); (simp only [World.frozen?, hb, Bool.and_eq_false_iff, decide_eq_false_iff_not])
 rcases hfz with e | h
 ·obtain ⟨rfl, rfl⟩ := Prod.mk.inj e
  right; omega
 ·left; simp only at h; omega
theorem setCells_block (b : Nat) : ∀ (xs : List Value) (o : Nat) (w : World) (vs : Array Value) (T : TypeId) (fz : Nat × Nat), w.heap[b]? = some (.cells vs T fz) → ∃ vs' : Array Value, (w.setCells b o xs).heap[b]? = some (.cells vs' T fz) ∧ vs'.size = vs.size ∧ ∀ q, q < vs.size → vs'[q]? = if o ≤ q ∧ q < o + xs.length then xs[q - o]? else vs[q]?
 | [], o, w, vs, T, fz, h => ⟨vs, h, rfl, fun q _ => by rw [if_neg (by simp)]⟩
 | x :: xs, o, w, vs, T, fz, h => by
  obtain ⟨vs', h1, h2, h3⟩ := setCells_block b xs (o + 1) (w.setCell ⟨b, o, none⟩ x) (vs.setIfInBounds o x) T fz (by rw [setCell_eq_setRow w b o vs T fz x h]; exact setRow_heap w b vs _ T fz h)
  refine ⟨vs', h1, by simpa using h2, fun q hq => ?_⟩
  rw [h3 q (by simpa using hq)]
  by_cases e : q = o
  ·subst e
   rw [if_neg (by omega), if_pos (by simp), Nat.sub_self, Array.getElem?_setIfInBounds_self_of_lt hq]
   rfl
  ·rw [Array.getElem?_setIfInBounds_ne (by omega)]
   by_cases hq1 : o + 1 ≤ q ∧ q < o + 1 + xs.length
   ·rw [if_pos hq1, if_pos (by simp; omega), show q - o = (q - (o + 1)) + 1 by omega, List.getElem?_cons_succ]
   ·rw [if_neg hq1, if_neg (by simp; omega)]
theorem setCells_other (b : Nat) : ∀ (xs : List Value) (o : Nat) (w : World) (k : Nat), k ≠ b → (w.setCells b o xs).heap[k]? = w.heap[k]?
 | [], _, _, _, _ => rfl
 | x :: xs, o, w, k, h => by
  rw [World.setCells, setCells_other b xs (o + 1) _ k h]
  exact heap_setCell_other w ⟨b, o, none⟩ k x h
theorem setCells_meta (b : Nat) : ∀ (xs : List Value) (o : Nat) (w : World), (w.setCells b o xs).heap.size = w.heap.size ∧ (w.setCells b o xs).os = w.os ∧ (w.setCells b o xs).tape = w.tape ∧ (w.setCells b o xs).output = w.output
 | [], _, _ => ⟨rfl, rfl, rfl, rfl⟩
 | x :: xs, o, w => by
  obtain ⟨h1, h2, h3, h4⟩ := setCells_meta b xs (o + 1) (w.setCell ⟨b, o, none⟩ x)
  exact ⟨h1.trans (by simp [World.setCell]), h2, h3, h4⟩
theorem setCells_own {w : World} {g cap n m : Nat} {cur : Array Value} {e : TypeId} {size : Nat} {fz : Nat × Nat} {xs news : List Value} (hfz : fz = (0, 0) ∨ (cur.size ≤ fz.1 ∧ size = 1)) (hg : w.heap[g]? = some (.cells cur e fz)) (hl : news.length = m * size) (hlx : xs.length = n * size) (hroom : n + m ≤ cap) (hcm : cap ≤ maxLen) (hcs : cur.size = cap * size) (htake : cur.toList.take (n * size) = xs) :
  ownsT (w.setCells g (n * size) news) e size (.slice (some ⟨g, 0, none⟩) (n + m) cap) (n + m) (xs ++ news) ∧ w.grownBy (w.setCells g (n * size) news) (some g) := by
 (have hfit : n * size + news.length ≤ cur.size := by rw [hl, hcs, ← Nat.add_mul]; exact Nat.mul_le_mul_right _ hroom); (obtain ⟨vs', h1, h2, h3⟩ := setCells_block g news (n * size) w cur e fz hg); (obtain ⟨m1, m2, m3, m4⟩ := setCells_meta g news (n * size) w); (have hlen : (xs ++ news).length = (n + m) * size := by rw [List.length_append, hlx, hl, Nat.add_mul])
 refine ⟨⟨hlen, .inr ⟨g, cap, vs', fz, rfl, by rw [h2]; exact hfz, h1, hroom, hcm, by rw [h2, hcs], ?_⟩⟩, ⟨m2, m3, m4, Nat.le_of_eq m1.symm, fun k _ hk => setCells_other g news _ w k (fun e => hk (by rw [e]))⟩⟩
 apply List.ext_getElem?
 intro q
 (have hlx' : xs.length ≤ cur.size := by omega); (have hle : (n + m) * size ≤ vs'.size := by rw [h2, hcs]; exact Nat.mul_le_mul_right _ hroom)
 by_cases hq : q < (n + m) * size
 ·rw [List.getElem?_take, if_pos hq, Array.getElem?_toList, h3 q (by omega)]
  by_cases hq1 : n * size ≤ q
  ·rw [if_pos ⟨hq1, by rw [hl, ← Nat.add_mul]; exact hq⟩, List.getElem?_append_right (by omega), hlx]
  ·rw [if_neg (by omega), List.getElem?_append_left (by omega), ← htake, List.getElem?_take, if_pos (by omega), Array.getElem?_toList]
 ·rw [List.getElem?_eq_none (by simp; omega), List.getElem?_eq_none (by omega)]
section
variable {P : Program} {L : Lay} {E : Ent} {st : St L.D} {V : Vl} {a : Act} {w : World}
theorem rowCells (h : Rel L E st V a w) {s : SV L.D} {u : Value} {r : Row L.D} (hs : rowOf L st s = some r) (hu : SR L w (Fz E st V w) st V a.tmps s u) : ∃ A c, u = .slice A r.xs.length c ∧ (r.xs ≠ [] → ∃ (b off : Nat) (f : Nat → Nat → Value), A = some ⟨b, off, none⟩ ∧ (∀ i j, i < r.xs.length → j < (L.ti r.t).sz → w.cell? ⟨b, off + i * (L.ti r.t).sz + j, none⟩ = some (f i j)) ∧
  ∀ i j, (h : i < r.xs.length) → j < (L.ti r.t).sz → CR L w (Fz E st V w) ((L.cell r.t r.xs[i]).getD j .dead) (f i j)) := by
 obtain ⟨A, c, e, hr⟩ := rowOf_ok h hs hu
 exact ⟨A, c, e, fun hne => by obtain ⟨_, b, off, f, e, _, h1, h2⟩ := hr hne; exact ⟨b, off, f, e, h1, h2⟩⟩
theorem cells_list (n sz : Nat) (f : Nat → Nat → Value) (hz : 0 < sz) : ∀ q, q < n * sz → ((List.range (n * sz)).map fun q => f (q / sz) (q % sz))[q]? = some (f (q / sz) (q % sz)) := fun q hq => by
 rw [List.getElem?_map, List.getElem?_range hq]; rfl
theorem append_cells (hL : LayOk P L) {t e : TypeId} (hk : elemOf L t = some e) (ty : TypeId) {w : World} {v : Value} {n : Nat} {cells : List Value} (hown : ownsT w e (L.ti e).sz v n cells) {A : Option Addr} {m c : Nat} {f : Nat → Nat → Value}
  (hA : m ≠ 0 → ∃ b off, A = some ⟨b, off, none⟩ ∧ ∀ i j, i < m → j < (L.ti e).sz → w.cell? ⟨b, off + i * (L.ti e).sz + j, none⟩ = some (f i j)) (h1 : ∀ i j, i < m → j < (L.ti e).sz → (f i j).oneCell' = true) (hb : ((n : Int) + m) * (L.ti e).bytes ≤ 70368744177664) :
  ∃ v' w', (Builtin.append_ #[t, t] ty #[v, .slice A m c]).run P w = .ok v' w' ∧ ownsT w' e (L.ti e).sz v' (n + m) (cells ++ (List.range (m * (L.ti e).sz)).map fun q => f (q / (L.ti e).sz) (q % (L.ti e).sz)) ∧ w.grownBy w' v.ownBlock ∧ (v'.ownBlock = v.ownBlock ∨ v'.ownBlock = some w.heap.size) := by
 (obtain ⟨hu, hko, _, hsz, i, z, hinf, hs, hbt, hzero, hb0⟩ := elem_info hL hk); (obtain ⟨i', z', hinf', _, _, hz', hcs, _⟩ := hL.info e hko); (obtain rfl : i' = i := Option.some.inj (hinf'.symm.trans hinf)); (obtain rfl : z' = z := Option.some.inj (hz'.symm.trans hzero))
 have hnb : (n + m) * i'.bytes ≤ 140737488355328 := by
  have e1 : (((n + m) * i'.bytes : Nat) : Int) = ((n : Int) + m) * (L.ti e).bytes := by rw [hbt]; simp
  omega
 have hnm : n + m ≤ maxLen := by
  have : (n + m) * 1 ≤ (n + m) * i'.bytes := Nat.mul_le_mul_left _ hb0
  unfold maxLen; omega
 by_cases hm : m = 0
 ·subst hm
  rcases hown.2 with ⟨rfl, rfl⟩ | ⟨g, cap, cur, fz, rfl, hbg, hg, hnc, hrest⟩
  ·refine ⟨.slice none 0 0, w, ?_, by simpa using hown, ⟨rfl, rfl, rfl, Nat.le_refl _, fun _ _ _ => rfl⟩, .inl rfl⟩
   cases A <;> simp [Builtin.append_, run_underlying hu, sizeOf, typeInfo, hinf, Builtin.lenOf, Builtin.firstCells, loadCells, loadCellsFrom]
  ·refine ⟨.slice (some ⟨g, 0, none⟩) n cap, w, ?_, by simpa using hown, ⟨rfl, rfl, rfl, Nat.le_refl _, fun _ _ _ => rfl⟩, .inl rfl⟩
   cases A <;> simp [Builtin.append_, run_underlying hu, sizeOf, typeInfo, hinf, Builtin.lenOf, Builtin.firstCells, loadCells, loadCellsFrom, hnc, storeCells]
 ·obtain ⟨b, off, rfl, hc⟩ := hA hm
  have hnews : ∀ j u, ((List.range (m * (L.ti e).sz)).map fun q => f (q / (L.ti e).sz) (q % (L.ti e).sz))[j]? = some u → w.cell? ((⟨b, off, none⟩ : Addr).add j) = some u := fun j u hj => by
   by_cases hlt : j < m * (L.ti e).sz
   ·rw [cells_list m _ f hsz j hlt] at hj
    (rw [← Option.some.inj hj, Addr.add_mid]); (have := hc (j / (L.ti e).sz) (j % (L.ti e).sz) (Nat.div_lt_of_lt_mul (by rw [Nat.mul_comm]; exact hlt)) (Nat.mod_lt _ hsz)); (rw [Nat.add_assoc, Nat.mul_comm, Nat.div_add_mod] at this)
    exact this
   ·rw [List.getElem?_eq_none (by simp; omega)] at hj; cases hj
  have hone : ∀ u ∈ ((List.range (m * (L.ti e).sz)).map fun q => f (q / (L.ti e).sz) (q % (L.ti e).sz)), u.oneCell' = true := fun u hu' => by
   (obtain ⟨q, hq, rfl⟩ := List.mem_map.1 hu'); (have hlt := List.mem_range.1 hq)
   exact h1 _ _ (Nat.div_lt_of_lt_mul (by rw [Nat.mul_comm]; exact hlt)) (Nat.mod_lt _ hsz)
  generalize hN : ((List.range (m * (L.ti e).sz)).map fun q => f (q / (L.ti e).sz) (q % (L.ti e).sz)) = news at hnews hone
  have hl : news.length = m * (L.ti e).sz := by rw [← hN]; simp
  rcases hown.2 with ⟨rfl, rfl⟩ | ⟨g, cap, cur, fz, rfl, hfz, hg, hnc, hcm, hcs', htake⟩
  ·have hx : cells = [] := List.eq_nil_of_length_eq_zero (by simpa using hown.1)
   (subst hx); (obtain ⟨v', w', g1, g2, g3, _, g5⟩ := run_append_own_at (P := P) w 0 t ty e i' z' (L.ti e).sz i'.bytes hu hinf hzero hs rfl hcs hsz (.slice none 0 0) 0 [] (World.ownsRow_nil w 0 e (L.ti e).sz) ⟨b, off, none⟩ m c news hl hnews hone hnm hnb (Nat.zero_le _))
   exact ⟨v', w', g1, ownsT_of g2, g3, g5⟩
  ·by_cases hroom : n + m ≤ cap
   ·have hfit : n * (L.ti e).sz + news.length ≤ cur.size := by rw [hl, hcs', ← Nat.add_mul]; exact Nat.mul_le_mul_right _ hroom
    obtain ⟨o1, o2⟩ := setCells_own hfz hg hl hown.1 hroom hcm hcs' htake
    refine ⟨_, _, ?_, o1, o2, .inl rfl⟩
    (have := run_append_room_cells (P := P) w t ty e i' hu hinf g 0 n cap ⟨b, off, none⟩ m c news (by rw [hs]; exact hl) hnews hone hroom (fun j hj => by rw [hs, Nat.zero_add]; simp [World.cell?, hg]; omega) (fun j hj => by rw [hs, Nat.zero_add]; exact notFrozen (fzW hfz) hg (by omega))); (rw [hs, Nat.zero_add] at this)
    exact this
   ·have holds := hown.cells (g := g) rfl
    (have hr := run_append_grow (P := P) w t ty e i' z' hu hinf hzero ⟨g, 0, none⟩ n cap cells (by rw [hs]; exact hown.1) holds ⟨b, off, none⟩ m c news (by rw [hs]; exact hl) hnews (by omega) (by unfold maxLen at hnm; omega) (growslice_fits (by omega) hnb)); (have hge := grownCap_ge w (n + m) cap e); (have hcm' := grownCap_le_maxLen w (n + m) cap e hnm); (have hlen : (cells ++ news).length = (n + m) * (L.ti e).sz := by rw [List.length_append, hown.1, hl, Nat.add_mul])
    refine ⟨_, _, hr, ⟨hlen, .inr ⟨w.heap.size, _, _, (0, 0), rfl, .inl rfl, heap_alloc_new w.drew _, hge, hcm', ?_, ?_⟩⟩, ⟨rfl, rfl, rfl, by simp, fun k hk _ => heap_alloc_old w.drew _ hk⟩, .inr rfl⟩
    ·simp only [Array.size_append, List.size_toArray, size_zeroCells, hcs, hown.1, hl, ← Nat.add_mul]
     congr 1
     omega
    ·simp only [Array.toList_append, List.append_assoc]
     rw [← List.append_assoc, ← hlen]
     exact List.take_left
theorem append_bytes (hL : LayOk P L) {t t' e : TypeId} (hk : elemOf L t = some e) (hk' : (L.ti t').kind = .str) (hke : (L.ti e).kind = .int .u8) (ty : TypeId) {w : World} {v : Value} {n : Nat} {cells : List Value} (hown : ownsT w e (L.ti e).sz v n cells) (s : ByteArray) (hb : ((n : Int) + s.size) * (L.ti e).bytes ≤ 70368744177664) :
  ∃ v' w', (Builtin.append_ #[t, t'] ty #[v, .string s]).run P w = .ok v' w' ∧ ownsT w' e (L.ti e).sz v' (n + s.size) (cells ++ Lib.strCells s) ∧ w.grownBy w' v.ownBlock ∧ (v'.ownBlock = v.ownBlock ∨ v'.ownBlock = some w.heap.size) := by
 (obtain ⟨hu, hko, _, hsz, i, z, hinf, hs, hbt, hzero, hb0⟩ := elem_info hL hk); (obtain ⟨hs1, hb1, hz1, _⟩ := hL.byte e hke)
 have hzv : z = .int .u8 0 := by
  (obtain ⟨i', z', hinf', _, _, hz', hcs, _, hone, hzl, hj⟩ := hL.info e hko); (obtain rfl : i' = i := Option.some.inj (hinf'.symm.trans hinf)); (obtain rfl : z' = z := Option.some.inj (hz'.symm.trans hzero)); (obtain ⟨u, hu', h1, hc⟩ := hj 0 (by rw [hz1]; exact Nat.zero_lt_one)); (have e0 : (L.zero e)[0]'(by rw [hz1]; exact Nat.zero_lt_one) = .v (.int .u8 0) := by simp [hz1]); (rw [e0] at hc)
  have hui : u = .int .u8 0 := by
   rcases hc with hc | ⟨_, hc, _⟩
   ·injection hc with hc; exact hc.symm
   ·cases hc
  (have hag : isAgg L e = false := by unfold isAgg; rw [hke]); (have hcel : z'.cells = #[z'] := by have := hone hag; cases z' <;> first | rfl | cases this); (rw [hcel, hui] at hu')
  simpa using hu'
 (subst hzv); (rw [hs1] at hown hs ⊢); (rw [hb1] at hb hbt); (have hnb : n + s.size ≤ 140737488355328 := by omega)
 rcases hown.2 with ⟨rfl, rfl⟩ | ⟨g, cap, cur, fz, rfl, hfz, hg, hnc, hcm, hcs, htake⟩
 ·have hx : cells = [] := List.eq_nil_of_length_eq_zero (by simpa using hown.1)
  (subst hx); (obtain ⟨v', w', g1, g2, g3, _⟩ := Lib.run_append_own_string (P := P) w 0 t t' ty e i hu (hL.str t' hk') hinf hzero hs hbt (.slice none 0 0) 0 [] (World.ownsRow_nil w 0 e 1) s (by unfold maxLen; omega) hnb (Nat.zero_le _))
  refine ⟨v', w', g1, ownsT_of g2, g3, ?_⟩
  have hres : ∃ v1 w1, (Builtin.append_ #[t, t'] ty #[.slice none 0 0, .string s]).run P w = .ok v1 w1 ∧ (v1.ownBlock = none ∨ v1.ownBlock = some w.heap.size) := by
   by_cases h0 : s.size = 0
   ·have hf : (Builtin.firstCells 1 0 (.string s)).run P w = .ok (Lib.strCells s).toArray w := by rw [← h0]; exact Lib.run_firstCells_string (P := P) w 1 s
    exact ⟨.slice none 0 0, w, by simp [Builtin.append_, run_underlying hu, run_underlying (hL.str t' hk'), sizeOf, typeInfo, hinf, hs, Builtin.lenOf, h0, hf], .inl rfl⟩
   ·have hf := Lib.run_firstCells_string (P := P) w.drew i.size s
    (have hn : ¬ s.size ≤ 0 := by omega); (have h63' : ¬ (9223372036854775807 < (s.size : Int)) := by omega); (have h48' : ¬ (281474976710656 < Builtin.nextslicecap s.size 0 * i.bytes) := by have := growslice_fits (need := s.size) (old := 0) (bytes := i.bytes) (by omega) (by rw [hbt]; omega); omega)
    refine ⟨.slice (some ⟨w.heap.size, 0, none⟩) s.size (grownCap w s.size 0 e), w.drew.alloc (.cells ((Lib.strCells s).toArray ++ Builtin.zeroCells (Value.int .u8 0).cells (grownCap w s.size 0 e - s.size)) e), ?_, .inr rfl⟩
    simp [Builtin.append_, run_underlying hu, run_underlying (hL.str t' hk'), sizeOf, typeInfo, zeroValue, hinf, hzero, Builtin.lenOf, hn, h0, h63', h48', Question.forced, hf, newRow, grownCap, Builtin.firstCells]
    have hX : (Array.map (fun b => Value.int IntKind.u8 ↑b.toNat) s.data).extract 0 s.size = (Lib.strCells s).toArray := by
     simp only [Lib.strCells]
     apply Array.ext'
     simp
     exact List.take_of_length_le (by simp only [List.length_map, Array.length_toList]; exact Nat.le_refl _)
    rw [hX]
  (obtain ⟨v1, w1, h1, h2⟩ := hres); (rw [g1] at h1)
  injection h1 with h1 _
  rw [h1]; exact h2
 ·by_cases hroom : n + s.size ≤ cap
  ·have hl : (Lib.strCells s).length = s.size * 1 := by rw [Lib.strCells_length, Nat.mul_one]
   obtain ⟨o1, o2⟩ := setCells_own (news := Lib.strCells s) hfz hg hl hown.1 hroom hcm hcs htake
   refine ⟨_, _, ?_, o1, o2, .inl rfl⟩
   (have hf := Lib.run_firstCells_string (P := P) w 1 s); (have hst := run_storeCells_cells (P := P) g n (Lib.strCells s) 0 w (fun j hj => by simp [World.cell?, hg]; rw [Lib.strCells_length] at hj; omega) (fun j hj => notFrozen (fzW hfz) hg (by rw [Lib.strCells_length] at hj; omega)) (Lib.strCells_oneCell s)); (simp only [Nat.add_zero] at hst); (rw [Nat.mul_one])
   simp [Builtin.append_, run_underlying hu, run_underlying (hL.str t' hk'), sizeOf, typeInfo, hinf, hs, Builtin.lenOf, hroom, hf, Addr.add_lit, hst]
  ·have hr := Lib.run_append_grow_string (P := P) w t t' ty e i (.int .u8 0) hu (hL.str t' hk') hinf hzero ⟨g, 0, none⟩ n cap cells (by rw [hs]; exact hown.1) (hown.cells (g := g) rfl) s (by omega) (by omega) (growslice_fits (by omega) (by rw [hbt]; omega))
   (have hge := grownCap_ge w (n + s.size) cap e); (have hcm' := grownCap_le_maxLen w (n + s.size) cap e (by unfold maxLen; omega)); (have hlen : (cells ++ Lib.strCells s).length = (n + s.size) * 1 := by rw [List.length_append, hown.1, Lib.strCells_length, Nat.add_mul, Nat.mul_one, Nat.mul_one]); (have hz1 : (Value.int IntKind.u8 0).cells.size = 1 := rfl)
   refine ⟨_, _, hr, ⟨hlen, .inr ⟨w.heap.size, _, _, (0, 0), rfl, .inl rfl, heap_alloc_new w.drew _, hge, hcm', ?_, ?_⟩⟩, ⟨rfl, rfl, rfl, by simp, fun k hk _ => heap_alloc_old w.drew _ hk⟩, .inr rfl⟩
   ·simp only [Array.size_append, List.size_toArray, size_zeroCells, hz1, hown.1, Lib.strCells_length, Nat.mul_one]
    omega
   ·simp only [Array.toList_append, List.append_assoc]
    rw [← List.append_assoc, ← hlen]
    exact List.take_left
theorem append_zeros (hL : LayOk P L) {t t' e : TypeId} (hk : elemOf L t = some e) (hk' : (L.ti t').kind = .int .i64) (ty : TypeId) {w : World} {v : Value} {n : Nat} {cells : List Value} (hown : ownsT w e (L.ti e).sz v n cells) {m : Nat} (hb : ((n : Int) + m) * (L.ti e).bytes ≤ 70368744177664) {z : Value} {i : TypeInfo} (hinf : P.info? e = some i) (hzero : i.zero = some z) (hone : ∀ u ∈ z.cells.toList, u.oneCell' = true) :
  ∃ v' w', (Builtin.append_ #[t, t'] ty #[v, .int .i64 (m : Int)]).run P w = .ok v' w' ∧ ownsT w' e (L.ti e).sz v' (n + m) (cells ++ (Builtin.zeroCells z.cells m).toList) ∧ w.grownBy w' v.ownBlock ∧ (v'.ownBlock = v.ownBlock ∨ v'.ownBlock = some w.heap.size) := by
 (obtain ⟨hu, hko, _, hsz, i1, z1, hinf1, hs, hbt, hzero1, hb0⟩ := elem_info hL hk); (obtain ⟨i', z', hinf', _, _, hz', hcs, _⟩ := hL.info e hko); (obtain rfl : i1 = i := Option.some.inj (hinf1.symm.trans hinf)); (obtain rfl : i' = i1 := Option.some.inj (hinf'.symm.trans hinf)); (obtain rfl : z' = z := Option.some.inj (hz'.symm.trans hzero))
 have hnb : (n + m) * i'.bytes ≤ 140737488355328 := by
  have e1 : (((n + m) * i'.bytes : Nat) : Int) = ((n : Int) + m) * (L.ti e).bytes := by rw [hbt]; simp
  omega
 have hmb : m * i'.bytes ≤ (n + m) * i'.bytes := Nat.mul_le_mul_right _ (by omega)
 have hnm : n + m ≤ maxLen := by
  have : (n + m) * 1 ≤ (n + m) * i'.bytes := Nat.mul_le_mul_left _ hb0
  unfold maxLen; omega
 have hnm' := hnm
 unfold maxLen at hnm'
 have hwr : IntKind.i64.wrap (m : Int) = (m : Int) := by
  unfold IntKind.wrap
  (have e1 : (2 : Int) ^ 64 = 18446744073709551616 := by decide); (have e2 : (2 : Int) ^ (64 - 1) = 9223372036854775808 := by decide); (simp only [IntKind.bits, IntKind.signed, Bool.true_and, decide_eq_true_eq, e1, e2])
  split <;> omega
 (have hzl : (Builtin.zeroCells z'.cells m).toList.length = m * (L.ti e).sz := by rw [Array.length_toList, size_zeroCells, hcs]); (have hneg : ¬ ((m : Int) < 0) := by omega)
 have hbig : ¬ (281474976710656 < (m : Int) * (i'.bytes : Int)) := by
  have : ((m * i'.bytes : Nat) : Int) = (m : Int) * (i'.bytes : Int) := by simp
  omega
 have hz1 : ∀ u ∈ (Builtin.zeroCells z'.cells m).toList, u.oneCell' = true := fun u hu' => by
  rw [Array.mem_toList_iff] at hu'
  unfold Builtin.zeroCells at hu'
  (obtain ⟨q, hq, rfl⟩ := Array.mem_map.1 hu'); (have hlt : q % z'.cells.size < z'.cells.size := Nat.mod_lt _ (by rw [hcs]; exact hsz)); (rw [getElem!_pos z'.cells _ hlt])
  exact hone _ (by rw [Array.mem_toList_iff]; exact Array.getElem_mem hlt)
 rcases hown.2 with ⟨rfl, rfl⟩ | ⟨g, cap, cur, fz, rfl, hfz, hg, hnc, hcm, hcs', htake⟩
 ·have hx : cells = [] := List.eq_nil_of_length_eq_zero (by simpa using hown.1)
  subst hx
  by_cases hm : m = 0
  ·subst hm
   refine ⟨.slice none 0 0, w, ?_, ?_, ⟨rfl, rfl, rfl, Nat.le_refl _, fun _ _ _ => rfl⟩, .inl rfl⟩
   ·simp [Builtin.append_, run_underlying hu, run_underlying (hL.int t' .i64 hk'), sizeOf, typeInfo, hinf, asInt, asIntOf, IntKind.wrap, IntKind.bits, IntKind.signed]
   ·simpa [Builtin.zeroCells] using hown
  ·have hnext : ¬ (281474976710656 < Builtin.nextslicecap m 0 * i'.bytes) := by have := growslice_fits (need := m) (old := 0) (bytes := i'.bytes) (by omega) (by omega); omega
   refine ⟨.slice (some ⟨w.heap.size, 0, none⟩) m (grownCap w m 0 e), w.drew.alloc (.cells (Builtin.zeroCells z'.cells m ++ Builtin.zeroCells z'.cells (grownCap w m 0 e - m)) e), ?_, ?_, ⟨rfl, rfl, rfl, by simp, fun k hk _ => heap_alloc_old w.drew _ hk⟩, .inr rfl⟩
   ·have hn0 : ¬ (m ≤ 0) := by omega
    (have hms : ¬ (m * i'.size = 0) := by rw [hs]; exact Nat.ne_of_gt (Nat.mul_pos (by omega) hsz)); (have h63 : ¬ (9223372036854775807 < (m : Int)) := by omega)
    simp [Builtin.append_, run_underlying hu, run_underlying (hL.int t' .i64 hk'), sizeOf, typeInfo, hinf, asInt, asIntOf, hwr, hneg, hbig, zeroValue, hzero, hn0, hm, hms, h63, hnext, Question.forced, newRow, grownCap, Builtin.firstCells]
   ·have hge := grownCap_ge w m 0 e
    (have hcm' := grownCap_le_maxLen w m 0 e (by unfold maxLen; omega)); (have hlen : (([] : List Value) ++ (Builtin.zeroCells z'.cells m).toList).length = (0 + m) * (L.ti e).sz := by rw [List.nil_append, hzl, Nat.zero_add]); (rw [Nat.zero_add] at hlen ⊢)
    refine ⟨hlen, .inr ⟨w.heap.size, _, _, (0, 0), rfl, .inl rfl, heap_alloc_new w.drew _, hge, hcm', ?_, ?_⟩⟩
    ·rw [Array.size_append, size_zeroCells, size_zeroCells, hcs, ← Nat.add_mul]; congr 1; omega
    ·rw [Array.toList_append, List.nil_append, ← hzl]
     exact List.take_left
 ·by_cases hroom : n + m ≤ cap
  ·obtain ⟨o1, o2⟩ := setCells_own (news := (Builtin.zeroCells z'.cells m).toList) hfz hg hzl hown.1 hroom hcm hcs' htake
   refine ⟨_, _, ?_, o1, o2, .inl rfl⟩
   (have hfit : n * (L.ti e).sz + m * (L.ti e).sz ≤ cur.size := by rw [hcs', ← Nat.add_mul]; exact Nat.mul_le_mul_right _ hroom); (have hst := run_storeCells_cells (P := P) g (n * (L.ti e).sz) (Builtin.zeroCells z'.cells m).toList 0 w (fun j hj => by rw [hzl] at hj; simp [World.cell?, hg]; omega) (fun j hj => notFrozen (fzW hfz) hg (by rw [hzl] at hj; omega)) hz1); (simp only [Nat.add_zero] at hst)
   by_cases hm : m = 0
   ·subst hm
    (have e0 : (Builtin.zeroCells z'.cells 0).toList = [] := List.eq_nil_of_length_eq_zero (by rw [hzl]; simp)); (rw [e0] at hst ⊢)
    simp [Builtin.append_, run_underlying hu, run_underlying (hL.int t' .i64 hk'), sizeOf, typeInfo, hinf, asInt, asIntOf, hnc, storeCells, World.setCells, IntKind.wrap, IntKind.bits, IntKind.signed]
   ·have hms : ¬ (m * i'.size = 0) := by rw [hs]; exact Nat.ne_of_gt (Nat.mul_pos (by omega) hsz)
    have hms' : ¬ (m * (L.ti e).sz = 0) := by rw [← hs]; exact hms
    simp [Builtin.append_, run_underlying hu, run_underlying (hL.int t' .i64 hk'), sizeOf, typeInfo, hinf, asInt, asIntOf, hwr, hneg, hbig, zeroValue, hzero, hms, hms', hroom, Addr.add_lit, hs, hst]
  ·have hm : m ≠ 0 := by omega
   (have hms : ¬ (m * i'.size = 0) := by rw [hs]; exact Nat.ne_of_gt (Nat.mul_pos (by omega) hsz)); (have h63 : ¬ (9223372036854775807 < (n : Int) + (m : Int)) := by omega); (have hnext : ¬ (281474976710656 < Builtin.nextslicecap (n + m) cap * i'.bytes) := by have := growslice_fits (need := n + m) (old := cap) (bytes := i'.bytes) (by omega) (by omega); omega); (have hf := run_firstCells_some (P := P) w.drew i'.size n ⟨g, 0, none⟩ n cap cells (by rw [hs]; exact hown.1) (by simpa using hown.cells (g := g) rfl)); (have hge := grownCap_ge w (n + m) cap e); (have hcm' := grownCap_le_maxLen w (n + m) cap e hnm); (have hlen : (cells ++ (Builtin.zeroCells z'.cells m).toList).length = (n + m) * (L.ti e).sz := by rw [List.length_append, hown.1, hzl, Nat.add_mul])
   refine ⟨.slice (some ⟨w.heap.size, 0, none⟩) (n + m) (grownCap w (n + m) cap e), w.drew.alloc (.cells (cells.toArray ++ Builtin.zeroCells z'.cells m ++ Builtin.zeroCells z'.cells (grownCap w (n + m) cap e - (n + m))) e), ?_, ⟨hlen, .inr ⟨w.heap.size, _, _, (0, 0), rfl, .inl rfl, heap_alloc_new w.drew _, hge, hcm', ?_, ?_⟩⟩, ⟨rfl, rfl, rfl, by simp, fun k hk _ => heap_alloc_old w.drew _ hk⟩, .inr rfl⟩
   ·simp [Builtin.append_, run_underlying hu, run_underlying (hL.int t' .i64 hk'), sizeOf, typeInfo, hinf, asInt, asIntOf, hwr, hneg, hbig, zeroValue, hzero, hm, hms, h63, hroom, hnext, Question.forced, newRow, grownCap, hf]
   ·rw [Array.size_append, Array.size_append, size_zeroCells, size_zeroCells, hcs, List.size_toArray, hown.1, ← Nat.add_mul, ← Nat.add_mul]; congr 1; omega
   ·rw [Array.toList_append, Array.toList_append, ← hlen]
    exact List.take_left
theorem out_convBytes (hL : LayOk P L) {o : Oper} {ks : List Key} (A : At L E st V a w o ks) {src dst e : TypeId} {x : Operand} (ho : o.op = .convert src dst x) {s : ByteArray} (hx : rdo st x = .v (.string s)) (hd : (L.ti dst).kind = .slice e) (hs : okT L src = true) (hk : (L.ti e).kind = .int .u8) (hsz : s.size ≤ 9223372036854775807) {i0 : Nat} (hi : (2, i0) ∈ ks) :
  Out P L E st o a w { val := .own i0, rows := [(i0, some ⟨e, false, s.data.toList.map (ofByte L e)⟩)] } := by
 (have e1 := (hx ▸ A.rel.opd x).v_inv.1); (obtain ⟨d, hu⟩ := okT_und hL hs); (have hdu := (slice_kind hL hd).1); (have hb : s.data.toList.length = s.size := by rw [Array.length_toList]; rfl); (have hs1 := (hL.byte e hk).1); (have hlen : (s.data.toList.map (ofByte L e)).length = s.size := by rw [List.length_map, hb]); (have hold : ∀ k, k < w.heap.size → (Lib.bytesWorld w e s).heap[k]? = w.heap[k]? := fun k hk => Lib.bytesWorld_at_old w e s k hk); (have hsize : (Lib.bytesWorld w e s).heap.size = w.heap.size + 1 := Lib.bytesWorld_size w e s)
 refine ⟨_, _, ?_, _, .inl ⟨_, rfl, A.rel.newRow A.clean A.dst hi frd_nil (v0 := .slice (some ⟨w.heap.size, 0, none⟩) s.size (grownCap w s.size 0 e)) (w' := Lib.bytesWorld w e s) (by omega) rfl rfl rfl (fun k hk => .inl (hold k hk)) (fun k _ hk => ?_) ⟨(fun h => by cases h), fun _ => ?_⟩⟩⟩
 ·unfold execOp
  simp only [ho, e1, Sem.run_bind, Lib.run_convert_string_bytes w src dst e s hu hdu (hL.int e .u8 hk)]
  rfl
 ·simp [Value.ownBlock] at hk; left; omega
 ·have hv : (V.withRow i0 (.slice (some ⟨w.heap.size, 0, none⟩) s.size (grownCap w s.size 0 e))).rv i0 = .slice (some ⟨w.heap.size, 0, none⟩) s.size (grownCap w s.size 0 e) := by simp [Vl.withRow]
  (rw [hv]); (have hge := grownCap_ge w s.size 0 e); (have hcm := grownCap_le_maxLen w s.size 0 e (by unfold maxLen; omega))
  have hcz : (Lib.bytesCells w e s).size = grownCap w s.size 0 e := by
   (have h1 : s.data.size = s.size := rfl); (simp only [Lib.bytesCells, Array.size_append, Array.size_map, Array.size_replicate, h1]; omega)
  clear hv
  generalize grownCap w s.size 0 e = G at hge hcm hcz
  conv => arg 4; rw [← hlen]
  refine rowOk_newT (.inr ⟨Nat.le_refl _, hs1⟩) (Lib.bytesWorld_at_new w e s) (by rw [hlen]; exact hge) hcm (by rw [hcz, hs1, Nat.mul_one]) fun q j hq hj => ?_
  (rw [hs1] at hj); (obtain rfl : j = 0 := by omega); (rw [hlen] at hq)
  refine ⟨.int .u8 (s.data.toList.getD q 0).toNat, ?_, ?_⟩
  ·rw [hs1, Nat.mul_one, Nat.add_zero]
   (have := Lib.bytesWorld_cell w e s q hq); (rw [cell_of_row _ _ _ _ _ _ (Lib.bytesWorld_at_new w e s)] at this)
   exact this
  ·rw [List.getElem_map, ofByte_cell hL hk, getD_lt (by omega) (0 : UInt8)]
   exact CR.v (L := L) (.int .u8 _) rfl
end
end Go.Proofs.YtfeikakkfnnaoaaGreatDoor.V
namespace Go.Proofs.YtfeikakkfnnaoaaGreatDoor.V
open Go
set_option linter.unusedVariables false
set_option linter.unusedSimpArgs false
section
variable {P : Program} {L : Lay} {E : Ent} {st : St L.D} {V : Vl} {a : Act} {w : World}
theorem castL_eq {D : TypeId → Type} {t t' : TypeId} {xs : List (D t)} {ys : List (D t')} (h : castL xs = some ys) : ∃ e : t = t', ys = e ▸ xs := by
 unfold castL at h
 split at h
 ·rename_i e; exact ⟨e, (Option.some.inj h).symm⟩
 ·cases h
def CellsOk (L : Lay) (w : World) (F : FS) (e : TypeId) (xs : List (L.D e)) (cells : List Value) : Prop :=
 cells.length = xs.length * (L.ti e).sz ∧ (∀ u ∈ cells, u.oneCell' = true) ∧ ∀ i j, (h : i < xs.length) → j < (L.ti e).sz → CR L w F ((L.cell e xs[i]).getD j .dead) (cells.getD (i * (L.ti e).sz + j) undef)
theorem CellsOk.app {w : World} {F : FS} {e : TypeId} {xs ys : List (L.D e)} {c d : List Value} (h : CellsOk L w F e xs c) (h' : CellsOk L w F e ys d) : CellsOk L w F e (xs ++ ys) (c ++ d) := by
 refine ⟨by rw [List.length_append, h.1, h'.1, List.length_append, Nat.add_mul], fun u hu => (List.mem_append.1 hu).elim (h.2.1 u) (h'.2.1 u), fun i j hi hj => ?_⟩
 by_cases hx : i < xs.length
 ·have hlt : i * (L.ti e).sz + j < c.length := by
   (have : (i + 1) * (L.ti e).sz ≤ xs.length * (L.ti e).sz := Nat.mul_le_mul_right _ hx); (rw [Nat.add_mul] at this); (rw [h.1]; omega)
  have e1 : (c ++ d).getD (i * (L.ti e).sz + j) undef = c.getD (i * (L.ti e).sz + j) undef := by
   rw [List.getD_eq_getElem?_getD, List.getD_eq_getElem?_getD, List.getElem?_append_left hlt]
  rw [e1, List.getElem_append_left hx]
  exact h.2.2 i j hx hj
 ·have hx' : xs.length ≤ i := by omega
  (have hy : i - xs.length < ys.length := by rw [List.length_append] at hi; omega); (have hm : i * (L.ti e).sz = xs.length * (L.ti e).sz + (i - xs.length) * (L.ti e).sz := by rw [← Nat.add_mul]; congr 1; omega)
  have e1 : (c ++ d).getD (i * (L.ti e).sz + j) undef = d.getD ((i - xs.length) * (L.ti e).sz + j) undef := by
   rw [List.getD_eq_getElem?_getD, List.getD_eq_getElem?_getD, List.getElem?_append_right (by rw [h.1]; omega), h.1]
   congr 2
   omega
  rw [e1, List.getElem_append_right hx']
  exact h'.2.2 _ j hy hj
theorem CellsOk.mono {w w' : World} {F F' : FS} (hF : Le w w' F F') {e : TypeId} {xs : List (L.D e)} {c : List Value} (h : CellsOk L w F e xs c) : CellsOk L w' F' e xs c :=
 ⟨h.1, h.2.1, fun i j hi hj => (h.2.2 i j hi hj).mono hF⟩
theorem old_ok (h : Rel L E st V a w) {e t : TypeId} {s : SV L.D} {v : Value} (hv : SR L w (Fz E st V w) st V a.tmps s v) {xs : List (L.D e)} {u : List (Nat × Option (Row L.D))}
  (hs : (∃ t, s = .nl t ∧ xs = [] ∧ u = []) ∨ ∃ j r, s = .own j ∧ st.row j = some r ∧ r.fz = false ∧ castL r.xs = some xs ∧ u = [(j, none)]) :
  Frd st u ∧ (∀ k, v.ownBlock = some k → Gone st V u k) ∧ ∃ cells, ownsT w e (L.ti e).sz v xs.length cells ∧ CellsOk L w (Fz E st V w) e xs cells := by
 rcases hs with ⟨t, rfl, rfl, rfl⟩ | ⟨j, r, rfl, hr, hf, hc, rfl⟩
 ·rw [hv.nl_inv]
  exact ⟨frd_nil, fun k hk => (by cases hk), [], ⟨by simp, .inl ⟨rfl, rfl⟩⟩, by simp, (fun u hu => (by cases hu)), fun i j hi => absurd hi (Nat.not_lt_zero i)⟩
 ·rw [hv.own_inv hr]
  refine ⟨fun j' o hm => ?_, fun k hk => ⟨j, r, by simp [look], hr, hf, hk⟩, ?_⟩
  ·obtain ⟨rfl, rfl⟩ := Prod.mk.inj (List.mem_singleton.1 hm)
   exact ⟨r, hr, .inl rfl⟩
  ·obtain ⟨he, rfl⟩ := castL_eq hc
   (subst he); (obtain ⟨cells, ho, h1, hcr⟩ := (h.row j r hr).2 hf)
   exact ⟨cells, ho, ho.1, h1, hcr⟩
theorem news_ok (hL : LayOk P L) (h : Rel L E st V a w) {e t t' : TypeId} (hk : elemOf L t = some e) {s : SV L.D} {x : Value} (hx : SR L w (Fz E st V w) st V a.tmps s x) {ys : List (L.D e)} (hs : tail_ L st e t t' s = some ys) (h0 : tailP s = true) (ty : TypeId) {v : Value} {n : Nat} {cells : List Value} (hown : ownsT w e (L.ti e).sz v n cells) (hb : ((n : Int) + ys.length) * (L.ti e).bytes ≤ 70368744177664) :
  ∃ v' w' news, (Builtin.append_ #[t, t'] ty #[v, x]).run P w = .ok v' w' ∧ ownsT w' e (L.ti e).sz v' (n + ys.length) (cells ++ news) ∧ w.grownBy w' v.ownBlock ∧ (v'.ownBlock = v.ownBlock ∨ v'.ownBlock = some w.heap.size) ∧ CellsOk L w (Fz E st V w) e ys news := by
 unfold tail_ at hs
 split at hs
 ·rename_i b
  split at hs
  ·rename_i hke hk'
   (obtain rfl := Option.some.inj hs); (have hlen : (b.data.toList.map (ofByte L e)).length = b.size := by simp); (rw [hlen] at hb); (obtain ⟨v', w', h1, h2, h3, h4⟩ := append_bytes hL hk hk' hke ty hown b hb); (rw [hx.v_inv.1, hlen])
   refine ⟨v', w', Lib.strCells b, h1, h2, h3, h4, ?_, fun u hu => ?_, fun i j hi hj => ?_⟩
   ·rw [hlen, (hL.byte e hke).1, Nat.mul_one]; simp [Lib.strCells]
   ·obtain ⟨q, _, rfl⟩ := List.mem_map.1 hu; rfl
   ·have hs1 := (hL.byte e hke).1
    (obtain rfl : j = 0 := by omega); (have hib : i < b.data.toList.length := by simpa using hi); (rw [List.getElem_map, ofByte_cell hL hke, hs1, Nat.mul_one, Nat.add_zero, getD_lt (show i < (Lib.strCells b).length by simpa [Lib.strCells] using hib)]); (simp only [Lib.strCells, List.getElem_map])
    exact .v _ rfl
  ·cases hs
 ·rename_i m
  split at hs
  ·rename_i hk'
   (obtain rfl := Option.some.inj hs); (have hm : 0 ≤ m := of_decide_eq_true h0); (obtain ⟨q, rfl⟩ : ∃ q : Nat, m = (q : Int) := ⟨m.toNat, by omega⟩); (rw [Int.toNat_natCast] at hb ⊢); (rw [List.length_replicate] at hb ⊢); (obtain rfl := hx.v_inv.1); (obtain ⟨hu, hko, ⟨t1, hke⟩, hsz, i, z, hinf, hs1, hb1, hz, hb0⟩ := elem_info hL hk); (obtain ⟨i', z', hinf', _, _, hz', hcs, _, _, hzl, hzj⟩ := hL.info e hko); (obtain rfl : i' = i := Option.some.inj (hinf'.symm.trans hinf)); (obtain rfl : z' = z := Option.some.inj (hz'.symm.trans hz))
   have hone : ∀ u ∈ z'.cells.toList, u.oneCell' = true := fun u hu' => by
    (obtain ⟨j, hj, rfl⟩ := List.getElem_of_mem hu'); (rw [Array.length_toList] at hj); (obtain ⟨u, e1, h1, _⟩ := hzj j (by omega)); (rw [Array.getElem_toList]); (rw [Array.getElem?_eq_getElem hj] at e1); (rw [Option.some.inj e1]; exact h1)
   (obtain ⟨v', w', h1, h2, h3, h4⟩ := append_zeros hL hk hk' ty hown hb hinf hz hone); (have hzd := hL.zd t1 e hke)
   refine ⟨v', w', _, h1, h2, h3, h4, by rw [Array.length_toList, size_zeroCells, hcs, List.length_replicate], fun u hu => ?_, fun i j hi hj => ?_⟩
   ·rw [Array.mem_toList_iff] at hu
    unfold Builtin.zeroCells at hu
    (obtain ⟨p, hp, rfl⟩ := Array.mem_map.1 hu); (have hlt : p % z'.cells.size < z'.cells.size := Nat.mod_lt _ (by rw [hcs]; exact hsz)); (rw [getElem!_pos z'.cells _ hlt])
    exact hone _ (by rw [Array.mem_toList_iff]; exact Array.getElem_mem hlt)
   ·rw [List.length_replicate] at hi
    obtain ⟨u, hu', h1', hcz⟩ := hzj j (by omega)
    have hlt : i * (L.ti e).sz + j < q * (L.ti e).sz := by
     (have : (i + 1) * (L.ti e).sz ≤ q * (L.ti e).sz := Nat.mul_le_mul_right _ hi); (rw [Nat.add_mul] at this; omega)
    have hmod : (i * (L.ti e).sz + j) % z'.cells.size = j := by rw [hcs, Nat.mul_comm, Nat.mul_add_mod, Nat.mod_eq_of_lt hj]
    have e1 : (Builtin.zeroCells z'.cells q).toList.getD (i * (L.ti e).sz + j) undef = u := by
     rw [List.getD_eq_getElem?_getD, Array.getElem?_toList]
     unfold Builtin.zeroCells
     rw [Array.getElem?_map, Array.getElem?_range, if_pos (by rw [hcs]; exact hlt), Option.map_some, Option.getD_some, hmod, Array.getElem!_eq_getD, Array.getD_eq_getD_getElem?, hu']
     rfl
    have : ((L.zero e).map (canonT (L.labd e))).getD j .dead = canonT (L.labd e) ((L.zero e)[j]'(by omega)) := by
     rw [getD_lt (by simp; omega), List.getElem_map]
    rw [e1, List.getElem_replicate, hzd, this]
    exact .of_zero h1' hcz
  ·cases hs
 ·split at hs
  ·rename_i r hbq hr
   (have := Nat.eq_of_beq_eq_true hbq); (subst this); (obtain ⟨he, rfl⟩ := castL_eq hs); (subst he); (obtain ⟨A, c, rfl, hA⟩ := rowCells h hr hx); (have hsz := (elem_info hL hk).2.2.2.1)
   by_cases hnil : r.xs = []
   ·have h0 : r.xs.length = 0 := by rw [hnil]; rfl
    obtain ⟨v', w', h1, h2, h3, h4⟩ := append_cells hL hk ty (A := A) (m := r.xs.length) (c := c) (f := fun _ _ => undef) hown (fun hne => absurd h0 hne) (fun i j hi => by omega) hb
    exact ⟨v', w', _, h1, h2, h3, h4, by simp, fun u hu => (by simp [h0] at hu), fun i j (hi : i < r.xs.length) => by omega⟩
   ·obtain ⟨b, off, f, rfl, hc, hcr⟩ := hA hnil
    obtain ⟨v', w', h1, h2, h3, h4⟩ := append_cells hL hk ty (A := some ⟨b, off, none⟩) (m := r.xs.length) (c := c) (f := f) hown (fun _ => ⟨b, off, rfl, hc⟩) (fun i j hi hj => (hcr i j hi hj).one) hb
    refine ⟨v', w', _, h1, h2, h3, h4, by simp, fun u hu => ?_, fun i j hi hj => ?_⟩
    ·obtain ⟨q, hq, rfl⟩ := List.mem_map.1 hu
     have hlt := List.mem_range.1 hq
     exact (hcr _ _ (Nat.div_lt_of_lt_mul (by rw [Nat.mul_comm]; exact hlt)) (Nat.mod_lt _ hsz)).one
    ·have hlt : i * (L.ti r.t).sz + j < r.xs.length * (L.ti r.t).sz := by
      (have : (i + 1) * (L.ti r.t).sz ≤ r.xs.length * (L.ti r.t).sz := Nat.mul_le_mul_right _ hi); (rw [Nat.add_mul] at this; omega)
     have e1 : ((List.range (r.xs.length * (L.ti r.t).sz)).map fun q => f (q / (L.ti r.t).sz) (q % (L.ti r.t).sz)).getD (i * (L.ti r.t).sz + j) undef = f i j := by
      rw [List.getD_eq_getElem?_getD, cells_list _ _ f hsz _ hlt, Option.getD_some]
      congr 1
      ·rw [Nat.mul_comm, Nat.mul_add_div hsz, Nat.div_eq_of_lt hj, Nat.add_zero]
      ·rw [Nat.mul_comm, Nat.mul_add_mod, Nat.mod_eq_of_lt hj]
     rw [e1]
     exact hcr i j hi hj
  ·cases hs
theorem out_append (hL : LayOk P L) {o : Oper} {ks : List Key} (A : At L E st V a w o ks) {x y : Operand} {t t' e : TypeId} (ho : o.op = .call { callee := .builtin .append, args := #[x, y], argTypes := #[t, t'] }) (hk : elemOf L t = some e) {xs ys : List (L.D e)} {u : List (Nat × Option (Row L.D))}
  (hs : (∃ t', rdt L st t x = .nl t' ∧ xs = [] ∧ u = []) ∨ ∃ j r, rdt L st t x = .own j ∧ st.row j = some r ∧ r.fz = false ∧ castL r.xs = some xs ∧ u = [(j, none)]) (ht : tail_ L st e t t' (rdt L st t' y) = some ys) (hp : tailP (rdt L st t' y) = true)
  (hb : ((xs.length : Int) + ys.length) * (L.ti e).bytes ≤ 70368744177664) {i0 : Nat} (hi : (2, i0) ∈ ks) : Out P L E st o a w { val := .own i0, rows := (i0, some ⟨e, false, xs ++ ys⟩) :: u } := by
 (obtain ⟨hu, hgone, cells, hown, hcells⟩ := old_ok (t := t) A.rel (A.rel.opdT t x) hs); (obtain ⟨v', w', news, hrun, hown', hgrow, hblk, hnews⟩ := news_ok hL A.rel hk (A.rel.opdT t' y) ht hp o.type hown hb)
 have hsame : ∀ k, k < w.heap.size → w'.heap[k]? = w.heap[k]? ∨ Gone st V u k := fun k hk => by
  by_cases hb : (a.eval x).ownBlock = some k
  ·exact .inr (hgone k hb)
  ·exact .inl (hgrow.block k hk (fun e => hb e.symm))
 have hnew : ∀ k, (⟨e, false, xs ++ ys⟩ : Row L.D).fz = false → v'.ownBlock = some k → w.heap.size ≤ k ∨ Gone st V u k := fun k _ hk => by
  rcases hblk with hb | hb
  ·exact .inr (hgone k (hb ▸ hk))
  ·rw [hb] at hk; exact .inl (Nat.le_of_eq (Option.some.inj hk))
 have M := mix_mem (dst := o.dst) (s := .own i0) (i0 := i0) (r0 := ⟨e, false, xs ++ ys⟩) (v0 := v') A.rel hu (w' := w') hgrow.size hsame hnew labStep_nil
 refine ⟨_, _, ?_, _, .inl ⟨_, rfl, A.rel.newRow A.clean A.dst hi hu (v0 := v') (w' := w') hgrow.size hgrow.os hgrow.tape hgrow.output hsame hnew ⟨(fun h => by cases h), fun _ => ?_⟩⟩⟩
 ·unfold execOp
  simp [ho, resolve, invoke, builtin, hrun]
 ·have hv : (V.withRow i0 v').rv i0 = v' := by simp [Vl.withRow]
  (rw [hv]); (have hall := (hcells.app hnews).mono M)
  refine ⟨cells ++ news, ?_, hall.2.1, hall.2.2⟩
  show ownsT w' e (L.ti e).sz v' (xs ++ ys).length (cells ++ news)
  rw [List.length_append]
  exact hown'
end
end Go.Proofs.YtfeikakkfnnaoaaGreatDoor.V
