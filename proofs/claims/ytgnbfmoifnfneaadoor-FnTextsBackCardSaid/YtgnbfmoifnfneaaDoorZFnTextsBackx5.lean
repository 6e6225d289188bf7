/- Part of the proof of the law FnTextsBack: what it uses of the texts that this session and the kit's print wrote. -/
import Derived.Test.YtgnbfmoifnfneaaDoorZFnTextsBackx0
import Derived.Test.YtgnbfmoifnfneaaDoorZFnTextsBackx1
import Derived.Test.YtgnbfmoifnfneaaDoorZFnTextsBackx4
import Derived.KernelRfl
import Derived.Test.YtgnbfmoifnfneaaDoorProg
import Derived.Below
import Derived.Deep.Draws
import Derived.Deep.AppendLies
import Derived.Maps.AppendAt
import Derived.OwnWalk
import Derived.Laws.BytesArg
import Derived.Laws.MakeOwn
import Derived.Laws.OwnMore
import Derived.Deep.OwnRows
import Derived.Tactics
import Derived.Lib.ConvBytes
import Derived.Laws.Slices
import Derived.WalkKit
import Derived.RowKit3
import Derived.Deep.LoopGhost
import Derived.Deep.QuietTactic
import Derived.BigQuiet
import Derived.WideLaws
import Derived.Deep.DeepCutAuto
import Derived.Deep.CutBlock
import Derived.Deep.RegionHeld3
import Derived.Laws.Rows
import Derived.Lib.AppendStr
import Derived.ArgAppend
import Derived.Laws.IdiomCopy
import Derived.OrdersHeld
import Derived.Laws.BitsLemmas
import Derived.RowKit
import Derived.Shelf.Abstract
import Derived.WalkLawsBesides
import Derived.Lib.BufferWrite
import Derived.Laws.CopyOwn
import Derived.Shelf.Strconv.Itoa3
import Derived.Shelf.Lay
import Derived.Ground.NamesProg
import Derived.Lib.AppendIntMem
import Derived.Shelf.Strconv.ErrVarAll
import Derived.Shelf.LaysC
import Derived.Shelf.Strings.Split
import Derived.Shelf.Strings.Search3
import Derived.Shelf.Strings.IndexAnyAll
import Derived.Laws.Runes
import Derived.Laws.RangeAny
import Derived.Shelf.Small.Utf8
import Derived.Lib.OthersKept
import Derived.Lib.DecodeN
import Derived.Lib.TrimUEq
import Derived.Lib.MapLaws
import Derived.WalkMore
import Derived.Deep.RegionHeld
namespace Go.Proofs.YtgnbfmoifnfneaaDoor.V
open Go
set_option linter.unusedVariables false
set_option linter.unusedSimpArgs false
section
variable {D : TypeId → Type}
def zB : SV D → Value → Bool
 | .nl _, .slice none 0 0 => true
 | .v (.int k n), .int k' n' => decide (k = k') && decide (n = n')
 | .v (.bool b), .bool b' => b == b'
 | .v (.string a), .string b => Nat.beq a.size 0 && Nat.beq b.size 0
 | .v (.pointer none), .pointer none => true
 | .v .nilFunc, .nilFunc => true
 | .v .nilIface, .nilIface => true
 | _, _ => false
def zsB : List (SV D) → List Value → Bool
 | [], [] => true
 | s :: l, u :: r => zB s u && zsB l r
 | _, _ => false
theorem zB_ok {s : SV D} {u : Value} (h : zB s u = true) : u.oneCell' = true ∧ (s = .v u ∨ ∃ e, s = .nl e ∧ u = .slice none 0 0) := by
 unfold zB at h
 split at h
 ·exact ⟨rfl, .inr ⟨_, rfl, rfl⟩⟩
 ·simp only [Bool.and_eq_true, decide_eq_true_eq] at h
  obtain ⟨rfl, rfl⟩ := h
  exact ⟨rfl, .inl rfl⟩
 ·simp only [beq_iff_eq] at h
  subst h
  exact ⟨rfl, .inl rfl⟩
 ·rename_i a b
  (simp only [Bool.and_eq_true] at h); (have h1 := Nat.eq_of_beq_eq_true h.1); (have h2 := Nat.eq_of_beq_eq_true h.2)
  have : a = b := by
   (obtain ⟨x⟩ := a); (obtain ⟨y⟩ := b); (have e1 : x = #[] := Array.eq_empty_of_size_eq_zero h1); (have e2 : y = #[] := Array.eq_empty_of_size_eq_zero h2); (rw [e1, e2])
  subst this
  exact ⟨rfl, .inl rfl⟩
 ·exact ⟨rfl, .inl rfl⟩
 ·exact ⟨rfl, .inl rfl⟩
 ·exact ⟨rfl, .inl rfl⟩
 ·cases h
theorem zsB_ok : ∀ {l : List (SV D)} {r : List Value}, zsB l r = true → l.length = r.length ∧ ∀ j (h : j < l.length), ∃ u, r[j]? = some u ∧ u.oneCell' = true ∧ (l[j] = .v u ∨ ∃ e, l[j] = .nl e ∧ u = .slice none 0 0)
 | [], [], _ => ⟨rfl, fun j h => absurd h (Nat.not_lt_zero j)⟩
 | [], _ :: _, h => by cases h
 | _ :: _, [], h => by cases h
 | s :: l, u :: r, h => by
  (simp only [zsB, Bool.and_eq_true] at h); (obtain ⟨h1, h2⟩ := zsB_ok h.2)
  refine ⟨by simp [h1], fun j hj => ?_⟩
  cases j with
  | zero => exact ⟨u, rfl, zB_ok h.1⟩
  | succ j => simpa using h2 j (by simpa using hj)
end
def aggB : Value → Bool
 | .agg _ => true
 | _ => false
def infoB (P : Program) (L : Lay) (t : TypeId) : Bool := match P.info? t with
 | some i => match i.zero with
  | some z => Nat.beq i.size (L.ti t).sz && Nat.beq i.bytes (L.ti t).bytes && Nat.beq z.cells.size (L.ti t).sz && (match isAgg L t with | true => aggB z | false => z.oneCell' && Nat.beq (L.ti t).sz 1) && zsB (L.zero t) z.cells.toList
  | none => false
 | none => false
def fieldsB (P : Program) : List (Nat × Nat) → List Field → Bool
 | [], [] => true
 | (q, n) :: l, f :: r => Nat.beq f.offset q && (match P.info? f.type with | some i => Nat.beq i.size n | none => false) && fieldsB P l r
 | _, _ => false
def typeB (P : Program) (L : Lay) (t : TypeId) : Bool := match (L.ti t).kind, P.underlying t with
 | .int k, some (.int k') => decide (k = k')
 | .bool, some .bool => true
 | .str, some .string => true
 | .slice e, some (.slice e') => Nat.beq e e' && okT L e && Nat.blt 0 (L.ti e).sz && Nat.blt 0 (L.ti e).bytes
 | .struct fs, some (.struct fields) => fieldsB P fs fields.toList
 | .ptr _, some (.pointer _) => true
 | _, _ => false
theorem fieldsB_ok {P : Program} : ∀ {fs : List (Nat × Nat)} {l : List Field}, fieldsB P fs l = true → l.length = fs.length ∧ ∀ (j q n : Nat), fs[j]? = some (q, n) → ∃ (f : Field) (i : TypeInfo), l[j]? = some f ∧ f.offset = q ∧ P.info? f.type = some i ∧ i.size = n
 | [], [], _ => ⟨rfl, fun j q n h => by cases h⟩
 | [], _ :: _, h => by cases h
 | (_, _) :: _, [], h => by cases h
 | (q, n) :: l, f :: r, h => by
  (simp only [fieldsB, Bool.and_eq_true] at h); (obtain ⟨h1, h2⟩ := fieldsB_ok h.2)
  refine ⟨by simp [h1], fun j q' n' hj => ?_⟩
  cases j with
  | zero =>
   (obtain ⟨rfl, rfl⟩ := Prod.mk.inj (Option.some.inj hj)); (have := h.1.2)
   split at this
   ·rename_i i hi
    exact ⟨f, i, rfl, Nat.eq_of_beq_eq_true h.1.1, hi, Nat.eq_of_beq_eq_true this⟩
   ·cases this
  | succ j => simpa using h2 j q' n' (by simpa using hj)
def scalB (P : Program) : Nat → TypeId → Bool
 | 1, t => match P.underlying t with
  | some (.int _) => true
  | _ => false
 | 2, t => match P.underlying t with
  | some .bool => true
  | _ => false
 | 3, t => match P.underlying t with
  | some .string => true
  | _ => false
 | _, _ => false
def fldsB (P : Program) : Nat → List Nat → List Field → Bool
 | _, [], [] => true
 | j, n :: l, f :: r => !(f.name == "_") && Nat.beq f.offset j && scalB P n f.type && fldsB P (j + 1) l r
 | _, _, _ => false
def eqtB (P : Program) (t : TypeId) (ns : List Nat) : Bool := match P.underlying t with
 | some (.struct fs) => !P.stoodInHeld t && !P.eqGuardType P.depth t && fldsB P 0 ns fs.toList
 | _ => false
theorem scalB_ok {P : Program} {n : Nat} {t : TypeId} (h : scalB P n t = true) : ScalT P n t := by
 unfold scalB at h
 split at h
 ·split at h
  ·rename_i k hk; exact ⟨k, hk⟩
  ·cases h
 ·split at h
  ·rename_i hk; exact hk
  ·cases h
 ·split at h
  ·rename_i hk; exact hk
  ·cases h
 ·cases h
theorem fldsB_ok {P : Program} : ∀ {j : Nat} {ns : List Nat} {l : List Field}, fldsB P j ns l = true → l.length = ns.length ∧ ∀ i n f, ns[i]? = some n → l[i]? = some f → FldT P (j + i) n f
 | _, [], [], _ => ⟨rfl, fun i n f h => by simp at h⟩
 | _, [], _ :: _, h => by cases h
 | _, _ :: _, [], h => by cases h
 | j, n :: ns, f :: l, h => by
  (simp only [fldsB, Bool.and_eq_true, Bool.not_eq_true'] at h); (obtain ⟨h1, h2⟩ := fldsB_ok h.2)
  refine ⟨by simp [h1], fun i n' f' hi hf => ?_⟩
  cases i with
  | zero =>
   (obtain rfl := Option.some.inj hi); (obtain rfl := Option.some.inj hf)
   exact ⟨h.1.1.1, Nat.eq_of_beq_eq_true h.1.1.2, scalB_ok h.1.2⟩
  | succ i =>
   have := h2 i n' f' (by simpa using hi) (by simpa using hf)
   rwa [show j + 1 + i = j + (i + 1) by omega] at this
theorem eqtB_ok {P : Program} {t : TypeId} {ns : List Nat} (h : eqtB P t ns = true) : ∃ fs : Array Field, P.underlying t = some (.struct fs) ∧ P.stoodInHeld t = false ∧ P.eqGuardType P.depth t = false ∧ fs.toList.length = ns.length ∧ ∀ j n f, ns[j]? = some n → fs.toList[j]? = some f → FldT P j n f := by
 unfold eqtB at h
 split at h
 ·rename_i fs hu
  (simp only [Bool.and_eq_true, Bool.not_eq_true'] at h); (obtain ⟨h1, h2⟩ := fldsB_ok h.2)
  exact ⟨fs, hu, h.1.1, h.1.2, h1, fun j n f a b => by have := h2 j n f a b; rwa [Nat.zero_add] at this⟩
 ·cases h
structure LayL (L : Lay) : Prop where
 byte : ∀ e, (L.ti e).kind = .int .u8 → (L.ti e).sz = 1 ∧ (L.ti e).bytes = 1 ∧ (L.zero e) = [.v (.int .u8 0)] ∧ (∀ n, ∃ x, L.make e [.v (.int .u8 n)] = some x) ∧ ∀ x, ∃ n, L.cell e x = [.v (.int .u8 n)]
 cell : ∀ t x, (L.cell t x).length = (L.ti t).sz
 form : ∀ t x s, s ∈ L.cell t x → (∃ u, s = .v u ∧ u.oneCell' = true) ∨ ∃ e ys, s = .ro e ys
 make : ∀ t cs x, L.make t cs = some x → L.cell t x = cs.map canon
 flat : ∀ t x, (L.zero t).any isNl = false → ∀ s, s ∈ L.cell t x → ∃ u, s = .v u
 zd : ∀ t e, (L.ti t).kind = .slice e → L.cell e (L.zd e) = (L.zero e).map canon
theorem layOk_of {P : Program} {L : Lay} {ts : List TypeId} (h0 : ∀ t, (L.ti t).kind ≠ .other → t ∈ ts) (hB : ts.all (fun t => infoB P L t && typeB P L t) = true) (hE : ∀ t, L.eqt t ≠ [] → eqtB P t (L.eqt t) = true) (hL : LayL L) : LayOk P L := by
 have at_ : ∀ t, (L.ti t).kind ≠ .other → infoB P L t = true ∧ typeB P L t = true := fun t h => by
  have := List.all_eq_true.1 hB t (h0 t h)
  simpa using this
 have info : ∀ t, (L.ti t).kind ≠ .other → ∃ i z, P.info? t = some i ∧ i.size = (L.ti t).sz ∧ i.bytes = (L.ti t).bytes ∧ i.zero = some z ∧ z.cells.size = (L.ti t).sz ∧ (isAgg L t = true → ∃ cs, z = .agg cs) ∧ (isAgg L t = false → z.oneCell' = true ∧ (L.ti t).sz = 1) ∧ zsB (L.zero t) z.cells.toList = true := fun t h => by
  have := (at_ t h).1
  unfold infoB at this
  split at this
  ·rename_i i hi
   split at this
   ·rename_i z hz
    simp only [Bool.and_eq_true] at this
    refine ⟨i, z, hi, Nat.eq_of_beq_eq_true this.1.1.1.1, Nat.eq_of_beq_eq_true this.1.1.1.2, hz, Nat.eq_of_beq_eq_true this.1.1.2, fun ha => ?_, fun ha => ?_, this.2⟩
    ·have h2 := this.1.2
     rw [ha] at h2
     cases z <;> first | exact ⟨_, rfl⟩ | cases h2
    ·have h2 := this.1.2
     (rw [ha] at h2); (simp only [Bool.and_eq_true] at h2)
     exact ⟨h2.1, Nat.eq_of_beq_eq_true h2.2⟩
   ·cases this
  ·cases this
 have nk : ∀ {t : TypeId} {k : TK}, (L.ti t).kind = k → k ≠ .other → (L.ti t).kind ≠ .other := fun h h' e => h' (h.symm.trans e)
 refine ⟨fun t e hk => ?_, fun t k hk => ?_, fun t hk => ?_, fun t hk => ?_, fun t fs hk => ?_, fun t ha hk => ?_, fun t ha hk => ?_, fun t hk => ?_, hL.byte, hL.cell, hL.form, hL.make, hL.flat, hL.zd, fun t h => eqtB_ok (hE t h)⟩
 ·have := (at_ t (nk hk (by simp))).2
  unfold typeB at this
  rw [hk] at this
  split at this <;> first | (rename_i heq _; cases heq; done) | skip
  ·rename_i e1 e2 hk' hu
   injection hk' with hk'
   (subst hk'); (simp only [Bool.and_eq_true] at this); (obtain rfl := Nat.eq_of_beq_eq_true this.1.1.1)
   have hko : (L.ti e).kind ≠ .other := by
    intro h; have := this.1.1.2; simp [okT, h] at this
   obtain ⟨i, z, g1, g2, g3, g4, _⟩ := info e hko
   exact ⟨hu, hko, by have := this.1.2; simpa [Nat.blt_eq] using this, i, z, g1, g2, g3, g4, by rw [g3]; have := this.2; simpa [Nat.blt_eq] using this⟩
  ·cases this
 ·have := (at_ t (nk hk (by simp))).2
  unfold typeB at this
  rw [hk] at this
  split at this <;> first | (rename_i heq _; cases heq; done) | skip
  ·rename_i k1 k2 hk' hu
   injection hk' with hk'
   (subst hk'); (rw [hu, of_decide_eq_true this])
  ·cases this
 ·have := (at_ t (nk hk (by simp))).2
  unfold typeB at this
  rw [hk] at this
  split at this <;> first | (rename_i heq _; cases heq; done) | (rename_i hu; exact hu) | skip
  all_goals cases this
 ·have := (at_ t (nk hk (by simp))).2
  unfold typeB at this
  rw [hk] at this
  split at this <;> first | (rename_i heq _; cases heq; done) | (rename_i hu; exact hu) | skip
  all_goals cases this
 ·have := (at_ t (nk hk (by simp))).2
  unfold typeB at this
  rw [hk] at this
  split at this <;> first | (rename_i heq _; cases heq; done) | skip
  ·rename_i f1 fields hk' hu
   injection hk' with hk'
   (subst hk'); (obtain ⟨g1, g2⟩ := fieldsB_ok this)
   exact ⟨fields, hu, by simpa using g1, fun j q n h => by simpa using g2 j q n h⟩
  ·cases this
 ·have := (at_ t hk).2
  unfold typeB at this
  split at this
  ·rename_i hu; exact ⟨_, hu, (fun fs e => by cases e), (fun n e e' => by cases e')⟩
  ·rename_i hu; exact ⟨_, hu, (fun fs e => by cases e), (fun n e e' => by cases e')⟩
  ·rename_i hu; exact ⟨_, hu, (fun fs e => by cases e), (fun n e e' => by cases e')⟩
  ·rename_i hu; exact ⟨_, hu, (fun fs e => by cases e), (fun n e e' => by cases e')⟩
  ·rename_i hk' _; unfold isAgg at ha; rw [hk'] at ha; cases ha
  ·rename_i hu; exact ⟨_, hu, (fun fs e => by cases e), (fun n e e' => by cases e')⟩
  ·cases this
 ·obtain ⟨_, _, _, _, _, _, _, _, h1, _⟩ := info t hk
  exact (h1 ha).2
 ·obtain ⟨i, z, g1, g2, g3, g4, g5, g6, g7, g8⟩ := info t hk
  obtain ⟨z1, z2⟩ := zsB_ok g8
  refine ⟨i, z, g1, g2, g3, g4, g5, g6, fun ha => (g7 ha).1, by rw [z1, Array.length_toList (xs := z.cells)]; exact g5, fun j hj => ?_⟩
  obtain ⟨u, k1, k2, k3⟩ := z2 j hj
  exact ⟨u, by rw [← Array.getElem?_toList]; exact k1, k2, k3⟩
end Go.Proofs.YtgnbfmoifnfneaaDoor.V
namespace Go.Proofs.YtgnbfmoifnfneaaDoor.V
open Go
set_option linter.unusedVariables false
set_option linter.unusedSimpArgs false
section
variable {P : Program} {L : Lay}
def lawE (W : World) (n : Nat) : Ent := { nt := n, w0 := W, F0 := fun k => k < W.heap.size, Imp := fun _ => False, adr := [] }
def lawV : Vl := { ba := fun _ => 0, bo := fun _ => 0, rv := fun _ => .slice none 0 0 }
def FlatArg (L : Lay) (W : World) (s : SV L.D) (v : Value) : Prop := (∀ cs, s ≠ .pb cs) ∧ ∀ st V tm (F : Nat → Prop), (∀ k, k < W.heap.size → F k) → SR L W F st V tm s v
theorem start_none : ∀ (p : Nat) (az : List (SV L.D)), (∀ s ∈ az, ∀ cs, s ≠ .pb cs) → startB L p az = ([], [])
 | _, [], _ => rfl
 | p, s :: l, h => by
  (have h1 := start_none (p + 1) l fun s hs => h s (List.mem_cons_of_mem _ hs)); (have h2 := h s List.mem_cons_self)
  cases s <;> first | exact h1 | exact absurd rfl (h2 _)
theorem start_flat {W : World} {az : List (SV L.D)} {vals : List Value} (hl : az.length = vals.length) (h : ∀ p, p < az.length → FlatArg L W (az.getD p .dead) (vals.getD p undef)) : Rel L (lawE W vals.length) (start L az) lawV ⟨vals.toArray, []⟩ W := by
 have hn : startB L 0 az = ([], []) := start_none 0 az fun s hs cs e => by
  (obtain ⟨p, hp, rfl⟩ := List.getElem_of_mem hs); (have := (h p hp).1 cs); (rw [getD_lt hp] at this)
  exact this e
 (have hb : ∀ b, (start L az).box b = none := fun b => by unfold St.box start; rw [hn]; rfl); (have hr : ∀ b, (start L az).row b = none := fun b => by unfold St.row start; rw [hn]; rfl); (have hi : (start L az).imps = [] := by unfold start; rw [hn]; rfl)
 have ow : ∀ k, ¬ Ow (start L az) lawV k := fun k ho => by
  rcases ho with ⟨b, cs, h1, _⟩ | ⟨i, r, h1, _⟩
  ·rw [hb] at h1; cases h1
  ·rw [hr] at h1; cases h1
 refine ⟨fun n => ?_, (fun b cs h1 => by rw [hb] at h1; cases h1), (fun i r h1 => by rw [hr] at h1; cases h1), (fun b b' cs cs' h1 => by rw [hb] at h1; cases h1), (fun b cs i r h1 => by rw [hb] at h1; cases h1), (fun i i' r r' k h1 => by rw [hr] at h1; cases h1), fun k hk => absurd hk (ow k), fun k hk => hk, fun k _ hk => hk, Nat.le_refl _, fun _ _ _ => rfl, rfl, rfl, rfl, rfl, by simp [lawE], (fun q hq => by rw [hi] at hq; exact absurd hq (Nat.not_lt_zero q)), by rw [hi]; rfl⟩
 by_cases hlt : n < az.length
 ·have e1 : (start L az).tmp n = startS n (az.getD n .dead) := by
   (have := startT_get 0 az n hlt); (rw [Nat.zero_add] at this)
   unfold St.tmp start
   simp only [this]; rfl
  have hf := h n hlt
  have e2 : startS n (az.getD n .dead) = az.getD n .dead := by
   have := hf.1
   generalize az.getD n .dead = s at this
   cases s <;> first | rfl | exact absurd rfl (this _)
  (have e3 : ({ tmps := vals.toArray, defers := [] } : Act).tmps.getD n undef = vals.getD n undef := by simp [List.getD_eq_getElem?_getD]); (rw [e1, e2, e3])
  exact hf.2 _ _ _ _ fun k hk => .inl hk
 ·have e1 : (start L az).tmp n = .dead := by
   have := startT_none 0 az n (.inr (by omega))
   unfold St.tmp start
   simp only [this]; rfl
  rw [e1]; exact .dead _
end
theorem law_calls {C : Ctx} {Tab : TabP} (H : CtxOk C Tab) {f : FuncId} (hs : C.sig f = ⟨[[.bool]], [], [false], false⟩) {az : List (SV C.L.D)} {vals : List Value} {W : World} (hT : Tab (fun k => k < W.heap.size) W) (hl : az.length = vals.length) (h : ∀ p, p < az.length → FlatArg C.L W (az.getD p .dead) (vals.getD p undef)) {k : Nat} {r : RT C.L.D (C.sig f).all} (hr : Fn C k f az = some r) (ht : enc (C.sig f).all r = [.v (.bool true)]) :
  Calls C.P f vals.toArray W fun | .returned v, W' => v = .bool true ∧ RowKit.Below W.heap.size W W' | _, _ => False := by
 have M := (Fn_ok H k f az r hr).1 (lawE W vals.length) lawV vals hT rfl hl (start_flat hl h)
 refine M.mono fun e W' he => ?_
 cases e with
 | returned v =>
  obtain ⟨vs, Q⟩ := he
  unfold PostA at Q
  (rw [show (C.sig f).new = false by rw [hs]] at Q); (simp only at Q); (rw [ht] at Q)
  refine ⟨?_, Q.os, Q.tape, Q.output, Q.size, fun k hk => Q.kept k hk fun hi => hi⟩
  (have hv := Q.val); (have hln := Q.len); (have h0 := Q.ro 0 (by simp) (fun ⟨t, xs, e⟩ => by cases e)); (rw [hs] at hv)
  obtain ⟨u, rfl⟩ : ∃ u, vs = [u] := by
   match vs, hln with
   | [u], _ => exact ⟨u, rfl⟩
  (simp only [List.getD_cons_zero] at h0); (rw [hv])
  exact h0.v_inv'
 | panicked chain => exact he.elim
 | outgrown => exact he.elim
end Go.Proofs.YtgnbfmoifnfneaaDoor.V
namespace Go.Proofs.YtgnbfmoifnfneaaDoor.V
open Go
set_option linter.unusedVariables false
noncomputable section
abbrev w64 (x : Int) : Int := IntKind.wrap .i64 x
abbrev w16 (x : Int) : Int := IntKind.wrap .i16 x
abbrev w8 (x : Int) : Int := IntKind.wrap .i8 x
abbrev wu8 (x : Int) : Int := IntKind.wrap .u8 x
def eqS (a b : ByteArray) : Bool := a.toList == b.toList
def bytesS (s : ByteArray) : List Int := s.data.toList.map fun b => (b.toNat : Int)
def strB (xs : List Int) : ByteArray := ⟨(xs.map fun n => UInt8.ofNat n.toNat).toArray⟩
def inB (n l : Int) : Bool := decide (0 ≤ n) && decide (n < l)
def cutOk (l h n : Int) : Bool := decide (0 ≤ l) && decide (l ≤ h) && decide (h ≤ n)
def mkOk (a b : Int) (z : Nat) : Bool := decide (0 ≤ a) && decide (a ≤ b) && okLe (b * (z : Int)) 281474976710656
def appOk {α β : Type} (xs : List α) (ys : List β) (z : Nat) : Bool := okLe (((xs.length : Int) + (ys.length : Int)) * (z : Int)) 70368744177664
def sumOk (a b : ByteArray) : Bool := okLe ((a.size + b.size : Nat) : Int) IntKind.i64.max
def sizeOk (s : ByteArray) : Bool := okLe (s.size : Int) 9223372036854775807
def child : Code → Nat → Code
 | .seq a _, 0 => a
 | .seq _ b, _ => b
 | .cond _ a _, 0 => a
 | .cond _ _ b, _ => b
 | .block _ b, _ => b
 | .loop b, _ => b
 | .scope b, _ => b
 | c, _ => c
def sub (c : Code) : List Nat → Code
 | [] => c
 | i :: l => sub (child c i) l
def bodyOf (f : Func) : Code := match f.body with
 | some c => c
 | none => .skip
def seqs : List Code → Code → Code
 | [], c => c
 | a :: l, c => .seq a (seqs l c)
section
variable {L : Lay} {sig : FuncId → Sig} {call : (f : FuncId) → List (SV L.D) → Option (RT L.D (sig f).all)} {ρ : Type} {nt : Nat} {live : Nat → List Nat} {n : Nat}
def seqK (L : Lay) (sig : FuncId → Sig) (call : (f : FuncId) → List (SV L.D) → Option (RT L.D (sig f).all)) (nt : Nat) (live : Nat → List Nat) (n : Nat) (c : Code) (K : Ex → St L.D → Option ρ) : Ex → St L.D → Option ρ
 | .normal, st => run L sig call nt live n c st K
 | .exit j, st => K (.exit j) st
 | .ret, st => K .ret st
def blkK (D : TypeId → Type) (id : Nat) (K : Ex → St D → Option ρ) : Ex → St D → Option ρ
 | .normal, st => K .normal st
 | .exit j, st => match Nat.beq j id with
  | true => K .normal st
  | false => K (.exit j) st
 | .ret, st => K .ret st
def loopK (L : Lay) (B : St L.D → (Ex → St L.D → Option ρ) → Option ρ) (K : Ex → St L.D → Option ρ) (m : Nat) : Ex → St L.D → Option ρ
 | .normal, st => loopN L B K m st
 | .exit j, st => K (.exit j) st
 | .ret, st => K .ret st
theorem run_seq (a b : Code) (st : St L.D) (K : Ex → St L.D → Option ρ) : run L sig call nt live n (.seq a b) st K = run L sig call nt live n a st (seqK L sig call nt live n b K) := by
 show run L sig call nt live n a st _ = _
 congr 1; funext e st'; cases e <;> rfl
theorem run_block (id : Nat) (b : Code) (st : St L.D) (K : Ex → St L.D → Option ρ) : run L sig call nt live n (.block id b) st K = run L sig call nt live n b st (blkK L.D id K) := by
 show run L sig call nt live n b st _ = _
 congr 1; funext e st'; cases e <;> rfl
theorem loopN_succ (B : St L.D → (Ex → St L.D → Option ρ) → Option ρ) (K : Ex → St L.D → Option ρ) (m : Nat) (st : St L.D) : loopN L B K (m + 1) st = B st (loopK L B K m) := by
 show B st _ = _
 congr 1; funext e st'; cases e <;> rfl
def flat : Code → Code → Code
 | .seq a b, c => flat a (flat b c)
 | x, c => .seq x c
theorem run_flat : ∀ (a c : Code) (st : St L.D) (K : Ex → St L.D → Option ρ), run L sig call nt live n (.seq a c) st K = run L sig call nt live n (flat a c) st K
 | .seq a b, c, st, K => by
  show _ = run L sig call nt live n (flat a (flat b c)) st K
  rw [← run_flat a, run_seq, run_seq, run_seq]
  congr 1; funext e st'
  cases e with
  | normal => show run L sig call nt live n b st' _ = run L sig call nt live n (flat b c) st' K; rw [← run_flat b, run_seq]
  | exit j => rfl
  | ret => rfl
 | .skip, _, _, _ => rfl
 | .region _ _ _, _, _, _ => rfl
 | .cond _ _ _, _, _, _ => rfl
 | .block _ _, _, _, _ => rfl
 | .loop _, _, _, _ => rfl
 | .rangeFunc _ _ _ _, _, _, _ => rfl
 | .exit _, _, _, _ => rfl
 | .scope _, _, _, _ => rfl
 | .label _, _, _, _ => rfl
 | .goto _, _, _, _ => rfl
 | .ret, _, _, _ => rfl
 | .refuse _, _, _, _ => rfl
theorem run_skip (a : Code) (st : St L.D) (K : Ex → St L.D → Option ρ) : run L sig call nt live n a st K = run L sig call nt live n (.seq a .skip) st K := by
 rw [run_seq]; congr 1; funext e st'; cases e <;> rfl
theorem transK {α : Sort _} {a b b' c : α} (h1 : a = b) (e : b = b') (h2 : b' = c) : a = c := h1.trans (e.trans h2)
theorem run_list (a : Code) (st : St L.D) (K : Ex → St L.D → Option ρ) : run L sig call nt live n a st K = run L sig call nt live n (flat a .skip) st K := (run_skip a st K).trans (run_flat a .skip st K)
end
end
end Go.Proofs.YtgnbfmoifnfneaaDoor.V
namespace Go.Proofs.YtgnbfmoifnfneaaDoor.V
open Go
set_option linter.unusedVariables false
set_option linter.unusedSimpArgs false
section
variable {P : Program} {L : Lay} {E : Ent} {V : Vl} {w : World}
def rawL : List (SV L.D) → Option (List Value)
 | [] => some []
 | .v x :: l => match rawL l with
  | some r => some (x :: r)
  | none => none
 | _ => none
def rawV : SV L.D → Option Value
 | .v x => some x
 | .agg cs => match rawL cs with
  | some l => some (.agg l.toArray)
  | none => none
 | _ => none
theorem rawL_ok : ∀ {cs : List (SV L.D)} {l : List Value}, rawL cs = some l → l.length = cs.length ∧ ∀ j, j < cs.length → cs.getD j .dead = .v (l.getD j undef)
 | [], l, h => by
  obtain rfl := Option.some.inj h
  exact ⟨rfl, fun j hj => absurd hj (Nat.not_lt_zero j)⟩
 | s :: cs, l, h => by
  cases s with
  | v x =>
   simp only [rawL] at h
   cases hr : rawL cs with
   | none => rw [hr] at h; cases h
   | some r =>
    (rw [hr] at h); (obtain rfl := Option.some.inj h); (obtain ⟨h1, h2⟩ := rawL_ok hr)
    refine ⟨by simp [h1], fun j hj => ?_⟩
    cases j with
    | zero => rfl
    | succ j => simpa using h2 j (by simpa using hj)
  | _ => cases h
theorem rawV_ok {F : Nat → Prop} {st : St L.D} {tm : Array Value} {s : SV L.D} {u x : Value} (h : SR L w F st V tm s u) (hr : rawV s = some x) : u = x := by
 cases s with
 | v y =>
  obtain rfl := Option.some.inj hr
  exact h.v_inv.1
 | agg cs =>
  simp only [rawV] at hr
  cases hl : rawL cs with
  | none => rw [hl] at hr; cases hr
  | some l =>
   (rw [hl] at hr); (obtain rfl := Option.some.inj hr); (obtain ⟨h1, h2⟩ := rawL_ok hl); (obtain ⟨vs, rfl, hlen, _, hj⟩ := h.agg_inv)
   congr 2
   refine List.ext_getElem (by omega) fun j hj1 hj2 => ?_
   (have := hj j (by omega)); (rw [h2 j (by omega)] at this); (have := this.v_inv.1); (rw [getD_lt hj1, getD_lt hj2] at this)
   exact this
 | _ => cases hr
theorem start_adr {az : List (SV L.D)} {a : Act} (h : Rel L E (start L az) V a w) (hp : ∀ s ∈ az, ∀ cs, s ≠ .pb cs) : E.adr = [] := by
 (have hn : startB L 0 az = ([], []) := start_none 0 az hp); (have hi : (start L az).imps = [] := by unfold start; rw [hn]; rfl); (have := h.impN); (rw [hi] at this)
 exact List.eq_nil_of_length_eq_zero this.symm
theorem start_arg {az : List (SV L.D)} {vals : List Value} (h : Rel L E (start L az) V ⟨vals.toArray, []⟩ w) {p : Nat} (hp : p < az.length) {s : SV L.D} (hs : az.getD p .dead = s) (hn : ∀ cs, s ≠ .pb cs) : SR L w (Fz E (start L az) V w) (start L az) V vals.toArray s (vals.getD p undef) := by
 have e1 : (start L az).tmp p = startS p (az.getD p .dead) := by
  (have := startT_get 0 az p hp); (rw [Nat.zero_add] at this)
  unfold St.tmp start
  simp only [this]; rfl
 (have e2 : startS p s = s := by cases s <;> first | rfl | exact absurd rfl (hn _)); (have e3 : ({ tmps := vals.toArray, defers := [] } : Act).tmps.getD p undef = vals.getD p undef := by simp [List.getD_eq_getElem?_getD]); (have := h.tmp p); (rw [e1, hs, e2, e3] at this)
 exact this
theorem start_vals {az : List (SV L.D)} {vals xs : List Value} (h : Rel L E (start L az) V ⟨vals.toArray, []⟩ w) (hl : az.length = vals.length) (hx : az.map rawV = xs.map some) : vals = xs := by
 have hlx : xs.length = az.length := by have := congrArg List.length hx; simpa using this.symm
 refine List.ext_getElem (by omega) fun p h1 h2 => ?_
 have hp : p < az.length := by omega
 have hr : rawV az[p] = some xs[p] := by
  have := congrArg (fun l => l[p]?) hx
  simpa [hp, h2] using this
 (have hn : ∀ cs, az[p] ≠ .pb cs := fun cs e => by rw [e] at hr; cases hr); (have := start_arg h hp (getD_lt hp _) hn); (have := rawV_ok this hr)
 rwa [getD_lt h1] at this
theorem start_flatv {az : List (SV L.D)} {xs : List Value} (hx : az.map rawV = xs.map some) : ∀ s ∈ az, ∀ cs, s ≠ .pb cs := fun s hs cs e => by
 (have : rawV s ∈ az.map rawV := List.mem_map.2 ⟨s, hs, rfl⟩); (rw [hx, e] at this); (obtain ⟨y, _, h⟩ := List.mem_map.1 this)
 cases h
theorem postV_flat {s : Sig} {cs : List (SV L.D)} {vs : List Value} {v : Value} {w' : World} (ha : E.adr = []) (hb : RowKit.Below E.w0.heap.size E.w0 w') (hr : rawL cs = some vs) (h1 : ∀ u ∈ vs, u.oneCell' = true) (hv : v = valueV (packV s.res s.aggs vs)) : PostV L E s cs vs v w' := by
 (obtain ⟨r1, r2⟩ := rawL_ok hr); (have nf : ∀ c, c < cs.length → ¬ IsFr (cs.getD c .dead) := fun c hc ⟨t, xs, e⟩ => by rw [r2 c hc] at e; cases e)
 refine ⟨r1, hv, h1, fun c t xs hc e => absurd ⟨t, xs, e⟩ (nf c hc), fun c hc _ => ?_, fun c c' k ho _ => absurd ho.2.1 (nf c ho.1), fun c k ho => absurd ho.2.1 (nf c ho.1), (fun q p hq => by rw [ha] at hq; simp at hq), (fun q p hq => by rw [ha] at hq; simp at hq), hb.size, fun k hk _ => hb.block k hk, hb.os, hb.tape, hb.output⟩
 (rw [r2 c hc]); (have : vs.getD c undef ∈ vs := by rw [getD_lt (by omega)]; exact List.getElem_mem _)
 exact .v _ (h1 _ this)
end
def TabW (W : World) : TabP := fun F w => ∀ k, k < W.heap.size → F k ∧ w.heap[k]? = W.heap[k]?
theorem tabW_kept (W : World) : TabKept (TabW W) := fun F F' w w' h hk k hlt => ⟨(hk k (h k hlt).1).1, (hk k (h k hlt).1).2.trans (h k hlt).2⟩
theorem tabW_here (W : World) : TabW W (fun k => k < W.heap.size) W := fun k hk => ⟨hk, rfl⟩
theorem tabW_below {W w : World} {F : Nat → Prop} (h : TabW W F w) : RowKit.Below W.heap.size W { w with os := W.os, tape := W.tape, output := W.output } := by
 refine ⟨rfl, rfl, rfl, ?_, fun k hk => (h k hk).2⟩
 show W.heap.size ≤ w.heap.size
 rcases Nat.eq_zero_or_pos W.heap.size with h0 | h0
 ·omega
 ·have := (h (W.heap.size - 1) (by omega)).2
  (have h2 : W.heap.size - 1 < W.heap.size := by omega); (rw [Array.getElem?_eq_getElem h2] at this); (have := (Array.getElem?_eq_some_iff.1 this).1)
  omega
end Go.Proofs.YtgnbfmoifnfneaaDoor.V
namespace Go.Proofs.YtgnbfmoifnfneaaDoor.V
open Go
set_option linter.unusedVariables false
abbrev tabD : TypeId → (α : Type) × α
 | 3 => ⟨Int, (0 : Int)⟩
 | 5 => ⟨Int, (0 : Int)⟩
 | 9 => ⟨ByteArray, (⟨#[]⟩ : ByteArray)⟩
 | _ => ⟨Unit, ()⟩
abbrev DD (t : TypeId) : Type := (tabD t).1
def zeroD (t : TypeId) : DD t := (tabD t).2
def tiD : TypeId → TI
 | 3 => ⟨.int .i64, 1, 8⟩
 | 4 => ⟨.bool, 1, 1⟩
 | 5 => ⟨.int .u8, 1, 1⟩
 | 9 => ⟨.str, 1, 16⟩
 | 22 => ⟨.struct [(0, 1), (1, 1), (2, 1), (3, 1), (4, 1), (5, 1), (6, 1)], 7, 72⟩
 | 23 => ⟨.struct [(0, 1), (1, 1), (2, 1), (3, 1), (4, 1), (5, 1), (6, 1)], 7, 72⟩
 | 28 => ⟨.slice 5, 1, 24⟩
 | 30 => ⟨.struct [(0, 1), (1, 1), (2, 1), (3, 1)], 4, 32⟩
 | 31 => ⟨.struct [(0, 1), (1, 1), (2, 1), (3, 1)], 4, 32⟩
 | 38 => ⟨.slice 9, 1, 24⟩
 | 43 => ⟨.ptr 60, 1, 8⟩
 | 57 => ⟨.slice 3, 1, 24⟩
 | 59 => ⟨.struct [(0, 1), (1, 1), (2, 1)], 3, 40⟩
 | 60 => ⟨.struct [(0, 1), (1, 1), (2, 1)], 3, 40⟩
 | _ => ⟨.other, 0, 0⟩
def cellD : (t : TypeId) → DD t → List (SV DD)
 | 3, x => [.v (.int .i64 x)]
 | 5, x => [.v (.int .u8 x)]
 | 9, x => [.v (.string x)]
 | t, _ => List.replicate (tiD t).sz (.v (.bool false))
def listOf (t : TypeId) : SV DD → Option (List (DD t))
 | .ro t' xs => castL xs
 | .nl t' => match Nat.beq t t' with
  | true => some []
  | false => none
 | _ => none
def makeD : (t : TypeId) → List (SV DD) → Option (DD t)
 | 3, [.v (.int .i64 a0)] => some a0
 | 5, [.v (.int .u8 a0)] => some a0
 | 9, [.v (.string a0)] => some a0
 | _, _ => none
def tsD : List TypeId := [3, 4, 5, 9, 22, 23, 28, 30, 31, 38, 43, 57, 59, 60]
def zeroC : TypeId → List (SV DD)
 | 3 => [.v (.int .i64 (0 : Int))]
 | 4 => [.v (.bool false)]
 | 5 => [.v (.int .u8 (0 : Int))]
 | 9 => [.v (.string (⟨#[]⟩ : ByteArray))]
 | 22 => [.v (.int .i64 (0 : Int)), .v (.string (⟨#[]⟩ : ByteArray)), .v (.int .i64 (0 : Int)), .v (.int .i64 (0 : Int)), .v (.int .i64 (0 : Int)), .v (.int .i64 (0 : Int)), .v (.string (⟨#[]⟩ : ByteArray))]
 | 23 => [.v (.int .i64 (0 : Int)), .v (.string (⟨#[]⟩ : ByteArray)), .v (.int .i64 (0 : Int)), .v (.int .i64 (0 : Int)), .v (.int .i64 (0 : Int)), .v (.int .i64 (0 : Int)), .v (.string (⟨#[]⟩ : ByteArray))]
 | 28 => [.nl 5]
 | 30 => [.v (.int .i64 (0 : Int)), .v (.int .i64 (0 : Int)), .v (.int .i64 (0 : Int)), .v (.int .i64 (0 : Int))]
 | 31 => [.v (.int .i64 (0 : Int)), .v (.int .i64 (0 : Int)), .v (.int .i64 (0 : Int)), .v (.int .i64 (0 : Int))]
 | 38 => [.nl 9]
 | 43 => [.v (.pointer none)]
 | 57 => [.nl 3]
 | 59 => [.nl 5, .v (.int .i64 (0 : Int)), .v (.int .i64 (0 : Int))]
 | 60 => [.nl 5, .v (.int .i64 (0 : Int)), .v (.int .i64 (0 : Int))]
 | _ => []
def eqtL : List (Nat × List Nat) := [(22, [1, 3, 1, 1, 1, 1, 3]), (23, [1, 3, 1, 1, 1, 1, 3]), (30, [1, 1, 1, 1]), (31, [1, 1, 1, 1])]
def eqtD (t : TypeId) : List Nat := match look eqtL t with
 | some l => l
 | none => []
def LD : Lay := { eqt := eqtD, D := DD, ti := tiD, zero := zeroC, cell := cellD, make := makeD, zd := zeroD }
def sigL : List (Nat × Sig) := [(4, ⟨[[.bool]], [], [false], false⟩),
 (6, ⟨[[.int .i64, .str, .int .i64, .int .i64, .int .i64, .int .i64, .str], [.bool]], [], [true, false], false⟩),
 (8, ⟨[[.bool]], [], [false], false⟩),
 (9, ⟨[[.int .i64, .int .i64, .int .i64, .int .i64]], [], [true], false⟩),
 (10, ⟨[[.int .i64, .str, .int .i64, .int .i64, .int .i64, .int .i64, .str]], [], [true], false⟩),
 (11, ⟨[[.str]], [], [false], false⟩),
 (12, ⟨[[.str]], [], [false], false⟩),
 (13, ⟨[[.str]], [], [false], false⟩),
 (14, ⟨[[.str]], [], [false], false⟩),
 (15, ⟨[[.int .i64, .int .i64, .int .i64, .int .i64], [.bool]], [], [true, false], false⟩),
 (20, ⟨[[.ro 5, .int .i64, .int .i64]], [], [false], true⟩),
 (21, ⟨[[.int .i64, .int .i64, .int .i64, .int .i64]], [[.ro 5, .int .i64, .int .i64]], [true], false⟩),
 (22, ⟨[[.bool]], [[.ro 5, .int .i64, .int .i64]], [false], false⟩),
 (23, ⟨[[.int .i64, .str, .int .i64, .int .i64, .int .i64, .int .i64, .str]], [[.ro 5, .int .i64, .int .i64]], [true], false⟩),
 (24, ⟨[[.int .i64, .str, .int .i64, .int .i64, .int .i64, .int .i64, .str]], [[.ro 5, .int .i64, .int .i64]], [true], false⟩),
 (39, ⟨[[.int .i64, .int .i64, .int .i64, .int .i64]], [[.ro 5, .int .i64, .int .i64]], [true], false⟩),
 (40, ⟨[[.int .i64]], [[.ro 5, .int .i64, .int .i64]], [false], false⟩),
 (41, ⟨[[.int .i64]], [[.ro 5, .int .i64, .int .i64]], [false], false⟩),
 (42, ⟨[[.int .i64]], [[.ro 5, .int .i64, .int .i64]], [false], false⟩),
 (43, ⟨[[.int .i64]], [[.ro 5, .int .i64, .int .i64]], [false], false⟩),
 (44, ⟨[[.int .i64, .str, .int .i64, .int .i64, .int .i64, .int .i64, .str]], [[.ro 5, .int .i64, .int .i64]], [true], false⟩),
 (55, ⟨[[.int .i64]], [[.ro 5, .int .i64, .int .i64]], [false], false⟩),
 (56, ⟨[[.str]], [[.ro 5, .int .i64, .int .i64]], [false], false⟩),
 (57, ⟨[[.str]], [[.ro 5, .int .i64, .int .i64]], [false], false⟩),
 (58, ⟨[[.str]], [[.ro 5, .int .i64, .int .i64]], [false], false⟩)]
def sigD (f : FuncId) : Sig := match look sigL f with
 | some s => s
 | none => ⟨[], [], [], false⟩
def live4 : Nat → List Nat
 | 0 => [0]
 | 1 => [0, 12]
 | 2 => [2]
 | 3 => [0, 3]
 | 4 => [3, 4]
 | 5 => [3, 4, 5]
 | 6 => [3, 4, 5, 6]
 | 7 => [3, 4, 5, 6, 30]
 | 8 => [2]
 | 9 => [3, 4, 5, 6, 32]
 | 10 => [3, 4, 6, 7, 8]
 | 11 => [4, 6, 44]
 | 12 => [2]
 | 13 => [4, 6, 46]
 | 14 => [4, 9, 10]
 | 15 => [58]
 | 16 => [2]
 | 17 => [2]
 | 900012 => [12]
 | 900030 => [30]
 | 900032 => [32]
 | 900044 => [44]
 | 900046 => [46]
 | 900058 => [58]
 | _ => []
def live6 : Nat → List Nat
 | 0 => [0, 2]
 | 1 => [0, 2, 4]
 | 2 => [2, 4, 14]
 | 3 => [2, 3]
 | 4 => [2, 3]
 | 900014 => [14]
 | _ => []
def live8 : Nat → List Nat
 | 0 => [0]
 | 1 => [2]
 | _ => []
def live9 : Nat → List Nat
 | 0 => [0, 2]
 | 1 => [2, 3]
 | 2 => [2]
 | _ => []
def live10 : Nat → List Nat
 | 0 => [0, 2]
 | 1 => [2, 3]
 | 2 => [2, 3, 7]
 | 3 => [2]
 | 4 => [2]
 | 900007 => [7]
 | _ => []
def live11 : Nat → List Nat
 | 0 => [1]
 | 1 => [2]
 | _ => []
def live12 : Nat → List Nat
 | 0 => [1]
 | 1 => [2]
 | _ => []
def live13 : Nat → List Nat
 | 0 => [1]
 | 1 => [1, 11]
 | 2 => [2]
 | 3 => [2]
 | 900011 => [11]
 | _ => []
def live14 : Nat → List Nat
 | 0 => [1]
 | 1 => [1, 27]
 | 2 => [2]
 | 3 => [1, 3]
 | 4 => [1, 3, 4]
 | 5 => [1, 3, 4, 5]
 | 6 => [1, 85]
 | 7 => [2]
 | 8 => [1, 87]
 | 9 => [1, 87, 88]
 | 10 => [2]
 | 11 => [1, 87, 93]
 | 12 => [2]
 | 13 => [1, 87, 108]
 | 14 => [2]
 | 15 => [1, 87, 118]
 | 16 => [2]
 | 17 => [1, 123]
 | 18 => [2]
 | 19 => [1, 6]
 | 20 => [1, 6, 137]
 | 21 => [1, 6]
 | 22 => [1, 6, 144]
 | 23 => [2]
 | 24 => [2]
 | 900027 => [27]
 | 900085 => [85]
 | 900088 => [88]
 | 900093 => [93]
 | 900108 => [108]
 | 900118 => [118]
 | 900123 => [123]
 | 900137 => [137]
 | 900144 => [144]
 | _ => []
def live15 : Nat → List Nat
 | 0 => [0, 2]
 | 1 => [0, 2, 4]
 | 2 => [0, 2, 4, 14]
 | 3 => [2, 3]
 | 4 => [0, 2, 4, 5]
 | 5 => [0, 2, 4, 5, 16]
 | 6 => [0, 2, 4, 5, 16, 17]
 | 7 => [0, 2, 4, 5, 6, 16]
 | 8 => [0, 2, 4, 5, 6, 7, 8, 16]
 | 9 => [0, 2, 4, 5, 6, 7, 16, 30]
 | 10 => [2, 3]
 | 11 => [0, 2, 4, 5, 16]
 | 12 => [0, 2, 4, 5, 16]
 | 13 => [0, 2, 9]
 | 14 => [2, 9, 48]
 | 15 => [2, 3]
 | 16 => [2, 3]
 | 900014 => [14]
 | 900017 => [17]
 | 900030 => [30]
 | 900048 => [48]
 | _ => []
def live20 : Nat → List Nat
 | 0 => [0]
 | 1 => [2]
 | _ => []
def live21 : Nat → List Nat
 | 0 => [0, 2]
 | 1 => [0, 2, 3]
 | 2 => [0, 2, 3, 7]
 | 3 => [0, 2, 3, 7, 8]
 | 4 => [2, 3]
 | 5 => [0, 2, 3, 7, 13]
 | 6 => [2, 3]
 | 7 => [0, 2, 3, 7, 18]
 | 8 => [2, 3]
 | 9 => [0, 2, 3, 28]
 | 10 => [2, 3]
 | 11 => [2]
 | 900008 => [8]
 | 900013 => [13]
 | 900018 => [18]
 | 900028 => [28]
 | _ => []
def live22 : Nat → List Nat
 | 0 => [0, 1]
 | 1 => [4]
 | _ => []
def live23 : Nat → List Nat
 | 0 => [0, 2]
 | 1 => [0, 2, 3]
 | 2 => [0, 2, 3, 7]
 | 3 => [0, 2, 3, 7, 8]
 | 4 => [2, 3]
 | 5 => [0, 2, 3, 7, 18]
 | 6 => [2, 3]
 | 7 => [0, 2, 3, 7, 28]
 | 8 => [2, 3]
 | 9 => [0, 2, 3, 7, 36]
 | 10 => [2, 3]
 | 11 => [0, 2, 3, 44]
 | 12 => [0, 2, 3]
 | 13 => [0, 2, 3]
 | 14 => [2, 3]
 | 15 => [2]
 | 900008 => [8]
 | 900018 => [18]
 | 900028 => [28]
 | 900036 => [36]
 | 900044 => [44]
 | _ => []
def live24 : Nat → List Nat
 | 0 => [0, 2]
 | 1 => [2, 3]
 | 2 => [2, 3, 10]
 | 3 => [2, 3, 4]
 | 4 => [2, 3, 4, 5]
 | 5 => [2, 3, 4, 5, 17]
 | 6 => [2, 3, 4, 5]
 | 7 => [2, 3, 4, 5, 24]
 | 8 => [2, 3, 4, 5]
 | 9 => [2, 3]
 | 10 => [2]
 | 900010 => [10]
 | 900017 => [17]
 | 900024 => [24]
 | _ => []
def live39 : Nat → List Nat
 | 0 => [0, 2]
 | 1 => [2]
 | _ => []
def live40 : Nat → List Nat
 | 0 => [0, 1]
 | 1 => [0, 1, 7]
 | 2 => [4]
 | 3 => [0, 1, 5]
 | 4 => [0, 1, 5, 17]
 | 5 => [0, 1, 5]
 | 6 => [0, 1, 5]
 | 7 => [0, 1, 5, 44]
 | 8 => [0, 1, 5]
 | 9 => [1, 5]
 | 10 => [4]
 | 900007 => [7]
 | 900017 => [17]
 | 900044 => [44]
 | _ => []
def live41 : Nat → List Nat
 | 0 => [0]
 | 1 => [2]
 | _ => []
def live42 : Nat → List Nat
 | 0 => [0]
 | 1 => [2]
 | _ => []
def live43 : Nat → List Nat
 | 0 => [0]
 | 1 => [0, 4]
 | 2 => [0, 4, 5]
 | 3 => [2]
 | 4 => [0, 10]
 | 5 => [2]
 | 6 => [2]
 | 900005 => [5]
 | 900010 => [10]
 | _ => []
def live44 : Nat → List Nat
 | 0 => [0, 2]
 | 1 => [0, 2, 3]
 | 2 => [0, 2, 3, 13]
 | 3 => [0, 2, 3]
 | 4 => [0, 2, 3, 18]
 | 5 => [0, 2, 3, 18, 19]
 | 6 => [0, 2, 3]
 | 7 => [2, 3]
 | 8 => [0, 2, 3, 18, 33]
 | 9 => [0, 2, 3, 18, 33]
 | 10 => [2, 3]
 | 11 => [0, 2, 3, 46]
 | 12 => [0, 2, 3]
 | 13 => [0, 2, 3]
 | 14 => [2, 3]
 | 15 => [2]
 | 900013 => [13]
 | 900019 => [19]
 | 900033 => []
 | 900046 => [46]
 | _ => []
def live55 : Nat → List Nat
 | 0 => [0, 1]
 | 1 => [4]
 | _ => []
def live56 : Nat → List Nat
 | 0 => [0]
 | 1 => [0, 3]
 | 2 => [0, 3, 4]
 | 3 => [0, 3, 4, 17]
 | 4 => [0, 3, 4]
 | 5 => [2]
 | 900017 => [17]
 | _ => []
def live57 : Nat → List Nat
 | 0 => [0]
 | 1 => [0, 3]
 | 2 => [0, 3, 8]
 | 3 => [0, 3, 8, 9]
 | 4 => [0, 3, 4]
 | 5 => [2]
 | 6 => [0, 3, 8, 29]
 | 7 => [2]
 | 8 => [0, 3, 31]
 | 9 => [2]
 | 10 => [2]
 | 900009 => [9]
 | 900029 => [29]
 | 900031 => [31]
 | _ => []
def live58 : Nat → List Nat
 | 0 => [0, 1]
 | 1 => [0, 1, 5]
 | 2 => [0, 5, 6]
 | 3 => [0, 5, 6, 12]
 | 4 => [0, 5, 6]
 | 5 => [0, 5, 6]
 | 6 => [4]
 | 900012 => [12]
 | _ => []
def liveD : FuncId → Nat → List Nat
 | 4 => live4
 | 6 => live6
 | 8 => live8
 | 9 => live9
 | 10 => live10
 | 11 => live11
 | 12 => live12
 | 13 => live13
 | 14 => live14
 | 15 => live15
 | 20 => live20
 | 21 => live21
 | 22 => live22
 | 23 => live23
 | 24 => live24
 | 39 => live39
 | 40 => live40
 | 41 => live41
 | 42 => live42
 | 43 => live43
 | 44 => live44
 | 55 => live55
 | 56 => live56
 | 57 => live57
 | 58 => live58
 | _ => fun _ => []
end Go.Proofs.YtgnbfmoifnfneaaDoor.V
namespace Go.Proofs.YtgnbfmoifnfneaaDoor.QA
open Go.RowKit Go.Proofs.YtgnbfmoifnfneaaDoorW.PrintWords Go.Proofs.YtgnbfmoifnfneaaDoorW.PrintLast Go.Proofs.YtgnbfmoifnfneaaDoorW.PrintMore
set_option linter.unusedVariables false
set_option linter.unusedSimpArgs false
theorem qB {w w' : World} {g : Nat} {o : Obj} (h : Aside0 (w.heap[g]? = some o)) (h' : w.heap[g]? = some o → w'.heap[g]? = some o := by intro h_; (with_reducible repeat (first | refine blk_drewN ?_ _ | refine blk_drew ?_ | refine blk_alloc ?_ _)); exact h_) : w'.heap[g]? = some o := h' h.out
theorem qR {p q : Prop} (h : Aside0 p) (h' : p → q := by intro h_; (with_reducible repeat (first | apply Kd.R_alloc | apply Kd.R_drewN | apply Kd.R_drew)); exact h_) : q := h' h.out
theorem qE {p : Prop} (h : p := by first | rfl | (simp [errW_none, errW_some] <;> rfl) | (simp [*, errW_none, errW_some] <;> rfl)) : p := h
theorem qL {p : Prop} (h : p := by (try simp only [List.map_toArray, List.map_cons, List.map_nil]); first | done | rfl | (simp only [List.length_drop, List.length_take]; rfl)) : p := h
theorem qD {w w1 W : World} {g : Nat} {o : Obj} (h : Aside0 (w.heap[g]? = some o)) (hb : Below W.heap.size W w1) (h' : w.heap[g]? = some o → W.heap[g]? = some o := by intro h_; (with_reducible repeat (first | refine blk_drewN ?_ _ | refine blk_drew ?_ | refine blk_alloc ?_ _)); exact h_) : Aside0 (w1.heap[g]? = some o) := ⟨blk_below (h' h.out) hb⟩
theorem qG {g n m : Nat} (hg : g = m) (h : n ≤ m) : Aside0 (n ≤ g) := ⟨hg ▸ h⟩
theorem qN {g n m : Nat} (hg : g = m) (h : n < m) : Aside0 (n ≠ g) := ⟨hg ▸ Nat.ne_of_lt h⟩
theorem qM {g n m : Nat} (hg : g = m) (h : n < m) : Aside0 (g ≠ n) := ⟨hg ▸ Nat.ne_of_gt h⟩
theorem qT {P : Prop} [Decidable P] {α : Type} {a : Option α} {r : α} (h : (if P then a else none) = some r) : decide P = true ∧ a = some r := by
 by_cases c : P
 ·rw [if_pos c] at h; exact ⟨decide_eq_true c, h⟩
 ·rw [if_neg c] at h; cases h
theorem qU {P : Prop} [Decidable P] {α : Type} {a : Option α} {r : α} (h : (if P then a else none) = some r) : P ∧ a = some r := ⟨of_decide_eq_true (qT h).1, (qT h).2⟩
theorem qI {P : Prop} [Decidable P] {α : Type} {a b r : α} (h : (if P then a else b) = r) : (decide P = true ∧ a = r) ∨ (decide P = false ∧ b = r) := by
 by_cases c : P
 ·rw [if_pos c] at h; exact .inl ⟨decide_eq_true c, h⟩
 ·rw [if_neg c] at h; exact .inr ⟨decide_eq_false c, h⟩
theorem qJ {P : Prop} [Decidable P] {α : Type} {a b r : α} (h : (if P then a else b) = r) : (P ∧ a = r) ∨ (¬ P ∧ b = r) := by
 by_cases c : P
 ·rw [if_pos c] at h; exact .inl ⟨c, h⟩
 ·rw [if_neg c] at h; exact .inr ⟨c, h⟩
theorem qX {α β : Type} {o : Option α} {f : α → Option β} {r : β} (h : o.bind f = some r) : ∃ a, Aside0 (o = some a) ∧ f a = some r := by
 obtain ⟨a, h1, h2⟩ := Option.bind_eq_some_iff.mp h
 exact ⟨a, ⟨h1⟩, h2⟩
theorem qF {w w' : World} {a : Addr} {v : Value} (hb : Aside0 (Below w.heap.size w w')) (h : w.cell? a = some v) : w'.cell? a = some v := (hb.out.cell (World.block_lt_of_cell? w _ h)).trans h
theorem qPu {p : Prop} (h : p := by simp only [Act.put, List.setIfInBounds_toArray, List.set_cons_zero, List.set_cons_succ, i64_w, i32_w]; rfl) : p := h
theorem qZ {p q : Prop} (h : p := by first | rfl | (simp; done) | (simp [*]; done)) (h' : q := by repeat (first | exact Drawn0.refl _ | apply Drawn0.step)) : p ∧ q := ⟨h, h'⟩
theorem qV {p : Prop} (h : p := by first | rfl | (simp; done) | (simp [*]; done)) : p := h
theorem qO {p : Prop} [Decidable p] (h : decide p = true := by first | (with_reducible assumption) | assumption) : p := of_decide_eq_true h
theorem qY {p q : Prop} {α : Type} {y e : α} (hy : y = e) (h : p) (h' : y = e → p → q := by intro hy_ H_; first | (rw [hy_]; with_reducible exact H_) | (have H2_ := (Option.bind_some _ _).symm.trans H_; rw [hy_]; with_reducible exact H2_) | (have H2_ := (Option.bind_some _ _).symm.trans H_; with_reducible exact H2_) | with_reducible exact H_ | (rw [hy_]; exact H_) | exact H_) : q := h' hy h
theorem qC4 {w : World} {g t : Nat} {c0 c1 c2 c3 : Value} (h : Aside0 (w.heap[g]? = some (.cells #[c0, c1, c2, c3] t (0, 0)))) : w.cell? ⟨g, 0, none⟩ = some c0 ∧ w.cell? ⟨g, 1, none⟩ = some c1 ∧ w.cell? ⟨g, 2, none⟩ = some c2 ∧ w.cell? ⟨g, 3, none⟩ = some c3 ∧ w.frozen? ⟨g, 0, none⟩ = false ∧ w.frozen? ⟨g, 1, none⟩ = false ∧ w.frozen? ⟨g, 2, none⟩ = false ∧ w.frozen? ⟨g, 3, none⟩ = false := ⟨(blk_cell h.out 0).trans rfl, (blk_cell h.out 1).trans rfl, (blk_cell h.out 2).trans rfl, (blk_cell h.out 3).trans rfl, blk_frozen h.out 0, blk_frozen h.out 1, blk_frozen h.out 2, blk_frozen h.out 3⟩
theorem qC7 {w : World} {g t : Nat} {c0 c1 c2 c3 c4 c5 c6 : Value} (h : Aside0 (w.heap[g]? = some (.cells #[c0, c1, c2, c3, c4, c5, c6] t (0, 0)))) : w.cell? ⟨g, 0, none⟩ = some c0 ∧ w.cell? ⟨g, 1, none⟩ = some c1 ∧ w.cell? ⟨g, 2, none⟩ = some c2 ∧ w.cell? ⟨g, 3, none⟩ = some c3 ∧ w.cell? ⟨g, 4, none⟩ = some c4 ∧ w.cell? ⟨g, 5, none⟩ = some c5 ∧ w.cell? ⟨g, 6, none⟩ = some c6 ∧ w.frozen? ⟨g, 0, none⟩ = false ∧ w.frozen? ⟨g, 1, none⟩ = false ∧ w.frozen? ⟨g, 2, none⟩ = false ∧ w.frozen? ⟨g, 3, none⟩ = false ∧ w.frozen? ⟨g, 4, none⟩ = false ∧ w.frozen? ⟨g, 5, none⟩ = false ∧ w.frozen? ⟨g, 6, none⟩ = false := ⟨(blk_cell h.out 0).trans rfl, (blk_cell h.out 1).trans rfl, (blk_cell h.out 2).trans rfl, (blk_cell h.out 3).trans rfl, (blk_cell h.out 4).trans rfl, (blk_cell h.out 5).trans rfl, (blk_cell h.out 6).trans rfl, blk_frozen h.out 0, blk_frozen h.out 1, blk_frozen h.out 2, blk_frozen h.out 3, blk_frozen h.out 4, blk_frozen h.out 5, blk_frozen h.out 6⟩
theorem qS0 {p  q : Prop} (h : Aside0 p) (h' : p → q := by intro h_ ; repeat (first | (with_reducible first | exact h_ | apply below_alloc | apply pw_below_drewN | apply below_drew1) | exact h_)) : q := h' h.out
theorem qS1 {p r0 q : Prop} (h : Aside0 p) (k0 : Aside0 r0) (h' : p → r0 → q := by intro h_ e0_; repeat (first | (with_reducible first | exact h_ | apply below_alloc | apply pw_below_drewN | apply below_drew1 | refine below_set ?_ e0_) | exact h_)) : q := h' h.out k0.out
theorem qS2 {p r0 r1 q : Prop} (h : Aside0 p) (k0 : Aside0 r0) (k1 : Aside0 r1) (h' : p → r0 → r1 → q := by intro h_ e0_ e1_; repeat (first | (with_reducible first | exact h_ | apply below_alloc | apply pw_below_drewN | apply below_drew1 | refine below_set ?_ e0_ | refine below_set ?_ e1_) | exact h_)) : q := h' h.out k0.out k1.out
end Go.Proofs.YtgnbfmoifnfneaaDoor.QA
namespace Go.Proofs.YtgnbfmoifnfneaaDoor.QA
open Go.RowKit Go.Proofs.YtgnbfmoifnfneaaDoorW.PrintWords Go.Proofs.YtgnbfmoifnfneaaDoorW.PrintLast Go.Proofs.YtgnbfmoifnfneaaDoorW.PrintMore
attribute [local go_sem] max2_int min2_int max_two min_two max_three min_three max_four min_four
set_option linter.unusedVariables false
set_option linter.unusedSimpArgs false
def errW : Option Int → Value
 | none => .nilIface
 | some c => .iface 84 (.int .i64 c)
theorem errW_none : errW none = .nilIface := rfl
theorem errW_some (c : Int) : errW (some c) = .iface 84 (.int .i64 c) := rfl
theorem info5 : (Tryd.prog.info? 5).map (fun i => (i.zero, i.size, i.bytes)) = some (some (.int .u8 0), 1, 1) := by kernel_rfl
def reqWordsL : List ByteArray := [⟨#[]⟩, ⟨#[99, 104, 101, 99, 107]⟩, ⟨#[116, 111, 112]⟩, ⟨#[97, 100, 100]⟩, ⟨#[100, 114, 111, 112]⟩, ⟨#[115, 101, 116]⟩, ⟨#[116, 101, 120, 116]⟩]
theorem var_below {P : Program} {w w' : World} {name : String} {cs : Array Value} (hb : Below w.heap.size w w') (h : w.var? P name = some cs) : w'.var? P name = some cs := by
 unfold World.var? at *
 cases hg : P.globalNamed name with
 | none => simp [hg] at h
 | some g =>
  simp only [hg, Option.bind_some] at h ⊢
  have hlt : g < w.heap.size := by
   rcases Nat.lt_or_ge g w.heap.size with h' | h'
   ·exact h'
   ·rw [Array.getElem?_eq_none h'] at h; cases h
  rw [hb.block g hlt]
  exact h
structure TabG (w : World) : Prop where
 pow10 : Lib.TabIs Tryd.prog w "internal/strconv.uint64pow10" .u64 Lib.pow10Tab
 maxlen : ∃ m : Int, w.cell? ⟨1, 0, none⟩ = some (.int .i64 m)
 syn : ∃ (tp : TypeId) (p : Value), w.var? Tryd.prog "strconv.ErrSyntax" = some #[.iface tp p]
 rng : ∃ (tp : TypeId) (p : Value), w.var? Tryd.prog "strconv.ErrRange" = some #[.iface tp p]
 reqw : ∀ (k : Nat) (s : ByteArray), reqWordsL[k]? = some s → w.cell? ⟨0, k, none⟩ = some (.string s)
theorem G_below {w w' : World} (hb : Below w.heap.size w w') (hG : TabG w) : TabG w' := ⟨Lib.tabBelow_of_tabIs hG.pow10 w' hb, (let ⟨m, hm⟩ := hG.maxlen; ⟨m, (hb.cell (World.block_lt_of_cell? w _ hm)).trans hm⟩), (let ⟨tp, p, hv⟩ := hG.syn; ⟨tp, p, var_below hb hv⟩), (let ⟨tp, p, hv⟩ := hG.rng; ⟨tp, p, var_below hb hv⟩), (fun k s hk => (hb.cell (World.block_lt_of_cell? w _ (hG.reqw k s hk))).trans (hG.reqw k s hk))⟩
shelf_lay Lays.n146 Nm 146 at Tryd as Tryd.lays146
def strings_Split.f (a0 : ByteArray) (a1 : ByteArray) : Option (List ByteArray) := if a0.size < 4294967281 ∧ 1 ≤ a1.size then some (Lib.splitB a1 0 (Lib.countB a0 a1) a0) else none
theorem strings_Split.calls (a0 : ByteArray) (a1 : ByteArray) (r : List ByteArray) (w : World) (h : strings_Split.f a0 a1 = some r) (hG : TabG w) :
  Calls Tryd.prog 31 #[.string a0, .string a1] w fun e w' => ∃ v0_ : Value, e = .returned (v0_) ∧ Kd.R Kd.string 9 w' w.heap.size (fun _ => True) v0_ r ∧ Below w.heap.size w w' := by
 unfold strings_Split.f at h
 split at h
 ·rename_i hr
  (obtain rfl := Option.some.inj h); (obtain ⟨m, hm⟩ := hG.maxlen); (have hlen := Lib.splitB_all a1 hr.2 0 _ a0 rfl); (have hle := Lib.countB_le a1 hr.2 a0.size a0 (Nat.le_refl _))
  refine (Any.strings_Split Tryd.lays146 (by kernel_rfl) a0 a1 m w hr.1 hm hr.2).mono ?_
  rintro e w' ⟨rfl, rfl⟩
  refine ⟨_, rfl, Kd.R_of_own (enc := Value.string) (h1 := fun _ => rfl) ⟨by simp [encs], .inr ⟨w.heap.size, Lib.countB a0 a1 + 1, _, by rw [hlen], Nat.le_refl _, heap_alloc_new w _, by rw [hlen]; exact Nat.le_refl _, by simp only [maxLen]; omega, by simp [hlen], ?_⟩⟩ (fun _ _ => trivial), (Below.refl _ w).alloc (Nat.le_refl _) _⟩
  rw [List.take_of_length_le (by simp)]
  simp [encs]
 ·cases h
end Go.Proofs.YtgnbfmoifnfneaaDoor.QA
namespace Go.Proofs.YtgnbfmoifnfneaaDoor.QA
open Go.RowKit Go.Proofs.YtgnbfmoifnfneaaDoorW.PrintWords Go.Proofs.YtgnbfmoifnfneaaDoorW.PrintLast Go.Proofs.YtgnbfmoifnfneaaDoorW.PrintMore
attribute [local go_sem] max2_int min2_int max_two min_two max_three min_three max_four min_four
set_option linter.unusedVariables false
set_option linter.unusedSimpArgs false
shelf_lay Go.Proofs.LaysM.n171 Nm 171 at Tryd as Tryd.lays171
def strconv_Itoa_36.f (a0 : Int) : Option ByteArray := if -9223372036854775808 ≤ a0 ∧ a0 ≤ 9223372036854775807 then some ⟨(Lib.itoa a0).toArray⟩ else none
theorem strconv_Itoa_36.calls (a0 : Int) (r : ByteArray) (w : World) (h : strconv_Itoa_36.f a0 = some r) (hG : TabG w) :
  Calls Tryd.prog 36 #[.int .i64 a0] w fun e w' => e = .returned (.string r) ∧ Below w.heap.size w w' := by
 unfold strconv_Itoa_36.f at h
 split at h
 ·rename_i hr
  obtain rfl := Option.some.inj h
  refine (Any.strconv_Itoa Tryd.lays171 a0 hr.1 hr.2 w hG.pow10).mono ?_
  rintro e w' ⟨rfl, k, os, rfl⟩
  exact ⟨rfl, Lib.below_grow _ w (Nat.le_refl _) k os⟩
 ·cases h
end Go.Proofs.YtgnbfmoifnfneaaDoor.QA
namespace Go.Proofs.YtgnbfmoifnfneaaDoor.QA
open Go.RowKit Go.Proofs.YtgnbfmoifnfneaaDoorW.PrintWords Go.Proofs.YtgnbfmoifnfneaaDoorW.PrintLast Go.Proofs.YtgnbfmoifnfneaaDoorW.PrintMore
attribute [local go_sem] max2_int min2_int max_two min_two max_three min_three max_four min_four
set_option linter.unusedVariables false
set_option linter.unusedSimpArgs false
set_option maxHeartbeats 8000000
set_option maxRecDepth 100000
def impl_within.f (a0 : Int) (a1 : Int) (a2 : Int) : Option (Bool) := if a0 ≥ a1 then (some (decide (a0 ≤ a2))) else (some false)
theorem impl_within.calls (a0 : Int) (a1 : Int) (a2 : Int) (r : Bool) (w : World) (h : impl_within.f a0 a1 a2 = some r) :
  Calls Tryd.prog 38 #[.int .i64 a0, .int .i64 a1, .int .i64 a2] w fun e w' => e = .returned (.bool r) ∧ Drawn0 w w' := by
 (have H : (if a0 ≥ a1 then (some (decide (a0 ≤ a2))) else (some false)) = some r := h); clear h
 rcases qI H with ⟨(c4b0 : decide (a1 ≤ a0) = true), H⟩ | ⟨(c4b0 : decide (a1 ≤ a0) = false), H⟩
 ·obtain rfl := Option.some.inj H
  go_enter Tryd.func38, Tryd.ntmps38
  go_wp2
  go_ret
  exact qZ
 ·obtain rfl := Option.some.inj H
  go_enter Tryd.func38, Tryd.ntmps38
  go_wp2
  go_ret
  exact qZ
end Go.Proofs.YtgnbfmoifnfneaaDoor.QA
namespace Go.Proofs.YtgnbfmoifnfneaaDoor.QA
open Go.RowKit Go.Proofs.YtgnbfmoifnfneaaDoorW.PrintWords Go.Proofs.YtgnbfmoifnfneaaDoorW.PrintLast Go.Proofs.YtgnbfmoifnfneaaDoorW.PrintMore
attribute [local go_sem] max2_int min2_int max_two min_two max_three min_three max_four min_four
set_option linter.unusedVariables false
set_option linter.unusedSimpArgs false
set_option maxHeartbeats 8000000
set_option maxRecDepth 100000
shelf_lay LaysC.n172 Nm 172 at Tryd as Tryd.lays172
def impl_lineNumber.f (a0 : ByteArray) : Option (Int × Bool) := if a0.size ≤ 281474976710656 then
  (match Lib.atoiAll a0.data.toList with
   | .ok v => (strconv_Itoa_36.f v).bind fun t => if t.toList = a0.toList then (if 0 ≤ v ∧ v ≤ 999999999 then some (v, true) else some (0, false)) else some (0, false)
   | _ => some (0, false)) else none
theorem within_line (v : Int) : impl_within.f v 0 999999999 = some (decide (0 ≤ v ∧ v ≤ 999999999)) := by
 unfold impl_within.f
 by_cases h : v ≥ 0
 ·rw [if_pos h]
  by_cases h2 : v ≤ 999999999 <;> simp [h2] <;> omega
 ·rw [if_neg h]
  simp
  omega
theorem impl_lineNumber.calls (a0 : ByteArray) (r1 : Int) (r2 : Bool) (w : World) (h : impl_lineNumber.f a0 = some (r1, r2)) (hG : TabG w) :
  Calls Tryd.prog 32 #[.string a0] w fun e w' => e = .returned (.tuple #[.int .i64 r1, .bool r2]) ∧ Below w.heap.size w w' := by
 unfold impl_lineNumber.f at h
 split at h
 ·rename_i hs
  have hfail : ∀ (z : Int) (t : TypeId) (N : Nat), (Calls Tryd.prog 50 #[.string a0] w fun e w' => e = .returned (.tuple #[.int .i64 z, .iface t (.pointer (some ⟨N, 0, none⟩))]) ∧ Below w.heap.size w w') → True := fun _ _ _ _ => trivial
  cases hat : Lib.atoiAll a0.data.toList with
  | ok v =>
   (rw [hat] at h); (simp only at h); (obtain ⟨t, ht, h2⟩ := Option.bind_eq_some_iff.mp h); (have HA := Aside0.mk (Any.strconv_Atoi_ok Tryd.lays172 a0 (by omega) v hat w)); (have HT := Aside0.mk ht); (have HG := Aside0.mk hG); (have HW := Aside0.mk (within_line v)); clear h hat ht hG hs hfail
   have hbw : ∀ w', (w' = w ∨ ∃ t, w' = Lib.bytesWorld w (Tryd.lays172_ren.t 5) t) → Below w.heap.size w w' := by
    rintro w' (rfl | ⟨t, rfl⟩)
    ·exact Below.refl _ _
    ·exact Lib.bytesWorld_below _ _ _
   (have HBW := Aside0.mk hbw); clear hbw
   by_cases c1 : t.toList = a0.toList
   ·rw [if_pos c1] at h2
    have c1b0 : (t.toList == a0.toList) = true := by simp [c1]
    by_cases c2 : 0 ≤ v ∧ v ≤ 999999999
    ·rw [if_pos c2] at h2
     (rw [decide_eq_true c2] at HW); (obtain ⟨rfl, rfl⟩ : v = r1 ∧ true = r2 := by simpa using h2); clear c1 c2
     go_enter Tryd.func32, Tryd.ntmps32
     go_wp2_with (first | (go_at_call 50; refine HA.out.mono ?_; rintro e w1 ⟨rfl, hb1⟩; have HB1 := Aside0.mk (HBW.out w1 hb1); clear hb1) | (go_at_call 36; refine (strconv_Itoa_36.calls v t _ HT.out (G_below HB1.out HG.out)).mono ?_; rintro e w2 ⟨rfl, hb2⟩; have HB2 := Aside0.mk (HB1.out.trans (hb2.mono HB1.out.size)); clear hb2) | (go_at_call 38; refine (impl_within.calls v 0 999999999 true _ HW.out).mono ?_; rintro e w3 ⟨rfl, ⟨nd, rfl⟩⟩))
     go_ret2
     exact ⟨rfl, pw_below_drewN HB2.out _⟩
    ·rw [if_neg c2] at h2
     rw [decide_eq_false c2] at HW
     cases h2
     clear c1 c2
     go_enter Tryd.func32, Tryd.ntmps32
     go_wp2_with (first | (go_at_call 50; refine HA.out.mono ?_; rintro e w1 ⟨rfl, hb1⟩; have HB1 := Aside0.mk (HBW.out w1 hb1); clear hb1) | (go_at_call 36; refine (strconv_Itoa_36.calls v t _ HT.out (G_below HB1.out HG.out)).mono ?_; rintro e w2 ⟨rfl, hb2⟩; have HB2 := Aside0.mk (HB1.out.trans (hb2.mono HB1.out.size)); clear hb2) | (go_at_call 38; refine (impl_within.calls v 0 999999999 false _ HW.out).mono ?_; rintro e w3 ⟨rfl, ⟨nd, rfl⟩⟩))
     go_ret2
     exact ⟨rfl, pw_below_drewN HB2.out _⟩
   ·rw [if_neg c1] at h2
    have c1b0 : (t.toList == a0.toList) = false := by simp [c1]
    cases h2
    clear c1 HW
    go_enter Tryd.func32, Tryd.ntmps32
    go_wp2_with (first | (go_at_call 50; refine HA.out.mono ?_; rintro e w1 ⟨rfl, hb1⟩; have HB1 := Aside0.mk (HBW.out w1 hb1); clear hb1) | (go_at_call 36; refine (strconv_Itoa_36.calls v t _ HT.out (G_below HB1.out HG.out)).mono ?_; rintro e w2 ⟨rfl, hb2⟩; have HB2 := Aside0.mk (HB1.out.trans (hb2.mono HB1.out.size)); clear hb2))
    go_ret2
    exact ⟨rfl, HB2.out⟩
  | «syntax» =>
   rw [hat] at h
   cases h
   (obtain ⟨tp, p, hv⟩ := hG.syn); (have HA := Aside0.mk (Any.strconv_Atoi_syntax_var Tryd.lays172 a0 hs hat tp p w hv)); clear hat hG hs hfail hv
   go_enter Tryd.func32, Tryd.ntmps32
   go_wp2_with (go_at_call 50; refine HA.out.mono ?_; rintro e w1 ⟨N, rfl, _, _, hb1⟩)
   go_ret2
   exact ⟨rfl, hb1⟩
  | range =>
   rw [hat] at h
   cases h
   (obtain ⟨tp, p, hv⟩ := hG.rng); (have HA := Aside0.mk (Any.strconv_Atoi_range_var Tryd.lays172 a0 hs hat tp p w hv)); clear hat hG hs hfail hv
   go_enter Tryd.func32, Tryd.ntmps32
   go_wp2_with (go_at_call 50; refine HA.out.mono ?_; rintro e w1 ⟨N, rfl, _, _, hb1⟩)
   go_ret2
   exact ⟨rfl, hb1⟩
 ·cases h
end Go.Proofs.YtgnbfmoifnfneaaDoor.QA
namespace Go.Proofs.YtgnbfmoifnfneaaDoor.QA
open Go.RowKit Go.Proofs.YtgnbfmoifnfneaaDoorW.PrintWords Go.Proofs.YtgnbfmoifnfneaaDoorW.PrintLast Go.Proofs.YtgnbfmoifnfneaaDoorW.PrintMore
attribute [local go_sem] max2_int min2_int max_two min_two max_three min_three max_four min_four
set_option linter.unusedVariables false
set_option linter.unusedSimpArgs false
shelf_lay Lays.n147 Nm 147 at Tryd as Tryd.lays147
def strings_SplitN.f (a0 : ByteArray) (a1 : ByteArray) (a2 : Int) : Option (List ByteArray) := if a0.size < 4294967281 ∧ 1 ≤ a1.size ∧ 1 ≤ a2 ∧ a2 ≤ 1000000 then some (Lib.splitB a1 0 (min a2.toNat (a0.size + 1) - 1) a0) else none
theorem strings_SplitN.calls (a0 : ByteArray) (a1 : ByteArray) (a2 : Int) (r : List ByteArray) (w : World) (h : strings_SplitN.f a0 a1 a2 = some r) (hG : TabG w) :
  Calls Tryd.prog 33 #[.string a0, .string a1, .int .i64 a2] w fun e w' => ∃ v0_ : Value, e = .returned (v0_) ∧ Kd.R Kd.string 9 w' w.heap.size (fun _ => True) v0_ r ∧ Below w.heap.size w w' := by
 unfold strings_SplitN.f at h
 split at h
 ·rename_i hr
  (obtain rfl := Option.some.inj h); (obtain ⟨m, hm⟩ := hG.maxlen); (obtain ⟨n, rfl⟩ : ∃ n : Nat, a2 = (n : Int) := ⟨a2.toNat, by omega⟩); (rw [Int.toNat_natCast]); (have hle := Lib.splitB_length_le a1 0 (min n (a0.size + 1) - 1) a0); (have hle' : (Lib.splitB a1 0 (min n (a0.size + 1) - 1) a0).length ≤ min n (a0.size + 1) := by omega)
  refine (Any.strings_SplitN Tryd.lays147 (by kernel_rfl) a0 a1 n m w hr.1 hm hr.2.1 (by omega) (by omega)).mono ?_
  rintro e w' ⟨rfl, rfl⟩
  refine ⟨_, rfl, Kd.R_of_own (enc := Value.string) (h1 := fun _ => rfl) ⟨by simp [encs], .inr ⟨w.heap.size, min n (a0.size + 1), _, rfl, Nat.le_refl _, heap_alloc_new w _, hle', by simp only [maxLen]; omega, by simpa using Lib.cellsOf_size hle', ?_⟩⟩ (fun _ _ => trivial), (Below.refl _ w).alloc (Nat.le_refl _) _⟩
  unfold Lib.cellsOf
  simp [encs]
 ·cases h
end Go.Proofs.YtgnbfmoifnfneaaDoor.QA
