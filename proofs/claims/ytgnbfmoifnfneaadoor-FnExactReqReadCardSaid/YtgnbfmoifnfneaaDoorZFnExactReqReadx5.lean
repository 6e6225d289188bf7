/- Part of the proof of the law FnExactReqRead: what it uses of the texts that this session and the kit's print wrote. -/
import Derived.Test.YtgnbfmoifnfneaaDoorZFnExactReqReadx0
import Derived.Test.YtgnbfmoifnfneaaDoorZFnExactReqReadx1
import Derived.Test.YtgnbfmoifnfneaaDoorZFnExactReqReadx4
import Derived.Test.YtgnbfmoifnfneaaDoorProg
import Derived.Below
import Derived.Deep.Draws
import Derived.Deep.AppendLies
import Derived.Maps.AppendAt
import Derived.OwnWalk
import Derived.Laws.BytesArg
import Derived.Laws.MakeOwn
import Derived.Laws.OwnMore
import Derived.Deep.OwnRows
import Derived.Tactics
import Derived.Lib.ConvBytes
import Derived.Laws.Slices
import Derived.WalkKit
import Derived.KernelRfl
import Derived.RowKit3
import Derived.Deep.LoopGhost
import Derived.Deep.QuietTactic
import Derived.BigQuiet
import Derived.WideLaws
import Derived.Deep.DeepCutAuto
import Derived.Deep.CutBlock
import Derived.Deep.RegionHeld3
import Derived.Laws.Rows
import Derived.Lib.AppendStr
import Derived.ArgAppend
import Derived.Laws.IdiomCopy
import Derived.OrdersHeld
import Derived.Laws.BitsLemmas
import Derived.RowKit
import Derived.Shelf.Abstract
import Derived.WalkLawsBesides
import Derived.Lib.BufferWrite
import Derived.Laws.CopyOwn
import Derived.Shelf.Strconv.Itoa3
import Derived.Shelf.Lay
import Derived.Ground.NamesProg
import Derived.Lib.AppendIntMem
import Derived.Shelf.Strconv.ErrVarAll
import Derived.Shelf.LaysC
import Derived.Shelf.Strings.Split
import Derived.Shelf.Strings.Search3
import Derived.Shelf.Strings.IndexAnyAll
import Derived.Laws.Runes
import Derived.Laws.RangeAny
import Derived.Shelf.Small.Utf8
import Derived.Lib.OthersKept
import Derived.Lib.DecodeN
import Derived.Lib.TrimUEq
import Derived.Lib.MapLaws
import Derived.WalkMore
import Derived.Deep.RegionHeld
namespace Go.Proofs.YtgnbfmoifnfneaaDoor.V
open Go
set_option linter.unusedVariables false
set_option linter.unusedSimpArgs false
section
variable {P : Program} {L : Lay} {E : Ent} {V : Vl} {w : World}
def rawL : List (SV L.D) → Option (List Value)
 | [] => some []
 | .v x :: l => match rawL l with
  | some r => some (x :: r)
  | none => none
 | _ => none
def rawV : SV L.D → Option Value
 | .v x => some x
 | .agg cs => match rawL cs with
  | some l => some (.agg l.toArray)
  | none => none
 | _ => none
theorem rawL_ok : ∀ {cs : List (SV L.D)} {l : List Value}, rawL cs = some l → l.length = cs.length ∧ ∀ j, j < cs.length → cs.getD j .dead = .v (l.getD j undef)
 | [], l, h => by
  obtain rfl := Option.some.inj h
  exact ⟨rfl, fun j hj => absurd hj (Nat.not_lt_zero j)⟩
 | s :: cs, l, h => by
  cases s with
  | v x =>
   simp only [rawL] at h
   cases hr : rawL cs with
   | none => rw [hr] at h; cases h
   | some r =>
    (rw [hr] at h); (obtain rfl := Option.some.inj h); (obtain ⟨h1, h2⟩ := rawL_ok hr)
    refine ⟨by simp [h1], fun j hj => ?_⟩
    cases j with
    | zero => rfl
    | succ j => simpa using h2 j (by simpa using hj)
  | _ => cases h
theorem rawV_ok {F : Nat → Prop} {st : St L.D} {tm : Array Value} {s : SV L.D} {u x : Value} (h : SR L w F st V tm s u) (hr : rawV s = some x) : u = x := by
 cases s with
 | v y =>
  obtain rfl := Option.some.inj hr
  exact h.v_inv.1
 | agg cs =>
  simp only [rawV] at hr
  cases hl : rawL cs with
  | none => rw [hl] at hr; cases hr
  | some l =>
   (rw [hl] at hr); (obtain rfl := Option.some.inj hr); (obtain ⟨h1, h2⟩ := rawL_ok hl); (obtain ⟨vs, rfl, hlen, _, hj⟩ := h.agg_inv)
   congr 2
   refine List.ext_getElem (by omega) fun j hj1 hj2 => ?_
   (have := hj j (by omega)); (rw [h2 j (by omega)] at this); (have := this.v_inv.1); (rw [getD_lt hj1, getD_lt hj2] at this)
   exact this
 | _ => cases hr
theorem start_adr {az : List (SV L.D)} {a : Act} (h : Rel L E (start L az) V a w) (hp : ∀ s ∈ az, ∀ cs, s ≠ .pb cs) : E.adr = [] := by
 (have hn : startB L 0 az = ([], []) := start_none 0 az hp); (have hi : (start L az).imps = [] := by unfold start; rw [hn]; rfl); (have := h.impN); (rw [hi] at this)
 exact List.eq_nil_of_length_eq_zero this.symm
theorem start_arg {az : List (SV L.D)} {vals : List Value} (h : Rel L E (start L az) V ⟨vals.toArray, []⟩ w) {p : Nat} (hp : p < az.length) {s : SV L.D} (hs : az.getD p .dead = s) (hn : ∀ cs, s ≠ .pb cs) : SR L w (Fz E (start L az) V w) (start L az) V vals.toArray s (vals.getD p undef) := by
 have e1 : (start L az).tmp p = startS p (az.getD p .dead) := by
  (have := startT_get 0 az p hp); (rw [Nat.zero_add] at this)
  unfold St.tmp start
  simp only [this]; rfl
 (have e2 : startS p s = s := by cases s <;> first | rfl | exact absurd rfl (hn _)); (have e3 : ({ tmps := vals.toArray, defers := [] } : Act).tmps.getD p undef = vals.getD p undef := by simp [List.getD_eq_getElem?_getD]); (have := h.tmp p); (rw [e1, hs, e2, e3] at this)
 exact this
theorem start_vals {az : List (SV L.D)} {vals xs : List Value} (h : Rel L E (start L az) V ⟨vals.toArray, []⟩ w) (hl : az.length = vals.length) (hx : az.map rawV = xs.map some) : vals = xs := by
 have hlx : xs.length = az.length := by have := congrArg List.length hx; simpa using this.symm
 refine List.ext_getElem (by omega) fun p h1 h2 => ?_
 have hp : p < az.length := by omega
 have hr : rawV az[p] = some xs[p] := by
  have := congrArg (fun l => l[p]?) hx
  simpa [hp, h2] using this
 (have hn : ∀ cs, az[p] ≠ .pb cs := fun cs e => by rw [e] at hr; cases hr); (have := start_arg h hp (getD_lt hp _) hn); (have := rawV_ok this hr)
 rwa [getD_lt h1] at this
theorem start_flatv {az : List (SV L.D)} {xs : List Value} (hx : az.map rawV = xs.map some) : ∀ s ∈ az, ∀ cs, s ≠ .pb cs := fun s hs cs e => by
 (have : rawV s ∈ az.map rawV := List.mem_map.2 ⟨s, hs, rfl⟩); (rw [hx, e] at this); (obtain ⟨y, _, h⟩ := List.mem_map.1 this)
 cases h
theorem postV_flat {s : Sig} {cs : List (SV L.D)} {vs : List Value} {v : Value} {w' : World} (ha : E.adr = []) (hb : RowKit.Below E.w0.heap.size E.w0 w') (hr : rawL cs = some vs) (h1 : ∀ u ∈ vs, u.oneCell' = true) (hv : v = valueV (packV s.res s.aggs vs)) : PostV L E s cs vs v w' := by
 (obtain ⟨r1, r2⟩ := rawL_ok hr); (have nf : ∀ c, c < cs.length → ¬ IsFr (cs.getD c .dead) := fun c hc ⟨t, xs, e⟩ => by rw [r2 c hc] at e; cases e)
 refine ⟨r1, hv, h1, fun c t xs hc e => absurd ⟨t, xs, e⟩ (nf c hc), fun c hc _ => ?_, fun c c' k ho _ => absurd ho.2.1 (nf c ho.1), fun c k ho => absurd ho.2.1 (nf c ho.1), (fun q p hq => by rw [ha] at hq; simp at hq), (fun q p hq => by rw [ha] at hq; simp at hq), hb.size, fun k hk _ => hb.block k hk, hb.os, hb.tape, hb.output⟩
 (rw [r2 c hc]); (have : vs.getD c undef ∈ vs := by rw [getD_lt (by omega)]; exact List.getElem_mem _)
 exact .v _ (h1 _ this)
theorem postV_row {s : Sig} {t : TypeId} {xs : List (L.D t)} {v : Value} {w' : World} (ha : E.adr = []) (hold : ∀ k, E.F0 k → k < E.w0.heap.size) (hb : RowKit.Below E.w0.heap.size E.w0 w') (h1 : v.oneCell' = true) (hs : s.res = [[.fr t]]) (hg : s.aggs = [false]) (hrow : RowOk L w' (fun _ => False) v t xs) (hk : ∀ k, v.ownBlock = some k → E.w0.heap.size ≤ k) : PostV L E s [.fr t xs] [v] v w' := by
 refine ⟨rfl, by rw [hs, hg]; rfl, fun u hu => by rw [List.mem_singleton.1 hu]; exact h1, fun c t' xs' hc e => ?_, fun c hc hn => ?_, fun c c' k ho ho' => ?_, fun c k ho => ?_, (fun q p hq => by rw [ha] at hq; simp at hq), (fun q p hq => by rw [ha] at hq; simp at hq), hb.size, fun k hk _ => hb.block k hk, hb.os, hb.tape, hb.output⟩
 ·obtain rfl : c = 0 := by simpa using hc
  simp only [List.getD_cons_zero] at e ⊢
  injection e with e1 e2
  (subst e1); (obtain rfl := eq_of_heq e2)
  exact hrow.mono (fun k hk => hk.elim) fun _ _ => rfl
 ·obtain rfl : c = 0 := by simpa using hc
  exact absurd ⟨t, xs, rfl⟩ hn
 ·have h1 := ho.1; have h2 := ho'.1
  simp at h1 h2; omega
 ·obtain rfl : c = 0 := by have := ho.1; simpa using this
  have := hk k ho.2.2
  exact ⟨fun hf => by have := hold k hf; omega, .inl this, (fun p hp => by rw [ha] at hp; cases hp)⟩
end
def TabW (W : World) : TabP := fun F w => ∀ k, k < W.heap.size → F k ∧ w.heap[k]? = W.heap[k]?
theorem tabW_kept (W : World) : TabKept (TabW W) := fun F F' w w' h hk k hlt => ⟨(hk k (h k hlt).1).1, (hk k (h k hlt).1).2.trans (h k hlt).2⟩
theorem tabW_here (W : World) : TabW W (fun k => k < W.heap.size) W := fun k hk => ⟨hk, rfl⟩
theorem tabW_below {W w : World} {F : Nat → Prop} (h : TabW W F w) : RowKit.Below W.heap.size W { w with os := W.os, tape := W.tape, output := W.output } := by
 refine ⟨rfl, rfl, rfl, ?_, fun k hk => (h k hk).2⟩
 show W.heap.size ≤ w.heap.size
 rcases Nat.eq_zero_or_pos W.heap.size with h0 | h0
 ·omega
 ·have := (h (W.heap.size - 1) (by omega)).2
  (have h2 : W.heap.size - 1 < W.heap.size := by omega); (rw [Array.getElem?_eq_getElem h2] at this); (have := (Array.getElem?_eq_some_iff.1 this).1)
  omega
end Go.Proofs.YtgnbfmoifnfneaaDoor.V
namespace Go.Proofs.YtgnbfmoifnfneaaDoor.V
open Go
set_option linter.unusedVariables false
abbrev tabD : TypeId → (α : Type) × α
 | 3 => ⟨Int, (0 : Int)⟩
 | 5 => ⟨Int, (0 : Int)⟩
 | 9 => ⟨ByteArray, (⟨#[]⟩ : ByteArray)⟩
 | _ => ⟨Unit, ()⟩
abbrev DD (t : TypeId) : Type := (tabD t).1
def zeroD (t : TypeId) : DD t := (tabD t).2
def tiD : TypeId → TI
 | 2 => ⟨.int .i64, 1, 8⟩
 | 3 => ⟨.int .i64, 1, 8⟩
 | 4 => ⟨.bool, 1, 1⟩
 | 5 => ⟨.int .u8, 1, 1⟩
 | 9 => ⟨.str, 1, 16⟩
 | 21 => ⟨.int .i32, 1, 4⟩
 | 22 => ⟨.struct [(0, 1), (1, 1), (2, 1), (3, 1), (4, 1), (5, 1), (6, 1)], 7, 72⟩
 | 23 => ⟨.struct [(0, 1), (1, 1), (2, 1), (3, 1), (4, 1), (5, 1), (6, 1)], 7, 72⟩
 | 28 => ⟨.slice 5, 1, 24⟩
 | 30 => ⟨.struct [(0, 1), (1, 1), (2, 1), (3, 1)], 4, 32⟩
 | 31 => ⟨.struct [(0, 1), (1, 1), (2, 1), (3, 1)], 4, 32⟩
 | 38 => ⟨.slice 9, 1, 24⟩
 | 43 => ⟨.ptr 60, 1, 8⟩
 | 57 => ⟨.slice 3, 1, 24⟩
 | 59 => ⟨.struct [(0, 1), (1, 1), (2, 1)], 3, 40⟩
 | 60 => ⟨.struct [(0, 1), (1, 1), (2, 1)], 3, 40⟩
 | 87 => ⟨.ptr 103, 1, 8⟩
 | 90 => ⟨.int .u64, 1, 8⟩
 | 92 => ⟨.int .u64, 1, 8⟩
 | 98 => ⟨.ptr 77, 1, 8⟩
 | 102 => ⟨.struct [(0, 1), (1, 1), (2, 1)], 3, 48⟩
 | 103 => ⟨.struct [(0, 1), (1, 1), (2, 1)], 3, 48⟩
 | 105 => ⟨.int .u32, 1, 4⟩
 | 113 => ⟨.struct [(0, 1), (1, 1)], 2, 2⟩
 | 114 => ⟨.struct [(0, 1), (1, 1)], 2, 2⟩
 | 117 => ⟨.ptr 5, 1, 8⟩
 | 118 => ⟨.ptr 120, 1, 8⟩
 | 119 => ⟨.struct [(0, 1)], 1, 16⟩
 | 120 => ⟨.struct [(0, 1)], 1, 16⟩
 | _ => ⟨.other, 0, 0⟩
def cellD : (t : TypeId) → DD t → List (SV DD)
 | 3, x => [.v (.int .i64 x)]
 | 5, x => [.v (.int .u8 x)]
 | 9, x => [.v (.string x)]
 | t, _ => List.replicate (tiD t).sz (.v (.bool false))
def listOf (t : TypeId) : SV DD → Option (List (DD t))
 | .ro t' xs => castL xs
 | .nl t' => match Nat.beq t t' with
  | true => some []
  | false => none
 | _ => none
def makeD : (t : TypeId) → List (SV DD) → Option (DD t)
 | 3, [.v (.int .i64 a0)] => some a0
 | 5, [.v (.int .u8 a0)] => some a0
 | 9, [.v (.string a0)] => some a0
 | _, _ => none
def tsD : List TypeId := [2, 3, 4, 5, 9, 21, 22, 23, 28, 30, 31, 38, 43, 57, 59, 60, 87, 90, 92, 98, 102, 103, 105, 113, 114, 117, 118, 119, 120]
def zeroC : TypeId → List (SV DD)
 | 2 => [.v (.int .i64 (0 : Int))]
 | 3 => [.v (.int .i64 (0 : Int))]
 | 4 => [.v (.bool false)]
 | 5 => [.v (.int .u8 (0 : Int))]
 | 9 => [.v (.string (⟨#[]⟩ : ByteArray))]
 | 21 => [.v (.int .i32 (0 : Int))]
 | 22 => [.v (.int .i64 (0 : Int)), .v (.string (⟨#[]⟩ : ByteArray)), .v (.int .i64 (0 : Int)), .v (.int .i64 (0 : Int)), .v (.int .i64 (0 : Int)), .v (.int .i64 (0 : Int)), .v (.string (⟨#[]⟩ : ByteArray))]
 | 23 => [.v (.int .i64 (0 : Int)), .v (.string (⟨#[]⟩ : ByteArray)), .v (.int .i64 (0 : Int)), .v (.int .i64 (0 : Int)), .v (.int .i64 (0 : Int)), .v (.int .i64 (0 : Int)), .v (.string (⟨#[]⟩ : ByteArray))]
 | 28 => [.nl 5]
 | 30 => [.v (.int .i64 (0 : Int)), .v (.int .i64 (0 : Int)), .v (.int .i64 (0 : Int)), .v (.int .i64 (0 : Int))]
 | 31 => [.v (.int .i64 (0 : Int)), .v (.int .i64 (0 : Int)), .v (.int .i64 (0 : Int)), .v (.int .i64 (0 : Int))]
 | 38 => [.nl 9]
 | 43 => [.v (.pointer none)]
 | 57 => [.nl 3]
 | 59 => [.nl 5, .v (.int .i64 (0 : Int)), .v (.int .i64 (0 : Int))]
 | 60 => [.nl 5, .v (.int .i64 (0 : Int)), .v (.int .i64 (0 : Int))]
 | 87 => [.v (.pointer none)]
 | 90 => [.v (.int .u64 (0 : Int))]
 | 92 => [.v (.int .u64 (0 : Int))]
 | 98 => [.v (.pointer none)]
 | 102 => [.v (.string (⟨#[]⟩ : ByteArray)), .v (.string (⟨#[]⟩ : ByteArray)), .v .nilIface]
 | 103 => [.v (.string (⟨#[]⟩ : ByteArray)), .v (.string (⟨#[]⟩ : ByteArray)), .v .nilIface]
 | 105 => [.v (.int .u32 (0 : Int))]
 | 113 => [.v (.int .u8 (0 : Int)), .v (.int .u8 (0 : Int))]
 | 114 => [.v (.int .u8 (0 : Int)), .v (.int .u8 (0 : Int))]
 | 117 => [.v (.pointer none)]
 | 118 => [.v (.pointer none)]
 | 119 => [.v (.string (⟨#[]⟩ : ByteArray))]
 | 120 => [.v (.string (⟨#[]⟩ : ByteArray))]
 | _ => []
def eqtL : List (Nat × List Nat) := [(22, [1, 3, 1, 1, 1, 1, 3]), (23, [1, 3, 1, 1, 1, 1, 3]), (30, [1, 1, 1, 1]), (31, [1, 1, 1, 1]), (113, [1, 1]), (114, [1, 1]), (119, [3]), (120, [3])]
def eqtD (t : TypeId) : List Nat := match look eqtL t with
 | some l => l
 | none => []
def LD : Lay := { eqt := eqtD, D := DD, ti := tiD, zero := zeroC, cell := cellD, make := makeD, zd := zeroD }
def sigL : List (Nat × Sig) := [(2, ⟨[], [], [], false⟩),
 (3, ⟨[[.bool]], [], [false], false⟩),
 (4, ⟨[[.bool]], [], [false], false⟩),
 (5, ⟨[[.int .i64, .str, .int .i64, .int .i64, .int .i64, .int .i64, .str], [.bool]], [], [true, false], false⟩),
 (6, ⟨[[.int .i64, .str, .int .i64, .int .i64, .int .i64, .int .i64, .str], [.bool]], [], [true, false], false⟩),
 (7, ⟨[[.bool]], [], [false], false⟩),
 (8, ⟨[[.bool]], [], [false], false⟩),
 (9, ⟨[[.int .i64, .int .i64, .int .i64, .int .i64]], [], [true], false⟩),
 (10, ⟨[[.int .i64, .str, .int .i64, .int .i64, .int .i64, .int .i64, .str]], [], [true], false⟩),
 (11, ⟨[[.str]], [], [false], false⟩),
 (12, ⟨[[.str]], [], [false], false⟩),
 (13, ⟨[[.str]], [], [false], false⟩),
 (14, ⟨[[.str]], [], [false], false⟩),
 (15, ⟨[[.int .i64, .int .i64, .int .i64, .int .i64], [.bool]], [], [true, false], false⟩),
 (16, ⟨[[.fr 9]], [], [false], false⟩),
 (17, ⟨[[.int .i64], [.bool]], [], [false, false], false⟩),
 (18, ⟨[[.int .i64, .str, .int .i64, .int .i64, .int .i64, .int .i64, .str]], [], [true], false⟩),
 (19, ⟨[[.str]], [], [false], false⟩),
 (20, ⟨[[.ro 5, .int .i64, .int .i64]], [], [false], true⟩),
 (21, ⟨[[.int .i64, .int .i64, .int .i64, .int .i64]], [[.fr 5, .int .i64, .int .i64]], [true], false⟩),
 (22, ⟨[[.bool]], [[.fr 5, .int .i64, .int .i64]], [false], false⟩),
 (23, ⟨[[.int .i64, .str, .int .i64, .int .i64, .int .i64, .int .i64, .str]], [[.fr 5, .int .i64, .int .i64]], [true], false⟩),
 (24, ⟨[[.int .i64, .str, .int .i64, .int .i64, .int .i64, .int .i64, .str]], [[.fr 5, .int .i64, .int .i64]], [true], false⟩),
 (25, ⟨[[.str]], [], [false], false⟩),
 (26, ⟨[[.bool]], [], [false], false⟩),
 (27, ⟨[[.bool]], [], [false], false⟩),
 (28, ⟨[[.str]], [], [false], false⟩),
 (29, ⟨[[.bool]], [], [false], false⟩),
 (30, ⟨[[.bool]], [], [false], false⟩),
 (31, ⟨[[.fr 9]], [], [false], false⟩),
 (32, ⟨[[.int .i64], [.bool]], [], [false, false], false⟩),
 (33, ⟨[[.fr 9]], [], [false], false⟩),
 (34, ⟨[[.bool]], [], [false], false⟩),
 (35, ⟨[[.bool]], [], [false], false⟩),
 (36, ⟨[[.str]], [], [false], false⟩),
 (37, ⟨[[.bool]], [], [false], false⟩),
 (38, ⟨[[.bool]], [], [false], false⟩),
 (39, ⟨[[.int .i64, .int .i64, .int .i64, .int .i64]], [[.fr 5, .int .i64, .int .i64]], [true], false⟩),
 (40, ⟨[[.int .i64]], [[.fr 5, .int .i64, .int .i64]], [false], false⟩),
 (41, ⟨[[.int .i64]], [[.fr 5, .int .i64, .int .i64]], [false], false⟩),
 (42, ⟨[[.int .i64]], [[.fr 5, .int .i64, .int .i64]], [false], false⟩),
 (43, ⟨[[.int .i64]], [[.fr 5, .int .i64, .int .i64]], [false], false⟩),
 (44, ⟨[[.int .i64, .str, .int .i64, .int .i64, .int .i64, .int .i64, .str]], [[.fr 5, .int .i64, .int .i64]], [true], false⟩),
 (45, ⟨[[.bool]], [], [false], false⟩),
 (46, ⟨[[.bool]], [], [false], false⟩),
 (47, ⟨[[.bool]], [], [false], false⟩),
 (48, ⟨[[.bool]], [], [false], false⟩),
 (49, ⟨[[.fr 9]], [], [false], false⟩),
 (51, ⟨[[.bool]], [], [false], false⟩),
 (52, ⟨[[.int .i64]], [], [false], false⟩),
 (53, ⟨[[.str]], [], [false], false⟩),
 (54, ⟨[[.int .i64]], [], [false], false⟩),
 (55, ⟨[[.int .i64]], [[.fr 5, .int .i64, .int .i64]], [false], false⟩),
 (56, ⟨[[.str]], [[.fr 5, .int .i64, .int .i64]], [false], false⟩),
 (57, ⟨[[.str]], [[.fr 5, .int .i64, .int .i64]], [false], false⟩),
 (58, ⟨[[.str]], [[.fr 5, .int .i64, .int .i64]], [false], false⟩),
 (59, ⟨[[.bool]], [], [false], false⟩),
 (60, ⟨[[.fr 9]], [], [false], false⟩),
 (61, ⟨[[.int .i64]], [], [false], false⟩),
 (64, ⟨[[.int .i64]], [], [false], false⟩),
 (65, ⟨[[.str]], [], [false], false⟩),
 (66, ⟨[[.int .i64]], [], [false], false⟩),
 (67, ⟨[[.bool]], [], [false], false⟩),
 (68, ⟨[[.bool, .bool, .bool, .bool, .bool, .bool, .bool, .bool, .bool, .bool, .bool, .bool, .bool, .bool, .bool, .bool, .bool, .bool, .bool, .bool, .bool, .bool, .bool, .bool, .bool, .bool, .bool, .bool, .bool, .bool, .bool, .bool, .bool, .bool, .bool, .bool, .bool, .bool, .bool, .bool, .bool, .bool, .bool, .bool, .bool, .bool, .bool, .bool, .bool, .bool, .bool, .bool, .bool, .bool, .bool, .bool, .bool, .bool, .bool, .bool, .bool, .bool, .bool, .bool, .bool, .bool, .bool, .bool, .bool, .bool, .bool, .bool, .bool, .bool, .bool, .bool, .bool, .bool, .bool, .bool, .bool, .bool, .bool, .bool, .bool, .bool, .bool, .bool, .bool, .bool, .bool, .bool, .bool, .bool, .bool, .bool, .bool, .bool, .bool, .bool, .bool, .bool, .bool, .bool, .bool, .bool, .bool, .bool, .bool, .bool, .bool, .bool, .bool, .bool, .bool, .bool, .bool, .bool, .bool, .bool, .bool, .bool, .bool, .bool, .bool, .bool, .bool, .bool, .bool, .bool, .bool, .bool, .bool, .bool, .bool, .bool, .bool, .bool, .bool, .bool, .bool, .bool, .bool, .bool, .bool, .bool, .bool, .bool, .bool, .bool, .bool, .bool, .bool, .bool, .bool, .bool, .bool, .bool, .bool, .bool, .bool, .bool, .bool, .bool, .bool, .bool, .bool, .bool, .bool, .bool, .bool, .bool, .bool, .bool, .bool, .bool, .bool, .bool, .bool, .bool, .bool, .bool, .bool, .bool, .bool, .bool, .bool, .bool, .bool, .bool, .bool, .bool, .bool, .bool, .bool, .bool, .bool, .bool, .bool, .bool, .bool, .bool, .bool, .bool, .bool, .bool, .bool, .bool, .bool, .bool, .bool, .bool, .bool, .bool, .bool, .bool, .bool, .bool, .bool, .bool, .bool, .bool, .bool, .bool, .bool, .bool, .bool, .bool, .bool, .bool, .bool, .bool, .bool, .bool, .bool, .bool, .bool, .bool, .bool, .bool, .bool, .bool, .bool, .bool, .bool, .bool, .bool, .bool, .bool, .bool, .bool, .bool, .bool, .bool, .bool, .bool], [.bool]], [], [false, false], false⟩),
 (69, ⟨[[.bool]], [[.bool, .bool, .bool, .bool, .bool, .bool, .bool, .bool, .bool, .bool, .bool, .bool, .bool, .bool, .bool, .bool, .bool, .bool, .bool, .bool, .bool, .bool, .bool, .bool, .bool, .bool, .bool, .bool, .bool, .bool, .bool, .bool, .bool, .bool, .bool, .bool, .bool, .bool, .bool, .bool, .bool, .bool, .bool, .bool, .bool, .bool, .bool, .bool, .bool, .bool, .bool, .bool, .bool, .bool, .bool, .bool, .bool, .bool, .bool, .bool, .bool, .bool, .bool, .bool, .bool, .bool, .bool, .bool, .bool, .bool, .bool, .bool, .bool, .bool, .bool, .bool, .bool, .bool, .bool, .bool, .bool, .bool, .bool, .bool, .bool, .bool, .bool, .bool, .bool, .bool, .bool, .bool, .bool, .bool, .bool, .bool, .bool, .bool, .bool, .bool, .bool, .bool, .bool, .bool, .bool, .bool, .bool, .bool, .bool, .bool, .bool, .bool, .bool, .bool, .bool, .bool, .bool, .bool, .bool, .bool, .bool, .bool, .bool, .bool, .bool, .bool, .bool, .bool, .bool, .bool, .bool, .bool, .bool, .bool, .bool, .bool, .bool, .bool, .bool, .bool, .bool, .bool, .bool, .bool, .bool, .bool, .bool, .bool, .bool, .bool, .bool, .bool, .bool, .bool, .bool, .bool, .bool, .bool, .bool, .bool, .bool, .bool, .bool, .bool, .bool, .bool, .bool, .bool, .bool, .bool, .bool, .bool, .bool, .bool, .bool, .bool, .bool, .bool, .bool, .bool, .bool, .bool, .bool, .bool, .bool, .bool, .bool, .bool, .bool, .bool, .bool, .bool, .bool, .bool, .bool, .bool, .bool, .bool, .bool, .bool, .bool, .bool, .bool, .bool, .bool, .bool, .bool, .bool, .bool, .bool, .bool, .bool, .bool, .bool, .bool, .bool, .bool, .bool, .bool, .bool, .bool, .bool, .bool, .bool, .bool, .bool, .bool, .bool, .bool, .bool, .bool, .bool, .bool, .bool, .bool, .bool, .bool, .bool, .bool, .bool, .bool, .bool, .bool, .bool, .bool, .bool, .bool, .bool, .bool, .bool, .bool, .bool, .bool, .bool, .bool, .bool]], [false], false⟩),
 (70, ⟨[[.int .i64]], [], [false], false⟩),
 (71, ⟨[[.int .i32], [.int .i64]], [], [false, false], false⟩),
 (78, ⟨[[.int .i64]], [], [false], false⟩),
 (80, ⟨[[.int .i64]], [], [false], false⟩),
 (81, ⟨[[.int .i64]], [], [false], false⟩),
 (82, ⟨[[.str]], [], [false], false⟩),
 (83, ⟨[[.int .i64]], [], [false], false⟩),
 (84, ⟨[], [], [], false⟩),
 (85, ⟨[[.fr 5], [.str]], [], [false, false], false⟩),
 (86, ⟨[[.int .i64]], [], [false], false⟩),
 (87, ⟨[[.bool]], [], [false], false⟩),
 (88, ⟨[[.int .i32], [.int .i64]], [], [false, false], false⟩),
 (90, ⟨[[.str]], [], [false], false⟩),
 (93, ⟨[[.int .u32], [.int .u32]], [], [false, false], false⟩),
 (94, ⟨[[.int .i64]], [], [false], false⟩),
 (95, ⟨[[.int .i64]], [], [false], false⟩),
 (96, ⟨[[.int .i64]], [], [false], false⟩),
 (97, ⟨[[.bool]], [], [false], false⟩),
 (98, ⟨[[.int .i64]], [], [false], false⟩),
 (99, ⟨[[.int .u8]], [], [false], false⟩),
 (100, ⟨[[.bool]], [], [false], false⟩),
 (101, ⟨[[.int .i64]], [], [false], false⟩),
 (102, ⟨[[.int .i64]], [], [false], false⟩),
 (132, ⟨[], [], [], false⟩)]
def sigD (f : FuncId) : Sig := match look sigL f with
 | some s => s
 | none => ⟨[], [], [], false⟩
def live2 : Nat → List Nat
 | 0 => []
 | _ => []
def live3 : Nat → List Nat
 | 0 => [0]
 | 1 => [0, 9]
 | 2 => [2]
 | 3 => [0, 3, 4]
 | 4 => [3, 4, 5, 6]
 | 5 => [28]
 | 6 => [2]
 | 7 => [2]
 | 900009 => [9]
 | 900028 => [28]
 | _ => []
def live4 : Nat → List Nat
 | 0 => [0]
 | 1 => [0, 12]
 | 2 => [2]
 | 3 => [0, 3]
 | 4 => [3, 4]
 | 5 => [3, 4, 5]
 | 6 => [3, 4, 5, 6]
 | 7 => [3, 4, 5, 6, 30]
 | 8 => [2]
 | 9 => [3, 4, 5, 6, 32]
 | 10 => [3, 4, 6, 7, 8]
 | 11 => [4, 6, 44]
 | 12 => [2]
 | 13 => [4, 6, 46]
 | 14 => [4, 9, 10]
 | 15 => [58]
 | 16 => [2]
 | 17 => [2]
 | 900012 => [12]
 | 900030 => [30]
 | 900032 => [32]
 | 900044 => [44]
 | 900046 => [46]
 | 900058 => [58]
 | _ => []
def live5 : Nat → List Nat
 | 0 => [0, 2]
 | 1 => [0, 2, 10]
 | 2 => [2, 3]
 | 3 => [0, 2, 4]
 | 4 => [0, 2, 4, 5]
 | 5 => [0, 2, 4, 5, 15]
 | 6 => [0, 2, 5]
 | 7 => [0, 2, 4, 5, 29]
 | 8 => [0, 2, 4, 5]
 | 9 => [0, 2, 4, 5]
 | 10 => [0, 2, 5]
 | 11 => [0, 2, 4, 5, 59]
 | 12 => [0, 2, 4, 5]
 | 13 => [0, 2, 5]
 | 14 => [0, 2, 4, 5, 81]
 | 15 => [0, 2, 5]
 | 16 => [0, 2, 4, 5, 95]
 | 17 => [0, 2, 4, 5]
 | 18 => [0, 2, 5]
 | 19 => [0, 2, 5, 117]
 | 20 => [0, 2, 5, 6]
 | 21 => [0, 2, 5, 6]
 | 22 => [0, 2, 5]
 | 23 => [0, 2, 5, 7]
 | 24 => [2, 5, 149]
 | 25 => [2, 3]
 | 26 => [2, 3]
 | 900010 => [10]
 | 900015 => [15]
 | 900029 => [29]
 | 900059 => [59]
 | 900081 => [81]
 | 900095 => [95]
 | 900117 => [117]
 | 900149 => [149]
 | _ => []
def live6 : Nat → List Nat
 | 0 => [0, 2]
 | 1 => [0, 2, 4]
 | 2 => [2, 4, 14]
 | 3 => [2, 3]
 | 4 => [2, 3]
 | 900014 => [14]
 | _ => []
def live7 : Nat → List Nat
 | 0 => [2, 3]
 | 1 => [2, 3, 9]
 | 2 => [4]
 | 3 => [2, 3, 14]
 | 4 => [4]
 | 5 => [2, 3, 19]
 | 6 => [4]
 | 7 => [2, 3, 24]
 | 8 => [4]
 | 9 => [2, 3, 29]
 | 10 => [4]
 | 11 => [2, 3, 34]
 | 12 => [4]
 | 13 => [39]
 | 14 => [4]
 | 15 => [4]
 | 900009 => [9]
 | 900014 => [14]
 | 900019 => [19]
 | 900024 => [24]
 | 900029 => [29]
 | 900034 => [34]
 | 900039 => [39]
 | _ => []
def live8 : Nat → List Nat
 | 0 => [0]
 | 1 => [2]
 | _ => []
def live9 : Nat → List Nat
 | 0 => [0, 2]
 | 1 => [2, 3]
 | 2 => [2]
 | _ => []
def live10 : Nat → List Nat
 | 0 => [0, 2]
 | 1 => [2, 3]
 | 2 => [2, 3, 7]
 | 3 => [2]
 | 4 => [2]
 | 900007 => [7]
 | _ => []
def live11 : Nat → List Nat
 | 0 => [1]
 | 1 => [2]
 | _ => []
def live12 : Nat → List Nat
 | 0 => [1]
 | 1 => [2]
 | _ => []
def live13 : Nat → List Nat
 | 0 => [1]
 | 1 => [1, 11]
 | 2 => [2]
 | 3 => [2]
 | 900011 => [11]
 | _ => []
def live14 : Nat → List Nat
 | 0 => [1]
 | 1 => [1, 27]
 | 2 => [2]
 | 3 => [1, 3]
 | 4 => [1, 3, 4]
 | 5 => [1, 3, 4, 5]
 | 6 => [1, 85]
 | 7 => [2]
 | 8 => [1, 87]
 | 9 => [1, 87, 88]
 | 10 => [2]
 | 11 => [1, 87, 93]
 | 12 => [2]
 | 13 => [1, 87, 108]
 | 14 => [2]
 | 15 => [1, 87, 118]
 | 16 => [2]
 | 17 => [1, 123]
 | 18 => [2]
 | 19 => [1, 6]
 | 20 => [1, 6, 137]
 | 21 => [1, 6]
 | 22 => [1, 6, 144]
 | 23 => [2]
 | 24 => [2]
 | 900027 => [27]
 | 900085 => [85]
 | 900088 => [88]
 | 900093 => [93]
 | 900108 => [108]
 | 900118 => [118]
 | 900123 => [123]
 | 900137 => [137]
 | 900144 => [144]
 | _ => []
def live15 : Nat → List Nat
 | 0 => [0, 2]
 | 1 => [0, 2, 4]
 | 2 => [0, 2, 4, 14]
 | 3 => [2, 3]
 | 4 => [0, 2, 4, 5]
 | 5 => [0, 2, 4, 5, 16]
 | 6 => [0, 2, 4, 5, 16, 17]
 | 7 => [0, 2, 4, 5, 6, 16]
 | 8 => [0, 2, 4, 5, 6, 7, 8, 16]
 | 9 => [0, 2, 4, 5, 6, 7, 16, 30]
 | 10 => [2, 3]
 | 11 => [0, 2, 4, 5, 16]
 | 12 => [0, 2, 4, 5, 16]
 | 13 => [0, 2, 9]
 | 14 => [2, 9, 48]
 | 15 => [2, 3]
 | 16 => [2, 3]
 | 900014 => [14]
 | 900017 => [17]
 | 900030 => [30]
 | 900048 => [48]
 | _ => []
def live16 : Nat → List Nat
 | 0 => [0, 1, 2]
 | 1 => [0, 1, 2, 7]
 | 2 => [0, 1, 2, 7, 8]
 | 3 => [0, 1, 2, 7, 8, 9]
 | 4 => [0, 1, 2, 7, 8, 9, 21]
 | 5 => [0, 1, 2, 7, 8, 9]
 | 6 => [0, 1, 2, 7, 8, 9, 28]
 | 7 => [0, 1, 2, 7, 9]
 | 8 => [0, 1, 2, 7, 8, 9]
 | 9 => [6]
 | 900021 => [21]
 | 900028 => [28]
 | _ => []
def live17 : Nat → List Nat
 | 0 => [0]
 | 1 => [0, 13]
 | 2 => [2, 3]
 | 3 => [0, 4]
 | 4 => [0, 4, 5]
 | 5 => [0, 4, 5, 17]
 | 6 => [0, 4, 5]
 | 7 => [0, 4, 5, 29]
 | 8 => [2, 3]
 | 9 => [0, 4, 5]
 | 10 => [2, 3]
 | 900013 => [13]
 | 900017 => [17]
 | 900029 => [29]
 | _ => []
def live18 : Nat → List Nat
 | 0 => [0, 2]
 | 1 => [0, 2, 3]
 | 2 => [0, 2, 3, 4]
 | 3 => [0, 2, 3, 4, 14, 15]
 | 4 => [0, 2, 3, 4, 14, 15, 16]
 | 5 => [0, 2, 3, 4, 5, 6, 14, 15]
 | 6 => [0, 2, 3, 4, 5, 14, 15, 23]
 | 7 => [0, 2, 3, 4, 14, 15]
 | 8 => [0, 2, 3, 4, 14, 15]
 | 9 => [0, 2, 3, 4, 27]
 | 10 => [2, 3, 4, 30]
 | 11 => [2]
 | 12 => [2, 3, 4, 7]
 | 13 => [2]
 | 14 => [2, 3, 4]
 | 15 => [2, 3, 4, 9]
 | 16 => [2, 3, 4, 9, 47]
 | 17 => [2, 3, 4, 9, 47, 48]
 | 18 => [2, 3, 4, 9, 10, 47]
 | 19 => [2, 3, 4, 9, 10, 47, 54]
 | 20 => [2, 3, 4, 9, 47]
 | 21 => [2, 3, 4, 9, 47]
 | 22 => [2, 3, 4, 9, 11]
 | 23 => [2, 3, 4, 9, 11, 71]
 | 24 => [2, 4, 9, 11]
 | 25 => [2, 9, 11, 76]
 | 26 => [2, 9, 11, 76, 77]
 | 27 => [2, 11]
 | 28 => [2, 9, 11, 76, 85]
 | 29 => [2, 9, 11, 85]
 | 30 => [2, 11]
 | 31 => [2]
 | 900016 => [16]
 | 900023 => [23]
 | 900027 => [27]
 | 900030 => [30]
 | 900048 => [48]
 | 900054 => [54]
 | 900071 => [71]
 | 900077 => [77]
 | 900085 => []
 | _ => []
def live19 : Nat → List Nat
 | 0 => [1]
 | 1 => [1, 11]
 | 2 => [2]
 | 3 => [1, 3]
 | 4 => [1, 3]
 | 5 => [1, 3, 4]
 | 6 => [1, 3, 4, 20]
 | 7 => [1, 3, 4]
 | 8 => [1, 4, 30]
 | 9 => [2]
 | 10 => [2]
 | 11 => [1, 3, 4]
 | 12 => [1, 3, 4, 5]
 | 13 => [1, 3, 4, 5, 43]
 | 14 => [1, 3, 4, 5, 43, 44]
 | 15 => [1, 3, 4]
 | 16 => [1, 3, 4, 5]
 | 17 => [1, 3, 4, 5, 43, 53]
 | 18 => [1, 3, 4, 5, 53]
 | 19 => [1, 3, 4]
 | 20 => [1, 3, 4, 5]
 | 21 => [1, 4, 5, 72]
 | 22 => [2]
 | 23 => [5, 6]
 | 24 => [6, 78, 79, 80]
 | 25 => [6, 78, 79, 80, 81]
 | 26 => [6, 8, 78, 79, 80]
 | 27 => [6, 8, 78, 79, 80, 86]
 | 28 => [2]
 | 29 => [6, 78, 79, 80]
 | 30 => [6, 78, 79, 80]
 | 31 => [2]
 | 900011 => [11]
 | 900020 => [20]
 | 900030 => [30]
 | 900044 => [44]
 | 900053 => []
 | 900072 => [72]
 | 900081 => [81]
 | 900086 => [86]
 | _ => []
def live20 : Nat → List Nat
 | 0 => [0]
 | 1 => [2]
 | _ => []
def live21 : Nat → List Nat
 | 0 => [0, 2]
 | 1 => [0, 2, 3]
 | 2 => [0, 2, 3, 7]
 | 3 => [0, 2, 3, 7, 8]
 | 4 => [2, 3]
 | 5 => [0, 2, 3, 7, 13]
 | 6 => [2, 3]
 | 7 => [0, 2, 3, 7, 18]
 | 8 => [2, 3]
 | 9 => [0, 2, 3, 28]
 | 10 => [2, 3]
 | 11 => [2]
 | 900008 => [8]
 | 900013 => [13]
 | 900018 => [18]
 | 900028 => [28]
 | _ => []
def live22 : Nat → List Nat
 | 0 => [0, 1]
 | 1 => [4]
 | _ => []
def live23 : Nat → List Nat
 | 0 => [0, 2]
 | 1 => [0, 2, 3]
 | 2 => [0, 2, 3, 7]
 | 3 => [0, 2, 3, 7, 8]
 | 4 => [2, 3]
 | 5 => [0, 2, 3, 7, 18]
 | 6 => [2, 3]
 | 7 => [0, 2, 3, 7, 28]
 | 8 => [2, 3]
 | 9 => [0, 2, 3, 7, 36]
 | 10 => [2, 3]
 | 11 => [0, 2, 3, 44]
 | 12 => [0, 2, 3]
 | 13 => [0, 2, 3]
 | 14 => [2, 3]
 | 15 => [2]
 | 900008 => [8]
 | 900018 => [18]
 | 900028 => [28]
 | 900036 => [36]
 | 900044 => [44]
 | _ => []
def live24 : Nat → List Nat
 | 0 => [0, 2]
 | 1 => [2, 3]
 | 2 => [2, 3, 10]
 | 3 => [2, 3, 4]
 | 4 => [2, 3, 4, 5]
 | 5 => [2, 3, 4, 5, 17]
 | 6 => [2, 3, 4, 5]
 | 7 => [2, 3, 4, 5, 24]
 | 8 => [2, 3, 4, 5]
 | 9 => [2, 3]
 | 10 => [2]
 | 900010 => [10]
 | 900017 => [17]
 | 900024 => [24]
 | _ => []
def live25 : Nat → List Nat
 | 0 => [1]
 | 1 => [1, 10]
 | 2 => [2]
 | 3 => [2]
 | 900010 => [10]
 | _ => []
def live26 : Nat → List Nat
 | 0 => [1]
 | 1 => [2]
 | _ => []
def live27 : Nat → List Nat
 | 0 => [0]
 | 1 => [2]
 | _ => []
def live28 : Nat → List Nat
 | 0 => [0]
 | 1 => [0, 7]
 | 2 => [2]
 | 3 => [0, 3]
 | 4 => [0, 3, 4]
 | 5 => [0, 3, 4, 11]
 | 6 => [0, 3, 4]
 | 7 => [0, 3, 4, 5]
 | 8 => [0, 3, 4, 5, 17]
 | 9 => [0, 3, 4, 5]
 | 10 => [0, 3, 4]
 | 11 => [3, 27]
 | 12 => [3]
 | 13 => [2]
 | 900007 => [7]
 | 900011 => [11]
 | 900017 => [17]
 | 900027 => [27]
 | _ => []
def live29 : Nat → List Nat
 | 0 => [1]
 | 1 => [2]
 | _ => []
def live30 : Nat → List Nat
 | 0 => [0]
 | 1 => [0, 3]
 | 2 => [0, 3, 7]
 | 3 => [0, 3]
 | 4 => [0, 3, 13]
 | 5 => [2]
 | 6 => [2]
 | 900007 => [7]
 | 900013 => [13]
 | _ => []
def live31 : Nat → List Nat
 | 0 => [0, 1]
 | 1 => [4]
 | _ => []
def live32 : Nat → List Nat
 | 0 => [0]
 | 1 => [0, 4, 5]
 | 2 => [4, 23]
 | 3 => [2, 3]
 | 4 => [2, 3]
 | 900023 => [23]
 | _ => []
def live33 : Nat → List Nat
 | 0 => [0, 1, 2]
 | 1 => [6]
 | _ => []
def live34 : Nat → List Nat
 | 0 => [1]
 | 1 => [2]
 | _ => []
def live35 : Nat → List Nat
 | 0 => [0, 1]
 | 1 => [4]
 | _ => []
def live36 : Nat → List Nat
 | 0 => [0]
 | 1 => [2]
 | _ => []
def live37 : Nat → List Nat
 | 0 => [0, 1]
 | 1 => [4]
 | _ => []
def live38 : Nat → List Nat
 | 0 => [0, 1, 2]
 | 1 => [6]
 | _ => []
def live39 : Nat → List Nat
 | 0 => [0, 2]
 | 1 => [2]
 | _ => []
def live40 : Nat → List Nat
 | 0 => [0, 1]
 | 1 => [0, 1, 7]
 | 2 => [4]
 | 3 => [0, 1, 5]
 | 4 => [0, 1, 5, 17]
 | 5 => [0, 1, 5]
 | 6 => [0, 1, 5]
 | 7 => [0, 1, 5, 44]
 | 8 => [0, 1, 5]
 | 9 => [1, 5]
 | 10 => [4]
 | 900007 => [7]
 | 900017 => [17]
 | 900044 => [44]
 | _ => []
def live41 : Nat → List Nat
 | 0 => [0]
 | 1 => [2]
 | _ => []
def live42 : Nat → List Nat
 | 0 => [0]
 | 1 => [2]
 | _ => []
def live43 : Nat → List Nat
 | 0 => [0]
 | 1 => [0, 4]
 | 2 => [0, 4, 5]
 | 3 => [2]
 | 4 => [0, 10]
 | 5 => [2]
 | 6 => [2]
 | 900005 => [5]
 | 900010 => [10]
 | _ => []
def live44 : Nat → List Nat
 | 0 => [0, 2]
 | 1 => [0, 2, 3]
 | 2 => [0, 2, 3, 13]
 | 3 => [0, 2, 3]
 | 4 => [0, 2, 3, 18]
 | 5 => [0, 2, 3, 18, 19]
 | 6 => [0, 2, 3]
 | 7 => [2, 3]
 | 8 => [0, 2, 3, 18, 33]
 | 9 => [0, 2, 3, 18, 33]
 | 10 => [2, 3]
 | 11 => [0, 2, 3, 46]
 | 12 => [0, 2, 3]
 | 13 => [0, 2, 3]
 | 14 => [2, 3]
 | 15 => [2]
 | 900013 => [13]
 | 900019 => [19]
 | 900033 => []
 | 900046 => [46]
 | _ => []
def live45 : Nat → List Nat
 | 0 => [1]
 | 1 => [2]
 | _ => []
def live46 : Nat → List Nat
 | 0 => [0]
 | 1 => [2]
 | _ => []
def live47 : Nat → List Nat
 | 0 => [0, 1]
 | 1 => [0, 1, 6]
 | 2 => [4]
 | 3 => [4]
 | 900006 => [6]
 | _ => []
def live48 : Nat → List Nat
 | 0 => [0]
 | 1 => [2]
 | _ => []
def live49 : Nat → List Nat
 | 0 => [0, 1, 2, 3]
 | 1 => [0, 1, 2, 3, 13]
 | 2 => [8]
 | 3 => [0, 1, 2, 3, 15]
 | 4 => [8]
 | 5 => [0, 1, 2, 3, 20]
 | 6 => [0, 1, 2, 3]
 | 7 => [0, 1, 2, 3]
 | 8 => [0, 1, 2, 3, 9]
 | 9 => [0, 1, 2, 3, 9]
 | 10 => [0, 1, 2, 3, 9, 10]
 | 11 => [0, 1, 2, 3, 9, 10, 36]
 | 12 => [0, 1, 2, 3, 9, 10, 11]
 | 13 => [0, 1, 2, 3, 9, 10, 11, 41]
 | 14 => [0, 1, 2, 3, 9, 10, 11]
 | 15 => [0, 1, 2, 3, 9, 10]
 | 16 => [0, 1, 2, 3, 9, 10]
 | 17 => [9, 10]
 | 18 => [8]
 | 900013 => [13]
 | 900015 => [15]
 | 900020 => [20]
 | 900036 => [36]
 | 900041 => [41]
 | _ => []
def live50 : Nat → List Nat
 | 0 => [0]
 | 1 => [0, 4, 5]
 | 2 => [0, 4, 5, 12]
 | 3 => [2, 3]
 | 4 => [2, 3]
 | 900012 => [12]
 | _ => []
def live51 : Nat → List Nat
 | 0 => [0, 1]
 | 1 => [0, 1, 6]
 | 2 => [4]
 | 3 => [4]
 | 900006 => [6]
 | _ => []
def live52 : Nat → List Nat
 | 0 => [0, 1]
 | 1 => [4]
 | _ => []
def live53 : Nat → List Nat
 | 0 => [0]
 | 1 => [2]
 | _ => []
def live54 : Nat → List Nat
 | 0 => [0, 1]
 | 1 => [0, 1, 12]
 | 2 => [4]
 | 3 => [0, 1, 15]
 | 4 => [0, 5]
 | 5 => [0, 5, 20]
 | 6 => [0, 5]
 | 7 => [4]
 | 8 => [0, 1, 26]
 | 9 => [0, 1, 6, 7]
 | 10 => [0, 1, 6, 32]
 | 11 => [0, 6, 8]
 | 12 => [0, 6, 8, 36]
 | 13 => [0, 6, 8]
 | 14 => [0, 6, 8, 42]
 | 15 => [4]
 | 16 => [4]
 | 17 => [1, 45]
 | 18 => [1, 45, 46, 47]
 | 19 => [1, 9, 10, 45]
 | 20 => [1, 9, 45, 53]
 | 21 => [4]
 | 22 => [4]
 | 900012 => [12]
 | 900015 => [15]
 | 900020 => [20]
 | 900026 => [26]
 | 900032 => [32]
 | 900036 => [36]
 | 900042 => [42]
 | 900047 => [47]
 | 900053 => [53]
 | _ => []
def live55 : Nat → List Nat
 | 0 => [0, 1]
 | 1 => [4]
 | _ => []
def live56 : Nat → List Nat
 | 0 => [0]
 | 1 => [0, 3]
 | 2 => [0, 3, 4]
 | 3 => [0, 3, 4, 17]
 | 4 => [0, 3, 4]
 | 5 => [2]
 | 900017 => [17]
 | _ => []
def live57 : Nat → List Nat
 | 0 => [0]
 | 1 => [0, 3]
 | 2 => [0, 3, 8]
 | 3 => [0, 3, 8, 9]
 | 4 => [0, 3, 4]
 | 5 => [2]
 | 6 => [0, 3, 8, 29]
 | 7 => [2]
 | 8 => [0, 3, 31]
 | 9 => [2]
 | 10 => [2]
 | 900009 => [9]
 | 900029 => [29]
 | 900031 => [31]
 | _ => []
def live58 : Nat → List Nat
 | 0 => [0, 1]
 | 1 => [0, 1, 5]
 | 2 => [0, 5, 6]
 | 3 => [0, 5, 6, 12]
 | 4 => [0, 5, 6]
 | 5 => [0, 5, 6]
 | 6 => [4]
 | 900012 => [12]
 | _ => []
def live59 : Nat → List Nat
 | 0 => [0]
 | 1 => [2]
 | _ => []
def live60 : Nat → List Nat
 | 0 => [0, 1]
 | 1 => [0, 1, 5]
 | 2 => [0, 1, 5, 18]
 | 3 => [0, 1]
 | 4 => [0, 1, 6]
 | 5 => [0, 1, 6, 7]
 | 6 => [0, 1, 6, 7, 25]
 | 7 => [0, 1, 6, 7]
 | 8 => [0, 1, 6, 7, 9]
 | 9 => [0, 1, 6, 7, 9]
 | 10 => [0, 1, 6, 7]
 | 11 => [0, 1, 6, 43]
 | 12 => [6]
 | 13 => [4]
 | 900018 => [18]
 | 900025 => [25]
 | 900043 => [43]
 | _ => []
def live61 : Nat → List Nat
 | 0 => [0, 1]
 | 1 => [0, 1, 9]
 | 2 => [4]
 | 3 => [0, 1, 15]
 | 4 => [4]
 | 5 => [0, 1, 5]
 | 6 => [0, 1, 5, 6]
 | 7 => [0, 1, 5, 6, 24]
 | 8 => [4]
 | 9 => [0, 1, 5, 6]
 | 10 => [0, 1, 5]
 | 900009 => [9]
 | 900015 => [15]
 | 900024 => [24]
 | _ => []
def live62 : Nat → List Nat
 | 0 => [0]
 | 1 => [0, 4]
 | 2 => [0, 30]
 | 3 => [0, 5]
 | 4 => [0, 5, 39]
 | 5 => [0, 5]
 | 6 => [0, 5, 44]
 | 7 => [2, 3]
 | 8 => [0, 5, 6]
 | 9 => [5, 6, 47, 48, 49]
 | 10 => [5, 6, 47, 48, 49, 50]
 | 11 => [5, 6, 8, 47, 48, 49]
 | 12 => [5, 6, 8, 47, 48, 49]
 | 13 => [5, 6, 8, 47, 48, 49, 56]
 | 14 => [2, 3]
 | 15 => [5, 6, 47, 48, 49]
 | 16 => [5, 6, 47, 48, 49]
 | 17 => [6, 66]
 | 18 => [6]
 | 19 => [2, 3]
 | 20 => [9, 10]
 | 21 => [2, 3]
 | 900030 => [30]
 | 900039 => [39]
 | 900044 => [44]
 | 900050 => [50]
 | 900056 => [56]
 | 900066 => [66]
 | _ => []
def live63 : Nat → List Nat
 | 0 => [0, 1, 2, 3, 4]
 | 1 => [0, 1, 2, 3, 4, 11]
 | 2 => [0, 1, 2, 3, 4, 11, 12]
 | 3 => [10]
 | 4 => [0, 1, 2, 3, 4, 11, 19]
 | 5 => [10]
 | 6 => [0, 1, 2, 3, 4, 11, 26]
 | 7 => [10]
 | 8 => [0, 1, 3, 4, 34]
 | 9 => [10]
 | 10 => [10]
 | 900012 => [12]
 | 900019 => [19]
 | 900026 => [26]
 | 900034 => [34]
 | _ => []
def live64 : Nat → List Nat
 | 0 => [0, 1]
 | 1 => [0, 1, 5]
 | 2 => [0, 1, 5, 16]
 | 3 => [4]
 | 4 => [0, 1, 5, 24]
 | 5 => [4]
 | 6 => [0, 1, 5, 31]
 | 7 => [4]
 | 8 => [0, 1, 5, 36]
 | 9 => [4]
 | 10 => [0, 1, 5, 6]
 | 11 => [0, 1, 5, 6, 7]
 | 12 => [0, 1, 5, 6, 7, 8]
 | 13 => [0, 1, 5, 6, 7, 8, 9]
 | 14 => [0, 1, 5, 6, 7, 8, 9, 10]
 | 15 => [0, 1, 5, 6, 7, 8, 9, 10, 59]
 | 16 => [0, 1, 5, 6, 7, 8, 9, 10, 64]
 | 17 => [0, 1, 5, 6, 7, 8, 9, 10, 11]
 | 18 => [0, 1, 5, 6, 7, 8, 9, 10, 11, 73]
 | 19 => [4]
 | 20 => [0, 1, 5, 6, 7, 8, 9, 10]
 | 21 => [0, 1, 5, 6, 7, 8, 9, 10, 93]
 | 22 => [4]
 | 23 => [0, 1, 5, 6, 7, 8, 9, 10]
 | 24 => [0, 1, 5, 6, 7, 8, 9, 10]
 | 25 => [0, 1, 5, 6, 7, 8, 9, 10, 107]
 | 26 => [8, 12]
 | 27 => [8, 12, 114]
 | 28 => [4]
 | 29 => [4]
 | 30 => [0, 1, 5, 6, 7, 8, 9, 10, 132]
 | 31 => [8, 13]
 | 32 => [8, 13, 139]
 | 33 => [4]
 | 34 => [4]
 | 35 => [4]
 | 900016 => [16]
 | 900024 => [24]
 | 900031 => [31]
 | 900036 => [36]
 | 900059 => [59]
 | 900064 => [64]
 | 900073 => [73]
 | 900093 => [93]
 | 900107 => [107]
 | 900114 => [114]
 | 900132 => [132]
 | 900139 => [139]
 | _ => []
def live65 : Nat → List Nat
 | 0 => [0, 1]
 | 1 => [0, 1, 11]
 | 2 => [0, 17]
 | 3 => [4]
 | 4 => [0, 5]
 | 5 => [0, 5, 6]
 | 6 => [0, 5, 6, 23]
 | 7 => [0, 5, 6]
 | 8 => [0, 5, 6, 7]
 | 9 => [0, 5, 7]
 | 10 => [5, 7, 34]
 | 11 => [5, 7]
 | 12 => [4]
 | 13 => [4]
 | 14 => [9]
 | 15 => [4]
 | 900011 => [11]
 | 900017 => [17]
 | 900023 => [23]
 | 900034 => [34]
 | _ => []
def live66 : Nat → List Nat
 | 0 => [0, 1]
 | 1 => [0, 7]
 | 2 => [0, 7, 8]
 | 3 => [0, 7, 8, 9]
 | 4 => [0, 7, 8, 9]
 | 5 => [0, 7, 8, 9, 26]
 | 6 => [0, 7, 8, 9, 33]
 | 7 => [0, 7, 8, 9, 11]
 | 8 => [0, 7, 8, 9, 11, 43]
 | 9 => [4]
 | 10 => [0, 7, 8, 9]
 | 11 => [0, 7, 8, 9, 12]
 | 12 => [0, 7, 8, 9, 12, 51]
 | 13 => [0, 7, 8, 9, 12]
 | 14 => [0, 7, 8, 9, 12, 64]
 | 15 => [4]
 | 16 => [0, 7, 8, 9, 10]
 | 17 => [0, 7, 8, 9, 10]
 | 18 => [0, 7, 8, 9, 98]
 | 19 => [4]
 | 20 => [8, 9, 13]
 | 21 => [8, 9, 13, 108]
 | 22 => [4]
 | 23 => [0, 7, 8, 9, 14]
 | 24 => [0, 7, 8, 9, 14, 15]
 | 25 => [0, 7, 8, 9, 14, 15, 124]
 | 26 => [0, 7, 8, 9, 14, 15]
 | 27 => [0, 7, 8, 9, 14, 15, 139]
 | 28 => [0, 7, 8, 9, 14, 15, 16]
 | 29 => [0, 7, 8, 9, 14, 15, 16, 143]
 | 30 => [0, 7, 8, 9, 14, 15, 16]
 | 31 => [0, 7, 8, 9, 14, 15, 16, 156]
 | 32 => [4]
 | 33 => [4]
 | 34 => [0, 1, 160]
 | 35 => [4]
 | 36 => [0, 1, 171]
 | 37 => [175]
 | 38 => [175, 176, 177]
 | 39 => [5, 6, 175]
 | 40 => [5, 175, 181]
 | 41 => [4]
 | 42 => [4]
 | 43 => [0, 1, 183]
 | 44 => [4]
 | 900026 => [26]
 | 900033 => [33]
 | 900043 => [43]
 | 900051 => [51]
 | 900064 => [64]
 | 900098 => [98]
 | 900108 => [108]
 | 900124 => [124]
 | 900139 => [139]
 | 900143 => [143]
 | 900156 => [156]
 | 900160 => [160]
 | 900171 => [171]
 | 900177 => [177]
 | 900181 => [181]
 | 900183 => [183]
 | _ => []
def live67 : Nat → List Nat
 | 0 => [0]
 | 1 => [2]
 | _ => []
def live68 : Nat → List Nat
 | 0 => [0, 2]
 | 1 => [0, 2, 4]
 | 2 => [0, 2, 4, 9]
 | 3 => [0, 2, 4]
 | 4 => [0, 2, 4, 5]
 | 5 => [0, 2, 4, 5, 16]
 | 6 => [2, 3]
 | 7 => [0, 2, 4]
 | 8 => [2, 3]
 | 900009 => [9]
 | 900016 => [16]
 | _ => []
def live69 : Nat → List Nat
 | 0 => [0, 1]
 | 1 => [4]
 | _ => []
def live70 : Nat → List Nat
 | 0 => [0, 2]
 | 1 => [2, 4]
 | 2 => [2, 4, 6]
 | 3 => [2, 4]
 | 4 => [2]
 | 900006 => [6]
 | _ => []
def live71 : Nat → List Nat
 | 0 => [0]
 | 1 => [0, 10]
 | 2 => [2, 3]
 | 3 => [2, 3]
 | 900010 => [10]
 | _ => []
def live73 : Nat → List Nat
 | 0 => [0, 1, 2]
 | 1 => [0, 1, 2, 13]
 | 2 => [6, 7]
 | 3 => [0, 1, 2, 8]
 | 4 => [0, 1, 2, 8, 16]
 | 5 => [0, 1, 2, 8, 16, 17]
 | 6 => [0, 1, 2, 8]
 | 7 => [0, 1, 2, 8, 21]
 | 8 => [0, 1, 2]
 | 9 => [0, 1, 2, 8]
 | 10 => [0, 1, 2, 8]
 | 11 => [2, 7, 8, 9]
 | 12 => [2, 7, 8, 9, 38]
 | 13 => [6, 7]
 | 14 => [2, 8, 9, 41]
 | 15 => [2, 8, 9]
 | 16 => [8, 9, 10]
 | 17 => [8, 9, 10, 52]
 | 18 => [6, 7]
 | 19 => [8, 9, 10, 62]
 | 20 => [6, 7]
 | 21 => [8, 11]
 | 22 => [11, 69]
 | 23 => [11]
 | 24 => [6, 7]
 | 900013 => [13]
 | 900017 => [17]
 | 900021 => [21]
 | 900038 => [38]
 | 900041 => [41]
 | 900052 => [52]
 | 900062 => [62]
 | 900069 => [69]
 | _ => []
def live74 : Nat → List Nat
 | 0 => [0, 1]
 | 1 => [4]
 | _ => []
def live75 : Nat → List Nat
 | 0 => [0, 1]
 | 1 => [4]
 | _ => []
def live76 : Nat → List Nat
 | 0 => [0, 1, 2]
 | 1 => [6]
 | _ => []
def live77 : Nat → List Nat
 | 0 => [0, 1, 2]
 | 1 => [6]
 | _ => []
def live78 : Nat → List Nat
 | 0 => [0, 1]
 | 1 => [4]
 | _ => []
def live80 : Nat → List Nat
 | 0 => [0]
 | 1 => [2]
 | _ => []
def live81 : Nat → List Nat
 | 0 => [0, 1]
 | 1 => [0, 1, 5, 6]
 | 2 => [0, 1, 5, 6, 7]
 | 3 => [0, 1, 5, 6, 7, 8]
 | 4 => [0, 1, 5, 6, 7, 8, 9]
 | 5 => [0, 1, 5, 6, 7, 8, 9, 20]
 | 6 => [0, 1, 5, 6, 7, 8, 9]
 | 7 => [0, 1, 5, 6, 7, 8, 9]
 | 8 => [0, 1, 5, 6, 7, 8, 39]
 | 9 => [4]
 | 10 => [0, 1, 5, 6, 7, 8, 10]
 | 11 => [0, 1, 5, 6, 7, 8, 10, 44]
 | 12 => [0, 1, 5, 6, 7, 8, 10]
 | 13 => [0, 1, 5, 6, 7, 8, 10]
 | 14 => [0, 1, 5, 6, 7, 8, 10]
 | 15 => [0, 1, 5, 6, 7, 8, 10]
 | 16 => [0, 1, 5, 6, 7, 8, 10, 77]
 | 17 => [4]
 | 18 => [4]
 | 900020 => [20]
 | 900039 => [39]
 | 900044 => [44]
 | 900077 => [77]
 | _ => []
def live82 : Nat → List Nat
 | 0 => [0]
 | 1 => [0, 4]
 | 2 => [2]
 | 3 => [2]
 | 900004 => [4]
 | _ => []
def live83 : Nat → List Nat
 | 0 => [0]
 | 1 => [0, 3]
 | 2 => [2]
 | _ => []
def live84 : Nat → List Nat
 | 0 => [0, 1, 4]
 | 1 => [0, 1, 4, 20]
 | 2 => [0, 1, 4, 5]
 | 3 => [0, 1, 4, 5]
 | 4 => [0, 1, 4, 6, 7]
 | 5 => [0, 1, 4, 6, 8, 9]
 | 6 => [0, 1, 4, 8, 9, 10, 11]
 | 7 => [0, 1, 4, 8, 10, 11]
 | 8 => [0, 1, 4, 10, 11]
 | 9 => [0, 1, 4, 10]
 | 10 => [0, 1, 4]
 | 11 => [0, 1, 4]
 | 12 => [0, 4, 12]
 | 13 => [0, 4, 12, 99]
 | 14 => [0, 4, 12, 13]
 | 15 => [0, 4, 12, 13]
 | 16 => [0, 4, 12, 14, 15]
 | 17 => [0, 4, 12, 14]
 | 18 => [0, 4, 12]
 | 19 => [0, 4, 12]
 | 20 => [0, 4, 12, 139]
 | 21 => [0, 4, 12, 16]
 | 22 => [0, 4, 12, 16]
 | 23 => [0, 4, 12]
 | 24 => [0, 4, 12]
 | 25 => [0, 12, 161]
 | 26 => []
 | 900020 => [20]
 | 900099 => [99]
 | 900139 => [139]
 | 900161 => [161]
 | _ => []
def live85 : Nat → List Nat
 | 0 => [0, 1, 2, 3, 4, 10, 11]
 | 1 => [0, 1, 2, 3, 4, 10, 11, 28]
 | 2 => [0, 1, 2, 3, 4, 10, 11]
 | 3 => [0, 1, 2, 3, 4, 10, 11, 12]
 | 4 => [0, 1, 2, 3, 4, 10, 11, 12, 13]
 | 5 => [0, 1, 2, 3, 4, 10, 11, 12, 13, 30]
 | 6 => [0, 1, 2, 3, 4, 10, 11, 12, 13]
 | 7 => [0, 1, 2, 3, 4, 10, 11, 12, 13, 34]
 | 8 => [0, 1, 2, 3, 4, 10, 11, 12, 13, 14]
 | 9 => [0, 1, 2, 3, 4, 10, 11, 12, 13, 14, 15]
 | 10 => [0, 1, 3, 4, 10, 11, 12, 13, 14, 15, 16]
 | 11 => [0, 1, 3, 4, 10, 11, 12, 13, 14, 15, 16, 46]
 | 12 => [0, 1, 3, 4, 10, 11, 12, 13, 14, 15, 16]
 | 13 => [0, 1, 3, 4, 10, 11, 12, 13, 14, 15, 16]
 | 14 => [0, 1, 3, 4, 10, 11, 12, 13, 14, 15, 16]
 | 15 => [0, 1, 3, 4, 10, 11, 12, 13]
 | 16 => [0, 3, 4, 10, 11, 12, 13]
 | 17 => [0, 1, 3, 4, 10, 11, 12, 13, 17]
 | 18 => [0, 1, 3, 4, 10, 11, 12, 13, 17, 68]
 | 19 => [0, 1, 3, 4, 10, 11, 12, 13, 17]
 | 20 => [0, 1, 3, 4, 10, 11, 12, 13, 17, 18]
 | 21 => [0, 3, 4, 10, 11, 12, 13, 17, 18]
 | 22 => [0, 1, 3, 4, 10, 11, 12, 13, 17]
 | 23 => [0, 1, 3, 4, 10, 11, 12, 13]
 | 24 => [0, 3, 4, 10, 11, 12, 13]
 | 25 => [0, 4, 10, 11, 12, 13, 89]
 | 26 => [0, 4, 10, 11, 12, 13]
 | 27 => [0, 4, 10, 11, 12, 13]
 | 28 => [0, 10, 11, 12, 13, 94]
 | 29 => [10, 11]
 | 30 => [10, 11]
 | 900028 => [28]
 | 900030 => [30]
 | 900034 => [34]
 | 900046 => [46]
 | 900068 => [68]
 | 900089 => [89]
 | 900094 => [94]
 | _ => []
def live86 : Nat → List Nat
 | 0 => [0, 1]
 | 1 => [4]
 | _ => []
def live87 : Nat → List Nat
 | 0 => [0]
 | 1 => [0, 3]
 | 2 => [2]
 | 3 => [10]
 | 4 => [2]
 | 5 => [2]
 | 900003 => [3]
 | 900010 => [10]
 | _ => []
def live88 : Nat → List Nat
 | 0 => [0]
 | 1 => [0, 4]
 | 2 => [0, 4, 16]
 | 3 => [2, 3]
 | 4 => [0, 4, 5]
 | 5 => [0, 4, 5, 6]
 | 6 => [0, 4, 5, 6, 23]
 | 7 => [0, 7]
 | 8 => [2, 3]
 | 9 => [0, 4, 5, 6, 8]
 | 10 => [0, 4, 5, 8, 9]
 | 11 => [0, 5, 8, 9, 45]
 | 12 => [2, 3]
 | 13 => [0, 5, 8, 9, 10]
 | 14 => [0, 5, 8, 10, 57]
 | 15 => [2, 3]
 | 16 => [0, 5, 8, 10, 59]
 | 17 => [2, 3]
 | 18 => [0, 5, 8, 10, 11]
 | 19 => [0, 5, 8, 10, 11, 75]
 | 20 => [2, 3]
 | 21 => [0, 5, 10, 11, 77]
 | 22 => [2, 3]
 | 23 => [5, 10, 11, 12]
 | 24 => [5, 10, 11, 12, 98]
 | 25 => [2, 3]
 | 26 => [2, 3]
 | 900016 => [16]
 | 900023 => [23]
 | 900045 => [45]
 | 900057 => [57]
 | 900059 => [59]
 | 900075 => [75]
 | 900077 => [77]
 | 900098 => [98]
 | _ => []
def live89 : Nat → List Nat
 | 0 => [0, 1, 2]
 | 1 => [0, 1, 2, 19]
 | 2 => [6, 7]
 | 3 => [0, 1, 2, 8]
 | 4 => [0, 1, 2, 8, 9]
 | 5 => [6, 7]
 | 6 => [0, 1, 2, 8, 9, 25]
 | 7 => [0, 2, 8, 9, 32]
 | 8 => [0, 1, 2, 8, 9]
 | 9 => [0, 1, 2, 8, 9, 37]
 | 10 => [0, 1, 2, 8, 9]
 | 11 => [0, 1, 2, 8, 9]
 | 12 => [0, 2, 8, 9, 40]
 | 13 => [0, 1, 2, 8, 9]
 | 14 => [0, 1, 2, 8, 9]
 | 15 => [0, 2, 8, 9, 52]
 | 16 => [0, 1, 2, 8, 9]
 | 17 => [0, 1, 2, 8, 9]
 | 18 => [0, 2, 8, 9, 64]
 | 19 => [0, 1, 2, 8, 9]
 | 20 => [0, 1, 2, 8, 9]
 | 21 => [0, 1, 2, 8, 9, 77]
 | 22 => [0, 1, 2, 8, 9]
 | 23 => [0, 1, 2, 8, 9, 83]
 | 24 => [6, 7]
 | 25 => [0, 1, 2, 8, 9]
 | 26 => [0, 1, 2, 8, 9, 85]
 | 27 => [0, 1, 2, 8, 9, 10]
 | 28 => [0, 1, 2, 8, 9, 85, 90]
 | 29 => [0, 1, 2, 8, 9, 10]
 | 30 => [0, 1, 2, 8, 9, 92]
 | 31 => [0, 1, 2, 8, 9, 10]
 | 32 => [0, 1, 8, 9, 10, 11]
 | 33 => [0, 1, 8, 9, 10, 11, 12]
 | 34 => [0, 1, 8, 9, 10, 11, 12, 13]
 | 35 => [1, 8, 9, 10, 11, 12, 13, 99, 100, 101]
 | 36 => [1, 8, 9, 10, 11, 12, 13, 99, 100, 101, 102]
 | 37 => [1, 8, 9, 10, 11, 12, 13, 15, 99, 100, 101]
 | 38 => [1, 8, 9, 10, 11, 12, 13, 15, 99, 100, 101]
 | 39 => [6, 7]
 | 40 => [1, 8, 9, 10, 11, 12, 13, 15, 99, 100, 101, 106]
 | 41 => [1, 8, 9, 10, 11, 12, 13, 99, 100, 101]
 | 42 => [1, 8, 9, 10, 11, 12, 13, 15, 99, 100, 101, 112]
 | 43 => [1, 8, 9, 10, 11, 12, 13, 16, 99, 100, 101]
 | 44 => [1, 8, 9, 10, 11, 12, 13, 15, 99, 100, 101, 121]
 | 45 => [1, 8, 9, 10, 11, 12, 13, 16, 99, 100, 101]
 | 46 => [1, 8, 9, 10, 11, 12, 13, 16, 99, 100, 101, 137]
 | 47 => [6, 7]
 | 48 => [1, 8, 9, 10, 11, 12, 13, 16, 99, 100, 101, 141]
 | 49 => [6, 7]
 | 50 => [1, 8, 9, 10, 11, 12, 13, 16, 99, 100, 101]
 | 51 => [1, 8, 9, 10, 11, 12, 13, 17, 99, 100, 101]
 | 52 => [1, 8, 9, 10, 11, 12, 17, 99, 100, 101, 159]
 | 53 => [6, 7]
 | 54 => [1, 8, 9, 10, 11, 12, 13, 99, 100, 101]
 | 55 => [1, 8, 9, 10, 11, 12, 13, 99, 100, 101]
 | 56 => [13, 169]
 | 57 => [6, 7]
 | 58 => [6, 7]
 | 900019 => [19]
 | 900025 => [25]
 | 900032 => [32]
 | 900037 => [37]
 | 900040 => [40]
 | 900052 => [52]
 | 900064 => [64]
 | 900077 => [77]
 | 900083 => [83]
 | 900090 => [90]
 | 900092 => [92]
 | 900102 => [102]
 | 900106 => [106]
 | 900112 => [112]
 | 900121 => [121]
 | 900137 => [137]
 | 900141 => [141]
 | 900159 => [159]
 | 900169 => [169]
 | _ => []
def live90 : Nat → List Nat
 | 0 => [0]
 | 1 => [0, 6]
 | 2 => [2]
 | 3 => [0, 3]
 | 4 => [3]
 | 5 => [2]
 | 900006 => [6]
 | _ => []
def live91 : Nat → List Nat
 | 0 => [0]
 | 1 => [2]
 | _ => []
def live93 : Nat → List Nat
 | 0 => [0]
 | 1 => [0, 4]
 | 2 => [0, 4, 5]
 | 3 => [0, 4, 5, 12]
 | 4 => [0, 4, 5]
 | 5 => [0, 4, 5]
 | 6 => [0, 4, 6, 7]
 | 7 => [4, 6, 7, 8]
 | 8 => [4, 6, 7, 8, 25]
 | 9 => [4, 6, 7, 8]
 | 10 => [4, 6, 7, 8, 30]
 | 11 => [4, 6, 7, 8]
 | 12 => [4, 6, 7, 8]
 | 13 => [2, 3]
 | 900012 => [12]
 | 900025 => [25]
 | 900030 => [30]
 | _ => []
def live94 : Nat → List Nat
 | 0 => [0]
 | 1 => [2]
 | _ => []
def live95 : Nat → List Nat
 | 0 => [0, 2]
 | 1 => [0, 2, 4]
 | 2 => [0]
 | 3 => [0, 2]
 | 4 => [0, 2, 8]
 | 5 => [0, 2]
 | 6 => [0, 2]
 | 7 => [0, 2, 14]
 | 8 => [0, 2]
 | 9 => [0, 2]
 | 10 => [2]
 | 900004 => [4]
 | 900008 => [8]
 | 900014 => [14]
 | _ => []
def live96 : Nat → List Nat
 | 0 => [0]
 | 1 => [3]
 | 2 => [2]
 | 3 => [2]
 | 900003 => [3]
 | _ => []
def live97 : Nat → List Nat
 | 0 => [0]
 | 1 => [2]
 | _ => []
def live98 : Nat → List Nat
 | 0 => [0]
 | 1 => [2]
 | 2 => [2]
 | _ => []
def live99 : Nat → List Nat
 | 0 => [0]
 | 1 => [2]
 | _ => []
def live100 : Nat → List Nat
 | 0 => [0]
 | 1 => [0, 3]
 | 2 => [0, 3, 4]
 | 3 => [0, 3, 4, 18]
 | 4 => [0, 3, 4]
 | 5 => [0, 3, 4, 5]
 | 6 => [0, 3, 4, 5, 46]
 | 7 => [0, 4]
 | 8 => [0, 3, 4]
 | 9 => [0, 3, 4, 5]
 | 10 => [0, 3, 4, 5, 54]
 | 11 => [0, 3, 4, 5]
 | 12 => [0, 3, 4, 5, 83]
 | 13 => [0, 3, 4, 5]
 | 14 => [0, 3, 4, 5, 87]
 | 15 => [0, 4, 5, 89]
 | 16 => [2]
 | 17 => [0, 3, 4, 5]
 | 18 => [0, 4, 5, 91]
 | 19 => [2]
 | 20 => [0, 3, 4, 5]
 | 21 => [2]
 | 900018 => [18]
 | 900046 => [46]
 | 900054 => [54]
 | 900083 => [83]
 | 900087 => [87]
 | 900089 => [89]
 | 900091 => [91]
 | _ => []
def live101 : Nat → List Nat
 | 0 => [0]
 | 1 => [0, 4]
 | 2 => [2]
 | 3 => [2]
 | 900004 => [4]
 | _ => []
def live102 : Nat → List Nat
 | 0 => [0]
 | 1 => [0, 4]
 | 2 => [2]
 | 3 => [2]
 | 900004 => [4]
 | _ => []
def live132 : Nat → List Nat
 | 0 => []
 | 1 => []
 | 2 => []
 | 3 => []
 | 4 => []
 | 5 => []
 | 6 => []
 | _ => []
def liveD : FuncId → Nat → List Nat
 | 2 => live2
 | 3 => live3
 | 4 => live4
 | 5 => live5
 | 6 => live6
 | 7 => live7
 | 8 => live8
 | 9 => live9
 | 10 => live10
 | 11 => live11
 | 12 => live12
 | 13 => live13
 | 14 => live14
 | 15 => live15
 | 16 => live16
 | 17 => live17
 | 18 => live18
 | 19 => live19
 | 20 => live20
 | 21 => live21
 | 22 => live22
 | 23 => live23
 | 24 => live24
 | 25 => live25
 | 26 => live26
 | 27 => live27
 | 28 => live28
 | 29 => live29
 | 30 => live30
 | 31 => live31
 | 32 => live32
 | 33 => live33
 | 34 => live34
 | 35 => live35
 | 36 => live36
 | 37 => live37
 | 38 => live38
 | 39 => live39
 | 40 => live40
 | 41 => live41
 | 42 => live42
 | 43 => live43
 | 44 => live44
 | 45 => live45
 | 46 => live46
 | 47 => live47
 | 48 => live48
 | 49 => live49
 | 50 => live50
 | 51 => live51
 | 52 => live52
 | 53 => live53
 | 54 => live54
 | 55 => live55
 | 56 => live56
 | 57 => live57
 | 58 => live58
 | 59 => live59
 | 60 => live60
 | 61 => live61
 | 62 => live62
 | 63 => live63
 | 64 => live64
 | 65 => live65
 | 66 => live66
 | 67 => live67
 | 68 => live68
 | 69 => live69
 | 70 => live70
 | 71 => live71
 | 73 => live73
 | 74 => live74
 | 75 => live75
 | 76 => live76
 | 77 => live77
 | 78 => live78
 | 80 => live80
 | 81 => live81
 | 82 => live82
 | 83 => live83
 | 84 => live84
 | 85 => live85
 | 86 => live86
 | 87 => live87
 | 88 => live88
 | 89 => live89
 | 90 => live90
 | 91 => live91
 | 93 => live93
 | 94 => live94
 | 95 => live95
 | 96 => live96
 | 97 => live97
 | 98 => live98
 | 99 => live99
 | 100 => live100
 | 101 => live101
 | 102 => live102
 | 132 => live132
 | _ => fun _ => []
end Go.Proofs.YtgnbfmoifnfneaaDoor.V
namespace Go.Proofs.YtgnbfmoifnfneaaDoor.QA
open Go.RowKit Go.Proofs.YtgnbfmoifnfneaaDoorW.PrintWords Go.Proofs.YtgnbfmoifnfneaaDoorW.PrintLast Go.Proofs.YtgnbfmoifnfneaaDoorW.PrintMore
set_option linter.unusedVariables false
set_option linter.unusedSimpArgs false
theorem qB {w w' : World} {g : Nat} {o : Obj} (h : Aside0 (w.heap[g]? = some o)) (h' : w.heap[g]? = some o → w'.heap[g]? = some o := by intro h_; (with_reducible repeat (first | refine blk_drewN ?_ _ | refine blk_drew ?_ | refine blk_alloc ?_ _)); exact h_) : w'.heap[g]? = some o := h' h.out
theorem qR {p q : Prop} (h : Aside0 p) (h' : p → q := by intro h_; (with_reducible repeat (first | apply Kd.R_alloc | apply Kd.R_drewN | apply Kd.R_drew)); exact h_) : q := h' h.out
theorem qE {p : Prop} (h : p := by first | rfl | (simp [errW_none, errW_some] <;> rfl) | (simp [*, errW_none, errW_some] <;> rfl)) : p := h
theorem qL {p : Prop} (h : p := by (try simp only [List.map_toArray, List.map_cons, List.map_nil]); first | done | rfl | (simp only [List.length_drop, List.length_take]; rfl)) : p := h
theorem qD {w w1 W : World} {g : Nat} {o : Obj} (h : Aside0 (w.heap[g]? = some o)) (hb : Below W.heap.size W w1) (h' : w.heap[g]? = some o → W.heap[g]? = some o := by intro h_; (with_reducible repeat (first | refine blk_drewN ?_ _ | refine blk_drew ?_ | refine blk_alloc ?_ _)); exact h_) : Aside0 (w1.heap[g]? = some o) := ⟨blk_below (h' h.out) hb⟩
theorem qG {g n m : Nat} (hg : g = m) (h : n ≤ m) : Aside0 (n ≤ g) := ⟨hg ▸ h⟩
theorem qN {g n m : Nat} (hg : g = m) (h : n < m) : Aside0 (n ≠ g) := ⟨hg ▸ Nat.ne_of_lt h⟩
theorem qM {g n m : Nat} (hg : g = m) (h : n < m) : Aside0 (g ≠ n) := ⟨hg ▸ Nat.ne_of_gt h⟩
theorem qT {P : Prop} [Decidable P] {α : Type} {a : Option α} {r : α} (h : (if P then a else none) = some r) : decide P = true ∧ a = some r := by
 by_cases c : P
 ·rw [if_pos c] at h; exact ⟨decide_eq_true c, h⟩
 ·rw [if_neg c] at h; cases h
theorem qU {P : Prop} [Decidable P] {α : Type} {a : Option α} {r : α} (h : (if P then a else none) = some r) : P ∧ a = some r := ⟨of_decide_eq_true (qT h).1, (qT h).2⟩
theorem qT2 {P : Prop} [Decidable P] {α : Type} {a : Option α} {r : α} (h : (if P then a else none) = some r) : (P = True) ∧ decide P = true ∧ a = some r := ⟨eq_true (of_decide_eq_true (qT h).1), (qT h).1, (qT h).2⟩
theorem qI {P : Prop} [Decidable P] {α : Type} {a b r : α} (h : (if P then a else b) = r) : (decide P = true ∧ a = r) ∨ (decide P = false ∧ b = r) := by
 by_cases c : P
 ·rw [if_pos c] at h; exact .inl ⟨decide_eq_true c, h⟩
 ·rw [if_neg c] at h; exact .inr ⟨decide_eq_false c, h⟩
theorem qJ {P : Prop} [Decidable P] {α : Type} {a b r : α} (h : (if P then a else b) = r) : (P ∧ a = r) ∨ (¬ P ∧ b = r) := by
 by_cases c : P
 ·rw [if_pos c] at h; exact .inl ⟨c, h⟩
 ·rw [if_neg c] at h; exact .inr ⟨c, h⟩
theorem qX {α β : Type} {o : Option α} {f : α → Option β} {r : β} (h : o.bind f = some r) : ∃ a, Aside0 (o = some a) ∧ f a = some r := by
 obtain ⟨a, h1, h2⟩ := Option.bind_eq_some_iff.mp h
 exact ⟨a, ⟨h1⟩, h2⟩
theorem qF {w w' : World} {a : Addr} {v : Value} (hb : Aside0 (Below w.heap.size w w')) (h : w.cell? a = some v) : w'.cell? a = some v := (hb.out.cell (World.block_lt_of_cell? w _ h)).trans h
theorem qPu {p : Prop} (h : p := by simp only [Act.put, List.setIfInBounds_toArray, List.set_cons_zero, List.set_cons_succ, i64_w, i32_w]; rfl) : p := h
theorem qZ {p q : Prop} (h : p := by first | rfl | (simp; done) | (simp [*]; done)) (h' : q := by repeat (first | exact Drawn0.refl _ | apply Drawn0.step)) : p ∧ q := ⟨h, h'⟩
theorem qV {p : Prop} (h : p := by first | rfl | (simp; done) | (simp [*]; done)) : p := h
theorem qO {p : Prop} [Decidable p] (h : decide p = true := by first | (with_reducible assumption) | assumption) : p := of_decide_eq_true h
theorem qY {p q : Prop} {α : Type} {y e : α} (hy : y = e) (h : p) (h' : y = e → p → q := by intro hy_ H_; first | (rw [hy_]; with_reducible exact H_) | (have H2_ := (Option.bind_some _ _).symm.trans H_; rw [hy_]; with_reducible exact H2_) | (have H2_ := (Option.bind_some _ _).symm.trans H_; with_reducible exact H2_) | with_reducible exact H_ | (rw [hy_]; exact H_) | exact H_) : q := h' hy h
theorem qC7 {w : World} {g t : Nat} {c0 c1 c2 c3 c4 c5 c6 : Value} (h : Aside0 (w.heap[g]? = some (.cells #[c0, c1, c2, c3, c4, c5, c6] t (0, 0)))) : w.cell? ⟨g, 0, none⟩ = some c0 ∧ w.cell? ⟨g, 1, none⟩ = some c1 ∧ w.cell? ⟨g, 2, none⟩ = some c2 ∧ w.cell? ⟨g, 3, none⟩ = some c3 ∧ w.cell? ⟨g, 4, none⟩ = some c4 ∧ w.cell? ⟨g, 5, none⟩ = some c5 ∧ w.cell? ⟨g, 6, none⟩ = some c6 ∧ w.frozen? ⟨g, 0, none⟩ = false ∧ w.frozen? ⟨g, 1, none⟩ = false ∧ w.frozen? ⟨g, 2, none⟩ = false ∧ w.frozen? ⟨g, 3, none⟩ = false ∧ w.frozen? ⟨g, 4, none⟩ = false ∧ w.frozen? ⟨g, 5, none⟩ = false ∧ w.frozen? ⟨g, 6, none⟩ = false := ⟨(blk_cell h.out 0).trans rfl, (blk_cell h.out 1).trans rfl, (blk_cell h.out 2).trans rfl, (blk_cell h.out 3).trans rfl, (blk_cell h.out 4).trans rfl, (blk_cell h.out 5).trans rfl, (blk_cell h.out 6).trans rfl, blk_frozen h.out 0, blk_frozen h.out 1, blk_frozen h.out 2, blk_frozen h.out 3, blk_frozen h.out 4, blk_frozen h.out 5, blk_frozen h.out 6⟩
theorem qS0 {p  q : Prop} (h : Aside0 p) (h' : p → q := by intro h_ ; repeat (first | (with_reducible first | exact h_ | apply below_alloc | apply pw_below_drewN | apply below_drew1) | exact h_)) : q := h' h.out
theorem qS1 {p r0 q : Prop} (h : Aside0 p) (k0 : Aside0 r0) (h' : p → r0 → q := by intro h_ e0_; repeat (first | (with_reducible first | exact h_ | apply below_alloc | apply pw_below_drewN | apply below_drew1 | refine below_set ?_ e0_) | exact h_)) : q := h' h.out k0.out
theorem qS2 {p r0 r1 q : Prop} (h : Aside0 p) (k0 : Aside0 r0) (k1 : Aside0 r1) (h' : p → r0 → r1 → q := by intro h_ e0_ e1_; repeat (first | (with_reducible first | exact h_ | apply below_alloc | apply pw_below_drewN | apply below_drew1 | refine below_set ?_ e0_ | refine below_set ?_ e1_) | exact h_)) : q := h' h.out k0.out k1.out
end Go.Proofs.YtgnbfmoifnfneaaDoor.QA
namespace Go.Proofs.YtgnbfmoifnfneaaDoor.QA
open Go.RowKit Go.Proofs.YtgnbfmoifnfneaaDoorW.PrintWords Go.Proofs.YtgnbfmoifnfneaaDoorW.PrintLast Go.Proofs.YtgnbfmoifnfneaaDoorW.PrintMore
attribute [local go_sem] max2_int min2_int max_two min_two max_three min_three max_four min_four
set_option linter.unusedVariables false
set_option linter.unusedSimpArgs false
def errW : Option Int → Value
 | none => .nilIface
 | some c => .iface 84 (.int .i64 c)
theorem errW_none : errW none = .nilIface := rfl
theorem errW_some (c : Int) : errW (some c) = .iface 84 (.int .i64 c) := rfl
theorem info5 : (Tryd.prog.info? 5).map (fun i => (i.zero, i.size, i.bytes)) = some (some (.int .u8 0), 1, 1) := by kernel_rfl
theorem info9 : (Tryd.prog.info? 9).map (fun i => (i.zero, i.size, i.bytes)) = some (some (.string ⟨#[]⟩), 1, 16) := by kernel_rfl
def reqWordsL : List ByteArray := [⟨#[]⟩, ⟨#[99, 104, 101, 99, 107]⟩, ⟨#[116, 111, 112]⟩, ⟨#[97, 100, 100]⟩, ⟨#[100, 114, 111, 112]⟩, ⟨#[115, 101, 116]⟩, ⟨#[116, 101, 120, 116]⟩]
theorem var_below {P : Program} {w w' : World} {name : String} {cs : Array Value} (hb : Below w.heap.size w w') (h : w.var? P name = some cs) : w'.var? P name = some cs := by
 unfold World.var? at *
 cases hg : P.globalNamed name with
 | none => simp [hg] at h
 | some g =>
  simp only [hg, Option.bind_some] at h ⊢
  have hlt : g < w.heap.size := by
   rcases Nat.lt_or_ge g w.heap.size with h' | h'
   ·exact h'
   ·rw [Array.getElem?_eq_none h'] at h; cases h
  rw [hb.block g hlt]
  exact h
structure TabG (w : World) : Prop where
 pow10 : Lib.TabIs Tryd.prog w "internal/strconv.uint64pow10" .u64 Lib.pow10Tab
 maxlen : ∃ m : Int, w.cell? ⟨1, 0, none⟩ = some (.int .i64 m)
 syn : ∃ (tp : TypeId) (p : Value), w.var? Tryd.prog "strconv.ErrSyntax" = some #[.iface tp p]
 rng : ∃ (tp : TypeId) (p : Value), w.var? Tryd.prog "strconv.ErrRange" = some #[.iface tp p]
 reqw : ∀ (k : Nat) (s : ByteArray), reqWordsL[k]? = some s → w.cell? ⟨0, k, none⟩ = some (.string s)
theorem G_below {w w' : World} (hb : Below w.heap.size w w') (hG : TabG w) : TabG w' := ⟨Lib.tabBelow_of_tabIs hG.pow10 w' hb, (let ⟨m, hm⟩ := hG.maxlen; ⟨m, (hb.cell (World.block_lt_of_cell? w _ hm)).trans hm⟩), (let ⟨tp, p, hv⟩ := hG.syn; ⟨tp, p, var_below hb hv⟩), (let ⟨tp, p, hv⟩ := hG.rng; ⟨tp, p, var_below hb hv⟩), (fun k s hk => (hb.cell (World.block_lt_of_cell? w _ (hG.reqw k s hk))).trans (hG.reqw k s hk))⟩
shelf_lay Lays.n146 Nm 146 at Tryd as Tryd.lays146
def strings_Split.f (a0 : ByteArray) (a1 : ByteArray) : Option (List ByteArray) := if a0.size < 4294967281 ∧ 1 ≤ a1.size then some (Lib.splitB a1 0 (Lib.countB a0 a1) a0) else none
theorem strings_Split.calls (a0 : ByteArray) (a1 : ByteArray) (r : List ByteArray) (w : World) (h : strings_Split.f a0 a1 = some r) (hG : TabG w) :
  Calls Tryd.prog 31 #[.string a0, .string a1] w fun e w' => ∃ v0_ : Value, e = .returned (v0_) ∧ Kd.R Kd.string 9 w' w.heap.size (fun _ => True) v0_ r ∧ Below w.heap.size w w' := by
 unfold strings_Split.f at h
 split at h
 ·rename_i hr
  (obtain rfl := Option.some.inj h); (obtain ⟨m, hm⟩ := hG.maxlen); (have hlen := Lib.splitB_all a1 hr.2 0 _ a0 rfl); (have hle := Lib.countB_le a1 hr.2 a0.size a0 (Nat.le_refl _))
  refine (Any.strings_Split Tryd.lays146 (by kernel_rfl) a0 a1 m w hr.1 hm hr.2).mono ?_
  rintro e w' ⟨rfl, rfl⟩
  refine ⟨_, rfl, Kd.R_of_own (enc := Value.string) (h1 := fun _ => rfl) ⟨by simp [encs], .inr ⟨w.heap.size, Lib.countB a0 a1 + 1, _, by rw [hlen], Nat.le_refl _, heap_alloc_new w _, by rw [hlen]; exact Nat.le_refl _, by simp only [maxLen]; omega, by simp [hlen], ?_⟩⟩ (fun _ _ => trivial), (Below.refl _ w).alloc (Nat.le_refl _) _⟩
  rw [List.take_of_length_le (by simp)]
  simp [encs]
 ·cases h
end Go.Proofs.YtgnbfmoifnfneaaDoor.QA
namespace Go.Proofs.YtgnbfmoifnfneaaDoor.QA
open Go.RowKit Go.Proofs.YtgnbfmoifnfneaaDoorW.PrintWords Go.Proofs.YtgnbfmoifnfneaaDoorW.PrintLast Go.Proofs.YtgnbfmoifnfneaaDoorW.PrintMore
attribute [local go_sem] max2_int min2_int max_two min_two max_three min_three max_four min_four
set_option linter.unusedVariables false
set_option linter.unusedSimpArgs false
shelf_lay Go.Proofs.LaysM.n171 Nm 171 at Tryd as Tryd.lays171
def strconv_Itoa_36.f (a0 : Int) : Option ByteArray := if -9223372036854775808 ≤ a0 ∧ a0 ≤ 9223372036854775807 then some ⟨(Lib.itoa a0).toArray⟩ else none
theorem strconv_Itoa_36.calls (a0 : Int) (r : ByteArray) (w : World) (h : strconv_Itoa_36.f a0 = some r) (hG : TabG w) :
  Calls Tryd.prog 36 #[.int .i64 a0] w fun e w' => e = .returned (.string r) ∧ Below w.heap.size w w' := by
 unfold strconv_Itoa_36.f at h
 split at h
 ·rename_i hr
  obtain rfl := Option.some.inj h
  refine (Any.strconv_Itoa Tryd.lays171 a0 hr.1 hr.2 w hG.pow10).mono ?_
  rintro e w' ⟨rfl, k, os, rfl⟩
  exact ⟨rfl, Lib.below_grow _ w (Nat.le_refl _) k os⟩
 ·cases h
end Go.Proofs.YtgnbfmoifnfneaaDoor.QA
namespace Go.Proofs.YtgnbfmoifnfneaaDoor.QA
open Go.RowKit Go.Proofs.YtgnbfmoifnfneaaDoorW.PrintWords Go.Proofs.YtgnbfmoifnfneaaDoorW.PrintLast Go.Proofs.YtgnbfmoifnfneaaDoorW.PrintMore
attribute [local go_sem] max2_int min2_int max_two min_two max_three min_three max_four min_four
set_option linter.unusedVariables false
set_option linter.unusedSimpArgs false
set_option maxHeartbeats 8000000
set_option maxRecDepth 100000
def impl_within.f (a0 : Int) (a1 : Int) (a2 : Int) : Option (Bool) := if a0 ≥ a1 then (some (decide (a0 ≤ a2))) else (some false)
theorem impl_within.calls (a0 : Int) (a1 : Int) (a2 : Int) (r : Bool) (w : World) (h : impl_within.f a0 a1 a2 = some r) :
  Calls Tryd.prog 38 #[.int .i64 a0, .int .i64 a1, .int .i64 a2] w fun e w' => e = .returned (.bool r) ∧ Drawn0 w w' := by
 (have H : (if a0 ≥ a1 then (some (decide (a0 ≤ a2))) else (some false)) = some r := h); clear h
 rcases qI H with ⟨(c4b0 : decide (a1 ≤ a0) = true), H⟩ | ⟨(c4b0 : decide (a1 ≤ a0) = false), H⟩
 ·obtain rfl := Option.some.inj H
  go_enter Tryd.func38, Tryd.ntmps38
  go_wp2
  go_ret
  exact qZ
 ·obtain rfl := Option.some.inj H
  go_enter Tryd.func38, Tryd.ntmps38
  go_wp2
  go_ret
  exact qZ
end Go.Proofs.YtgnbfmoifnfneaaDoor.QA
namespace Go.Proofs.YtgnbfmoifnfneaaDoor.QA
open Go.RowKit Go.Proofs.YtgnbfmoifnfneaaDoorW.PrintWords Go.Proofs.YtgnbfmoifnfneaaDoorW.PrintLast Go.Proofs.YtgnbfmoifnfneaaDoorW.PrintMore
attribute [local go_sem] max2_int min2_int max_two min_two max_three min_three max_four min_four
set_option linter.unusedVariables false
set_option linter.unusedSimpArgs false
set_option maxHeartbeats 8000000
set_option maxRecDepth 100000
shelf_lay LaysC.n172 Nm 172 at Tryd as Tryd.lays172
def impl_lineNumber.f (a0 : ByteArray) : Option (Int × Bool) := if a0.size ≤ 281474976710656 then
  (match Lib.atoiAll a0.data.toList with
   | .ok v => (strconv_Itoa_36.f v).bind fun t => if t.toList = a0.toList then (if 0 ≤ v ∧ v ≤ 999999999 then some (v, true) else some (0, false)) else some (0, false)
   | _ => some (0, false)) else none
theorem within_line (v : Int) : impl_within.f v 0 999999999 = some (decide (0 ≤ v ∧ v ≤ 999999999)) := by
 unfold impl_within.f
 by_cases h : v ≥ 0
 ·rw [if_pos h]
  by_cases h2 : v ≤ 999999999 <;> simp [h2] <;> omega
 ·rw [if_neg h]
  simp
  omega
theorem impl_lineNumber.calls (a0 : ByteArray) (r1 : Int) (r2 : Bool) (w : World) (h : impl_lineNumber.f a0 = some (r1, r2)) (hG : TabG w) :
  Calls Tryd.prog 32 #[.string a0] w fun e w' => e = .returned (.tuple #[.int .i64 r1, .bool r2]) ∧ Below w.heap.size w w' := by
 unfold impl_lineNumber.f at h
 split at h
 ·rename_i hs
  have hfail : ∀ (z : Int) (t : TypeId) (N : Nat), (Calls Tryd.prog 50 #[.string a0] w fun e w' => e = .returned (.tuple #[.int .i64 z, .iface t (.pointer (some ⟨N, 0, none⟩))]) ∧ Below w.heap.size w w') → True := fun _ _ _ _ => trivial
  cases hat : Lib.atoiAll a0.data.toList with
  | ok v =>
   (rw [hat] at h); (simp only at h); (obtain ⟨t, ht, h2⟩ := Option.bind_eq_some_iff.mp h); (have HA := Aside0.mk (Any.strconv_Atoi_ok Tryd.lays172 a0 (by omega) v hat w)); (have HT := Aside0.mk ht); (have HG := Aside0.mk hG); (have HW := Aside0.mk (within_line v)); clear h hat ht hG hs hfail
   have hbw : ∀ w', (w' = w ∨ ∃ t, w' = Lib.bytesWorld w (Tryd.lays172_ren.t 5) t) → Below w.heap.size w w' := by
    rintro w' (rfl | ⟨t, rfl⟩)
    ·exact Below.refl _ _
    ·exact Lib.bytesWorld_below _ _ _
   (have HBW := Aside0.mk hbw); clear hbw
   by_cases c1 : t.toList = a0.toList
   ·rw [if_pos c1] at h2
    have c1b0 : (t.toList == a0.toList) = true := by simp [c1]
    by_cases c2 : 0 ≤ v ∧ v ≤ 999999999
    ·rw [if_pos c2] at h2
     (rw [decide_eq_true c2] at HW); (obtain ⟨rfl, rfl⟩ : v = r1 ∧ true = r2 := by simpa using h2); clear c1 c2
     go_enter Tryd.func32, Tryd.ntmps32
     go_wp2_with (first | (go_at_call 50; refine HA.out.mono ?_; rintro e w1 ⟨rfl, hb1⟩; have HB1 := Aside0.mk (HBW.out w1 hb1); clear hb1) | (go_at_call 36; refine (strconv_Itoa_36.calls v t _ HT.out (G_below HB1.out HG.out)).mono ?_; rintro e w2 ⟨rfl, hb2⟩; have HB2 := Aside0.mk (HB1.out.trans (hb2.mono HB1.out.size)); clear hb2) | (go_at_call 38; refine (impl_within.calls v 0 999999999 true _ HW.out).mono ?_; rintro e w3 ⟨rfl, ⟨nd, rfl⟩⟩))
     go_ret2
     exact ⟨rfl, pw_below_drewN HB2.out _⟩
    ·rw [if_neg c2] at h2
     rw [decide_eq_false c2] at HW
     cases h2
     clear c1 c2
     go_enter Tryd.func32, Tryd.ntmps32
     go_wp2_with (first | (go_at_call 50; refine HA.out.mono ?_; rintro e w1 ⟨rfl, hb1⟩; have HB1 := Aside0.mk (HBW.out w1 hb1); clear hb1) | (go_at_call 36; refine (strconv_Itoa_36.calls v t _ HT.out (G_below HB1.out HG.out)).mono ?_; rintro e w2 ⟨rfl, hb2⟩; have HB2 := Aside0.mk (HB1.out.trans (hb2.mono HB1.out.size)); clear hb2) | (go_at_call 38; refine (impl_within.calls v 0 999999999 false _ HW.out).mono ?_; rintro e w3 ⟨rfl, ⟨nd, rfl⟩⟩))
     go_ret2
     exact ⟨rfl, pw_below_drewN HB2.out _⟩
   ·rw [if_neg c1] at h2
    have c1b0 : (t.toList == a0.toList) = false := by simp [c1]
    cases h2
    clear c1 HW
    go_enter Tryd.func32, Tryd.ntmps32
    go_wp2_with (first | (go_at_call 50; refine HA.out.mono ?_; rintro e w1 ⟨rfl, hb1⟩; have HB1 := Aside0.mk (HBW.out w1 hb1); clear hb1) | (go_at_call 36; refine (strconv_Itoa_36.calls v t _ HT.out (G_below HB1.out HG.out)).mono ?_; rintro e w2 ⟨rfl, hb2⟩; have HB2 := Aside0.mk (HB1.out.trans (hb2.mono HB1.out.size)); clear hb2))
    go_ret2
    exact ⟨rfl, HB2.out⟩
  | «syntax» =>
   rw [hat] at h
   cases h
   (obtain ⟨tp, p, hv⟩ := hG.syn); (have HA := Aside0.mk (Any.strconv_Atoi_syntax_var Tryd.lays172 a0 hs hat tp p w hv)); clear hat hG hs hfail hv
   go_enter Tryd.func32, Tryd.ntmps32
   go_wp2_with (go_at_call 50; refine HA.out.mono ?_; rintro e w1 ⟨N, rfl, _, _, hb1⟩)
   go_ret2
   exact ⟨rfl, hb1⟩
  | range =>
   rw [hat] at h
   cases h
   (obtain ⟨tp, p, hv⟩ := hG.rng); (have HA := Aside0.mk (Any.strconv_Atoi_range_var Tryd.lays172 a0 hs hat tp p w hv)); clear hat hG hs hfail hv
   go_enter Tryd.func32, Tryd.ntmps32
   go_wp2_with (go_at_call 50; refine HA.out.mono ?_; rintro e w1 ⟨N, rfl, _, _, hb1⟩)
   go_ret2
   exact ⟨rfl, hb1⟩
 ·cases h
end Go.Proofs.YtgnbfmoifnfneaaDoor.QA
namespace Go.Proofs.YtgnbfmoifnfneaaDoor.QA
open Go.RowKit Go.Proofs.YtgnbfmoifnfneaaDoorW.PrintWords Go.Proofs.YtgnbfmoifnfneaaDoorW.PrintLast Go.Proofs.YtgnbfmoifnfneaaDoorW.PrintMore
attribute [local go_sem] max2_int min2_int max_two min_two max_three min_three max_four min_four
set_option linter.unusedVariables false
set_option linter.unusedSimpArgs false
shelf_lay Lays.n147 Nm 147 at Tryd as Tryd.lays147
def strings_SplitN.f (a0 : ByteArray) (a1 : ByteArray) (a2 : Int) : Option (List ByteArray) := if a0.size < 4294967281 ∧ 1 ≤ a1.size ∧ 1 ≤ a2 ∧ a2 ≤ 1000000 then some (Lib.splitB a1 0 (min a2.toNat (a0.size + 1) - 1) a0) else none
theorem strings_SplitN.calls (a0 : ByteArray) (a1 : ByteArray) (a2 : Int) (r : List ByteArray) (w : World) (h : strings_SplitN.f a0 a1 a2 = some r) (hG : TabG w) :
  Calls Tryd.prog 33 #[.string a0, .string a1, .int .i64 a2] w fun e w' => ∃ v0_ : Value, e = .returned (v0_) ∧ Kd.R Kd.string 9 w' w.heap.size (fun _ => True) v0_ r ∧ Below w.heap.size w w' := by
 unfold strings_SplitN.f at h
 split at h
 ·rename_i hr
  (obtain rfl := Option.some.inj h); (obtain ⟨m, hm⟩ := hG.maxlen); (obtain ⟨n, rfl⟩ : ∃ n : Nat, a2 = (n : Int) := ⟨a2.toNat, by omega⟩); (rw [Int.toNat_natCast]); (have hle := Lib.splitB_length_le a1 0 (min n (a0.size + 1) - 1) a0); (have hle' : (Lib.splitB a1 0 (min n (a0.size + 1) - 1) a0).length ≤ min n (a0.size + 1) := by omega)
  refine (Any.strings_SplitN Tryd.lays147 (by kernel_rfl) a0 a1 n m w hr.1 hm hr.2.1 (by omega) (by omega)).mono ?_
  rintro e w' ⟨rfl, rfl⟩
  refine ⟨_, rfl, Kd.R_of_own (enc := Value.string) (h1 := fun _ => rfl) ⟨by simp [encs], .inr ⟨w.heap.size, min n (a0.size + 1), _, rfl, Nat.le_refl _, heap_alloc_new w _, hle', by simp only [maxLen]; omega, by simpa using Lib.cellsOf_size hle', ?_⟩⟩ (fun _ _ => trivial), (Below.refl _ w).alloc (Nat.le_refl _) _⟩
  unfold Lib.cellsOf
  simp [encs]
 ·cases h
end Go.Proofs.YtgnbfmoifnfneaaDoor.QA
