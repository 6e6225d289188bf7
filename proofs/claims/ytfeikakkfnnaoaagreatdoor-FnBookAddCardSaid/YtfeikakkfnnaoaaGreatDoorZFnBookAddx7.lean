/- Part of the proof of the law FnBookAdd: what it uses of the texts that this session and the kit's print wrote. -/
import Derived.Test.YtfeikakkfnnaoaaGreatDoorZFnBookAddx0
import Derived.Test.YtfeikakkfnnaoaaGreatDoorZFnBookAddx1
import Derived.Test.YtfeikakkfnnaoaaGreatDoorZFnBookAddx2
import Derived.Test.YtfeikakkfnnaoaaGreatDoorZFnBookAddx6
import Derived.Test.YtfeikakkfnnaoaaGreatDoorProg
import Derived.Below
import Derived.Deep.Draws
import Derived.Deep.AppendLies
import Derived.Maps.AppendAt
import Derived.OwnWalk
import Derived.Laws.BytesArg
import Derived.Laws.MakeOwn
import Derived.Laws.OwnMore
import Derived.Deep.OwnRows
import Derived.Tactics
import Derived.Lib.ConvBytes
import Derived.Laws.Slices
import Derived.WalkKit
import Derived.KernelRfl
import Derived.RowKit3
import Derived.Deep.LoopGhost
import Derived.Deep.QuietTactic
import Derived.BigQuiet
import Derived.WideLaws
import Derived.Deep.DeepCutAuto
import Derived.Deep.CutBlock
import Derived.Deep.RegionHeld3
import Derived.Laws.Rows
import Derived.Lib.AppendStr
import Derived.ArgAppend
import Derived.Laws.IdiomCopy
import Derived.OrdersHeld
import Derived.Laws.BitsLemmas
import Derived.RowKit
import Derived.Shelf.Abstract
import Derived.WalkLawsBesides
import Derived.Lib.BufferWrite
import Derived.Laws.CopyOwn
import Derived.Shelf.Strings.MapGrows
import Derived.Shelf.Lay
import Derived.Ground.NamesProg
import Derived.Laws.StructEq
namespace Go.Proofs.YtfeikakkfnnaoaaGreatDoor.V
open Go
set_option linter.unusedVariables false
noncomputable section
variable (L : Lay) (sig : FuncId → Sig) (call : (f : FuncId) → List (SV L.D) → Option (RT L.D (sig f).all)) {ρ : Type} (nt : Nat) (live : Nat → List Nat) (n : Nat)
def goAt : Code → List Nat → List Nat → (Ex → St L.D → Option ρ) → St L.D → Option ρ
 | .seq a b, 0 :: p, ms, K => goAt a p ms fun e st' => match e with
  | .normal => run L sig call nt live n b st' K
  | e => K e st'
 | .seq _ b, _ :: p, ms, K => goAt b p ms K
 | .cond _ a _, 0 :: p, ms, K => goAt a p ms K
 | .cond _ _ b, _ :: p, ms, K => goAt b p ms K
 | .block id b, _ :: p, ms, K => goAt b p ms fun e st' => match e with
  | .exit j => match Nat.beq j id with
   | true => K .normal st'
   | false => K (.exit j) st'
  | e => K e st'
 | .loop b, [], m :: _, K => loopN L (run L sig call nt live n b) K m
 | .loop b, _ :: p, m :: ms, K => goAt b p ms fun e st' => match e with
  | .normal => loopN L (run L sig call nt live n b) K m st'
  | e => K e st'
 | c, _, _, K => fun st => run L sig call nt live n c st K
end
end Go.Proofs.YtfeikakkfnnaoaaGreatDoor.V
namespace Go.Proofs.YtfeikakkfnnaoaaGreatDoor.V
open Go
set_option linter.unusedVariables false
set_option linter.unusedSimpArgs false
section
variable {P : Program} {L : Lay} {E : Ent} {V : Vl} {w : World}
def rawL : List (SV L.D) → Option (List Value)
 | [] => some []
 | .v x :: l => match rawL l with
  | some r => some (x :: r)
  | none => none
 | _ => none
def rawV : SV L.D → Option Value
 | .v x => some x
 | .agg cs => match rawL cs with
  | some l => some (.agg l.toArray)
  | none => none
 | _ => none
theorem rawL_ok : ∀ {cs : List (SV L.D)} {l : List Value}, rawL cs = some l → l.length = cs.length ∧ ∀ j, j < cs.length → cs.getD j .dead = .v (l.getD j undef)
 | [], l, h => by
  obtain rfl := Option.some.inj h
  exact ⟨rfl, fun j hj => absurd hj (Nat.not_lt_zero j)⟩
 | s :: cs, l, h => by
  cases s with
  | v x =>
   simp only [rawL] at h
   cases hr : rawL cs with
   | none => rw [hr] at h; cases h
   | some r =>
    (rw [hr] at h); (obtain rfl := Option.some.inj h); (obtain ⟨h1, h2⟩ := rawL_ok hr)
    refine ⟨by simp [h1], fun j hj => ?_⟩
    cases j with
    | zero => rfl
    | succ j => simpa using h2 j (by simpa using hj)
  | _ => cases h
theorem rawV_ok {F : FS} {st : St L.D} {tm : Array Value} {s : SV L.D} {u x : Value} (h : SR L w F st V tm s u) (hr : rawV s = some x) : u = x := by
 cases s with
 | v y =>
  obtain rfl := Option.some.inj hr
  exact h.v_inv.1
 | agg cs =>
  simp only [rawV] at hr
  cases hl : rawL cs with
  | none => rw [hl] at hr; cases hr
  | some l =>
   (rw [hl] at hr); (obtain rfl := Option.some.inj hr); (obtain ⟨h1, h2⟩ := rawL_ok hl); (obtain ⟨vs, rfl, hlen, _, hj⟩ := h.agg_inv)
   congr 2
   refine List.ext_getElem (by omega) fun j hj1 hj2 => ?_
   (have := hj j (by omega)); (rw [h2 j (by omega)] at this); (have := this.v_inv.1); (rw [getD_lt hj1, getD_lt hj2] at this)
   exact this
 | _ => cases hr
theorem start_adr {az : List (SV L.D)} {a : Act} (h : Rel L E (start L az) V a w) (hp : ∀ s ∈ az, ∀ cs, s ≠ .pb cs) : E.adr = [] := by
 (have hn := start_none1 0 az hp); (have hi : (start L az).imps = [] := by unfold start; rw [hn]; rfl); (have := h.impN); (rw [hi] at this)
 exact List.eq_nil_of_length_eq_zero this.symm
theorem start_arg {az : List (SV L.D)} {vals : List Value} (h : Rel L E (start L az) V ⟨vals.toArray, []⟩ w) {p : Nat} (hp : p < az.length) {s : SV L.D} (hs : az.getD p .dead = s) (hn : ∀ cs, s ≠ .pb cs) (hf : ∀ t xs, s ≠ .fr t xs := by intro _ _ e; cases e) : SR L w (Fz E (start L az) V w) (start L az) V vals.toArray s (vals.getD p undef) := by
 have e1 : (start L az).tmp p = startS p (az.getD p .dead) := by
  (have := startT_get 0 az p hp); (rw [Nat.zero_add] at this)
  unfold St.tmp start
  simp only [this]; rfl
 (have e2 : startS p s = s := by cases s <;> first | rfl | exact absurd rfl (hn _) | exact absurd rfl (hf _ _)); (have e3 : ({ tmps := vals.toArray, defers := [] } : Act).tmps.getD p undef = vals.getD p undef := by simp [List.getD_eq_getElem?_getD]); (have := h.tmp p); (rw [e1, hs, e2, e3] at this)
 exact this
theorem ctOf_none {D : TypeId → Type} : ∀ {l : List (SV D)}, (∀ s ∈ l, ∀ n, s ≠ .ct n) → ctOf l = none
 | [], _ => rfl
 | s :: l, h => by
  (have h1 := ctOf_none fun x hx => h x (List.mem_cons_of_mem _ hx)); (have h2 := h s List.mem_cons_self)
  cases s <;> first | exact h1 | exact absurd rfl (h2 _)
theorem start_vals {az : List (SV L.D)} {vals xs : List Value} (h : Rel L E (start L az) V ⟨vals.toArray, []⟩ w) (hl : (ctOf az = none → az.length = vals.length) ∧ vals.length ≤ az.length) (hx : az.map rawV = xs.map some) : vals = xs := by
 have hlx : xs.length = az.length := by have := congrArg List.length hx; simpa using this.symm
 have hl : az.length = vals.length := hl.1 (ctOf_none fun s hs n e => by
  (have : rawV s ∈ az.map rawV := List.mem_map.2 ⟨s, hs, rfl⟩); (rw [hx, e] at this); (obtain ⟨y, _, h⟩ := List.mem_map.1 this)
  cases h)
 refine List.ext_getElem (by omega) fun p h1 h2 => ?_
 have hp : p < az.length := by omega
 have hr : rawV az[p] = some xs[p] := by
  have := congrArg (fun l => l[p]?) hx
  simpa [hp, h2] using this
 (have hn : ∀ cs, az[p] ≠ .pb cs := fun cs e => by rw [e] at hr; cases hr); (have hf : ∀ t xs, az[p] ≠ .fr t xs := fun t xs e => by rw [e] at hr; cases hr); (have := start_arg h hp (getD_lt hp _) hn hf); (have := rawV_ok this hr)
 rwa [getD_lt h1] at this
theorem start_flatv {az : List (SV L.D)} {xs : List Value} (hx : az.map rawV = xs.map some) : ∀ s ∈ az, ∀ cs, s ≠ .pb cs := fun s hs cs e => by
 (have : rawV s ∈ az.map rawV := List.mem_map.2 ⟨s, hs, rfl⟩); (rw [hx, e] at this); (obtain ⟨y, _, h⟩ := List.mem_map.1 this)
 cases h
theorem postV_flat {s : Sig} {q : Option Nat} {lv : Nat → LV} {cs : List (SV L.D)} {vs : List Value} {v : Value} {w' : World} (ha : E.adr = []) (hb : RowKit.Below E.w0.heap.size E.w0 w') (hr : rawL cs = some vs) (h1 : ∀ u ∈ vs, u.oneCell' = true) (hv : v = valueV (packV s.res s.aggs vs)) : PostV L E s q cs vs lv v w' := by
 (obtain ⟨r1, r2⟩ := rawL_ok hr); (have nf : ∀ c, c < cs.length → ¬ IsFr (cs.getD c .dead) := fun c hc ⟨t, xs, e⟩ => by rw [r2 c hc] at e; cases e)
 have nc : ctOf (cs.drop (s.res.flatten.length + s.fin.flatten.length)) = none := ctOf_none fun x hx n e => by
  (obtain ⟨j, hj, rfl⟩ := List.getElem_of_mem (List.mem_of_mem_drop hx)); (have := r2 j hj); (rw [getD_lt hj, e] at this; cases this)
 have nl : ∀ l, ¬ NL s q cs l := fun l ⟨m, n, _, h, _⟩ => by rw [nc] at h; cases h
 refine ⟨r1, hv, h1, fun c t xs hc e => absurd ⟨t, xs, e⟩ (nf c hc), fun c hc _ => ?_, fun c c' k ho _ => absurd ho.2.1 (nf c ho.1), fun c k ho => absurd ho.2.1 (nf c ho.1), fun l hl => absurd hl (nl l), fun l k hl => absurd hl (nl l), fun l l' k hl => absurd hl (nl l), (fun m n _ h => by rw [nc] at h; cases h), (fun q p hq => by rw [ha] at hq; simp at hq), (fun q p hq => by rw [ha] at hq; simp at hq), hb.size, fun k hk _ => hb.block k hk, hb.os, hb.tape, hb.output⟩
 (rw [r2 c hc]); (have : vs.getD c undef ∈ vs := by rw [getD_lt (by omega)]; exact List.getElem_mem _)
 exact .v _ (h1 _ this)
end
def TabW (W : World) : TabP := fun F w => ∀ k, k < W.heap.size → F k ∧ w.heap[k]? = W.heap[k]?
theorem tabW_kept (W : World) : TabKept (TabW W) := fun F F' w w' h hk k hlt => ⟨(hk k (h k hlt).1).1, (hk k (h k hlt).1).2.trans (h k hlt).2⟩
theorem tabW_here (W : World) : TabW W (fun k => k < W.heap.size) W := fun k hk => ⟨hk, rfl⟩
theorem tabW_below {W w : World} {F : FS} (h : TabW W F w) : RowKit.Below W.heap.size W { w with os := W.os, tape := W.tape, output := W.output } := by
 refine ⟨rfl, rfl, rfl, ?_, fun k hk => (h k hk).2⟩
 show W.heap.size ≤ w.heap.size
 rcases Nat.eq_zero_or_pos W.heap.size with h0 | h0
 ·omega
 ·have := (h (W.heap.size - 1) (by omega)).2
  (have h2 : W.heap.size - 1 < W.heap.size := by omega); (rw [Array.getElem?_eq_getElem h2] at this); (have := (Array.getElem?_eq_some_iff.1 this).1)
  omega
end Go.Proofs.YtfeikakkfnnaoaaGreatDoor.V
namespace Go.Proofs.YtfeikakkfnnaoaaGreatDoor.V
open Go
set_option linter.unusedVariables false
structure S30 where
 f0 : Int
 f1 : ByteArray
 f2 : Int
 f3 : Int
 f4 : Int
 f5 : Int
 f6 : ByteArray
structure S43 where
 f0 : Bool
 f1 : Int
 f2 : Int
 f3 : ByteArray
structure S37 where
 f0 : Int
 f1 : Bool
 f2 : Int
 f3 : List S43
 f4 : List Int
structure S49 where
 f0 : Int
 f1 : ByteArray
 f2 : Int
 f3 : Int
 f4 : Int
 f5 : Int
 f6 : ByteArray
structure S83 where
 f0 : ByteArray
 f1 : Int
structure S137 where
 f0 : ByteArray
 f1 : Int
structure S187 where
 f0 : Int
 f1 : Int
structure S191 where
 f0 : Int
 f1 : Int
abbrev tabD : TypeId → (α : Type) × α
 | 3 => ⟨Int, (0 : Int)⟩
 | 5 => ⟨Int, (0 : Int)⟩
 | 9 => ⟨ByteArray, (⟨#[]⟩ : ByteArray)⟩
 | 30 => ⟨S30, ⟨(0 : Int), (⟨#[]⟩ : ByteArray), (0 : Int), (0 : Int), (0 : Int), (0 : Int), (⟨#[]⟩ : ByteArray)⟩⟩
 | 35 => ⟨List Int, []⟩
 | 37 => ⟨S37, ⟨(0 : Int), false, (0 : Int), [], []⟩⟩
 | 43 => ⟨S43, ⟨false, (0 : Int), (0 : Int), (⟨#[]⟩ : ByteArray)⟩⟩
 | 49 => ⟨S49, ⟨(0 : Int), (⟨#[]⟩ : ByteArray), (0 : Int), (0 : Int), (0 : Int), (0 : Int), (⟨#[]⟩ : ByteArray)⟩⟩
 | 83 => ⟨S83, ⟨(⟨#[]⟩ : ByteArray), (0 : Int)⟩⟩
 | 137 => ⟨S137, ⟨(⟨#[]⟩ : ByteArray), (0 : Int)⟩⟩
 | 187 => ⟨S187, ⟨(0 : Int), (0 : Int)⟩⟩
 | 191 => ⟨S191, ⟨(0 : Int), (0 : Int)⟩⟩
 | _ => ⟨Unit, ()⟩
abbrev DD (t : TypeId) : Type := (tabD t).1
def zeroD (t : TypeId) : DD t := (tabD t).2
def tiD : TypeId → TI
 | 3 => ⟨.int .i64, 1, 8⟩
 | 4 => ⟨.bool, 1, 1⟩
 | 5 => ⟨.int .u8, 1, 1⟩
 | 9 => ⟨.str, 1, 16⟩
 | 21 => ⟨.int .i32, 1, 4⟩
 | 22 => ⟨.slice 5, 1, 24⟩
 | 24 => ⟨.struct [(0, 1), (1, 1), (2, 1), (3, 1)], 4, 32⟩
 | 25 => ⟨.struct [(0, 1), (1, 1), (2, 1), (3, 1)], 4, 32⟩
 | 26 => ⟨.slice 83, 1, 24⟩
 | 27 => ⟨.struct [(0, 4), (4, 1)], 5, 56⟩
 | 28 => ⟨.struct [(0, 4), (4, 1)], 5, 56⟩
 | 29 => ⟨.struct [(0, 1), (1, 1), (2, 1), (3, 1), (4, 1), (5, 1), (6, 1)], 7, 72⟩
 | 30 => ⟨.struct [(0, 1), (1, 1), (2, 1), (3, 1), (4, 1), (5, 1), (6, 1)], 7, 72⟩
 | 34 => ⟨.slice 43, 1, 24⟩
 | 35 => ⟨.slice 3, 1, 24⟩
 | 36 => ⟨.struct [(0, 1), (1, 1), (2, 1), (3, 1), (4, 1)], 5, 72⟩
 | 37 => ⟨.struct [(0, 1), (1, 1), (2, 1), (3, 1), (4, 1)], 5, 72⟩
 | 42 => ⟨.struct [(0, 1), (1, 1), (2, 1), (3, 1)], 4, 40⟩
 | 43 => ⟨.struct [(0, 1), (1, 1), (2, 1), (3, 1)], 4, 40⟩
 | 45 => ⟨.struct [(0, 1), (1, 1), (2, 1), (3, 1)], 4, 32⟩
 | 46 => ⟨.slice 137, 1, 24⟩
 | 47 => ⟨.struct [(0, 4), (4, 1)], 5, 56⟩
 | 48 => ⟨.struct [(0, 4), (4, 1)], 5, 56⟩
 | 49 => ⟨.struct [(0, 1), (1, 1), (2, 1), (3, 1), (4, 1), (5, 1), (6, 1)], 7, 72⟩
 | 59 => ⟨.slice 30, 1, 24⟩
 | 62 => ⟨.slice 37, 1, 24⟩
 | 69 => ⟨.slice 49, 1, 24⟩
 | 77 => ⟨.ptr 118, 1, 8⟩
 | 82 => ⟨.struct [(0, 1), (1, 1)], 2, 24⟩
 | 83 => ⟨.struct [(0, 1), (1, 1)], 2, 24⟩
 | 90 => ⟨.slice 9, 1, 24⟩
 | 117 => ⟨.struct [(0, 1), (1, 1), (2, 1)], 3, 40⟩
 | 118 => ⟨.struct [(0, 1), (1, 1), (2, 1)], 3, 40⟩
 | 129 => ⟨.ptr 28, 1, 8⟩
 | 137 => ⟨.struct [(0, 1), (1, 1)], 2, 24⟩
 | 144 => ⟨.int .u64, 1, 8⟩
 | 155 => ⟨.slice 35, 1, 24⟩
 | 161 => ⟨.int .u32, 1, 4⟩
 | 164 => ⟨.ptr 166, 1, 8⟩
 | 165 => ⟨.struct [(0, 1), (1, 1)], 2, 32⟩
 | 166 => ⟨.struct [(0, 1), (1, 1)], 2, 32⟩
 | 179 => ⟨.slice 191, 1, 24⟩
 | 180 => ⟨.struct [(0, 1), (1, 1)], 2, 32⟩
 | 181 => ⟨.struct [(0, 1), (1, 1)], 2, 32⟩
 | 185 => ⟨.slice 187, 1, 24⟩
 | 186 => ⟨.struct [(0, 1), (1, 1)], 2, 16⟩
 | 187 => ⟨.struct [(0, 1), (1, 1)], 2, 16⟩
 | 189 => ⟨.ptr 5, 1, 8⟩
 | 190 => ⟨.struct [(0, 1), (1, 1)], 2, 16⟩
 | 191 => ⟨.struct [(0, 1), (1, 1)], 2, 16⟩
 | 193 => ⟨.struct [(0, 1), (1, 1)], 2, 2⟩
 | 194 => ⟨.struct [(0, 1), (1, 1)], 2, 2⟩
 | _ => ⟨.other, 0, 0⟩
def cellD : (t : TypeId) → DD t → List (SV DD)
 | 3, x => [.v (.int .i64 x)]
 | 5, x => [.v (.int .u8 x)]
 | 9, x => [.v (.string x)]
 | 30, x => [.v (.int .i64 x.f0), .v (.string x.f1), .v (.int .i64 x.f2), .v (.int .i64 x.f3), .v (.int .i64 x.f4), .v (.int .i64 x.f5), .v (.string x.f6)]
 | 35, x => [.ro 3 x]
 | 37, x => [.v (.int .i64 x.f0), .v (.bool x.f1), .v (.int .i64 x.f2), .ro 43 x.f3, .ro 3 x.f4]
 | 43, x => [.v (.bool x.f0), .v (.int .i64 x.f1), .v (.int .i64 x.f2), .v (.string x.f3)]
 | 49, x => [.v (.int .i64 x.f0), .v (.string x.f1), .v (.int .i64 x.f2), .v (.int .i64 x.f3), .v (.int .i64 x.f4), .v (.int .i64 x.f5), .v (.string x.f6)]
 | 83, x => [.v (.string x.f0), .v (.int .i64 x.f1)]
 | 137, x => [.v (.string x.f0), .v (.int .i64 x.f1)]
 | 187, x => [.v (.int .i64 x.f0), .v (.int .i64 x.f1)]
 | 191, x => [.v (.int .i64 x.f0), .v (.int .i64 x.f1)]
 | t, _ => List.replicate (tiD t).sz (.v (.bool false))
def listOf (t : TypeId) : SV DD → Option (List (DD t))
 | .ro t' xs => castL xs
 | .nl t' => match Nat.beq t t' with
  | true => some []
  | false => none
 | _ => none
def lrOf (t : TypeId) : SV DD → Option (Nat × List (DD t))
 | .lr l t' xs => match castL (t' := t) xs with
  | some ys => some (l, ys)
  | none => none
 | .nl t' => match Nat.beq t t' with
  | true => some (0, [])
  | false => none
 | _ => none
def labdD : TypeId → Bool
 | _ => false
def makeD : (t : TypeId) → List (SV DD) → Option (DD t)
 | 3, [.v (.int .i64 a0)] => some a0
 | 5, [.v (.int .u8 a0)] => some a0
 | 9, [.v (.string a0)] => some a0
 | 30, [.v (.int .i64 a0), .v (.string a1), .v (.int .i64 a2), .v (.int .i64 a3), .v (.int .i64 a4), .v (.int .i64 a5), .v (.string a6)] => some ⟨a0, a1, a2, a3, a4, a5, a6⟩
 | 35, [a0] => (match listOf 3 a0 with | some b0 => some b0 | none => none)
 | 37, [.v (.int .i64 a0), .v (.bool a1), .v (.int .i64 a2), a3, a4] => (match listOf 43 a3 with | some b3 => (match listOf 3 a4 with | some b4 => some ⟨a0, a1, a2, b3, b4⟩ | none => none) | none => none)
 | 43, [.v (.bool a0), .v (.int .i64 a1), .v (.int .i64 a2), .v (.string a3)] => some ⟨a0, a1, a2, a3⟩
 | 49, [.v (.int .i64 a0), .v (.string a1), .v (.int .i64 a2), .v (.int .i64 a3), .v (.int .i64 a4), .v (.int .i64 a5), .v (.string a6)] => some ⟨a0, a1, a2, a3, a4, a5, a6⟩
 | 83, [.v (.string a0), .v (.int .i64 a1)] => some ⟨a0, a1⟩
 | 137, [.v (.string a0), .v (.int .i64 a1)] => some ⟨a0, a1⟩
 | 187, [.v (.int .i64 a0), .v (.int .i64 a1)] => some ⟨a0, a1⟩
 | 191, [.v (.int .i64 a0), .v (.int .i64 a1)] => some ⟨a0, a1⟩
 | _, _ => none
def tsD : List TypeId := [3, 4, 5, 9, 21, 22, 24, 25, 26, 27, 28, 29, 30, 34, 35, 36, 37, 42, 43, 45, 46, 47, 48, 49, 59, 62, 69, 77, 82, 83, 90, 117, 118, 129, 137, 144, 155, 161, 164, 165, 166, 179, 180, 181, 185, 186, 187, 189, 190, 191, 193, 194]
def zeroC : TypeId → List (SV DD)
 | 3 => [.v (.int .i64 (0 : Int))]
 | 4 => [.v (.bool false)]
 | 5 => [.v (.int .u8 (0 : Int))]
 | 9 => [.v (.string (⟨#[]⟩ : ByteArray))]
 | 21 => [.v (.int .i32 (0 : Int))]
 | 22 => [.nl 5]
 | 24 => [.v (.int .i64 (0 : Int)), .v (.int .i64 (0 : Int)), .v (.int .i64 (0 : Int)), .v (.int .i64 (0 : Int))]
 | 25 => [.v (.int .i64 (0 : Int)), .v (.int .i64 (0 : Int)), .v (.int .i64 (0 : Int)), .v (.int .i64 (0 : Int))]
 | 26 => [.nl 83]
 | 27 => [.v (.int .i64 (0 : Int)), .v (.int .i64 (0 : Int)), .v (.int .i64 (0 : Int)), .v (.int .i64 (0 : Int)), .nl 83]
 | 28 => [.v (.int .i64 (0 : Int)), .v (.int .i64 (0 : Int)), .v (.int .i64 (0 : Int)), .v (.int .i64 (0 : Int)), .nl 83]
 | 29 => [.v (.int .i64 (0 : Int)), .v (.string (⟨#[]⟩ : ByteArray)), .v (.int .i64 (0 : Int)), .v (.int .i64 (0 : Int)), .v (.int .i64 (0 : Int)), .v (.int .i64 (0 : Int)), .v (.string (⟨#[]⟩ : ByteArray))]
 | 30 => [.v (.int .i64 (0 : Int)), .v (.string (⟨#[]⟩ : ByteArray)), .v (.int .i64 (0 : Int)), .v (.int .i64 (0 : Int)), .v (.int .i64 (0 : Int)), .v (.int .i64 (0 : Int)), .v (.string (⟨#[]⟩ : ByteArray))]
 | 34 => [.nl 43]
 | 35 => [.nl 3]
 | 36 => [.v (.int .i64 (0 : Int)), .v (.bool false), .v (.int .i64 (0 : Int)), .nl 43, .nl 3]
 | 37 => [.v (.int .i64 (0 : Int)), .v (.bool false), .v (.int .i64 (0 : Int)), .nl 43, .nl 3]
 | 42 => [.v (.bool false), .v (.int .i64 (0 : Int)), .v (.int .i64 (0 : Int)), .v (.string (⟨#[]⟩ : ByteArray))]
 | 43 => [.v (.bool false), .v (.int .i64 (0 : Int)), .v (.int .i64 (0 : Int)), .v (.string (⟨#[]⟩ : ByteArray))]
 | 45 => [.v (.int .i64 (0 : Int)), .v (.int .i64 (0 : Int)), .v (.int .i64 (0 : Int)), .v (.int .i64 (0 : Int))]
 | 46 => [.nl 137]
 | 47 => [.v (.int .i64 (0 : Int)), .v (.int .i64 (0 : Int)), .v (.int .i64 (0 : Int)), .v (.int .i64 (0 : Int)), .nl 137]
 | 48 => [.v (.int .i64 (0 : Int)), .v (.int .i64 (0 : Int)), .v (.int .i64 (0 : Int)), .v (.int .i64 (0 : Int)), .nl 137]
 | 49 => [.v (.int .i64 (0 : Int)), .v (.string (⟨#[]⟩ : ByteArray)), .v (.int .i64 (0 : Int)), .v (.int .i64 (0 : Int)), .v (.int .i64 (0 : Int)), .v (.int .i64 (0 : Int)), .v (.string (⟨#[]⟩ : ByteArray))]
 | 59 => [.nl 30]
 | 62 => [.nl 37]
 | 69 => [.nl 49]
 | 77 => [.v (.pointer none)]
 | 82 => [.v (.string (⟨#[]⟩ : ByteArray)), .v (.int .i64 (0 : Int))]
 | 83 => [.v (.string (⟨#[]⟩ : ByteArray)), .v (.int .i64 (0 : Int))]
 | 90 => [.nl 9]
 | 117 => [.nl 5, .v (.int .i64 (0 : Int)), .v (.int .i64 (0 : Int))]
 | 118 => [.nl 5, .v (.int .i64 (0 : Int)), .v (.int .i64 (0 : Int))]
 | 129 => [.v (.pointer none)]
 | 137 => [.v (.string (⟨#[]⟩ : ByteArray)), .v (.int .i64 (0 : Int))]
 | 144 => [.v (.int .u64 (0 : Int))]
 | 155 => [.nl 35]
 | 161 => [.v (.int .u32 (0 : Int))]
 | 164 => [.v (.pointer none)]
 | 165 => [.v (.pointer none), .nl 5]
 | 166 => [.v (.pointer none), .nl 5]
 | 179 => [.nl 191]
 | 180 => [.v (.int .i64 (0 : Int)), .nl 191]
 | 181 => [.v (.int .i64 (0 : Int)), .nl 191]
 | 185 => [.nl 187]
 | 186 => [.v (.int .i64 (0 : Int)), .v (.int .i64 (0 : Int))]
 | 187 => [.v (.int .i64 (0 : Int)), .v (.int .i64 (0 : Int))]
 | 189 => [.v (.pointer none)]
 | 190 => [.v (.int .i64 (0 : Int)), .v (.int .i64 (0 : Int))]
 | 191 => [.v (.int .i64 (0 : Int)), .v (.int .i64 (0 : Int))]
 | 193 => [.v (.int .u8 (0 : Int)), .v (.int .u8 (0 : Int))]
 | 194 => [.v (.int .u8 (0 : Int)), .v (.int .u8 (0 : Int))]
 | _ => []
def eqtL : List (Nat × List Nat) := [(24, [1, 1, 1, 1]), (25, [1, 1, 1, 1]), (29, [1, 3, 1, 1, 1, 1, 3]), (30, [1, 3, 1, 1, 1, 1, 3]), (42, [2, 1, 1, 3]), (43, [2, 1, 1, 3]), (45, [1, 1, 1, 1]), (49, [1, 3, 1, 1, 1, 1, 3]), (82, [3, 1]), (83, [3, 1]), (137, [3, 1]), (186, [1, 1]), (187, [1, 1]), (190, [1, 1]), (191, [1, 1]), (193, [1, 1]), (194, [1, 1])]
def eqtD (t : TypeId) : List Nat := match look eqtL t with
 | some l => l
 | none => []
def LD : Lay := { labd := labdD, eqt := eqtD, D := DD, ti := tiD, zero := zeroC, cell := cellD, make := makeD, zd := zeroD }
def sigL : List (Nat × Sig) := [(2, ⟨[], [], [], false, false, [], []⟩),
 (3, ⟨[[.bool]], [], [false], false, false, [], []⟩),
 (4, ⟨[[.bool]], [], [false], false, false, [], []⟩),
 (5, ⟨[[.bool]], [], [false], false, false, [], []⟩),
 (6, ⟨[[.bool]], [], [false], false, false, [], []⟩),
 (7, ⟨[[.bool]], [], [false], false, false, [], []⟩),
 (8, ⟨[[.int .i64, .int .i64, .int .i64, .int .i64, .ro 83], [.int .i64, .str, .int .i64, .int .i64, .int .i64, .int .i64, .str]], [], [true, true], false, false, [], []⟩),
 (9, ⟨[[.int .i64]], [], [false], false, false, [], []⟩),
 (10, ⟨[[.int .i64, .int .i64, .int .i64, .int .i64, .fr 83], [.int .i64, .bool, .int .i64, .fr 43, .fr 3]], [], [true, true], false, false, [], []⟩),
 (11, ⟨[[.int .i64, .int .i64, .int .i64, .int .i64, .fr 83], [.int .i64, .bool, .int .i64, .fr 43, .fr 3]], [], [true, true], false, false, [], []⟩),
 (12, ⟨[[.str]], [], [false], false, false, [], []⟩),
 (13, ⟨[[.fr 43]], [], [false], false, false, [], []⟩),
 (14, ⟨[[.bool]], [], [false], false, false, [], []⟩),
 (15, ⟨[[.int .i64]], [], [false], false, false, [], []⟩),
 (16, ⟨[[.int .i64]], [], [false], false, false, [], []⟩),
 (17, ⟨[[.int .i64, .int .i64, .int .i64, .int .i64, .fr 83]], [], [true], false, false, [], []⟩),
 (18, ⟨[[.int .i64, .str, .int .i64, .int .i64, .int .i64, .int .i64, .str]], [], [true], false, false, [], []⟩),
 (19, ⟨[[.bool]], [], [false], false, false, [], []⟩),
 (20, ⟨[[.bool]], [], [false], false, false, [], []⟩),
 (21, ⟨[[.int .i64]], [], [false], false, false, [], []⟩),
 (22, ⟨[[.int .i64]], [], [false], false, false, [], []⟩),
 (23, ⟨[[.int .i64]], [], [false], false, false, [], []⟩),
 (24, ⟨[[.int .i64]], [], [false], false, false, [], []⟩),
 (25, ⟨[[.int .i64, .int .i64, .int .i64, .int .i64, .fr 83], [.fr 30]], [], [true, false], false, false, [], []⟩),
 (26, ⟨[[.int .i64, .int .i64, .int .i64, .int .i64, .fr 83], [.fr 37], [.bool]], [], [true, false, false], false, false, [], []⟩),
 (27, ⟨[[.int .i64, .int .i64, .int .i64, .int .i64, .fr 83], [.fr 37], [.bool]], [], [true, false, false], false, false, [], []⟩),
 (28, ⟨[[.bool]], [], [false], false, false, [], []⟩),
 (29, ⟨[[.fr 5]], [], [false], false, false, [], []⟩),
 (30, ⟨[[.int .i64]], [], [false], false, false, [], []⟩),
 (31, ⟨[[.bool]], [], [false], false, false, [], []⟩),
 (32, ⟨[[.bool]], [], [false], false, false, [], []⟩),
 (33, ⟨[[.int .i64]], [], [false], false, false, [], []⟩),
 (34, ⟨[[.fr 30]], [], [false], false, false, [], []⟩),
 (35, ⟨[[.bool]], [], [false], false, false, [], []⟩),
 (36, ⟨[[.bool]], [], [false], false, false, [], []⟩),
 (37, ⟨[[.int .i64]], [], [false], false, false, [], []⟩),
 (38, ⟨[[.int .i64]], [], [false], false, false, [], []⟩),
 (39, ⟨[[.int .i64]], [], [false], false, false, [], []⟩),
 (40, ⟨[[.ro 5, .int .i64, .int .i64]], [], [false], true, false, [], []⟩),
 (41, ⟨[[.int .i64, .int .i64, .int .i64, .int .i64, .fr 83]], [[.ro 5, .int .i64, .int .i64]], [true], false, false, [], []⟩),
 (42, ⟨[[.int .i64, .str, .int .i64, .int .i64, .int .i64, .int .i64, .str]], [[.ro 5, .int .i64, .int .i64]], [true], false, false, [], []⟩),
 (43, ⟨[[.str]], [[.ro 5, .int .i64, .int .i64]], [false], false, false, [], []⟩),
 (44, ⟨[[.bool]], [], [false], false, false, [], []⟩),
 (45, ⟨[[.int .i64, .int .i64, .int .i64, .int .i64, .fr 83]], [], [true], false, false, [], []⟩),
 (46, ⟨[[.int .i64]], [], [false], false, false, [], []⟩),
 (47, ⟨[[.int .i64]], [], [false], false, false, [], []⟩),
 (48, ⟨[[.fr 43]], [], [false], false, false, [], []⟩),
 (49, ⟨[[.int .i64, .int .i64, .int .i64, .int .i64, .fr 83]], [], [true], false, false, [], []⟩),
 (50, ⟨[[.int .i64, .int .i64, .int .i64, .int .i64, .fr 83]], [], [true], false, false, [], []⟩),
 (51, ⟨[[.fr 9], [.bool]], [], [false, false], false, false, [], []⟩),
 (52, ⟨[[.bool]], [], [false], false, false, [], []⟩),
 (53, ⟨[[.bool]], [], [false], false, false, [], []⟩),
 (54, ⟨[[.int .i64, .int .i64, .int .i64, .int .i64, .fr 83]], [], [true], false, false, [], []⟩),
 (55, ⟨[[.int .i64, .bool, .int .i64, .fr 43, .fr 3]], [[.int .i64, .int .i64, .int .i64, .int .i64, .fr 83]], [true], false, false, [], []⟩),
 (56, ⟨[[.bool]], [], [false], false, false, [], []⟩),
 (57, ⟨[[.bool]], [], [false], false, false, [], []⟩),
 (58, ⟨[[.bool]], [], [false], false, false, [], []⟩),
 (59, ⟨[[.fr 43]], [], [false], false, false, [], []⟩),
 (60, ⟨[[.int .i64]], [], [false], false, false, [], []⟩),
 (61, ⟨[[.int .i64, .int .i64, .int .i64, .int .i64]], [], [true], false, false, [], []⟩),
 (62, ⟨[[.fr 83]], [], [false], false, false, [], []⟩),
 (63, ⟨[[.bool]], [], [false], false, false, [], []⟩),
 (64, ⟨[[.bool]], [], [false], false, false, [], []⟩),
 (65, ⟨[[.bool]], [], [false], false, false, [], []⟩),
 (66, ⟨[[.bool]], [], [false], false, false, [], []⟩),
 (67, ⟨[[.int .i64]], [], [false], false, false, [], []⟩),
 (68, ⟨[[.int .i64]], [], [false], false, false, [], []⟩),
 (69, ⟨[[.int .i64]], [], [false], false, false, [], []⟩),
 (70, ⟨[[.int .i64]], [], [false], false, false, [], []⟩),
 (71, ⟨[[.int .i64]], [], [false], false, false, [], []⟩),
 (72, ⟨[[.int .i64]], [], [false], false, false, [], []⟩),
 (73, ⟨[[.fr 30]], [[.ro 5, .int .i64, .int .i64]], [false], false, false, [], []⟩),
 (74, ⟨[[.bool]], [[.ro 5, .int .i64, .int .i64]], [false], false, false, [], []⟩),
 (75, ⟨[[.bool]], [], [false], false, false, [], []⟩),
 (76, ⟨[[.bool]], [], [false], false, false, [], []⟩),
 (77, ⟨[[.bool]], [], [false], false, false, [], []⟩),
 (78, ⟨[[.bool]], [], [false], false, false, [], []⟩),
 (79, ⟨[[.bool]], [], [false], false, false, [], []⟩),
 (80, ⟨[[.bool]], [], [false], false, false, [], []⟩),
 (81, ⟨[[.fr 5]], [], [false], false, false, [], []⟩),
 (82, ⟨[[.bool]], [], [false], false, false, [], []⟩),
 (83, ⟨[[.bool]], [], [false], false, false, [], []⟩),
 (84, ⟨[[.int .i64]], [], [false], false, false, [], []⟩),
 (85, ⟨[[.int .i64]], [], [false], false, false, [], []⟩),
 (86, ⟨[[.bool]], [], [false], false, false, [], []⟩),
 (87, ⟨[[.str]], [], [false], false, false, [], []⟩),
 (88, ⟨[[.int .i64, .int .i64, .int .i64, .int .i64, .fr 83]], [[.ro 5, .int .i64, .int .i64]], [true], false, false, [], []⟩),
 (89, ⟨[[.int .i64]], [[.ro 5, .int .i64, .int .i64]], [false], false, false, [], []⟩),
 (90, ⟨[[.int .i64, .int .i64, .int .i64, .int .i64]], [[.ro 5, .int .i64, .int .i64]], [true], false, false, [], []⟩),
 (91, ⟨[[.str, .int .i64]], [[.ro 5, .int .i64, .int .i64]], [true], false, false, [], []⟩),
 (92, ⟨[[.str]], [[.ro 5, .int .i64, .int .i64]], [false], false, false, [], []⟩),
 (93, ⟨[[.int .i64]], [[.ro 5, .int .i64, .int .i64]], [false], false, false, [], []⟩),
 (94, ⟨[[.int .i64, .str, .int .i64, .int .i64, .int .i64, .int .i64, .str]], [[.ro 5, .int .i64, .int .i64]], [true], false, false, [], []⟩),
 (95, ⟨[[.bool]], [], [false], false, false, [], []⟩),
 (96, ⟨[[.bool]], [], [false], false, false, [], []⟩),
 (97, ⟨[[.int .i64]], [], [false], false, false, [], []⟩),
 (98, ⟨[[.ro 43]], [], [false], false, false, [], []⟩),
 (99, ⟨[[.bool]], [], [false], false, false, [], []⟩),
 (100, ⟨[[.bool]], [], [false], false, false, [], []⟩),
 (101, ⟨[[.bool]], [], [false], false, false, [], []⟩),
 (102, ⟨[[.int .i64]], [], [false], false, false, [], []⟩),
 (103, ⟨[[.int .i64]], [], [false], false, false, [], []⟩),
 (104, ⟨[[.bool]], [], [false], false, false, [], []⟩),
 (105, ⟨[[.fr 83]], [], [false], false, false, [], []⟩),
 (106, ⟨[[.int .i64]], [], [false], false, false, [], []⟩),
 (107, ⟨[[.str]], [], [false], false, false, [], []⟩),
 (108, ⟨[[.int .i64], [.bool]], [], [false, false], false, false, [], []⟩),
 (109, ⟨[[.int .i64, .bool, .int .i64, .fr 43, .fr 3]], [[.int .i64, .int .i64, .int .i64, .int .i64, .fr 83]], [true], false, false, [], []⟩),
 (110, ⟨[[.fr 3]], [[.int .i64, .int .i64, .int .i64, .int .i64, .fr 83]], [false], false, false, [], []⟩),
 (111, ⟨[[.fr 83]], [], [false], false, false, [], [true, false, false]⟩),
 (112, ⟨[[.int .i64]], [], [false], false, false, [], []⟩),
 (113, ⟨[[.fr 43]], [], [false], false, false, [], []⟩),
 (114, ⟨[[.int .i64]], [], [false], false, false, [], []⟩),
 (115, ⟨[[.str, .int .i64]], [], [true], false, false, [], []⟩),
 (116, ⟨[[.bool]], [], [false], false, false, [], []⟩),
 (117, ⟨[[.bool]], [], [false], false, false, [], []⟩),
 (118, ⟨[[.str]], [[.ro 5, .int .i64, .int .i64]], [false], false, false, [], []⟩),
 (119, ⟨[[.int .i64]], [[.ro 5, .int .i64, .int .i64]], [false], false, false, [], []⟩),
 (120, ⟨[[.bool]], [], [false], false, false, [], []⟩),
 (121, ⟨[[.bool]], [], [false], false, false, [], []⟩),
 (122, ⟨[[.bool]], [], [false], false, false, [], []⟩),
 (123, ⟨[[.bool]], [], [false], false, false, [], []⟩),
 (124, ⟨[[.bool]], [], [false], false, false, [], []⟩),
 (125, ⟨[[.bool]], [], [false], false, false, [], []⟩),
 (126, ⟨[[.bool]], [], [false], false, false, [], []⟩),
 (127, ⟨[[.fr 5]], [], [false], false, false, [], []⟩),
 (128, ⟨[[.int .i64]], [], [false], false, false, [], []⟩),
 (129, ⟨[[.bool]], [], [false], false, false, [], []⟩),
 (130, ⟨[[.int .i64]], [], [false], false, false, [], []⟩),
 (131, ⟨[[.int .i64, .int .i64, .int .i64, .int .i64, .fr 83]], [], [true], false, false, [], []⟩),
 (132, ⟨[[.int .i64, .int .i64, .int .i64, .int .i64]], [[.ro 5, .int .i64, .int .i64]], [true], false, false, [], []⟩),
 (133, ⟨[[.int .i64]], [[.ro 5, .int .i64, .int .i64]], [false], false, false, [], []⟩),
 (134, ⟨[[.int .i64]], [[.ro 5, .int .i64, .int .i64]], [false], false, false, [], []⟩),
 (135, ⟨[[.int .i64]], [[.ro 5, .int .i64, .int .i64]], [false], false, false, [], []⟩),
 (136, ⟨[[.str]], [[.ro 5, .int .i64, .int .i64]], [false], false, false, [], []⟩),
 (137, ⟨[[.int .i64]], [], [false], false, false, [], []⟩),
 (138, ⟨[[.bool]], [], [false], false, false, [], []⟩),
 (139, ⟨[[.fr 43]], [], [false], false, false, [], []⟩),
 (140, ⟨[[.bool]], [], [false], false, false, [], []⟩),
 (141, ⟨[[.int .i64]], [], [false], false, false, [], []⟩),
 (142, ⟨[[.fr 9], [.bool]], [], [false, false], false, false, [], []⟩),
 (143, ⟨[[.str]], [], [false], false, false, [], []⟩),
 (144, ⟨[[.int .i32]], [], [false], false, false, [], []⟩),
 (145, ⟨[[.int .i64], [.bool]], [], [false, false], false, false, [], []⟩),
 (146, ⟨[[.int .i64]], [], [false], false, false, [], []⟩),
 (147, ⟨[[.int .i64]], [], [false], false, false, [], []⟩),
 (148, ⟨[[.fr 83]], [], [false], false, false, [], [true, false, true]⟩),
 (149, ⟨[[.bool]], [], [false], false, false, [], []⟩),
 (150, ⟨[[.fr 35]], [], [false], false, false, [], []⟩),
 (151, ⟨[[.bool]], [], [false], false, false, [], []⟩),
 (152, ⟨[[.ro 43]], [], [false], false, false, [], []⟩),
 (153, ⟨[[.int .i64]], [], [false], false, false, [], []⟩),
 (154, ⟨[[.bool]], [], [false], false, false, [], []⟩),
 (155, ⟨[[.bool]], [], [false], false, false, [], []⟩),
 (156, ⟨[[.bool]], [], [false], false, false, [], []⟩),
 (157, ⟨[[.bool]], [], [false], false, false, [], []⟩),
 (158, ⟨[[.bool]], [], [false], false, false, [], []⟩),
 (159, ⟨[[.int .i64]], [], [false], false, false, [], []⟩),
 (160, ⟨[[.fr 5]], [], [false], false, false, [], []⟩),
 (161, ⟨[[.int .i64]], [], [false], false, false, [], []⟩),
 (162, ⟨[[.bool]], [], [false], false, false, [], []⟩),
 (163, ⟨[[.int .i64]], [], [false], false, false, [], []⟩),
 (164, ⟨[[.bool]], [], [false], false, false, [], []⟩),
 (165, ⟨[[.fr 35]], [], [false], false, false, [], []⟩),
 (166, ⟨[[.fr 9]], [], [false], false, false, [], []⟩),
 (167, ⟨[[.bool]], [], [false], false, false, [], []⟩),
 (168, ⟨[[.int .i32], [.int .i64]], [], [false, false], false, false, [], []⟩),
 (169, ⟨[[.int .i64]], [], [false], false, false, [], []⟩),
 (176, ⟨[[.bool]], [], [false], false, false, [], []⟩),
 (178, ⟨[], [], [], false, false, [], []⟩),
 (179, ⟨[[.bool]], [], [false], false, false, [], []⟩),
 (180, ⟨[[.int .i64]], [], [false], false, false, [], []⟩),
 (181, ⟨[[.fr 43]], [], [false], false, false, [], []⟩),
 (182, ⟨[[.int .i64, .fr 191]], [], [true], false, false, [], []⟩),
 (183, ⟨[[.int .i64]], [], [false], false, false, [], []⟩),
 (184, ⟨[[.int .i64]], [], [false], false, false, [], []⟩),
 (185, ⟨[[.int .i64]], [], [false], false, false, [], []⟩),
 (186, ⟨[[.fr 5]], [], [false], false, false, [], []⟩),
 (187, ⟨[[.int .i32], [.int .i64]], [], [false, false], false, false, [], []⟩),
 (190, ⟨[[.fr 5]], [], [false], false, false, [], []⟩),
 (191, ⟨[], [], [], false, false, [], []⟩),
 (192, ⟨[[.fr 43]], [], [false], false, false, [], []⟩),
 (193, ⟨[[.bool]], [], [false], false, false, [], []⟩),
 (196, ⟨[[.fr 5]], [], [false], false, false, [], []⟩),
 (197, ⟨[], [], [], false, false, [], []⟩),
 (219, ⟨[], [], [], false, false, [], []⟩)]
def sigD (f : FuncId) : Sig := match look sigL f with
 | some s => s
 | none => ⟨[], [], [], false, false, [], []⟩
def live2 : Nat → List Nat
 | 0 => []
 | _ => []
def live3 : Nat → List Nat
 | 0 => [0]
 | 1 => [0, 18]
 | 2 => [2]
 | 3 => [0, 3, 4]
 | 4 => [3, 4]
 | 5 => [3, 4, 6]
 | 6 => [3, 4, 6, 7, 8]
 | 7 => [3, 4, 6, 7, 8, 50]
 | 8 => [2]
 | 9 => [3, 4, 7, 9]
 | 10 => [3, 4, 7, 9, 11]
 | 11 => [3, 4, 7, 9, 11, 12]
 | 12 => [3, 4, 9, 11, 12, 13, 14]
 | 13 => [3, 4, 9, 11, 12, 13, 14, 16]
 | 14 => [3, 4, 9, 12, 13, 112]
 | 15 => [2]
 | 16 => [2]
 | 900018 => [18]
 | 900050 => [50]
 | 900112 => [112]
 | _ => []
def live4 : Nat → List Nat
 | 0 => [2, 3]
 | 1 => [2, 3, 5]
 | 2 => [2, 3, 5]
 | 3 => [2, 3, 5, 20]
 | 4 => [4]
 | 5 => [2, 3, 5]
 | 6 => [2, 3, 25]
 | 7 => [4]
 | 8 => [2, 3, 6, 7]
 | 9 => [2, 3, 6, 7, 8]
 | 10 => [2, 3, 6, 7, 8, 9, 10]
 | 11 => [2, 3, 6, 7, 8, 9, 10, 52]
 | 12 => [4]
 | 13 => [2, 3, 6, 7, 8, 9, 10, 57]
 | 14 => [4]
 | 15 => [2, 3, 6, 7, 8, 9, 10, 11]
 | 16 => [2, 3, 6, 7, 9, 10, 11]
 | 17 => [2, 3, 6, 7, 9, 10, 74]
 | 18 => [4]
 | 19 => [2, 3, 6, 7, 9, 10, 12]
 | 20 => [2, 3, 6, 7, 9, 10, 12]
 | 21 => [2, 3, 6, 7, 9, 10, 12]
 | 22 => [2, 3, 6, 7, 9, 10, 12, 13]
 | 23 => [2, 3, 6, 7, 9, 10, 12, 13]
 | 24 => [2, 3, 6, 7, 9, 10, 12, 13, 85]
 | 25 => [4]
 | 26 => [2, 3, 6, 7, 9, 10, 12, 13]
 | 27 => [2, 3, 6, 7, 9, 10, 12, 13, 90]
 | 28 => [4]
 | 29 => [2, 3, 6, 7, 9, 10, 12, 93]
 | 30 => [4]
 | 31 => [6, 7, 9, 10, 12, 14, 15]
 | 32 => [9, 10, 12, 111]
 | 33 => [4]
 | 34 => [9, 10, 12, 13]
 | 35 => [10, 12, 13]
 | 36 => [10, 12, 13, 116]
 | 37 => [4]
 | 38 => [12, 13]
 | 39 => [12, 13, 121]
 | 40 => [4]
 | 41 => [124]
 | 42 => [4]
 | 43 => [4]
 | 900020 => [20]
 | 900025 => [25]
 | 900052 => [52]
 | 900057 => [57]
 | 900074 => [74]
 | 900085 => [85]
 | 900090 => [90]
 | 900093 => [93]
 | 900111 => [111]
 | 900116 => [116]
 | 900121 => [121]
 | 900124 => [124]
 | _ => []
def live5 : Nat → List Nat
 | 0 => [0]
 | 1 => [0, 13]
 | 2 => [2]
 | 3 => [3, 4]
 | 4 => [3, 4, 7]
 | 5 => [4, 7, 8, 9, 10]
 | 6 => [4, 7, 8, 9, 10, 39]
 | 7 => [2]
 | 8 => [4, 8, 9, 11]
 | 9 => [4, 8, 9, 11, 46]
 | 10 => [4, 8, 9, 11]
 | 11 => [4, 8, 9, 11, 100]
 | 12 => [2]
 | 13 => [2]
 | 900013 => [13]
 | 900039 => [39]
 | 900046 => [46]
 | 900100 => [100]
 | _ => []
def live6 : Nat → List Nat
 | 0 => [1, 2]
 | 1 => [1, 2, 5]
 | 2 => [1, 2, 5]
 | 3 => [1, 2, 5, 24]
 | 4 => [4]
 | 5 => [1, 2, 5]
 | 6 => [1, 2, 29]
 | 7 => [4]
 | 8 => [1, 2, 6, 7, 8]
 | 9 => [1, 2, 6, 7, 8, 9]
 | 10 => [1, 2, 6, 7, 8, 9, 10]
 | 11 => [1, 2, 6, 7, 8, 9, 10, 11, 12, 13]
 | 12 => [1, 2, 6, 7, 8, 9, 10, 11, 12, 13, 64]
 | 13 => [4]
 | 14 => [1, 2, 6, 7, 8, 9, 10, 11, 12, 13, 69]
 | 15 => [4]
 | 16 => [1, 2, 6, 7, 8, 9, 10, 11, 12, 13, 74]
 | 17 => [4]
 | 18 => [1, 2, 6, 7, 8, 9, 10, 11, 12, 13, 14]
 | 19 => [1, 2, 6, 7, 8, 10, 11, 12, 13, 14]
 | 20 => [1, 2, 6, 7, 8, 11, 12, 13, 14]
 | 21 => [1, 2, 6, 7, 8, 11, 12, 99]
 | 22 => [4]
 | 23 => [1, 2, 6, 7, 8, 11, 12, 15]
 | 24 => [1, 2, 6, 7, 8, 11, 12, 15]
 | 25 => [1, 2, 6, 7, 8, 11, 12, 15]
 | 26 => [1, 2, 6, 7, 8, 11, 12, 15, 16]
 | 27 => [1, 2, 6, 7, 8, 11, 12, 15, 16]
 | 28 => [1, 2, 6, 7, 8, 11, 12, 15, 16, 110]
 | 29 => [4]
 | 30 => [1, 2, 6, 7, 8, 11, 12, 15, 16]
 | 31 => [1, 2, 6, 7, 8, 11, 12, 15, 16, 115]
 | 32 => [4]
 | 33 => [1, 2, 6, 7, 8, 11, 12, 15, 118]
 | 34 => [4]
 | 35 => [6, 7, 8, 11, 12, 15, 17, 18, 19]
 | 36 => [11, 12, 15, 142]
 | 37 => [4]
 | 38 => [11, 12, 15, 16]
 | 39 => [12, 15, 16]
 | 40 => [12, 15, 16, 147]
 | 41 => [4]
 | 42 => [15, 16]
 | 43 => [15, 16, 152]
 | 44 => [4]
 | 45 => [155]
 | 46 => [4]
 | 47 => [4]
 | 900024 => [24]
 | 900029 => [29]
 | 900064 => [64]
 | 900069 => [69]
 | 900074 => [74]
 | 900099 => [99]
 | 900110 => [110]
 | 900115 => [115]
 | 900118 => [118]
 | 900142 => [142]
 | 900147 => [147]
 | 900152 => [152]
 | 900155 => [155]
 | _ => []
def live7 : Nat → List Nat
 | 0 => [0]
 | 1 => [2]
 | _ => []
def live8 : Nat → List Nat
 | 0 => [0, 2, 3]
 | 1 => [2, 3, 4]
 | 2 => [2, 3, 4, 5]
 | 3 => [2, 3, 4, 5, 6]
 | 4 => [2, 3, 4, 5, 6, 21]
 | 5 => [2, 3, 5, 6]
 | 6 => [2, 3, 5, 6, 34]
 | 7 => [2, 3, 5, 6]
 | 8 => [2, 3]
 | 900021 => [21]
 | 900034 => [34]
 | _ => []
def live9 : Nat → List Nat
 | 0 => [0, 1, 2]
 | 1 => [0, 1, 2, 15]
 | 2 => [6]
 | 3 => [0, 1, 2, 7]
 | 4 => [0, 1, 2, 7, 8]
 | 5 => [0, 1, 2, 7, 8, 17]
 | 6 => [0, 1, 2, 7, 8]
 | 7 => [0, 1, 2, 7, 8]
 | 8 => [6]
 | 900015 => [15]
 | 900017 => [17]
 | _ => []
def live10 : Nat → List Nat
 | 0 => [2, 3, 4, 5]
 | 1 => [2, 3, 4, 5, 15]
 | 2 => [4, 5]
 | 3 => [2, 3, 4, 5, 20]
 | 4 => [4, 5]
 | 5 => [2, 3, 4, 5, 6]
 | 6 => [2, 3, 4, 5, 6, 28]
 | 7 => [4, 5]
 | 8 => [2, 3, 4, 5, 7]
 | 9 => [2, 3, 4, 5, 7, 8]
 | 10 => [2, 3, 4, 5, 7, 8, 38]
 | 11 => [2, 3, 4, 5, 7, 8, 38, 39]
 | 12 => [2, 4, 5, 7, 8, 44]
 | 13 => [2, 4, 5, 7, 8]
 | 14 => [2, 4, 5, 8]
 | 15 => [2, 3, 4, 5, 7, 8, 38, 55]
 | 16 => [2, 4, 5, 8]
 | 17 => [2, 3, 4, 5, 7, 8, 38, 65]
 | 18 => [2, 3, 4, 5, 7, 8, 38, 65]
 | 19 => [4, 5]
 | 20 => [2, 3, 4, 5, 7, 8, 38, 75]
 | 21 => [4, 5]
 | 22 => [2, 3, 4, 5, 8, 81]
 | 23 => [2, 4, 5, 8, 9]
 | 24 => [2, 4, 5, 8, 9, 11]
 | 25 => [2, 4, 5, 8, 9, 11, 94]
 | 26 => [2, 4, 5, 8, 9, 11]
 | 27 => [2, 4, 5, 8, 9, 11, 12]
 | 28 => [2, 4, 5, 8, 9, 11, 12, 101]
 | 29 => [2, 4, 5, 8, 9, 11, 12]
 | 30 => [2, 4, 5, 8, 9, 11, 12, 106]
 | 31 => [2, 4, 5, 8, 9, 11, 12]
 | 32 => [2, 4, 5, 8, 9, 11, 12, 113]
 | 33 => [2, 4, 5, 8, 9, 11, 12]
 | 34 => [2, 4, 5, 8, 9, 11]
 | 35 => [4, 5]
 | 900015 => [15]
 | 900020 => [20]
 | 900028 => [28]
 | 900039 => [39]
 | 900044 => [44]
 | 900055 => [55]
 | 900065 => []
 | 900075 => [75]
 | 900081 => [81]
 | 900094 => [94]
 | 900101 => [101]
 | 900106 => [106]
 | 900113 => [113]
 | _ => []
def live11 : Nat → List Nat
 | 0 => [2, 3, 4, 5]
 | 1 => [2, 3, 4, 5, 8]
 | 2 => [4, 5]
 | 3 => [2, 3, 4, 5, 14]
 | 4 => [4, 5]
 | 5 => [3, 4, 5, 6]
 | 6 => [4, 5, 6, 7]
 | 7 => [4, 5]
 | 900008 => [8]
 | 900014 => [14]
 | _ => []
def live12 : Nat → List Nat
 | 0 => [0]
 | 1 => [0, 8]
 | 2 => [2]
 | 3 => [0, 3]
 | 4 => [0, 3, 4]
 | 5 => [0, 3, 4, 13]
 | 6 => [0, 3, 4]
 | 7 => [0, 3, 4, 5]
 | 8 => [0, 3, 4, 5, 24]
 | 9 => [0, 3, 4, 5]
 | 10 => [0, 3, 4]
 | 11 => [3, 34]
 | 12 => [2]
 | 13 => [2]
 | 900008 => [8]
 | 900013 => [13]
 | 900024 => [24]
 | 900034 => [34]
 | _ => []
def live13 : Nat → List Nat
 | 0 => [1, 2, 3, 4]
 | 1 => [1, 2, 3, 4, 26]
 | 2 => [8]
 | 3 => [8]
 | 900026 => [26]
 | _ => []
def live14 : Nat → List Nat
 | 0 => [0, 1]
 | 1 => [0, 1, 10]
 | 2 => [4]
 | 3 => [0, 1, 5]
 | 4 => [0, 1, 5, 14]
 | 5 => [0, 1, 5]
 | 6 => [0, 1, 5, 25]
 | 7 => [4]
 | 8 => [4]
 | 900010 => [10]
 | 900014 => [14]
 | 900025 => [25]
 | _ => []
def live15 : Nat → List Nat
 | 0 => [1, 2]
 | 1 => [1]
 | 2 => [1, 10]
 | 3 => [4]
 | 4 => [4]
 | 900010 => [10]
 | _ => []
def live16 : Nat → List Nat
 | 0 => [1, 2]
 | 1 => [1, 2]
 | 2 => [1, 2, 11]
 | 3 => [4]
 | 4 => [1]
 | 5 => [1, 18]
 | 6 => [4]
 | 7 => [4]
 | 900011 => [11]
 | 900018 => [18]
 | _ => []
def live17 : Nat → List Nat
 | 0 => [1, 2]
 | 1 => [1, 2, 3]
 | 2 => [1, 2, 3]
 | 3 => [2, 3]
 | 4 => [2]
 | _ => []
def live18 : Nat → List Nat
 | 0 => [1, 2]
 | 1 => [1, 2, 3]
 | 2 => [1, 2, 3]
 | 3 => [1, 2, 3]
 | 4 => [1, 2, 3]
 | 5 => [1, 2, 3]
 | 6 => [1, 2, 3]
 | 7 => [1, 2, 3]
 | 8 => [2, 3]
 | 9 => [2]
 | _ => []
def live19 : Nat → List Nat
 | 0 => [2, 3]
 | 1 => [2, 3, 10]
 | 2 => [4]
 | 3 => [16]
 | 4 => [4]
 | 5 => [4]
 | 900010 => [10]
 | 900016 => [16]
 | _ => []
def live20 : Nat → List Nat
 | 0 => [2, 3]
 | 1 => [2, 3, 9]
 | 2 => [4]
 | 3 => [2, 3, 14]
 | 4 => [4]
 | 5 => [2, 3, 19]
 | 6 => [4]
 | 7 => [2, 3, 25]
 | 8 => [4]
 | 9 => [31]
 | 10 => [4]
 | 11 => [4]
 | 900009 => [9]
 | 900014 => [14]
 | 900019 => [19]
 | 900025 => [25]
 | 900031 => [31]
 | _ => []
def live21 : Nat → List Nat
 | 0 => [1, 2]
 | 1 => [1]
 | 2 => [4]
 | _ => []
def live22 : Nat → List Nat
 | 0 => [1, 2]
 | 1 => [1, 2]
 | 2 => [1]
 | 3 => [4]
 | _ => []
def live23 : Nat → List Nat
 | 0 => [1, 2]
 | 1 => [1]
 | 2 => [1, 10]
 | 3 => [4]
 | 4 => [4]
 | 900010 => [10]
 | _ => []
def live24 : Nat → List Nat
 | 0 => [1, 2]
 | 1 => [1, 2]
 | 2 => [1, 2, 10]
 | 3 => [4]
 | 4 => [1]
 | 5 => [1, 16]
 | 6 => [4]
 | 7 => [4]
 | 900010 => [10]
 | 900016 => [16]
 | _ => []
def live25 : Nat → List Nat
 | 0 => [0, 2]
 | 1 => [2, 4]
 | 2 => [2, 4, 5]
 | 3 => [2, 4, 5, 6]
 | 4 => [2, 4, 5, 6, 14]
 | 5 => [2, 5, 6]
 | 6 => [2, 3]
 | 900014 => [14]
 | _ => []
def live26 : Nat → List Nat
 | 0 => [1, 2, 4]
 | 1 => [1, 2, 4, 19]
 | 2 => [4, 5, 6]
 | 3 => [1, 4, 7]
 | 4 => [1, 4, 7, 8]
 | 5 => [1, 4, 7, 8, 9]
 | 6 => [1, 4, 7, 8, 9, 27]
 | 7 => [1, 4, 7, 8, 9]
 | 8 => [1, 4, 7, 8, 9, 10, 11]
 | 9 => [1, 4, 7, 8, 9, 11]
 | 10 => [1, 4, 7, 8, 9]
 | 11 => [4, 5, 6]
 | 900019 => [19]
 | 900027 => [27]
 | _ => []
def live27 : Nat → List Nat
 | 0 => [1, 2, 4]
 | 1 => [1, 2, 4, 18]
 | 2 => [4, 5, 6]
 | 3 => [1, 4, 7]
 | 4 => [1, 4, 7, 8]
 | 5 => [4, 7, 8, 22, 23, 24]
 | 6 => [4, 7, 8, 22, 23, 24, 25]
 | 7 => [4, 7, 8, 10, 22, 23, 24]
 | 8 => [4, 7, 8, 22, 23, 24]
 | 9 => [4, 7, 8, 22, 23, 24]
 | 10 => [4, 5, 6]
 | 900018 => [18]
 | 900025 => [25]
 | _ => []
def live28 : Nat → List Nat
 | 0 => [0, 1, 5]
 | 1 => [0, 1, 5, 24]
 | 2 => [6]
 | 3 => [0, 1, 5, 7]
 | 4 => [0, 1, 5, 7, 8]
 | 5 => [0, 1, 5, 7, 8, 9]
 | 6 => [1, 5, 8, 9, 10]
 | 7 => [1, 5, 8, 9, 10, 73]
 | 8 => [6]
 | 9 => [1, 5, 9, 10, 94]
 | 10 => [6]
 | 11 => [6]
 | 900024 => [24]
 | 900073 => [73]
 | 900094 => [94]
 | _ => []
def live29 : Nat → List Nat
 | 0 => [0, 1, 5]
 | 1 => [0, 1, 5, 11]
 | 2 => [6]
 | 3 => [6]
 | 900011 => [11]
 | _ => []
def live30 : Nat → List Nat
 | 0 => [0, 1]
 | 1 => [0, 1, 8]
 | 2 => [4]
 | 3 => [1, 9]
 | 4 => [1, 9, 10]
 | 5 => [4]
 | 6 => [1, 12]
 | 7 => [4]
 | 8 => [4]
 | 900008 => [8]
 | 900010 => [10]
 | 900012 => [12]
 | _ => []
def live31 : Nat → List Nat
 | 0 => [1]
 | 1 => [1, 17]
 | 2 => [2]
 | 3 => [1, 3]
 | 4 => [1, 3, 22]
 | 5 => [1, 3]
 | 6 => [1, 3, 52]
 | 7 => [2]
 | 8 => [1, 4]
 | 9 => [1, 4, 57]
 | 10 => [1, 4]
 | 11 => [1, 4, 68]
 | 12 => [2]
 | 13 => [2]
 | 900017 => [17]
 | 900022 => [22]
 | 900052 => [52]
 | 900057 => [57]
 | 900068 => [68]
 | _ => []
def live32 : Nat → List Nat
 | 0 => [1]
 | 1 => [2]
 | _ => []
def live33 : Nat → List Nat
 | 0 => [0, 1]
 | 1 => [0, 1]
 | 2 => [0, 1, 11]
 | 3 => [4]
 | 4 => [0, 1, 5]
 | 5 => [0, 1, 5, 15]
 | 6 => [0, 1, 5]
 | 7 => [0, 1, 5]
 | 8 => [0, 1, 5, 25]
 | 9 => [4]
 | 10 => [4]
 | 900011 => [11]
 | 900015 => [15]
 | 900025 => [25]
 | _ => []
def live34 : Nat → List Nat
 | 0 => [0]
 | 1 => [0, 3]
 | 2 => [0, 3, 4]
 | 3 => [0, 3, 4, 11]
 | 4 => [0, 3, 4]
 | 5 => [0, 3, 4]
 | 6 => [2]
 | 900011 => [11]
 | _ => []
def live35 : Nat → List Nat
 | 0 => [0, 1]
 | 1 => [0, 1, 10]
 | 2 => [4]
 | 3 => [0, 1, 5]
 | 4 => [0, 1, 5, 14]
 | 5 => [0, 1, 5]
 | 6 => [0, 1, 5, 26]
 | 7 => [4]
 | 8 => [4]
 | 900010 => [10]
 | 900014 => [14]
 | 900026 => [26]
 | _ => []
def live36 : Nat → List Nat
 | 0 => [0, 1]
 | 1 => [0, 1, 10]
 | 2 => [4]
 | 3 => [0, 1, 5]
 | 4 => [0, 1, 5, 14]
 | 5 => [0, 1, 5]
 | 6 => [0, 1, 5, 26]
 | 7 => [4]
 | 8 => [4]
 | 900010 => [10]
 | 900014 => [14]
 | 900026 => [26]
 | _ => []
def live37 : Nat → List Nat
 | 0 => [0, 1]
 | 1 => [0, 1, 5]
 | 2 => [0, 1, 5, 9]
 | 3 => [0, 1, 5]
 | 4 => [0, 1, 5]
 | 5 => [0, 1, 5]
 | 6 => [0, 1, 5]
 | 7 => [0, 1, 5]
 | 8 => [0, 1, 5]
 | 9 => [0, 1, 5]
 | 10 => [0, 1, 5]
 | 11 => [0, 1, 5]
 | 12 => [0, 1, 5]
 | 13 => [0, 1, 5]
 | 14 => [0, 1, 5]
 | 15 => [0, 1, 5]
 | 16 => [0, 1, 5]
 | 17 => [0, 1, 5]
 | 18 => [4]
 | 900009 => [9]
 | _ => []
def live38 : Nat → List Nat
 | 0 => [0, 1]
 | 1 => [0, 1, 5]
 | 2 => [0, 1, 5, 9]
 | 3 => [0, 1, 5]
 | 4 => [0, 1, 5]
 | 5 => [0, 1, 5]
 | 6 => [0, 1, 5]
 | 7 => [0, 1, 5]
 | 8 => [0, 1, 5]
 | 9 => [0, 1, 5]
 | 10 => [0, 1, 5]
 | 11 => [0, 1, 5]
 | 12 => [4]
 | 900009 => [9]
 | _ => []
def live39 : Nat → List Nat
 | 0 => [0, 1]
 | 1 => [0, 1, 5]
 | 2 => [0, 1, 5, 9]
 | 3 => [0, 1, 5]
 | 4 => [0, 1, 5, 18]
 | 5 => [4]
 | 6 => [0, 1, 5]
 | 7 => [0, 1, 5, 29]
 | 8 => [4]
 | 9 => [0, 1, 5]
 | 10 => [0, 1, 5, 38]
 | 11 => [4]
 | 12 => [0, 1, 5]
 | 13 => [0, 1, 5]
 | 14 => [0, 1, 5, 49]
 | 15 => [4]
 | 16 => [0, 1, 5]
 | 17 => [0, 1, 5, 58]
 | 18 => [4]
 | 19 => [4]
 | 900009 => [9]
 | 900018 => [18]
 | 900029 => [29]
 | 900038 => [38]
 | 900049 => [49]
 | 900058 => [58]
 | _ => []
def live40 : Nat → List Nat
 | 0 => [0]
 | 1 => [2]
 | _ => []
def live41 : Nat → List Nat
 | 0 => [0, 2]
 | 1 => [0, 2, 3]
 | 2 => [0, 2, 3, 7]
 | 3 => [0, 2, 3, 7, 8]
 | 4 => [2, 3]
 | 5 => [0, 2, 3, 7, 13]
 | 6 => [2, 3]
 | 7 => [0, 2, 3, 7, 22]
 | 8 => [0, 2, 3, 27]
 | 9 => [2, 3]
 | 10 => [0, 2, 3, 39]
 | 11 => [0, 2, 3, 44]
 | 12 => [2, 3]
 | 13 => [2]
 | 900008 => [8]
 | 900013 => [13]
 | 900022 => [22]
 | 900027 => [27]
 | 900039 => [39]
 | 900044 => [44]
 | _ => []
def live42 : Nat → List Nat
 | 0 => [0, 2]
 | 1 => [0, 2, 3]
 | 2 => [0, 2, 3, 7]
 | 3 => [0, 2, 3, 7, 8]
 | 4 => [2, 3]
 | 5 => [0, 2, 3, 7, 18]
 | 6 => [2, 3]
 | 7 => [0, 2, 3, 7, 28]
 | 8 => [2, 3]
 | 9 => [0, 2, 3, 7, 36]
 | 10 => [2, 3]
 | 11 => [0, 2, 3, 44]
 | 12 => [0, 2, 3]
 | 13 => [0, 2, 3]
 | 14 => [2, 3]
 | 15 => [2]
 | 900008 => [8]
 | 900018 => [18]
 | 900028 => [28]
 | 900036 => [36]
 | 900044 => [44]
 | _ => []
def live43 : Nat → List Nat
 | 0 => [0, 3]
 | 1 => [0, 3, 5]
 | 2 => [0, 3, 5, 16]
 | 3 => [0, 5]
 | 4 => [5, 33]
 | 5 => [5]
 | 6 => [4]
 | 900016 => [16]
 | 900033 => [33]
 | _ => []
def live44 : Nat → List Nat
 | 0 => [1]
 | 1 => [2]
 | _ => []
def live45 : Nat → List Nat
 | 0 => [1, 2]
 | 1 => [2]
 | _ => []
def live46 : Nat → List Nat
 | 0 => [2, 3]
 | 1 => [2, 3, 5]
 | 2 => [2, 3, 5, 6]
 | 3 => [2, 3, 5, 6, 17]
 | 4 => [8]
 | 5 => [27]
 | 6 => [4]
 | 7 => [4]
 | 8 => [2, 3, 5, 6, 29]
 | 9 => [4]
 | 10 => [2, 3, 5, 6, 56]
 | 11 => [4]
 | 12 => [2, 3, 5, 6, 59]
 | 13 => [2, 3, 5, 6, 61]
 | 14 => [4]
 | 15 => [2, 3, 5, 6, 68]
 | 16 => [4]
 | 17 => [3, 6, 72]
 | 18 => [4]
 | 19 => [84]
 | 20 => [4]
 | 21 => [4]
 | 900017 => [17]
 | 900027 => [27]
 | 900029 => [29]
 | 900056 => [56]
 | 900059 => [59]
 | 900061 => [61]
 | 900068 => [68]
 | 900072 => [72]
 | 900084 => [84]
 | _ => []
def live47 : Nat → List Nat
 | 0 => [1, 2]
 | 1 => [1, 2, 5]
 | 2 => [1, 2, 5, 10]
 | 3 => [1, 2, 5]
 | 4 => [1, 2, 5, 20]
 | 5 => [4]
 | 6 => [4]
 | 900010 => [10]
 | 900020 => [20]
 | _ => []
def live48 : Nat → List Nat
 | 0 => [1, 2, 3, 4]
 | 1 => [1, 2, 3, 4, 26]
 | 2 => [8]
 | 3 => [1, 2, 3, 4, 9]
 | 4 => [1, 2, 3, 4, 9, 10]
 | 5 => [1, 2, 3, 4, 9, 10, 32]
 | 6 => [1, 2, 3, 4, 9, 10]
 | 7 => [1, 2, 3, 4, 9, 10, 11]
 | 8 => [1, 2, 3, 4, 9, 10, 11, 45]
 | 9 => [1, 2, 3, 4, 9, 10]
 | 10 => [12]
 | 11 => [12, 68]
 | 12 => [12]
 | 13 => [8]
 | 900026 => [26]
 | 900032 => [32]
 | 900045 => [45]
 | 900068 => [68]
 | _ => []
def live49 : Nat → List Nat
 | 0 => [2, 3, 4]
 | 1 => [2, 3, 4, 5]
 | 2 => [3, 4, 5, 6]
 | 3 => [3, 4, 5, 6, 7]
 | 4 => [3, 4, 5, 6, 7, 8]
 | 5 => [3, 4, 5, 6, 7, 8, 20]
 | 6 => [3, 4, 5, 6, 7, 8]
 | 7 => [3, 4, 5, 6, 7, 8, 36]
 | 8 => [3, 4, 5, 6, 8]
 | 9 => [3, 4, 5, 6, 7, 8]
 | 10 => [3, 4, 5, 6, 7, 8]
 | 11 => [3, 4, 6, 54]
 | 12 => [4, 6]
 | 13 => [4]
 | 900020 => [20]
 | 900036 => [36]
 | 900054 => [54]
 | _ => []
def live50 : Nat → List Nat
 | 0 => [1, 2, 4]
 | 1 => [1, 2, 4, 5]
 | 2 => [1, 2, 4, 5, 6]
 | 3 => [1, 2, 4, 5, 6, 14]
 | 4 => [1, 2, 4, 5, 6]
 | 5 => [1, 2, 4, 5, 6, 24]
 | 6 => [1, 2, 4, 5, 6]
 | 7 => [4]
 | 900014 => [14]
 | 900024 => [24]
 | _ => []
def live51 : Nat → List Nat
 | 0 => [0, 1]
 | 1 => [0, 1, 20]
 | 2 => [4, 5]
 | 3 => [0, 1, 6]
 | 4 => [0, 1, 6, 7]
 | 5 => [0, 1, 6, 7, 25]
 | 6 => [0, 1, 6, 7]
 | 7 => [0, 1, 6, 7, 43]
 | 8 => [0, 1, 6, 7, 8]
 | 9 => [0, 1, 6, 7, 8, 55]
 | 10 => [0, 1, 6, 7, 8]
 | 11 => [0, 1, 6, 7, 8, 61]
 | 12 => [4, 5]
 | 13 => [0, 1, 6, 7, 9]
 | 14 => [0, 1, 6, 7, 9, 68]
 | 15 => [0, 1, 6, 7, 9]
 | 16 => [0, 1, 6, 7]
 | 17 => [1, 6, 76]
 | 18 => [1, 6]
 | 19 => [4, 5]
 | 900020 => [20]
 | 900025 => [25]
 | 900043 => [43]
 | 900055 => [55]
 | 900061 => [61]
 | 900068 => [68]
 | 900076 => [76]
 | _ => []
def live52 : Nat → List Nat
 | 0 => [1]
 | 1 => [1, 18]
 | 2 => [2]
 | 3 => [1, 3]
 | 4 => [1, 3, 25, 26, 27]
 | 5 => [1, 3, 25, 26, 27, 28]
 | 6 => [1, 3, 4, 5, 25, 26, 27]
 | 7 => [1, 3, 5, 25, 26, 27, 50]
 | 8 => [2]
 | 9 => [1, 3, 25, 26, 27]
 | 10 => [1, 3, 25, 26, 27]
 | 11 => [2]
 | 900018 => [18]
 | 900028 => [28]
 | 900050 => [50]
 | _ => []
def live53 : Nat → List Nat
 | 0 => [1]
 | 1 => [2]
 | _ => []
def live54 : Nat → List Nat
 | 0 => [1, 2]
 | 1 => [2]
 | _ => []
def live55 : Nat → List Nat
 | 0 => [0, 3, 4]
 | 1 => [0, 3, 4, 5]
 | 2 => [0, 3, 4, 5, 12]
 | 3 => [4]
 | 4 => [0, 3, 4, 6]
 | 5 => [0, 3, 4, 6, 7, 8]
 | 6 => [0, 3, 4, 6, 7, 8, 27]
 | 7 => [0, 3, 4, 7, 29]
 | 8 => [4]
 | 9 => [0, 3, 4, 7, 33]
 | 10 => [4]
 | 11 => [4]
 | 12 => [0, 3, 4, 6, 7, 8, 27, 54]
 | 13 => [0, 4, 7, 56]
 | 14 => [4]
 | 15 => [0, 3, 4, 6, 7, 8, 27, 66]
 | 16 => [4]
 | 17 => [0, 3, 4, 6, 7, 8, 27, 79]
 | 18 => [4]
 | 19 => [0, 3, 4, 7, 8, 89]
 | 20 => [4]
 | 21 => [4]
 | 900012 => [12]
 | 900029 => [29]
 | 900033 => [33]
 | 900054 => [54]
 | 900056 => [56]
 | 900066 => [66]
 | 900079 => [79]
 | 900089 => [89]
 | _ => []
def live56 : Nat → List Nat
 | 0 => [0]
 | 1 => [0, 11]
 | 2 => [2]
 | 3 => [0, 3]
 | 4 => [0, 3, 15]
 | 5 => [0, 3]
 | 6 => [0, 3, 27]
 | 7 => [2]
 | 8 => [2]
 | 900011 => [11]
 | 900015 => [15]
 | 900027 => [27]
 | _ => []
def live57 : Nat → List Nat
 | 0 => [0]
 | 1 => [0, 5, 6]
 | 2 => [0, 5, 6, 7]
 | 3 => [0, 3, 5, 6]
 | 4 => [0, 5, 6, 18]
 | 5 => [2]
 | 6 => [0, 5, 6]
 | 7 => [2]
 | 900007 => [7]
 | 900018 => [18]
 | _ => []
def live58 : Nat → List Nat
 | 0 => [0, 1, 2]
 | 1 => [6]
 | _ => []
def live59 : Nat → List Nat
 | 0 => [0, 1, 2, 3]
 | 1 => [0, 1, 2, 3, 9]
 | 2 => [1, 2, 3, 9, 13, 14, 15]
 | 3 => [1, 2, 3, 9, 13, 14, 15, 16]
 | 4 => [1, 2, 3, 9, 11, 13, 14, 15]
 | 5 => [1, 2, 3, 9, 11, 12, 13, 14, 15]
 | 6 => [1, 2, 3, 9, 11, 12, 13, 14, 15, 25]
 | 7 => [1, 2, 3, 9, 13, 14, 15]
 | 8 => [1, 2, 3, 9, 13, 14, 15]
 | 9 => [8]
 | 900016 => [16]
 | 900025 => [25]
 | _ => []
def live60 : Nat → List Nat
 | 0 => [0, 1]
 | 1 => [0, 1]
 | 2 => [0, 1, 11]
 | 3 => [4]
 | 4 => [0, 1, 5]
 | 5 => [0, 1, 5, 15]
 | 6 => [0, 1, 5]
 | 7 => [0, 1, 5]
 | 8 => [0, 1, 5, 25]
 | 9 => [4]
 | 10 => [4]
 | 900011 => [11]
 | 900015 => [15]
 | 900025 => [25]
 | _ => []
def live61 : Nat → List Nat
 | 0 => [1, 2]
 | 1 => [1, 2, 3]
 | 2 => [1, 2, 3]
 | 3 => [1, 2, 3]
 | 4 => [1, 2, 3]
 | 5 => [2, 3]
 | 6 => [2]
 | _ => []
def live62 : Nat → List Nat
 | 0 => [0]
 | 1 => [0, 3]
 | 2 => [0, 3, 4]
 | 3 => [0, 3, 4, 11]
 | 4 => [0, 3, 4]
 | 5 => [0, 3, 4]
 | 6 => [2]
 | 900011 => [11]
 | _ => []
def live63 : Nat → List Nat
 | 0 => [2, 3]
 | 1 => [2, 3, 9]
 | 2 => [4]
 | 3 => [2, 3, 14]
 | 4 => [4]
 | 5 => [2, 3, 19]
 | 6 => [4]
 | 7 => [24]
 | 8 => [4]
 | 9 => [4]
 | 900009 => [9]
 | 900014 => [14]
 | 900019 => [19]
 | 900024 => [24]
 | _ => []
def live64 : Nat → List Nat
 | 0 => [0, 1]
 | 1 => [0, 1, 10]
 | 2 => [4]
 | 3 => [0, 1, 5]
 | 4 => [0, 1, 5, 14]
 | 5 => [0, 1, 5]
 | 6 => [0, 1, 5, 26]
 | 7 => [4]
 | 8 => [4]
 | 900010 => [10]
 | 900014 => [14]
 | 900026 => [26]
 | _ => []
def live65 : Nat → List Nat
 | 0 => [0, 1]
 | 1 => [0, 1, 10]
 | 2 => [4]
 | 3 => [0, 1, 5]
 | 4 => [0, 1, 5, 14]
 | 5 => [0, 1, 5]
 | 6 => [0, 1, 5, 26]
 | 7 => [4]
 | 8 => [4]
 | 900010 => [10]
 | 900014 => [14]
 | 900026 => [26]
 | _ => []
def live66 : Nat → List Nat
 | 0 => [0, 1]
 | 1 => [0, 1, 10]
 | 2 => [4]
 | 3 => [0, 1, 5]
 | 4 => [0, 1, 5, 14]
 | 5 => [0, 1, 5]
 | 6 => [0, 1, 5, 25]
 | 7 => [4]
 | 8 => [4]
 | 900010 => [10]
 | 900014 => [14]
 | 900025 => [25]
 | _ => []
def live67 : Nat → List Nat
 | 0 => [0, 1]
 | 1 => [0, 1, 5]
 | 2 => [0, 1, 5, 9]
 | 3 => [0, 1, 5]
 | 4 => [0, 1, 5]
 | 5 => [0, 1, 5]
 | 6 => [0, 1, 5]
 | 7 => [0, 1, 5]
 | 8 => [4]
 | 900009 => [9]
 | _ => []
def live68 : Nat → List Nat
 | 0 => [0, 1]
 | 1 => [0, 1, 5]
 | 2 => [0, 1, 5, 9]
 | 3 => [0, 1, 5]
 | 4 => [0, 1, 5]
 | 5 => [0, 1, 5]
 | 6 => [0, 1, 5]
 | 7 => [0, 1, 5]
 | 8 => [0, 1, 5]
 | 9 => [0, 1, 5]
 | 10 => [0, 1, 5]
 | 11 => [0, 1, 5]
 | 12 => [4]
 | 900009 => [9]
 | _ => []
def live69 : Nat → List Nat
 | 0 => [0, 1]
 | 1 => [0, 1, 5]
 | 2 => [0, 1, 5, 9]
 | 3 => [0, 1, 5]
 | 4 => [0, 1, 5]
 | 5 => [0, 1, 5]
 | 6 => [4]
 | 900009 => [9]
 | _ => []
def live70 : Nat → List Nat
 | 0 => [0, 1]
 | 1 => [0, 1, 5]
 | 2 => [0, 1, 5, 9]
 | 3 => [0, 1, 5]
 | 4 => [0, 1, 5, 19]
 | 5 => [4]
 | 6 => [0, 1, 5]
 | 7 => [0, 1, 5, 28]
 | 8 => [4]
 | 9 => [0, 1, 5]
 | 10 => [4]
 | 900009 => [9]
 | 900019 => [19]
 | 900028 => [28]
 | _ => []
def live71 : Nat → List Nat
 | 0 => [0, 1]
 | 1 => [0, 1, 5]
 | 2 => [0, 1, 5, 9]
 | 3 => [0, 1, 5]
 | 4 => [0, 1, 5, 20]
 | 5 => [4]
 | 6 => [0, 1, 5]
 | 7 => [0, 1, 5, 29]
 | 8 => [4]
 | 9 => [0, 1, 5]
 | 10 => [0, 1, 5, 38]
 | 11 => [4]
 | 12 => [0, 1, 5]
 | 13 => [0, 1, 5, 48]
 | 14 => [4]
 | 15 => [0, 1, 5]
 | 16 => [4]
 | 900009 => [9]
 | 900020 => [20]
 | 900029 => [29]
 | 900038 => [38]
 | 900048 => [48]
 | _ => []
def live72 : Nat → List Nat
 | 0 => [0, 1]
 | 1 => [0, 1, 5]
 | 2 => [0, 1, 5, 9]
 | 3 => [0, 1, 5]
 | 4 => [0, 1, 5, 17]
 | 5 => [4]
 | 6 => [0, 1, 5]
 | 7 => [4]
 | 900009 => [9]
 | 900017 => [17]
 | _ => []
def live73 : Nat → List Nat
 | 0 => [0, 1]
 | 1 => [0, 1, 5]
 | 2 => [0, 1, 5, 6]
 | 3 => [0, 5, 6, 7]
 | 4 => [0, 5, 6, 7, 23]
 | 5 => [0, 5, 6, 7]
 | 6 => [0, 5, 6, 7, 8]
 | 7 => [0, 5, 6, 7, 8, 35]
 | 8 => [0, 5, 6, 7, 8]
 | 9 => [0, 5, 6, 7, 8, 48]
 | 10 => [0, 5, 6, 7, 8]
 | 11 => [0, 5, 6, 7]
 | 12 => [4]
 | 900023 => [23]
 | 900035 => [35]
 | 900048 => [48]
 | _ => []
def live74 : Nat → List Nat
 | 0 => [0, 1]
 | 1 => [4]
 | _ => []
def live75 : Nat → List Nat
 | 0 => [0]
 | 1 => [0, 6]
 | 2 => [2]
 | 3 => [0, 3]
 | 4 => [0, 3, 10]
 | 5 => [0, 3]
 | 6 => [0, 3, 18]
 | 7 => [2]
 | 8 => [2]
 | 900006 => [6]
 | 900010 => [10]
 | 900018 => [18]
 | _ => []
def live76 : Nat → List Nat
 | 0 => [0]
 | 1 => [2]
 | _ => []
def live77 : Nat → List Nat
 | 0 => [0, 1]
 | 1 => [0, 1, 6]
 | 2 => [4]
 | 3 => [4]
 | 900006 => [6]
 | _ => []
def live78 : Nat → List Nat
 | 0 => [0]
 | 1 => [0, 7]
 | 2 => [2]
 | 3 => [0, 3]
 | 4 => [0, 3, 11]
 | 5 => [0, 3]
 | 6 => [0, 3, 47]
 | 7 => [2]
 | 8 => [0, 3, 4]
 | 9 => [0, 3, 4, 50]
 | 10 => [0, 3, 4]
 | 11 => [0, 3, 4, 81]
 | 12 => [2]
 | 13 => [2]
 | 900007 => [7]
 | 900011 => [11]
 | 900047 => [47]
 | 900050 => [50]
 | 900081 => [81]
 | _ => []
def live79 : Nat → List Nat
 | 0 => [0, 1]
 | 1 => [0, 9]
 | 2 => [4]
 | 3 => [0, 5]
 | 4 => [0, 5, 13]
 | 5 => [0, 5]
 | 6 => [0, 5, 27]
 | 7 => [4]
 | 8 => [4]
 | 900009 => [9]
 | 900013 => [13]
 | 900027 => [27]
 | _ => []
def live80 : Nat → List Nat
 | 0 => [0, 1, 5]
 | 1 => [0, 1, 5, 20]
 | 2 => [6]
 | 3 => [0, 1, 5, 7]
 | 4 => [0, 1, 5, 7, 8, 9, 10]
 | 5 => [0, 1, 5, 7, 8, 9, 10, 40]
 | 6 => [8, 9, 10]
 | 7 => [0, 1, 5, 7, 8, 9, 10, 58]
 | 8 => [8, 9, 10]
 | 9 => [1, 5, 8, 9, 10, 67]
 | 10 => [8, 9, 10]
 | 11 => [6]
 | 900020 => [20]
 | 900040 => [40]
 | 900058 => [58]
 | 900067 => [67]
 | _ => []
def live81 : Nat → List Nat
 | 0 => [0, 1, 5]
 | 1 => [0, 1, 5, 7]
 | 2 => [0, 1, 5, 7, 18]
 | 3 => [0, 1, 5, 7, 8]
 | 4 => [0, 1, 5, 7, 8, 20]
 | 5 => [0, 1, 5, 7, 8]
 | 6 => [0, 1, 5, 7]
 | 7 => [0, 1, 5, 7, 33, 34, 35]
 | 8 => [0, 1, 5, 7, 33, 34, 35, 36]
 | 9 => [0, 1, 5, 7, 10, 33, 34, 35]
 | 10 => [0, 1, 5, 7, 33, 34, 35]
 | 11 => [0, 1, 5, 7, 33, 34, 35]
 | 12 => [0, 1, 7, 45, 46, 47]
 | 13 => [0, 1, 7, 45, 46, 47, 48]
 | 14 => [0, 1, 7, 12, 45, 46, 47]
 | 15 => [0, 1, 7, 45, 46, 47]
 | 16 => [0, 1, 7, 45, 46, 47]
 | 17 => [6]
 | 900018 => [18]
 | 900020 => [20]
 | 900036 => [36]
 | 900048 => [48]
 | _ => []
def live82 : Nat → List Nat
 | 0 => [1]
 | 1 => [2]
 | _ => []
def live83 : Nat → List Nat
 | 0 => [1]
 | 1 => [2]
 | _ => []
def live84 : Nat → List Nat
 | 0 => [0, 1]
 | 1 => [0, 1, 5]
 | 2 => [0, 1, 5, 15]
 | 3 => [0, 1, 5]
 | 4 => [0, 1, 5, 24]
 | 5 => [4]
 | 6 => [0, 1, 5, 31]
 | 7 => [4]
 | 8 => [0, 1, 36]
 | 9 => [4]
 | 10 => [41]
 | 11 => [4]
 | 12 => [4]
 | 900015 => [15]
 | 900024 => [24]
 | 900031 => [31]
 | 900036 => [36]
 | 900041 => [41]
 | _ => []
def live85 : Nat → List Nat
 | 0 => [1, 2]
 | 1 => [1, 2, 5]
 | 2 => [1, 2, 5, 6]
 | 3 => [1, 2, 5, 6, 11]
 | 4 => [1, 2, 5, 6]
 | 5 => [1, 2, 5, 6, 35]
 | 6 => [1, 2, 5, 6]
 | 7 => [4]
 | 900011 => [11]
 | 900035 => [35]
 | _ => []
def live86 : Nat → List Nat
 | 0 => [2, 3]
 | 1 => [2, 3, 9]
 | 2 => [4]
 | 3 => [2, 3, 14]
 | 4 => [4]
 | 5 => [2, 3, 19]
 | 6 => [4]
 | 7 => [2, 3, 24]
 | 8 => [4]
 | 9 => [2, 3, 29]
 | 10 => [4]
 | 11 => [2, 3, 34]
 | 12 => [4]
 | 13 => [39]
 | 14 => [4]
 | 15 => [4]
 | 900009 => [9]
 | 900014 => [14]
 | 900019 => [19]
 | 900024 => [24]
 | 900029 => [29]
 | 900034 => [34]
 | 900039 => [39]
 | _ => []
def live87 : Nat → List Nat
 | 0 => [0]
 | 1 => [0, 5]
 | 2 => [2]
 | 3 => [0, 3]
 | 4 => [0, 3, 7]
 | 5 => [0, 3]
 | 6 => [0, 3]
 | 7 => [2]
 | 900005 => [5]
 | 900007 => [7]
 | _ => []
def live88 : Nat → List Nat
 | 0 => [0, 2]
 | 1 => [0, 2, 3]
 | 2 => [0, 2, 3, 4]
 | 3 => [0, 2, 3, 4, 12]
 | 4 => [0, 2, 3, 4]
 | 5 => [0, 2, 3, 4, 5]
 | 6 => [0, 2, 3, 4]
 | 7 => [2]
 | 900012 => [12]
 | _ => []
def live89 : Nat → List Nat
 | 0 => [0, 1]
 | 1 => [0, 1, 7]
 | 2 => [4]
 | 3 => [0, 1, 5]
 | 4 => [0, 1, 5, 17]
 | 5 => [0, 1, 5]
 | 6 => [0, 1, 5]
 | 7 => [0, 1, 5, 44]
 | 8 => [0, 1, 5]
 | 9 => [1, 5]
 | 10 => [4]
 | 900007 => [7]
 | 900017 => [17]
 | 900044 => [44]
 | _ => []
def live90 : Nat → List Nat
 | 0 => [0, 2]
 | 1 => [0, 2, 3]
 | 2 => [0, 2, 3, 7]
 | 3 => [0, 2, 3, 7, 8]
 | 4 => [2, 3]
 | 5 => [0, 2, 3, 7, 13]
 | 6 => [2, 3]
 | 7 => [0, 2, 3, 7, 18]
 | 8 => [2, 3]
 | 9 => [0, 2, 3, 28]
 | 10 => [2, 3]
 | 11 => [2]
 | 900008 => [8]
 | 900013 => [13]
 | 900018 => [18]
 | 900028 => [28]
 | _ => []
def live91 : Nat → List Nat
 | 0 => [0, 2]
 | 1 => [2]
 | _ => []
def live92 : Nat → List Nat
 | 0 => [0]
 | 1 => [0, 3]
 | 2 => [0, 3, 8]
 | 3 => [0, 3, 8, 9]
 | 4 => [0, 3, 4]
 | 5 => [2]
 | 6 => [0, 3, 8, 29]
 | 7 => [2]
 | 8 => [0, 3, 31]
 | 9 => [2]
 | 10 => [2]
 | 900009 => [9]
 | 900029 => [29]
 | 900031 => [31]
 | _ => []
def live93 : Nat → List Nat
 | 0 => [0]
 | 1 => [0, 4]
 | 2 => [0, 4, 5]
 | 3 => [2]
 | 4 => [0, 10]
 | 5 => [2]
 | 6 => [2]
 | 900005 => [5]
 | 900010 => [10]
 | _ => []
def live94 : Nat → List Nat
 | 0 => [0, 2]
 | 1 => [0, 2, 3]
 | 2 => [0, 2, 3, 13]
 | 3 => [0, 2, 3]
 | 4 => [0, 2, 3, 18]
 | 5 => [0, 2, 3, 18, 19]
 | 6 => [0, 2, 3]
 | 7 => [2, 3]
 | 8 => [0, 2, 3, 18, 33]
 | 9 => [0, 2, 3, 18, 33]
 | 10 => [2, 3]
 | 11 => [0, 2, 3, 46]
 | 12 => [0, 2, 3]
 | 13 => [0, 2, 3]
 | 14 => [2, 3]
 | 15 => [2]
 | 900013 => [13]
 | 900019 => [19]
 | 900033 => []
 | 900046 => [46]
 | _ => []
def live95 : Nat → List Nat
 | 0 => [0, 1]
 | 1 => [4]
 | _ => []
def live96 : Nat → List Nat
 | 0 => [0]
 | 1 => [2]
 | _ => []
def live97 : Nat → List Nat
 | 0 => [0, 1]
 | 1 => [4]
 | _ => []
def live98 : Nat → List Nat
 | 0 => [0, 1]
 | 1 => [0, 1, 16]
 | 2 => [4]
 | 3 => [1, 5]
 | 4 => [1, 5, 22]
 | 5 => [1, 5]
 | 6 => [4]
 | 900016 => [16]
 | 900022 => [22]
 | _ => []
def live99 : Nat → List Nat
 | 0 => [0]
 | 1 => [2]
 | _ => []
def live100 : Nat → List Nat
 | 0 => [1]
 | 1 => [2]
 | _ => []
def live101 : Nat → List Nat
 | 0 => [1]
 | 1 => [2]
 | _ => []
def live102 : Nat → List Nat
 | 0 => [0, 1, 2]
 | 1 => [6]
 | _ => []
def live103 : Nat → List Nat
 | 0 => [0]
 | 1 => [0, 7]
 | 2 => [0]
 | 3 => [0, 3]
 | 4 => [0, 3, 4]
 | 5 => [0, 3, 4, 15]
 | 6 => [0, 3, 4]
 | 7 => [0, 3, 4]
 | 8 => [2]
 | 900007 => [7]
 | 900015 => [15]
 | _ => []
def live104 : Nat → List Nat
 | 0 => [0, 1]
 | 1 => [0, 1, 6]
 | 2 => [4]
 | 3 => [4]
 | 900006 => [6]
 | _ => []
def live105 : Nat → List Nat
 | 0 => [0]
 | 1 => [0, 4]
 | 2 => [2]
 | 3 => [2]
 | 900004 => [4]
 | _ => []
def live106 : Nat → List Nat
 | 0 => [1]
 | 1 => [1, 5]
 | 2 => [4]
 | 3 => [18]
 | 4 => [2]
 | 5 => [1, 19]
 | 6 => [2]
 | 7 => [1, 24]
 | 8 => [24]
 | 9 => [2]
 | 10 => [2]
 | 900005 => [5]
 | 900018 => [18]
 | 900019 => [19]
 | 900024 => []
 | _ => []
def live107 : Nat → List Nat
 | 0 => [0]
 | 1 => [0, 3]
 | 2 => [3, 13]
 | 3 => [2]
 | 4 => [2]
 | 900013 => [13]
 | _ => []
def live108 : Nat → List Nat
 | 0 => [1, 2]
 | 1 => [4, 5]
 | _ => []
def live109 : Nat → List Nat
 | 0 => [0, 1, 2, 7, 8]
 | 1 => [0, 1, 2, 7, 8, 9]
 | 2 => [0, 1, 2, 7, 8, 9, 10, 11]
 | 3 => [0, 1, 2, 7, 8, 9, 10, 11, 28, 29, 30]
 | 4 => [0, 1, 2, 7, 8, 9, 10, 11, 28, 29, 30, 31]
 | 5 => [0, 1, 2, 7, 8, 9, 10, 11, 13, 28, 29, 30]
 | 6 => [0, 1, 2, 7, 8, 9, 10, 11, 28, 29, 30, 42]
 | 7 => [0, 1, 2, 7, 8, 9, 10, 11, 28, 29, 30]
 | 8 => [0, 1, 2, 7, 8, 9, 10, 11, 28, 29, 30]
 | 9 => [0, 1, 7, 8, 9, 11, 46]
 | 10 => [8]
 | 11 => [0, 1, 7, 8, 11, 49]
 | 12 => [8]
 | 13 => [0, 1, 7, 8, 59]
 | 14 => [8]
 | 15 => [8]
 | 16 => [8]
 | 900031 => [31]
 | 900042 => [42]
 | 900046 => [46]
 | 900049 => [49]
 | 900059 => [59]
 | _ => []
def live110 : Nat → List Nat
 | 0 => [0, 3]
 | 1 => [0, 5]
 | 2 => [0, 5, 7]
 | 3 => [0, 7, 23, 24, 25]
 | 4 => [0, 7, 23, 24, 25, 26]
 | 5 => [0, 7, 8, 9, 23, 24, 25]
 | 6 => [0, 7, 8, 9, 11, 23, 24, 25]
 | 7 => [0, 7, 8, 9, 11, 23, 24, 25, 38]
 | 8 => [0, 7, 23, 24, 25]
 | 9 => [0, 7, 8, 9, 23, 24, 25, 44]
 | 10 => [0, 7, 23, 24, 25]
 | 11 => [0, 7, 8, 23, 24, 25, 53]
 | 12 => [0, 7, 23, 24, 25]
 | 13 => [0, 7, 23, 24, 25]
 | 14 => [4]
 | 900026 => [26]
 | 900038 => [38]
 | 900044 => [44]
 | 900053 => [53]
 | _ => []
def live111 : Nat → List Nat
 | 0 => [0, 1, 2]
 | 1 => [0, 1, 2]
 | 2 => [0, 1, 2, 16]
 | 3 => [6]
 | 4 => [0, 1, 2, 7]
 | 5 => [0, 7]
 | 6 => [0]
 | 7 => [6]
 | 900016 => [16]
 | _ => []
def live112 : Nat → List Nat
 | 0 => [0, 1]
 | 1 => [0, 1, 8]
 | 2 => [4]
 | 3 => [4]
 | 900008 => [8]
 | _ => []
def live113 : Nat → List Nat
 | 0 => [0, 1]
 | 1 => [0, 1, 13]
 | 2 => [4]
 | 3 => [0, 5]
 | 4 => [5]
 | 5 => [4]
 | 900013 => [13]
 | _ => []
def live114 : Nat → List Nat
 | 0 => [1, 2]
 | 1 => [1]
 | 2 => [1, 11]
 | 3 => [4]
 | 4 => [4]
 | 900011 => [11]
 | _ => []
def live115 : Nat → List Nat
 | 0 => [1, 2]
 | 1 => [1, 2, 3]
 | 2 => [1, 2, 3]
 | 3 => [2, 3]
 | 4 => [2]
 | _ => []
def live116 : Nat → List Nat
 | 0 => [2, 3]
 | 1 => [2, 3, 9]
 | 2 => [4]
 | 3 => [14]
 | 4 => [4]
 | 5 => [4]
 | 900009 => [9]
 | 900014 => [14]
 | _ => []
def live117 : Nat → List Nat
 | 0 => [2, 3]
 | 1 => [2, 3, 9]
 | 2 => [4]
 | 3 => [2, 3, 14]
 | 4 => [4]
 | 5 => [2, 3, 19]
 | 6 => [4]
 | 7 => [24]
 | 8 => [4]
 | 9 => [4]
 | 900009 => [9]
 | 900014 => [14]
 | 900019 => [19]
 | 900024 => [24]
 | _ => []
def live118 : Nat → List Nat
 | 0 => [0]
 | 1 => [0, 3]
 | 2 => [0, 3, 4]
 | 3 => [0, 3, 4, 17]
 | 4 => [0, 3, 4]
 | 5 => [2]
 | 900017 => [17]
 | _ => []
def live119 : Nat → List Nat
 | 0 => [0, 1]
 | 1 => [4]
 | _ => []
def live120 : Nat → List Nat
 | 0 => [0, 1]
 | 1 => [4]
 | _ => []
def live121 : Nat → List Nat
 | 0 => [1]
 | 1 => [2]
 | _ => []
def live122 : Nat → List Nat
 | 0 => [1]
 | 1 => [1, 4]
 | 2 => [2]
 | 3 => [2]
 | 900004 => [4]
 | _ => []
def live123 : Nat → List Nat
 | 0 => [2, 3]
 | 1 => [2, 3, 17]
 | 2 => [4]
 | 3 => [2, 3, 20]
 | 4 => [4]
 | 5 => [2, 3, 25]
 | 6 => [4]
 | 7 => [2, 3, 35]
 | 8 => [4]
 | 9 => [4]
 | 900017 => [17]
 | 900020 => [20]
 | 900025 => [25]
 | 900035 => [35]
 | _ => []
def live124 : Nat → List Nat
 | 0 => [0]
 | 1 => [0, 5, 6, 7]
 | 2 => [0, 5, 6, 7, 8]
 | 3 => [0, 3, 4, 5, 6, 7]
 | 4 => [0, 3, 4, 5, 6, 7, 32]
 | 5 => [2]
 | 6 => [0, 5, 6, 7, 41]
 | 7 => [2]
 | 8 => [0, 5, 6, 7]
 | 9 => [2]
 | 900008 => [8]
 | 900032 => [32]
 | 900041 => [41]
 | _ => []
def live125 : Nat → List Nat
 | 0 => [0, 1]
 | 1 => [4]
 | _ => []
def live126 : Nat → List Nat
 | 0 => [0]
 | 1 => [2]
 | _ => []
def live127 : Nat → List Nat
 | 0 => [1]
 | 1 => [1, 3]
 | 2 => [1, 3, 5]
 | 3 => [1, 3]
 | 4 => [2]
 | 900005 => [5]
 | _ => []
def live128 : Nat → List Nat
 | 0 => [0, 1]
 | 1 => [1, 5]
 | 2 => [1, 5, 6]
 | 3 => [4]
 | 4 => [1, 8]
 | 5 => [4]
 | 6 => [4]
 | 900006 => [6]
 | 900008 => [8]
 | _ => []
def live129 : Nat → List Nat
 | 0 => [0]
 | 1 => [2]
 | _ => []
def live130 : Nat → List Nat
 | 0 => [0, 1, 2]
 | 1 => [2, 7]
 | 2 => [2, 7, 17]
 | 3 => [6]
 | 4 => [6]
 | 900017 => [17]
 | _ => []
def live131 : Nat → List Nat
 | 0 => [1, 2]
 | 1 => [1, 2, 5]
 | 2 => [2]
 | 3 => [2]
 | 900005 => [5]
 | _ => []
def live132 : Nat → List Nat
 | 0 => [0, 2]
 | 1 => [2]
 | _ => []
def live133 : Nat → List Nat
 | 0 => [0]
 | 1 => [2]
 | _ => []
def live134 : Nat → List Nat
 | 0 => [0]
 | 1 => [2]
 | _ => []
def live135 : Nat → List Nat
 | 0 => [0, 1]
 | 1 => [4]
 | _ => []
def live136 : Nat → List Nat
 | 0 => [0, 1]
 | 1 => [0, 1, 5]
 | 2 => [0, 5, 6]
 | 3 => [0, 5, 6, 12]
 | 4 => [0, 5, 6]
 | 5 => [0, 5, 6]
 | 6 => [4]
 | 900012 => [12]
 | _ => []
def live137 : Nat → List Nat
 | 0 => [0, 1]
 | 1 => [0, 1, 7]
 | 2 => [4]
 | 3 => [4]
 | 900007 => [7]
 | _ => []
def live138 : Nat → List Nat
 | 0 => [0]
 | 1 => [0, 6]
 | 2 => [2]
 | 3 => [0, 3]
 | 4 => [0, 3, 10]
 | 5 => [0, 3]
 | 6 => [0, 3, 18]
 | 7 => [2]
 | 8 => [2]
 | 900006 => [6]
 | 900010 => [10]
 | 900018 => [18]
 | _ => []
def live139 : Nat → List Nat
 | 0 => [0]
 | 1 => [0, 9]
 | 2 => [2]
 | 3 => [0, 3]
 | 4 => [0, 3, 4]
 | 5 => [0, 3, 4, 14]
 | 6 => [0, 3, 4]
 | 7 => [0, 3, 4, 5]
 | 8 => [0, 3, 4, 5, 32]
 | 9 => [0, 3, 4, 5]
 | 10 => [0, 3, 4, 5, 6]
 | 11 => [0, 3, 4]
 | 12 => [2]
 | 900009 => [9]
 | 900014 => [14]
 | 900032 => [32]
 | _ => []
def live140 : Nat → List Nat
 | 0 => [0]
 | 1 => [2]
 | _ => []
def live141 : Nat → List Nat
 | 0 => [0, 1]
 | 1 => [1, 5]
 | 2 => [5, 11, 12, 13]
 | 3 => [5, 11, 12, 13, 14]
 | 4 => [5, 7, 11, 12, 13]
 | 5 => [5, 11, 12, 13]
 | 6 => [5, 11, 12, 13]
 | 7 => [4]
 | 900014 => [14]
 | _ => []
def live142 : Nat → List Nat
 | 0 => [0, 1]
 | 1 => [0, 1, 17]
 | 2 => [4, 5]
 | 3 => [1, 6]
 | 4 => [1, 6, 23]
 | 5 => [4, 5]
 | 6 => [6, 7]
 | 7 => [7, 26, 27, 28]
 | 8 => [7, 26, 27, 28, 29]
 | 9 => [7, 8, 9, 26, 27, 28]
 | 10 => [7, 8, 26, 27, 28]
 | 11 => [7, 8, 26, 27, 28, 42]
 | 12 => [7, 26, 27, 28]
 | 13 => [7, 26, 27, 28]
 | 14 => [4, 5]
 | 900017 => [17]
 | 900023 => [23]
 | 900029 => [29]
 | 900042 => [42]
 | _ => []
def live143 : Nat → List Nat
 | 0 => [0, 1]
 | 1 => [0, 1, 5]
 | 2 => [0, 1, 5, 14]
 | 3 => [0, 1, 5, 14, 15, 16]
 | 4 => [0, 1, 5, 6, 7, 14]
 | 5 => [0, 1, 5, 6, 7, 8, 14]
 | 6 => [0, 1, 5, 6, 7, 8, 14, 28]
 | 7 => [0, 1, 5, 6, 7, 8, 14]
 | 8 => [0, 1, 5, 6, 7, 8, 14, 30]
 | 9 => [0, 1, 5, 6, 7, 8, 9, 14]
 | 10 => [0, 1, 5, 6, 8, 9, 14, 44]
 | 11 => [0, 1, 5, 6, 8, 9]
 | 12 => [0, 1, 5, 6, 8, 9]
 | 13 => [0, 1, 5, 6, 8, 9]
 | 14 => [0, 1, 5, 6, 8, 9, 56]
 | 15 => [0, 1, 5, 6, 9]
 | 16 => [0, 1, 5]
 | 17 => [0, 1, 5, 65]
 | 18 => [4]
 | 19 => [0, 5, 68]
 | 20 => [0, 5, 68, 69, 70]
 | 21 => [0, 5, 11, 68]
 | 22 => [0, 5, 12, 68]
 | 23 => [0, 5, 12, 68, 76]
 | 24 => [0, 5, 12, 68, 78]
 | 25 => [0, 5, 68]
 | 26 => [0, 5, 68]
 | 27 => [4]
 | 900016 => [16]
 | 900028 => [28]
 | 900030 => [30]
 | 900044 => [44]
 | 900056 => [56]
 | 900065 => [65]
 | 900070 => [70]
 | 900076 => [76]
 | 900078 => [78]
 | _ => []
def live144 : Nat → List Nat
 | 0 => [0]
 | 1 => [0, 8]
 | 2 => [2]
 | 3 => [2]
 | 900008 => [8]
 | _ => []
def live145 : Nat → List Nat
 | 0 => [0, 1, 2]
 | 1 => [0, 1, 2, 8]
 | 2 => [0, 1, 2, 8, 9, 10]
 | 3 => [0, 1, 2, 8, 9, 10, 17]
 | 4 => [0, 1, 2, 8, 9, 10, 11]
 | 5 => [0, 1, 2, 8, 9, 10, 11, 31]
 | 6 => [0, 1, 2, 8, 9, 10]
 | 7 => [0, 1, 2, 8, 9, 10]
 | 8 => [6, 7]
 | 900017 => [17]
 | 900031 => [31]
 | _ => []
def live146 : Nat → List Nat
 | 0 => [1, 2]
 | 1 => [4]
 | _ => []
def live147 : Nat → List Nat
 | 0 => [0, 1]
 | 1 => [0, 1, 5]
 | 2 => [0, 1, 5, 6]
 | 3 => [0, 1, 6, 11]
 | 4 => [12]
 | 5 => [4]
 | 6 => [4]
 | 7 => [0, 1, 13]
 | 8 => [4]
 | 9 => [0, 1, 16]
 | 10 => [4]
 | 11 => [19]
 | 12 => [4]
 | 13 => [4]
 | 900011 => [11]
 | 900012 => [12]
 | 900013 => [13]
 | 900016 => [16]
 | 900019 => [19]
 | _ => []
def live148 : Nat → List Nat
 | 0 => [0, 1, 2]
 | 1 => [0, 1, 2]
 | 2 => [0, 1, 2, 7]
 | 3 => [0, 1, 2, 7, 16]
 | 4 => [6]
 | 5 => [0, 1, 2, 7, 8]
 | 6 => [0, 1, 2, 7, 8, 22]
 | 7 => [6]
 | 8 => [0, 1, 2, 7, 8, 31]
 | 9 => [0, 1, 2, 7, 9]
 | 10 => [0, 1, 7, 9]
 | 11 => [9]
 | 12 => [6]
 | 13 => [0, 1, 2, 7, 8]
 | 14 => [0, 1, 2, 7, 8, 68]
 | 15 => [0, 1, 2]
 | 16 => [0]
 | 17 => [6]
 | 18 => [0, 1, 7]
 | 19 => [0]
 | 20 => [6]
 | 900016 => [16]
 | 900022 => [22]
 | 900031 => [31]
 | 900068 => [68]
 | _ => []
def live149 : Nat → List Nat
 | 0 => [0, 1]
 | 1 => [4]
 | _ => []
def live150 : Nat → List Nat
 | 0 => [0, 1]
 | 1 => [0, 1, 5]
 | 2 => [0, 1, 5, 6]
 | 3 => [0, 1, 5, 6, 16]
 | 4 => [0, 1, 5, 6]
 | 5 => [0, 1, 5, 6]
 | 6 => [0, 1, 5, 6, 7]
 | 7 => [0, 1, 5, 6, 7, 29]
 | 8 => [0, 1, 5, 6, 7]
 | 9 => [0, 1, 5, 6, 7, 8]
 | 10 => [0, 1, 5, 6, 7, 8, 47]
 | 11 => [0, 1, 5, 6, 7, 8]
 | 12 => [0, 1, 5, 6, 7]
 | 13 => [0, 1, 5, 6, 7, 76]
 | 14 => [0, 1, 5, 6, 7]
 | 15 => [0, 1, 5, 6, 7, 91]
 | 16 => [0, 1, 5, 6, 7]
 | 17 => [4]
 | 900016 => [16]
 | 900029 => [29]
 | 900047 => [47]
 | 900076 => [76]
 | 900091 => [91]
 | _ => []
def live151 : Nat → List Nat
 | 0 => [0]
 | 1 => [2]
 | _ => []
def live152 : Nat → List Nat
 | 0 => [0]
 | 1 => [0, 3]
 | 2 => [0, 3]
 | 3 => [2]
 | _ => []
def live153 : Nat → List Nat
 | 0 => [0, 1]
 | 1 => [0, 1, 7, 8]
 | 2 => [0, 1, 7, 8, 9]
 | 3 => [0, 1, 5, 7, 8]
 | 4 => [0, 1, 5, 7, 8, 16]
 | 5 => [4]
 | 6 => [0, 1, 7, 8]
 | 7 => [4]
 | 900009 => [9]
 | 900016 => [16]
 | _ => []
def live154 : Nat → List Nat
 | 0 => [1]
 | 1 => [2]
 | _ => []
def live155 : Nat → List Nat
 | 0 => [1]
 | 1 => [2]
 | _ => []
def live156 : Nat → List Nat
 | 0 => [2, 3]
 | 1 => [2, 3, 12]
 | 2 => [4]
 | 3 => [4]
 | 900012 => [12]
 | _ => []
def live157 : Nat → List Nat
 | 0 => [0, 1]
 | 1 => [4]
 | _ => []
def live158 : Nat → List Nat
 | 0 => [1, 2]
 | 1 => [3]
 | _ => []
def live159 : Nat → List Nat
 | 0 => [0, 1]
 | 1 => [0, 1, 7, 8]
 | 2 => [0, 1, 7, 8, 9]
 | 3 => [0, 1, 5, 7, 8]
 | 4 => [0, 1, 5, 7, 8, 16]
 | 5 => [4]
 | 6 => [0, 1, 7, 8]
 | 7 => [4]
 | 900009 => [9]
 | 900016 => [16]
 | _ => []
def live160 : Nat → List Nat
 | 0 => [0]
 | 1 => [0, 3]
 | 2 => [0, 3, 6]
 | 3 => [0, 3]
 | 4 => [3]
 | 5 => [2]
 | 900006 => [6]
 | _ => []
def live161 : Nat → List Nat
 | 0 => [0, 1]
 | 1 => [0, 1, 18]
 | 2 => [4]
 | 3 => [1, 5]
 | 4 => [5, 6]
 | 5 => [5, 6, 7]
 | 6 => [5, 6, 7, 25]
 | 7 => [5, 6, 7]
 | 8 => [5, 6, 7]
 | 9 => [4]
 | 900018 => [18]
 | 900025 => [25]
 | _ => []
def live162 : Nat → List Nat
 | 0 => [0]
 | 1 => [2]
 | _ => []
def live163 : Nat → List Nat
 | 0 => [0]
 | 1 => [0, 3]
 | 2 => [0, 3, 5]
 | 3 => [0, 3]
 | 4 => [0, 3]
 | 5 => [2]
 | 900005 => [5]
 | _ => []
def live164 : Nat → List Nat
 | 0 => [0, 1]
 | 1 => [4]
 | _ => []
def live165 : Nat → List Nat
 | 0 => [0, 1]
 | 1 => [0, 1, 5]
 | 2 => [0, 1, 5, 6]
 | 3 => [0, 1, 5, 6, 16]
 | 4 => [0, 1, 5, 6]
 | 5 => [0, 1, 5, 6]
 | 6 => [0, 1, 5, 6, 7]
 | 7 => [0, 1, 5, 6, 7, 29]
 | 8 => [0, 1, 5, 6, 7]
 | 9 => [0, 1, 5, 6, 7, 8]
 | 10 => [0, 1, 5, 6, 7, 8, 65]
 | 11 => [0, 1, 5, 6, 7, 8]
 | 12 => [0, 1, 5, 6, 7]
 | 13 => [0, 1, 5, 6, 7, 84]
 | 14 => [0, 1, 5, 6, 7]
 | 15 => [0, 1, 5, 6, 7, 99]
 | 16 => [0, 1, 5, 6, 7]
 | 17 => [4]
 | 900016 => [16]
 | 900029 => [29]
 | 900065 => [65]
 | 900084 => [84]
 | 900099 => [99]
 | _ => []
def live166 : Nat → List Nat
 | 0 => [0, 1]
 | 1 => [0, 1, 5]
 | 2 => [0, 1, 5, 6]
 | 3 => [0, 1, 5, 6, 14]
 | 4 => [0, 1, 5, 6, 14, 15, 16]
 | 5 => [0, 1, 5, 6, 7, 8, 14]
 | 6 => [0, 1, 5, 6, 7, 14, 21]
 | 7 => [0, 1, 5, 6, 7, 14, 23]
 | 8 => [0, 1, 5, 6, 14]
 | 9 => [0, 1, 5, 6, 14]
 | 10 => [0, 1, 5, 6, 7, 14, 33]
 | 11 => [0, 1, 5, 6, 14]
 | 12 => [0, 5, 6, 36]
 | 13 => [0, 5]
 | 14 => [0, 5, 9]
 | 15 => [0, 9, 47, 48, 49]
 | 16 => [0, 9, 47, 48, 49, 50]
 | 17 => [0, 9, 10, 11, 47, 48, 49]
 | 18 => [0, 9, 47, 48, 49]
 | 19 => [0, 9, 47, 48, 49]
 | 20 => [4]
 | 900016 => [16]
 | 900021 => [21]
 | 900023 => [23]
 | 900033 => [33]
 | 900036 => [36]
 | 900050 => [50]
 | _ => []
def live167 : Nat → List Nat
 | 0 => [0]
 | 1 => [2]
 | _ => []
def live168 : Nat → List Nat
 | 0 => [0]
 | 1 => [0, 10]
 | 2 => [2, 3]
 | 3 => [2, 3]
 | 900010 => [10]
 | _ => []
def live169 : Nat → List Nat
 | 0 => [0]
 | 1 => [0, 3]
 | 2 => [2]
 | 3 => [0, 6]
 | 4 => [2]
 | 5 => [0, 9]
 | 6 => [2]
 | 7 => [0, 12]
 | 8 => [2]
 | 9 => [0, 19]
 | 10 => [2]
 | 11 => [22]
 | 12 => [2]
 | 13 => [2]
 | 900003 => [3]
 | 900006 => [6]
 | 900009 => [9]
 | 900012 => [12]
 | 900019 => [19]
 | 900022 => [22]
 | _ => []
def live170 : Nat → List Nat
 | 0 => [0, 1]
 | 1 => [0, 1, 7]
 | 2 => [0, 1]
 | 3 => [0, 1, 21]
 | 4 => []
 | 900007 => [7]
 | 900021 => [21]
 | _ => []
def live171 : Nat → List Nat
 | 0 => [0, 1]
 | 1 => [0, 1]
 | 2 => [1]
 | 3 => [4, 5]
 | _ => []
def live172 : Nat → List Nat
 | 0 => [0, 1]
 | 1 => [0, 1]
 | 2 => [0, 1, 6]
 | 3 => [0, 6]
 | 4 => [4, 5]
 | _ => []
def live173 : Nat → List Nat
 | 0 => [0]
 | 1 => [2]
 | _ => []
def live174 : Nat → List Nat
 | 0 => [0, 1]
 | 1 => [0, 1]
 | 2 => []
 | 3 => [4]
 | _ => []
def live175 : Nat → List Nat
 | 0 => [0]
 | 1 => [2]
 | _ => []
def live176 : Nat → List Nat
 | 0 => [0]
 | 1 => [2]
 | _ => []
def live178 : Nat → List Nat
 | 0 => []
 | _ => []
def live179 : Nat → List Nat
 | 0 => [1]
 | 1 => [2]
 | _ => []
def live180 : Nat → List Nat
 | 0 => [0]
 | 1 => [0, 6]
 | 2 => [2]
 | 3 => [0, 3]
 | 4 => [0, 3, 9]
 | 5 => [0, 3]
 | 6 => [2]
 | 900006 => [6]
 | 900009 => [9]
 | _ => []
def live181 : Nat → List Nat
 | 0 => [1, 2]
 | 1 => [2, 5]
 | 2 => [5, 11, 12, 13]
 | 3 => [5, 11, 12, 13, 14]
 | 4 => [5, 7, 11, 12, 13]
 | 5 => [5, 7, 11, 12, 13, 27]
 | 6 => [5, 11, 12, 13]
 | 7 => [5, 11, 12, 13]
 | 8 => [4]
 | 900014 => [14]
 | 900027 => [27]
 | _ => []
def live182 : Nat → List Nat
 | 0 => [0, 2]
 | 1 => [0, 2, 3]
 | 2 => [0, 2, 3, 4]
 | 3 => [0, 2, 3, 4, 14]
 | 4 => [0, 2, 3, 4]
 | 5 => [0, 2, 3, 4, 5]
 | 6 => [0, 2, 3, 4, 5, 19]
 | 7 => [0, 2, 3, 4, 5]
 | 8 => [0, 2, 3, 4, 5, 24, 25]
 | 9 => [0, 2, 3, 4, 5, 24, 25, 26]
 | 10 => [0, 2, 3, 4, 5, 6, 24, 25]
 | 11 => [0, 2, 3, 4, 5, 24, 25]
 | 12 => [0, 2, 3, 4, 5, 24, 25]
 | 13 => [0, 2, 3, 4, 7]
 | 14 => [0, 2, 3, 4, 7, 47]
 | 15 => [0, 2, 3, 4, 7]
 | 16 => [0, 2, 3, 4, 7, 8]
 | 17 => [0, 2, 3, 4, 7, 8, 52]
 | 18 => [0, 2, 3, 4, 7, 8]
 | 19 => [0, 2, 3, 4, 7, 8, 57, 58]
 | 20 => [0, 2, 3, 4, 7, 8, 57, 58, 59]
 | 21 => [0, 2, 3, 4, 7, 8, 9, 57, 58]
 | 22 => [0, 2, 3, 4, 7, 8, 57, 58]
 | 23 => [0, 2, 3, 4, 7, 8, 57, 58]
 | 24 => [2]
 | 900014 => [14]
 | 900019 => [19]
 | 900026 => [26]
 | 900047 => [47]
 | 900052 => [52]
 | 900059 => [59]
 | _ => []
def live183 : Nat → List Nat
 | 0 => [0]
 | 1 => [0, 3]
 | 2 => [3, 6, 7, 8]
 | 3 => [3, 6, 7, 8, 9]
 | 4 => [3, 5, 6, 7, 8]
 | 5 => [3, 5, 6, 7, 8, 14]
 | 6 => [2]
 | 7 => [3, 6, 7, 8]
 | 8 => [2]
 | 900009 => [9]
 | 900014 => [14]
 | _ => []
def live184 : Nat → List Nat
 | 0 => [0, 1]
 | 1 => [0, 1, 5]
 | 2 => [0, 1, 5, 6]
 | 3 => [0, 1, 6, 11]
 | 4 => [12]
 | 5 => [4]
 | 6 => [4]
 | 7 => [0, 1, 13]
 | 8 => [4]
 | 9 => [0, 1, 16]
 | 10 => [4]
 | 11 => [19]
 | 12 => [4]
 | 13 => [4]
 | 900011 => [11]
 | 900012 => [12]
 | 900013 => [13]
 | 900016 => [16]
 | 900019 => [19]
 | _ => []
def live185 : Nat → List Nat
 | 0 => [0, 1]
 | 1 => [0, 1, 7, 8]
 | 2 => [0, 1, 7, 8, 9]
 | 3 => [0, 1, 5, 7, 8]
 | 4 => [0, 1, 5, 7, 8, 16]
 | 5 => [4]
 | 6 => [0, 1, 7, 8]
 | 7 => [4]
 | 900009 => [9]
 | 900016 => [16]
 | _ => []
def live186 : Nat → List Nat
 | 0 => [0]
 | 1 => [0, 3]
 | 2 => [0, 3, 8]
 | 3 => [2]
 | 4 => [0, 3]
 | 5 => [0, 3, 4]
 | 6 => [0, 3, 4, 18]
 | 7 => [0, 3, 4]
 | 8 => [0, 3, 4]
 | 9 => [2]
 | 900008 => [8]
 | 900018 => [18]
 | _ => []
def live187 : Nat → List Nat
 | 0 => [0]
 | 1 => [0, 4]
 | 2 => [0, 4, 16]
 | 3 => [2, 3]
 | 4 => [0, 4, 5]
 | 5 => [0, 4, 5, 6]
 | 6 => [0, 4, 5, 6, 23]
 | 7 => [0, 7]
 | 8 => [2, 3]
 | 9 => [0, 4, 5, 6, 8]
 | 10 => [0, 4, 5, 8, 9]
 | 11 => [0, 5, 8, 9, 45]
 | 12 => [2, 3]
 | 13 => [0, 5, 8, 9, 10]
 | 14 => [0, 5, 8, 10, 57]
 | 15 => [2, 3]
 | 16 => [0, 5, 8, 10, 59]
 | 17 => [2, 3]
 | 18 => [0, 5, 8, 10, 11]
 | 19 => [0, 5, 8, 10, 11, 75]
 | 20 => [2, 3]
 | 21 => [0, 5, 10, 11, 77]
 | 22 => [2, 3]
 | 23 => [5, 10, 11, 12]
 | 24 => [5, 10, 11, 12, 98]
 | 25 => [2, 3]
 | 26 => [2, 3]
 | 900016 => [16]
 | 900023 => [23]
 | 900045 => [45]
 | 900057 => [57]
 | 900059 => [59]
 | 900075 => [75]
 | 900077 => [77]
 | 900098 => [98]
 | _ => []
def live188 : Nat → List Nat
 | 0 => [0, 6]
 | 1 => []
 | 2 => [19]
 | 900006 => [6]
 | 900019 => [19]
 | _ => []
def live189 : Nat → List Nat
 | 0 => [0, 4]
 | 1 => [0, 4]
 | 2 => []
 | _ => []
def live190 : Nat → List Nat
 | 0 => [0, 1]
 | 1 => [0, 1, 7]
 | 2 => [4]
 | 3 => [4]
 | 900007 => [7]
 | _ => []
def live191 : Nat → List Nat
 | 0 => [0, 1]
 | 1 => [0]
 | 2 => []
 | _ => []
def live192 : Nat → List Nat
 | 0 => [0]
 | 1 => [0, 4]
 | 2 => [2]
 | 3 => [2]
 | 900004 => [4]
 | _ => []
def live193 : Nat → List Nat
 | 0 => [0]
 | 1 => [2]
 | _ => []
def live196 : Nat → List Nat
 | 0 => [0, 1]
 | 1 => [0, 1, 5]
 | 2 => [4]
 | 3 => [0, 1, 5, 11]
 | 4 => [4]
 | 5 => [0, 1, 5, 25]
 | 6 => [0, 1, 5, 25]
 | 7 => [4]
 | 8 => [0, 1, 50]
 | 9 => [4]
 | 900011 => [11]
 | 900025 => []
 | 900050 => [50]
 | _ => []
def live197 : Nat → List Nat
 | 0 => [0, 2, 3]
 | 1 => [0, 2, 3, 9]
 | 2 => [0, 2, 3]
 | 3 => [0, 2, 3]
 | 900009 => [9]
 | _ => []
def live219 : Nat → List Nat
 | 0 => []
 | _ => []
def liveD : FuncId → Nat → List Nat
 | 2 => live2
 | 3 => live3
 | 4 => live4
 | 5 => live5
 | 6 => live6
 | 7 => live7
 | 8 => live8
 | 9 => live9
 | 10 => live10
 | 11 => live11
 | 12 => live12
 | 13 => live13
 | 14 => live14
 | 15 => live15
 | 16 => live16
 | 17 => live17
 | 18 => live18
 | 19 => live19
 | 20 => live20
 | 21 => live21
 | 22 => live22
 | 23 => live23
 | 24 => live24
 | 25 => live25
 | 26 => live26
 | 27 => live27
 | 28 => live28
 | 29 => live29
 | 30 => live30
 | 31 => live31
 | 32 => live32
 | 33 => live33
 | 34 => live34
 | 35 => live35
 | 36 => live36
 | 37 => live37
 | 38 => live38
 | 39 => live39
 | 40 => live40
 | 41 => live41
 | 42 => live42
 | 43 => live43
 | 44 => live44
 | 45 => live45
 | 46 => live46
 | 47 => live47
 | 48 => live48
 | 49 => live49
 | 50 => live50
 | 51 => live51
 | 52 => live52
 | 53 => live53
 | 54 => live54
 | 55 => live55
 | 56 => live56
 | 57 => live57
 | 58 => live58
 | 59 => live59
 | 60 => live60
 | 61 => live61
 | 62 => live62
 | 63 => live63
 | 64 => live64
 | 65 => live65
 | 66 => live66
 | 67 => live67
 | 68 => live68
 | 69 => live69
 | 70 => live70
 | 71 => live71
 | 72 => live72
 | 73 => live73
 | 74 => live74
 | 75 => live75
 | 76 => live76
 | 77 => live77
 | 78 => live78
 | 79 => live79
 | 80 => live80
 | 81 => live81
 | 82 => live82
 | 83 => live83
 | 84 => live84
 | 85 => live85
 | 86 => live86
 | 87 => live87
 | 88 => live88
 | 89 => live89
 | 90 => live90
 | 91 => live91
 | 92 => live92
 | 93 => live93
 | 94 => live94
 | 95 => live95
 | 96 => live96
 | 97 => live97
 | 98 => live98
 | 99 => live99
 | 100 => live100
 | 101 => live101
 | 102 => live102
 | 103 => live103
 | 104 => live104
 | 105 => live105
 | 106 => live106
 | 107 => live107
 | 108 => live108
 | 109 => live109
 | 110 => live110
 | 111 => live111
 | 112 => live112
 | 113 => live113
 | 114 => live114
 | 115 => live115
 | 116 => live116
 | 117 => live117
 | 118 => live118
 | 119 => live119
 | 120 => live120
 | 121 => live121
 | 122 => live122
 | 123 => live123
 | 124 => live124
 | 125 => live125
 | 126 => live126
 | 127 => live127
 | 128 => live128
 | 129 => live129
 | 130 => live130
 | 131 => live131
 | 132 => live132
 | 133 => live133
 | 134 => live134
 | 135 => live135
 | 136 => live136
 | 137 => live137
 | 138 => live138
 | 139 => live139
 | 140 => live140
 | 141 => live141
 | 142 => live142
 | 143 => live143
 | 144 => live144
 | 145 => live145
 | 146 => live146
 | 147 => live147
 | 148 => live148
 | 149 => live149
 | 150 => live150
 | 151 => live151
 | 152 => live152
 | 153 => live153
 | 154 => live154
 | 155 => live155
 | 156 => live156
 | 157 => live157
 | 158 => live158
 | 159 => live159
 | 160 => live160
 | 161 => live161
 | 162 => live162
 | 163 => live163
 | 164 => live164
 | 165 => live165
 | 166 => live166
 | 167 => live167
 | 168 => live168
 | 169 => live169
 | 170 => live170
 | 171 => live171
 | 172 => live172
 | 173 => live173
 | 174 => live174
 | 175 => live175
 | 176 => live176
 | 178 => live178
 | 179 => live179
 | 180 => live180
 | 181 => live181
 | 182 => live182
 | 183 => live183
 | 184 => live184
 | 185 => live185
 | 186 => live186
 | 187 => live187
 | 188 => live188
 | 189 => live189
 | 190 => live190
 | 191 => live191
 | 192 => live192
 | 193 => live193
 | 196 => live196
 | 197 => live197
 | 219 => live219
 | _ => fun _ => []
end Go.Proofs.YtfeikakkfnnaoaaGreatDoor.V
namespace Go.Proofs.YtfeikakkfnnaoaaGreatDoor.QA
open Go.RowKit Go.Proofs.YtfeikakkfnnaoaaGreatDoorW.PrintWords Go.Proofs.YtfeikakkfnnaoaaGreatDoorW.PrintLast Go.Proofs.YtfeikakkfnnaoaaGreatDoorW.PrintMore
set_option linter.unusedVariables false
set_option linter.unusedSimpArgs false
theorem qR {p q : Prop} (h : Aside0 p) (h' : p → q := by intro h_; (with_reducible repeat (first | apply Kd.R_alloc | apply Kd.R_drewN | apply Kd.R_drew)); exact h_) : q := h' h.out
theorem qE {p : Prop} (h : p := by first | rfl | (simp [errW_none, errW_some] <;> rfl) | (simp [*, errW_none, errW_some] <;> rfl)) : p := h
theorem qL {p : Prop} (h : p := by (try simp only [List.map_toArray, List.map_cons, List.map_nil]); first | done | rfl | (simp only [List.length_drop, List.length_take]; rfl)) : p := h
theorem qT {P : Prop} [Decidable P] {α : Type} {a : Option α} {r : α} (h : (if P then a else none) = some r) : decide P = true ∧ a = some r := by
 by_cases c : P
 ·rw [if_pos c] at h; exact ⟨decide_eq_true c, h⟩
 ·rw [if_neg c] at h; cases h
theorem qU {P : Prop} [Decidable P] {α : Type} {a : Option α} {r : α} (h : (if P then a else none) = some r) : P ∧ a = some r := ⟨of_decide_eq_true (qT h).1, (qT h).2⟩
theorem qT2 {P : Prop} [Decidable P] {α : Type} {a : Option α} {r : α} (h : (if P then a else none) = some r) : (P = True) ∧ decide P = true ∧ a = some r := ⟨eq_true (of_decide_eq_true (qT h).1), (qT h).1, (qT h).2⟩
theorem qI {P : Prop} [Decidable P] {α : Type} {a b r : α} (h : (if P then a else b) = r) : (decide P = true ∧ a = r) ∨ (decide P = false ∧ b = r) := by
 by_cases c : P
 ·rw [if_pos c] at h; exact .inl ⟨decide_eq_true c, h⟩
 ·rw [if_neg c] at h; exact .inr ⟨decide_eq_false c, h⟩
theorem qJ {P : Prop} [Decidable P] {α : Type} {a b r : α} (h : (if P then a else b) = r) : (P ∧ a = r) ∨ (¬ P ∧ b = r) := by
 by_cases c : P
 ·rw [if_pos c] at h; exact .inl ⟨c, h⟩
 ·rw [if_neg c] at h; exact .inr ⟨c, h⟩
theorem qX {α β : Type} {o : Option α} {f : α → Option β} {r : β} (h : o.bind f = some r) : ∃ a, Aside0 (o = some a) ∧ f a = some r := by
 obtain ⟨a, h1, h2⟩ := Option.bind_eq_some_iff.mp h
 exact ⟨a, ⟨h1⟩, h2⟩
theorem qPu {p : Prop} (h : p := by simp only [Act.put, List.setIfInBounds_toArray, List.set_cons_zero, List.set_cons_succ, i64_w, i32_w]; rfl) : p := h
theorem qZ {p q : Prop} (h : p := by first | rfl | (simp; done) | (simp [*]; done)) (h' : q := by repeat (first | exact Drawn0.refl _ | apply Drawn0.step)) : p ∧ q := ⟨h, h'⟩
theorem qV {p : Prop} (h : p := by first | rfl | (simp; done) | (simp [*]; done)) : p := h
theorem qO {p : Prop} [Decidable p] (h : decide p = true := by first | (with_reducible assumption) | assumption) : p := of_decide_eq_true h
theorem qY {p q : Prop} {α : Type} {y e : α} (hy : y = e) (h : p) (h' : y = e → p → q := by intro hy_ H_; first | (rw [hy_]; with_reducible exact H_) | (have H2_ := (Option.bind_some _ _).symm.trans H_; rw [hy_]; with_reducible exact H2_) | (have H2_ := (Option.bind_some _ _).symm.trans H_; with_reducible exact H2_) | with_reducible exact H_ | (rw [hy_]; exact H_) | exact H_) : q := h' hy h
theorem qS0 {p  q : Prop} (h : Aside0 p) (h' : p → q := by intro h_ ; repeat (first | (with_reducible first | exact h_ | apply below_alloc | apply pw_below_drewN | apply below_drew1) | exact h_)) : q := h' h.out
theorem qS1 {p r0 q : Prop} (h : Aside0 p) (k0 : Aside0 r0) (h' : p → r0 → q := by intro h_ e0_; repeat (first | (with_reducible first | exact h_ | apply below_alloc | apply pw_below_drewN | apply below_drew1 | refine below_set ?_ e0_) | exact h_)) : q := h' h.out k0.out
end Go.Proofs.YtfeikakkfnnaoaaGreatDoor.QA
namespace Go.Proofs.YtfeikakkfnnaoaaGreatDoor.QA
open Go.RowKit Go.Proofs.YtfeikakkfnnaoaaGreatDoorW.PrintWords Go.Proofs.YtfeikakkfnnaoaaGreatDoorW.PrintLast Go.Proofs.YtfeikakkfnnaoaaGreatDoorW.PrintMore
attribute [local go_sem] max2_int min2_int max_two min_two max_three min_three max_four min_four
set_option linter.unusedVariables false
set_option linter.unusedSimpArgs false
def errW : Option Int → Value
 | none => .nilIface
 | some c => .iface 0 (.int .i64 c)
theorem errW_none : errW none = .nilIface := rfl
theorem errW_some (c : Int) : errW (some c) = .iface 0 (.int .i64 c) := rfl
theorem info3 : (Tryz.prog.info? 3).map (fun i => (i.zero, i.size, i.bytes)) = some (some (.int .i64 0), 1, 8) := by kernel_rfl
theorem info5 : (Tryz.prog.info? 5).map (fun i => (i.zero, i.size, i.bytes)) = some (some (.int .u8 0), 1, 1) := by kernel_rfl
theorem info35 : (Tryz.prog.info? 35).map (fun i => (i.zero, i.size, i.bytes)) = some (some (.slice none 0 0), 1, 24) := by kernel_rfl
def rd_L3 (xs : List (List Int)) (i : Int) : (List Int) := xs.getD i.toNat ([] : List Int)
theorem at_L3 {w : World} {A : Option Addr} {n : Nat} {xs : List (List Int)} (h : Kd.C (Kd.slice 3 (Kd.int .i64)) w A n xs) (i : Int) (h0 : 0 ≤ i) (h1 : i < n) : ∃ ad A0 c0, A = some ad ∧ w.cell? (ad.add i.toNat) = some (.slice A0 (rd_L3 xs i).length c0) ∧ (rd_L3 xs i).length ≤ c0 ∧ (Kd.int .i64).C w A0 (rd_L3 xs i).length (rd_L3 xs i) := by
 (obtain ⟨ad, c, e, _, hK, hc0⟩ := Kd.C_get h ([] : List Int) i h0 h1); (have hc : ∀ j u, c[j]? = some u → w.cell? (ad.add (i.toNat * 1 + j)) = some u := hc0); (obtain ⟨A0, c0, rfl, l0, g0⟩ := hK)
 exact ⟨ad, A0, c0, e, by have hq := hc 0 _ rfl; rwa [Nat.mul_one, Nat.add_zero] at hq, l0, g0⟩
end Go.Proofs.YtfeikakkfnnaoaaGreatDoor.QA
namespace Go.Proofs.YtfeikakkfnnaoaaGreatDoor.QA
open Go.RowKit Go.Proofs.YtfeikakkfnnaoaaGreatDoorW.PrintWords Go.Proofs.YtfeikakkfnnaoaaGreatDoorW.PrintLast Go.Proofs.YtfeikakkfnnaoaaGreatDoorW.PrintMore
attribute [local go_sem] max2_int min2_int max_two min_two max_three min_three max_four min_four
set_option linter.unusedVariables false
set_option linter.unusedSimpArgs false
set_option maxHeartbeats 8000000
set_option maxRecDepth 100000
def impl_within.f (a0 : Int) (a1 : Int) (a2 : Int) : Option (Bool) := if a0 ≥ a1 then (some (decide (a0 ≤ a2))) else (some false)
theorem impl_within.calls (a0 : Int) (a1 : Int) (a2 : Int) (r : Bool) (w : World) (h : impl_within.f a0 a1 a2 = some r) :
  Calls Tryz.prog 58 #[.int .i64 a0, .int .i64 a1, .int .i64 a2] w fun e w' => e = .returned (.bool r) ∧ Drawn0 w w' := by
 (have H : (if a0 ≥ a1 then (some (decide (a0 ≤ a2))) else (some false)) = some r := h); clear h
 rcases qI H with ⟨(c4b0 : decide (a1 ≤ a0) = true), H⟩ | ⟨(c4b0 : decide (a1 ≤ a0) = false), H⟩
 ·obtain rfl := Option.some.inj H
  go_enter Tryz.func58, Tryz.ntmps58
  go_wp2
  go_ret
  exact qZ
 ·obtain rfl := Option.some.inj H
  go_enter Tryz.func58, Tryz.ntmps58
  go_wp2
  go_ret
  exact qZ
def impl_isWord.l0 : Nat → ByteArray → Int → Int → Option (Bool)
 | 0, _, _, _ => none
 | k + 1, x0, x5, x6 => if x6 < x5 then (if 0 ≤ x6 then (if x6 < (x0.size : Int) then (if (bt x0 x6) < 97 then (some false) else (if (bt x0 x6) > 122 then (some false) else (impl_isWord.l0 k x0 x5 (wrap64 (x6 + 1))))) else (none)) else (none)) else ((impl_within.f (x0.size : Int) 1 32).bind fun t101 => (some t101))
def impl_isWord.f (k : Nat) (a0 : ByteArray) : Option (Bool) := impl_isWord.l0 k a0 (a0.size : Int) 0
theorem impl_isWord.calls (k : Nat) (a0 : ByteArray) (r : Bool) (w : World) (h : impl_isWord.f k a0 = some r) :
  Calls Tryz.prog 57 #[.string a0] w fun e w' => e = .returned (.bool r) ∧ Drawn0 w w' := by
 (have H : (impl_isWord.l0 k a0 (a0.size : Int) 0) = some r := h); clear h; (have H' := Aside0.mk H); clear H
 go_enter Tryz.func57, Tryz.ntmps57
 go_wp2
 go_loopg [6] k (fun kq v6 w' => ∃ (x6_1 : Int), v6 = .int .i64 x6_1 ∧ Aside0 (impl_isWord.l0 kq a0 (a0.size : Int) x6_1 = some r) ∧ Aside0 (kq ≤ k) ∧ Drawn0 w w')
 case atStart => exact ⟨(0), qV, H', ⟨Nat.le_refl _⟩, by repeat (first | exact Drawn0.refl _ | apply Drawn0.step)⟩
 case round =>
  clear H'; (obtain ⟨x6_1, rfl, HA, HK1, ⟨m1, rfl⟩⟩ := hrel)
  cases gk with
  | zero => exact absurd HA.out (by simp [impl_isWord.l0])
  | succ k1 =>
   (have H := HA.out); clear HA; (simp only [impl_isWord.l0] at H)
   rcases qI H with ⟨c2b0, H⟩ | ⟨c2b0, H⟩
   ·obtain ⟨c3b0, H⟩ := qT H
    obtain ⟨c4b0, H⟩ := qT H
    rcases qI H with ⟨c6b0, H⟩ | ⟨c6b0, H⟩
    ·obtain rfl := Option.some.inj H
     (have p5 : 0 ≤ (x6_1 : Int) := qO); (have q5 : x6_1 < (a0.size : Int) := qO); (have hx5 := bt_at a0 x6_1); (replace p5 := eq_true p5); (replace q5 := eq_true q5)
     go_wp2
     go_ret
     exact qZ
    ·rcases qI H with ⟨(c8b0 : decide (122 < (bt a0 x6_1)) = true), H⟩ | ⟨(c8b0 : decide (122 < (bt a0 x6_1)) = false), H⟩
     ·obtain rfl := Option.some.inj H
      (have p5 : 0 ≤ (x6_1 : Int) := qO); (have q5 : x6_1 < (a0.size : Int) := qO); (have hx5 := bt_at a0 x6_1); (replace p5 := eq_true p5); (replace q5 := eq_true q5); (have p7 : 0 ≤ (x6_1 : Int) := qO); (have q7 : x6_1 < (a0.size : Int) := qO); (have hx7 := bt_at a0 x6_1); (replace p7 := eq_true p7); (replace q7 := eq_true q7)
      go_wp2
      go_ret
      exact qZ
     ·have H' := Aside0.mk H
      clear H; (have p5 : 0 ≤ (x6_1 : Int) := qO); (have q5 : x6_1 < (a0.size : Int) := qO); (have hx5 := bt_at a0 x6_1); (replace p5 := eq_true p5); (replace q5 := eq_true q5); (have p7 : 0 ≤ (x6_1 : Int) := qO); (have q7 : x6_1 < (a0.size : Int) := qO); (have hx7 := bt_at a0 x6_1); (replace p7 := eq_true p7); (replace q7 := eq_true q7)
      go_wp2
      go_roundg k1
      case measure => have := HK1.out; omega
      case rel => exact ⟨(wrap64 (x6_1 + 1)), qV, H', ⟨by have := HK1.out; omega⟩, by repeat (first | exact Drawn0.refl _ | apply Drawn0.step)⟩
   ·obtain ⟨t101, A9, H⟩ := qX H
    (replace H : (some t101) = some r := H); (obtain rfl := Option.some.inj H)
    go_wp2_with (first | ((with_reducible refine gate_callee (f := 58) rfl ?_); refine goesL_ (some 22) rfl rfl Tryz.func58 (by kernel_rfl) rfl #[.int .i64 (a0.size : Int), .int .i64 1, .int .i64 32] rfl qL ?_; (with_reducible refine (impl_within.calls (a0.size : Int) 1 32 t101 _ A9.out).mono ?_); rintro e w' ⟨rfl, ⟨nd, rfl⟩⟩; refine ⟨_, rfl, ?_⟩))
    go_ret
    exact qZ
structure TabG (w : World) : Prop where
 utf8 : Lib.Utf8Tabs 0 1 w
theorem G_below {w w' : World} (hb : Below w.heap.size w w') (hG : TabG w) : TabG w' := ⟨Go.Proofs.Utf8Tabs_below hG.utf8 hb⟩
def lowR (x : Int) : Int := if x ≥ 65 then (if x ≤ 90 then x + 32 else x) else x
theorem lowR_range (x : Int) (h0 : 0 ≤ x) (h1 : x ≤ 1114111) : -2147483648 ≤ lowR x ∧ lowR x ≤ 2147483647 := by
 unfold lowR
 split
 ·split <;> omega
 ·omega
theorem strings_Map.closure (x : Int) (h0 : 0 ≤ x) (h1 : x ≤ 1114111) (w : World) : Calls Tryz.prog 144 #[.int .i32 x] w fun e w' => e = .returned (.int .i32 (lowR x)) ∧ Below w.heap.size w w' := by
 unfold lowR
 by_cases c2 : x ≥ 65
 ·rw [if_pos c2]
  have c2b0 : decide (65 ≤ x) = true := decide_eq_true c2
  by_cases c3 : x ≤ 90
  ·rw [if_pos c3]
   (have c3b0 : decide (x ≤ 90) = true := decide_eq_true c3); (rw [show x + 32 = wrap32 (x + 32) by unfold wrap32; omega]); clear c2 c3 h0 h1
   go_enter Tryz.func144, Tryz.ntmps144
   go_wp2
   go_ret
   exact ⟨by first | rfl | (simp; done) | (simp [*]; done), by first | exact Below.refl _ _ | (with_reducible repeat (first | exact Below.refl _ _ | apply below_drew1))⟩
  ·rw [if_neg c3]
   (have c3b0 : decide (x ≤ 90) = false := decide_eq_false c3); clear c2 c3 h0 h1
   go_enter Tryz.func144, Tryz.ntmps144
   go_wp2
   go_ret
   exact ⟨by first | rfl | (simp; done) | (simp [*]; done), by first | exact Below.refl _ _ | (with_reducible repeat (first | exact Below.refl _ _ | apply below_drew1))⟩
 ·rw [if_neg c2]
  (have c2b0 : decide (65 ≤ x) = false := decide_eq_false c2); clear c2 h0 h1
  go_enter Tryz.func144, Tryz.ntmps144
  go_wp2
  go_ret
  exact ⟨by first | rfl | (simp; done) | (simp [*]; done), by first | exact Below.refl _ _ | (with_reducible repeat (first | exact Below.refl _ _ | apply below_drew1))⟩
theorem strings_Map.enters : ∀ args w, (callFunc 144 args).run Tryz.prog w = .ok (.enter 144 args) w := enters_of Tryz.func144 (by kernel_rfl) rfl
shelf_lay Lays.n230 Nm 230 at Tryz as Tryz.lays230
theorem strings_Map.extra : Builder.Extra Tryz.prog Tryz.lays230_ren where
 sizeBuilder := by kernel_rfl
 liesBuilder := by kernel_rfl
 t5 := Tryz.underlying5
 a5 := Tryz.isAgg5
 z5 := Tryz.sizeOf5
 v5 := Tryz.zeroValue5
 infoByte := by kernel_rfl
 cellsByte := by kernel_rfl
 sizeByte := by kernel_rfl
 neB5 := by decide
def strings_Map.f (a0 : ByteArray) : Option ByteArray := if a0.size < 35184372088832 then some ⟨(Lib.mapD lowR a0.data.toList).toArray⟩ else none
theorem strings_Map.calls (a0 : ByteArray) (r : ByteArray) (w : World) (h : strings_Map.f a0 = some r) (hG : TabG w) :
  Calls Tryz.prog 143 #[.func (.func 144) #[] #[], .string a0] w fun e w' => e = .returned (.string r) ∧ Below w.heap.size w w' := by
 unfold strings_Map.f at h
 split at h
 ·rename_i hr
  obtain rfl := Option.some.inj h
  exact Any.strings_Map_grows Tryz.lays230 strings_Map.extra 144 #[] strings_Map.enters lowR a0 w hr (fun W x hx _ => strings_Map.closure x (by omega) (by omega) W) (fun x hx => lowR_range x (by omega) (by omega)) (TabG.utf8 hG)
 ·cases h
end Go.Proofs.YtfeikakkfnnaoaaGreatDoor.QA
namespace Go.Proofs.YtfeikakkfnnaoaaGreatDoor.QA
open Go.RowKit Go.Proofs.YtfeikakkfnnaoaaGreatDoorW.PrintWords Go.Proofs.YtfeikakkfnnaoaaGreatDoorW.PrintLast Go.Proofs.YtfeikakkfnnaoaaGreatDoorW.PrintMore
attribute [local go_sem] max2_int min2_int max_two min_two max_three min_three max_four min_four
set_option linter.unusedVariables false
set_option linter.unusedSimpArgs false
set_option maxHeartbeats 8000000
set_option maxRecDepth 100000
def impl_Fold.f (k : Nat) (a0 : ByteArray) : Option (ByteArray) := (strings_Map.f a0).bind fun t138 => (if (a0.size : Int) > 32 then (some (⟨#[]⟩ : ByteArray)) else ((impl_isWord.f k t138).bind fun t139 => (if t139 = true then (some t138) else (some (⟨#[]⟩ : ByteArray)))))
theorem impl_Fold.calls (k : Nat) (a0 : ByteArray) (r : ByteArray) (w : World) (h : impl_Fold.f k a0 = some r) (hG : TabG w) :
  Calls Tryz.prog 107 #[.string a0] w fun e w' => e = .returned (.string r) ∧ Below w.heap.size w w' := by
 (have HB := Aside0.mk (Below.refl w.heap.size w)); (have H : ((strings_Map.f a0).bind fun t138 => (if (a0.size : Int) > 32 then (some (⟨#[]⟩ : ByteArray)) else ((impl_isWord.f k t138).bind fun t139 => (if t139 = true then (some t138) else (some (⟨#[]⟩ : ByteArray)))))) = some r := h); clear h; (obtain ⟨t138, A2, H⟩ := qX H)
 try dsimp only at H
 rcases qJ H with ⟨c3, H⟩ | ⟨c3, H⟩
 ·have c3b0 : decide (32 < (a0.size : Int)) = true := decide_eq_true c3
  (have c3b1 : decide (32 < a0.size) = true := decide_eq_true (by omega)); clear c3; (obtain rfl := Option.some.inj H)
  go_enter Tryz.func107, Tryz.ntmps107
  go_wp2_with (first | ((with_reducible refine gate_callee (f := 143) rfl ?_); refine goesL_ (some 5) rfl rfl Tryz.func143 (by kernel_rfl) rfl #[.func (.func 144) #[] #[], .string a0] rfl qL ?_; (with_reducible refine (strings_Map.calls a0 t138 _ A2.out (G_below (qS0 HB) hG)).mono ?_); rintro e w4 ⟨rfl, hb⟩; refine ⟨_, rfl, ?_⟩; replace HB := Aside0.mk (below_step (qS0 HB) hb); (try clear hb); (try clear hb2); (try clear hk); (try clear hi)))
  go_ret
  exact ⟨qE, qS0 HB⟩
 ·have c3b0 : decide (32 < (a0.size : Int)) = false := decide_eq_false c3
  (have c3b1 : decide (32 < a0.size) = false := decide_eq_false (by omega)); clear c3; (obtain ⟨t139, A5, H⟩ := qX H); (replace H : (if t139 = true then (some t138) else (some (⟨#[]⟩ : ByteArray))) = some r := H)
  by_cases c6 : t139 = true
  ·subst c6
   (have H1 : (some t138) = some r := by rw [if_pos rfl] at H; exact H); clear H; (have H := H1); clear H1; (obtain rfl := Option.some.inj H)
   go_enter Tryz.func107, Tryz.ntmps107
   go_wp2_with (first | ((with_reducible refine gate_callee (f := 143) rfl ?_); refine goesL_ (some 5) rfl rfl Tryz.func143 (by kernel_rfl) rfl #[.func (.func 144) #[] #[], .string a0] rfl qL ?_; (with_reducible refine (strings_Map.calls a0 t138 _ A2.out (G_below (qS0 HB) hG)).mono ?_); rintro e w7 ⟨rfl, hb⟩; refine ⟨_, rfl, ?_⟩; replace HB := Aside0.mk (below_step (qS0 HB) hb); (try clear hb); (try clear hb2); (try clear hk); (try clear hi)) | (go_at_call 57; (with_reducible refine (impl_isWord.calls k t138 true _ A5.out).mono ?_); rintro e w' ⟨rfl, ⟨nd, rfl⟩⟩))
   go_ret
   exact ⟨qE, qS0 HB⟩
  ·replace c6 := Bool.eq_false_iff.mpr c6
   (subst c6); (have H1 : (some (⟨#[]⟩ : ByteArray)) = some r := by rw [if_neg (show ¬ (false = true) by decide)] at H; exact H); clear H; (have H := H1); clear H1; (obtain rfl := Option.some.inj H)
   go_enter Tryz.func107, Tryz.ntmps107
   go_wp2_with (first | ((with_reducible refine gate_callee (f := 143) rfl ?_); refine goesL_ (some 5) rfl rfl Tryz.func143 (by kernel_rfl) rfl #[.func (.func 144) #[] #[], .string a0] rfl qL ?_; (with_reducible refine (strings_Map.calls a0 t138 _ A2.out (G_below (qS0 HB) hG)).mono ?_); rintro e w8 ⟨rfl, hb⟩; refine ⟨_, rfl, ?_⟩; replace HB := Aside0.mk (below_step (qS0 HB) hb); (try clear hb); (try clear hb2); (try clear hk); (try clear hi)) | (go_at_call 57; (with_reducible refine (impl_isWord.calls k t138 false _ A5.out).mono ?_); rintro e w' ⟨rfl, ⟨nd, rfl⟩⟩))
   go_ret
   exact ⟨qE, qS0 HB⟩
theorem wpList_copy_str {P : Program} {w : World} {ops : Array Oper} {rest : List Oper} {o : Oper} {a : Act} {Q : Exit → Act → World → Prop} (hgd : o.guard = none) (d s : Operand) (dT sT : TypeId)
  (ho : o.op = .call { callee := .builtin .copy, args := #[d, s], argTypes := #[dT, sT] }) (elem : TypeId) (hu : P.underlying dT = some (.slice elem)) (hsz : (P.info? elem).map (·.size) = some 1)
  (g off dLen dCap : Nat) (str : ByteArray) (hd : a.eval d = .slice (some ⟨g, off, none⟩) dLen dCap) (hs : a.eval s = .string str)
  (cur : Array Value) (t : TypeId) (hg : w.heap[g]? = some (.cells cur t (0, 0))) (hle : str.size ≤ dLen) (hfit : off + str.size ≤ cur.size)
  (h : wpList P ops Q rest (a.put o.dst (goInt str.size)) (w.setRow g (cur.toList.take off ++ Lib.byteCells str.data.toList ++ cur.toList.drop (off + str.size)).toArray)) : wpList P ops Q (o :: rest) a w := by
 refine wpList_plain hgd fun K hK => ?_
 have hrun := Lib.run_copy_row_string (P := P) w dT sT o.type elem g off dLen dCap str cur t hu hsz hg hle hfit
 unfold Oper.wp
 simp [execOp, ho, resolve, invoke, builtin, hd, hs, hrun, Result.andThen]
 exact hK _ _ (by simpa using h)
theorem byteCells_nums (s : ByteArray) : Lib.byteCells s.data.toList = nums .u8 (bytesOf s) := by simp [nums, bytesOf, Lib.byteCells]
theorem made_nums (k : IntKind) (m : Nat) : (madeCells #[Value.int k 0] m).toList = nums k (List.replicate m 0) := by
 apply List.ext_getElem
 ·simp [nums, madeCells]
 ·intro i h1 h2
  simp [nums, madeCells, Nat.mod_one]
theorem made33 : (madeCells #[Value.int IntKind.u8 0] 33).toList = nums .u8 (List.replicate 33 0) := made_nums .u8 33
theorem pad_cells (s : ByteArray) (hs : s.size ≤ 32) : ((nums .u8 (List.replicate 33 0)).set 0 (Value.int .u8 (s.size : Int))).take 1 ++ nums .u8 (bytesOf s) ++ ((nums .u8 (List.replicate 33 0)).set 0 (Value.int .u8 (s.size : Int))).drop (1 + s.size) = nums .u8 ((s.size : Int) :: (bytesOf s ++ List.replicate (32 - s.size) 0)) := by
 (have e : nums .u8 (List.replicate 33 0) = Value.int .u8 0 :: List.replicate 32 (Value.int .u8 0) := by simp [nums, List.replicate_succ]); (rw [e, List.set_cons_zero, Nat.add_comm 1 s.size, List.drop_succ_cons, List.drop_replicate])
 simp [nums]
def impl_pad.f (k : Nat) (a0 : ByteArray) : Option (List Int) := (impl_isWord.f k a0).bind fun b => if b = true then (if a0.size ≤ 32 then some ((a0.size : Int) :: (bytesOf a0 ++ List.replicate (32 - a0.size) 0)) else none) else some (List.replicate 33 0)
theorem impl_pad.hi : (Tryz.prog.info? 5).map (fun i => (i.zero, i.size, i.bytes)) = some (some (.int .u8 0), 1, 1) := by kernel_rfl
theorem impl_pad.calls (k : Nat) (a0 : ByteArray) (r : List Int) (w : World) (h : impl_pad.f k a0 = some r) :
  Calls Tryz.prog 160 #[.string a0] w fun e w' => ∃ v0_ : Value, e = .returned (v0_) ∧ Kd.R (Kd.int .u8) 5 w' w.heap.size (fun _ => True) v0_ r ∧ Below w.heap.size w w' := by
 unfold impl_pad.f at h
 (obtain ⟨b, hb, h2⟩ := Option.bind_eq_some_iff.mp h); clear h; (have HA := Aside0.mk hb); clear hb; (have hmk : ∀ W : World, (Instr.makeSlice 22 (.int .i64 33) (.int .i64 33)).run Tryz.prog W = .ok (.slice (some ⟨W.heap.size, 0, none⟩) 33 33) (W.alloc (.cells (madeCells #[.int .u8 0] 33) 5)) := print_make (P := Tryz.prog) 22 5 .u8 1 Tryz.underlying22 impl_pad.hi (by decide) 33 (by decide))
 cases b with
 | true =>
  simp only [if_true] at h2
  by_cases hs : a0.size ≤ 32
  ·rw [if_pos hs] at h2
   (obtain rfl := Option.some.inj h2); clear h2; (have hz5 : (Tryz.prog.info? 5).map (·.size) = some 1 := by kernel_rfl); (have HZ := Aside0.mk hz5); clear hz5; (have hm0 : (madeCells #[Value.int IntKind.u8 0] 33)[0]? = some (.int .u8 0) := by simp [madeCells])
   go_enter Tryz.func160, Tryz.ntmps160
   go_wp2_with (first | (go_at_call 57; refine (impl_isWord.calls k a0 true _ HA.out).mono ?_; rintro e w' ⟨rfl, ⟨n, rfl⟩⟩) | (with_reducible refine wpList_copy_str rfl (.tmp 13) (.tmp 14) 22 9 rfl 5 Tryz.underlying22 HZ.out w.heap.size 1 32 32 a0 rfl rfl ((madeCells #[.int .u8 0] 33).setIfInBounds 0 (.int .u8 (a0.size : Int))) 5 ?hg hs ?hfit ?_))
   case hg => exact blk_set (blk_drewN (blk_new w _) n) 0 _
   case hfit => simp only [Array.size_setIfInBounds, size_madeCells, List.size_toArray, List.length_singleton]; omega
   go_ret
   have hr : ∀ c W, ((((w.alloc (.cells (madeCells #[Value.int IntKind.u8 0] 33) 5)).drewN n).setCell ⟨w.heap.size, 0, none⟩ (.int .u8 (a0.size : Int))).setRow w.heap.size c).heap[w.heap.size]? = W → W = some (.cells c 5 (0, 0)) := by
    intro c W h
    rw [← h]
    exact setRow_heap _ _ _ _ _ _ (blk_set (blk_drewN (blk_new w _) n) 0 _)
   refine ⟨_, rfl, Kd.R_of_own (enc := Value.int .u8) ?_ (fun _ _ => trivial), ?_⟩
   ·refine ⟨by simp [encs], .inr ⟨w.heap.size, 33, _, ?_, Nat.le_refl _, hr _ _ rfl, ?_, by simp [maxLen], ?_, ?_⟩⟩
    ·simp [bytesOf_length]; omega
    ·simp [bytesOf_length]; omega
    ·simp [Lib.byteCells, made33, nums, data_length]; omega
    ·rw [show ((a0.size : Int) :: (bytesOf a0 ++ List.replicate (32 - a0.size) 0)).length * 1 = 33 by simp [bytesOf_length]; omega]
     (rw [List.take_of_length_le (by simp [Lib.byteCells, made33, nums, data_length]; omega)]); (have := pad_cells a0 hs)
     simpa [made33, byteCells_nums, encs, nums] using this
   ·refine below_setRow (Below.setCell (p := ⟨w.heap.size, 0, none⟩) ?_ (Nat.le_refl _) _) (Nat.le_refl _) _
    exact pw_below_drewN ((Below.refl _ w).alloc (Nat.le_refl _) _) n
  ·rw [if_neg hs] at h2; cases h2
 | false =>
  (simp only [Bool.false_eq_true, if_false] at h2); (obtain rfl := Option.some.inj h2); clear h2
  go_enter Tryz.func160, Tryz.ntmps160
  go_wp2_with (go_at_call 57; refine (impl_isWord.calls k a0 false _ HA.out).mono ?_; rintro e w' ⟨rfl, ⟨n, rfl⟩⟩)
  go_ret
  refine ⟨_, rfl, Kd.R_of_own (enc := Value.int .u8) ?_ (fun _ _ => trivial), pw_below_drewN ((Below.refl _ w).alloc (Nat.le_refl _) _) n⟩
  (have := own_made w w.heap.size 5 .u8 33 (Nat.le_refl _) (by decide)); (rw [List.length_replicate])
  exact own_move this (fun _ _ => rfl)
def impl_hashWord.l0 : Nat → Int → List Int → Int → Int → Option (Int)
 | 0, _, _, _, _ => none
 | k + 1, x5, x11, x12, x13 => if x13 < x12 then (if 0 ≤ x13 then (if x13 < (x11.length : Int) then (impl_hashWord.l0 k (((Go.bits .xor .u32 x5 ((rd x11 x13) % 4294967296)) * 16777619) % 4294967296) x11 x12 (wrap64 (x13 + 1))) else (none)) else (none)) else (some (wrap64 (Go.bits .xor .u32 x5 (x5 / 65536))))
def impl_hashWord.f (k : Nat) (a0 : Int) (a1 : ByteArray) : Option (Int) := (impl_pad.f k a1).bind fun t140 => (impl_hashWord.l0 k ((a0) % 4294967296) t140 (t140.length : Int) 0)
theorem impl_hashWord.calls (k : Nat) (a0 : Int) (a1 : ByteArray) (r : Int) (w : World) (h : impl_hashWord.f k a0 a1 = some r) :
  Calls Tryz.prog 141 #[.int .i64 a0, .string a1] w fun e w' => e = .returned (.int .i64 r) ∧ Below w.heap.size w w' := by
 (have HB := Aside0.mk (Below.refl w.heap.size w)); (have H : ((impl_pad.f k a1).bind fun t140 => (impl_hashWord.l0 k ((a0) % 4294967296) t140 (t140.length : Int) 0)) = some r := h); clear h; (obtain ⟨t140, A3, H⟩ := qX H); (replace H : (impl_hashWord.l0 k ((a0) % 4294967296) t140 (t140.length : Int) 0) = some r := H); (have H' := Aside0.mk H); clear H
 go_enter Tryz.func141, Tryz.ntmps141
 go_wp2_with (first | ((with_reducible refine gate_callee (f := 160) rfl ?_); refine goesL_ (some 11) rfl rfl Tryz.func160 (by kernel_rfl) rfl #[.string a1] rfl qL ?_; (with_reducible refine (impl_pad.calls k a1 t140 _ A3.out).mono ?_); rintro e w4 ⟨v141, rfl, ho0, hb⟩; refine ⟨_, rfl, ?_⟩; have HO142 := Aside0.mk (Kd.R_lower ho0 (below_size (qS0 HB))); replace HB := Aside0.mk (below_step (qS0 HB) hb); (try clear hb); (try clear hb2); (try clear hk); (try clear hi); (try clear ho0); obtain ⟨Ao5, co5, eo5⟩ := Kd.R_slice HO142.out; subst eo5))
 go_loopg [5, 13] k (fun kq v5 v13 w' => ∃ (x5_1 : Int) (x13_1 : Int), v5 = .int .u32 x5_1 ∧ v13 = .int .i64 x13_1 ∧ Aside0 (impl_hashWord.l0 kq x5_1 t140 (t140.length : Int) x13_1 = some r) ∧ Aside0 (kq ≤ k) ∧ Aside0 (Kd.R (Kd.int .u8) 5 w' w.heap.size (fun _ => True) (.slice Ao5 t140.length co5) t140) ∧ Aside0 (Below w.heap.size w w'))
 case atStart => exact ⟨((a0) % 4294967296), (0), qV, qV, H', ⟨Nat.le_refl _⟩, ⟨qR HO142⟩, ⟨qS0 HB⟩⟩
 case round =>
  clear H'; (obtain ⟨x5_1, x13_1, rfl, rfl, HA, HK1, HO_11, HB⟩ := hrel)
  cases gk with
  | zero => exact absurd HA.out (by simp [impl_hashWord.l0])
  | succ k1 =>
   (have H := HA.out); clear HA; (simp only [impl_hashWord.l0] at H)
   rcases qI H with ⟨c6b0, H⟩ | ⟨c6b0, H⟩
   ·obtain ⟨c7b0, H⟩ := qT H
    (obtain ⟨c8b0, H⟩ := qT H); (have H' := Aside0.mk H); clear H; (have p143 : 0 ≤ (x13_1 : Int) := qO); (have q143 : x13_1 < (t140.length : Int) := qO); (obtain ⟨ad143, e143, hx143_0⟩ := Kd.at_int (Kd.R_reads' HO_11.out).2.2 x13_1 p143 q143)
    cases e143
    (replace p143 := eq_true p143); (replace q143 := eq_true q143)
    go_wp2
    go_roundg k1
    case measure => have := HK1.out; omega
    case rel => exact ⟨(((Go.bits .xor .u32 x5_1 ((rd t140 x13_1) % 4294967296)) * 16777619) % 4294967296), (wrap64 (x13_1 + 1)), qV, qV, H', ⟨by have := HK1.out; omega⟩, ⟨qR HO_11⟩, ⟨qS0 HB⟩⟩
   ·obtain rfl := Option.some.inj H
    go_wp2
    go_ret
    exact ⟨qE, qS0 HB⟩
def impl_shelfFor.f (k : Nat) (a0 : Int) (a1 : ByteArray) (a2 : Int) : Option (Int) := (impl_hashWord.f k a0 a1).bind fun t144 => (if 0 ≤ a2 then (some (Go.bits .and .i64 t144 (wrap64 ((shl .i64 1 a2) - 1)))) else (none))
def impl_shelfFor.T1 : Bool × List (List Nat × List Nat) := (true, [([], []), ([], []), ([0, 1], [0, 1]), ([], []), ([3], [3]), ([4], [4]), ([2, 5], [2, 5]), ([6, 2, 0, 1, 2, 3, 4, 5, 6], [6])])
def impl_shelfFor.B1 : List Nat := [0, 0, 3, 0, 8, 24, 63, 127]
theorem impl_shelfFor.tab1 : rtab .any (opsOf Tryz.f102 1) = impl_shelfFor.T1 := by kernel_rfl
theorem impl_shelfFor.bits1 : waitsOk impl_shelfFor.T1.2 impl_shelfFor.B1 = true := by kernel_rfl
theorem impl_shelfFor.calls (k : Nat) (a0 : Int) (a1 : ByteArray) (a2 : Int) (r : Int) (w : World) (h : impl_shelfFor.f k a0 a1 a2 = some r) :
  Calls Tryz.prog 102 #[.int .i64 a0, .string a1, .int .i64 a2] w fun e w' => e = .returned (.int .i64 r) ∧ Below w.heap.size w w' := by
 (have HB := Aside0.mk (Below.refl w.heap.size w)); (have H : ((impl_hashWord.f k a0 a1).bind fun t144 => (if 0 ≤ a2 then (some (Go.bits .and .i64 t144 (wrap64 ((shl .i64 1 a2) - 1)))) else (none))) = some r := h); clear h; (obtain ⟨t144, A4, H⟩ := qX H); (replace H : (if 0 ≤ a2 then (some (Go.bits .and .i64 t144 (wrap64 ((shl .i64 1 a2) - 1)))) else (none)) = some r := H); (obtain ⟨c5b0, c5b1, H⟩ := qT2 H); (obtain ⟨ji6, hji6⟩ : ∃ j_ : Int, (shl .i64 1 a2) = j_ := ⟨_, rfl⟩); (replace H : (some (Go.bits .and .i64 t144 (wrap64 ((ji6) - 1)))) = some r := by first | (rw [hji6] at H; exact H) | (simp only [hji6] at H ⊢; exact H)); (try rw [hji6] at A4); (have hji6_ : (IntKind.i64.wrap (1 * 2 ^ min a2.toNat 64)) = ji6 := hji6); (have hji6z : a2 ≤ 64 → (IntKind.i64.wrap (1 * 2 ^ a2.toNat)) = ji6 := shl_small hji6); (have hji6u : (IntKind.i64.wrap (2 ^ min a2.toNat 64)) = ji6 := by have h_ := hji6_; rw [Int.one_mul] at h_; exact h_); (have hji6v : a2 ≤ 64 → (IntKind.i64.wrap (2 ^ a2.toNat)) = ji6 := fun hle_ => by have h_ := hji6z hle_; rw [Int.one_mul] at h_; exact h_); (have hji6y : (wrap64 (1 * 2 ^ min a2.toNat 64)) = ji6 := (i64_w _).symm.trans hji6_); (have hji6x : a2 ≤ 64 → (wrap64 (1 * 2 ^ a2.toNat)) = ji6 := fun h_ => (i64_w _).symm.trans (hji6z h_)); (obtain rfl := Option.some.inj H)
 go_enter Tryz.func102, Tryz.ntmps102
 try go_wp2
 replace HB := Aside0.mk (below_drew1 HB.out)
 refine start_ (n := 8) (S := fun w' => True) (ds := []) #[false, false, false, false, false, false, false, false] (by kernel_rfl) rfl rfl trivial (fun hHeld => ?_); refine with_tabW impl_shelfFor.tab1 impl_shelfFor.bits1 (fun HT_ HW_ => ?_)
 generalize w.drew = w7 at HB hHeld ⊢
 refine pure_ (i := 0) (N := some 7) (v := ?_) (a' := ?_) #[true, false, false, false, false, false, false, false] rfl rfl (any_of HT_.out (by kernel_rfl)) (fun _ _ _ h => h) (Or.inl ⟨by rfl, ?_⟩) ?_ ?_
 rotate_left
 ·intro w'
  go_simp
  with_reducible rfl
 rotate_left
 ·exact qPu
 refine pure_ (i := 1) (N := some 8) (v := ?_) (a' := ?_) #[true, true, false, false, false, false, false, false] rfl rfl (any_of HT_.out (by kernel_rfl)) (fun _ _ _ h => h) (Or.inl ⟨by rfl, ?_⟩) ?_ ?_
 rotate_left
 ·intro w'
  go_simp
  with_reducible rfl
 rotate_left
 ·exact qPu
 refine pure_ (i := 3) (N := some 10) (v := ?_) (a' := ?_) #[true, true, false, true, false, false, false, false] rfl rfl (any_of HT_.out (by kernel_rfl)) (fun _ _ _ h => h) (Or.inl ⟨by rfl, ?_⟩) ?_ ?_
 rotate_left
 ·intro w'
  go_simp
  with_reducible rfl
 rotate_left
 ·exact qPu
 refine pure_ (i := 4) (N := some 11) (v := ?_) (a' := ?_) #[true, true, false, true, true, false, false, false] rfl rfl (any_of HT_.out (by kernel_rfl)) (fun _ _ _ h => h) (Or.inl ⟨by rfl, ?_⟩) ?_ ?_
 rotate_left
 ·intro w'
  go_simp
  with_reducible rfl
 rotate_left
 ·exact qPu
 refine pure_ (i := 5) (N := some 12) (v := ?_) (a' := ?_) #[true, true, false, true, true, true, false, false] rfl rfl (any_of HT_.out (by kernel_rfl)) (fun _ _ _ h => h) (Or.inl ⟨by rfl, ?_⟩) ?_ ?_
 rotate_left
 ·intro w'
  go_simp
  with_reducible rfl
 rotate_left
 ·exact qPu
 refine one_ (i := 2) (N := some 9) #[true, true, true, true, true, true, false, false] rfl rfl (one_of HT_.out (by kernel_rfl)) (by decide) (fun K hK => ?_)
 refine goes_ Tryz.func141 (by kernel_rfl) rfl #[.int .i64 a0, .string a1] (by rfl) rfl rfl qL ?_
 with_reducible refine (impl_hashWord.calls k a0 a1 t144 _ A4.out).mono ?_
 rintro e w8 ⟨rfl, hb⟩
 refine ⟨_, rfl, ?_⟩
 (replace HB := Aside0.mk (below_step (qS0 HB) hb)); (try clear hb); (try clear hb2); (try clear hk); (try clear hi)
 refine hK.out _ _ trivial (fun hHeld => ?_)
 clear hK K
 refine norm_ (a' := ?_) ?_ ?_
 rotate_left
 ·show Act.put _ (some 9) _ = _
  exact qPu
 refine pure_ (i := 6) (N := some 13) (v := ?_) (a' := ?_) #[true, true, true, true, true, true, true, false] rfl rfl (any_of HT_.out (by kernel_rfl)) (fun _ _ _ h => h) (Or.inl ⟨by rfl, ?_⟩) ?_ ?_
 rotate_left
 ·intro w'
  go_simp
  with_reducible rfl
 rotate_left
 ·exact qPu
 refine pure_ (i := 7) (N := some 6) (v := ?_) (a' := ?_) #[true, true, true, true, true, true, true, true] rfl rfl (any_of HT_.out (by kernel_rfl)) (fun _ _ _ h => h) (Or.inl ⟨by rfl, ?_⟩) ?_ ?_
 rotate_left
 ·intro w'
  go_simp
  with_reducible rfl
 rotate_left
 ·exact qPu
 refine done_ (done_of HT_.out (by kernel_rfl)) ?_
 try go_wp2
 go_ret
 exact ⟨by first | rfl | (simp [errW_none, errW_some] <;> rfl) | (simp only [← hji6]; first | rfl | (simp [errW_none, errW_some] <;> rfl)) | (simp [*, errW_none, errW_some] <;> rfl), qS0 HB⟩
def impl_areShort.f (a0 : ByteArray) (a1 : ByteArray) : Option (Bool) := if (a0.size : Int) ≤ 32 then (some (decide ((a1.size : Int) ≤ 32))) else (some false)
theorem impl_areShort.calls (a0 : ByteArray) (a1 : ByteArray) (r : Bool) (w : World) (h : impl_areShort.f a0 a1 = some r) :
  Calls Tryz.prog 149 #[.string a0, .string a1] w fun e w' => e = .returned (.bool r) ∧ Drawn0 w w' := by
 (have H : (if (a0.size : Int) ≤ 32 then (some (decide ((a1.size : Int) ≤ 32))) else (some false)) = some r := h); clear h
 rcases qJ H with ⟨c3, H⟩ | ⟨c3, H⟩
 ·have c3b0 : decide ((a0.size : Int) ≤ 32) = true := decide_eq_true c3
  (have c3b1 : decide (a0.size ≤ 32) = true := decide_eq_true (by omega)); clear c3; (obtain rfl := Option.some.inj H)
  go_enter Tryz.func149, Tryz.ntmps149
  go_wp2
  go_ret
  exact qZ
 ·have c3b0 : decide ((a0.size : Int) ≤ 32) = false := decide_eq_false c3
  (have c3b1 : decide (a0.size ≤ 32) = false := decide_eq_false (by omega)); clear c3; (obtain rfl := Option.some.inj H)
  go_enter Tryz.func149, Tryz.ntmps149
  go_wp2
  go_ret
  exact qZ
end Go.Proofs.YtfeikakkfnnaoaaGreatDoor.QA
