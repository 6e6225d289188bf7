/- Part of the proof of the law FnExactSessLeaves: what it uses of the texts that this session and the kit's print wrote. -/
import Derived.Test.YtppopmajclmhjaaGreatDoorZFnExactSessLeavesx0
import Derived.Test.YtppopmajclmhjaaGreatDoorZFnExactSessLeavesx1
import Derived.Test.YtppopmajclmhjaaGreatDoorProg
import Derived.Below
import Derived.Deep.Draws
import Derived.Deep.AppendLies
import Derived.Maps.AppendAt
import Derived.OwnWalk
import Derived.Laws.BytesArg
import Derived.Laws.MakeOwn
import Derived.Laws.OwnMore
import Derived.Deep.OwnRows
import Derived.Tactics
import Derived.Lib.ConvBytes
import Derived.Laws.Slices
import Derived.WalkKit
import Derived.KernelRfl
import Derived.RowKit3
import Derived.Deep.LoopGhost
import Derived.Deep.QuietTactic
import Derived.BigQuiet
import Derived.WideLaws
import Derived.Deep.DeepCutAuto
import Derived.Deep.CutBlock
import Derived.Deep.RegionHeld3
import Derived.Laws.Rows
import Derived.Lib.AppendStr
import Derived.ArgAppend
import Derived.Laws.IdiomCopy
import Derived.OrdersHeld
import Derived.Laws.BitsLemmas
import Derived.RowKit
import Derived.Shelf.Abstract
import Derived.WalkLawsBesides
import Derived.Lib.BufferWrite
import Derived.Laws.CopyOwn
import Derived.Shelf.Strings.FieldsFuncGrows
import Derived.Shelf.Lay
import Derived.Ground.NamesProg
import Derived.Shelf.Strings.MapGrows
import Derived.Lib.SliceRun
import Derived.Laws.StructEq
namespace Go.Proofs.YtppopmajclmhjaaGreatDoor.QB
open Go.RowKit Go.Proofs.YtppopmajclmhjaaGreatDoorW.PrintWords Go.Proofs.YtppopmajclmhjaaGreatDoorW.PrintLast Go.Proofs.YtppopmajclmhjaaGreatDoorW.PrintMore
set_option linter.unusedVariables false
set_option linter.unusedSimpArgs false
theorem qB {w w' : World} {g : Nat} {o : Obj} (h : Aside0 (w.heap[g]? = some o)) (h' : w.heap[g]? = some o → w'.heap[g]? = some o := by intro h_; (with_reducible repeat (first | refine blk_drewN ?_ _ | refine blk_drew ?_ | refine blk_alloc ?_ _)); exact h_) : w'.heap[g]? = some o := h' h.out
theorem qR {p q : Prop} (h : Aside0 p) (h' : p → q := by intro h_; (with_reducible repeat (first | apply Kd.R_alloc | apply Kd.R_drewN | apply Kd.R_drew)); exact h_) : q := h' h.out
theorem qE {p : Prop} (h : p := by first | rfl | (simp [errW_none, errW_some] <;> rfl) | (simp [*, errW_none, errW_some] <;> rfl)) : p := h
theorem qL {p : Prop} (h : p := by (try simp only [List.map_toArray, List.map_cons, List.map_nil]); first | done | rfl | (simp only [List.length_drop, List.length_take]; rfl)) : p := h
theorem qC2 {w : World} {g t : Nat} {c0 c1 : Value} (h : Aside0 (w.heap[g]? = some (.cells #[c0, c1] t (0, 0)))) : w.cell? ⟨g, 0, none⟩ = some c0 ∧ w.cell? ⟨g, 1, none⟩ = some c1 ∧ w.frozen? ⟨g, 0, none⟩ = false ∧ w.frozen? ⟨g, 1, none⟩ = false := ⟨(blk_cell h.out 0).trans rfl, (blk_cell h.out 1).trans rfl, blk_frozen h.out 0, blk_frozen h.out 1⟩
theorem qC4 {w : World} {g t : Nat} {c0 c1 c2 c3 : Value} (h : Aside0 (w.heap[g]? = some (.cells #[c0, c1, c2, c3] t (0, 0)))) : w.cell? ⟨g, 0, none⟩ = some c0 ∧ w.cell? ⟨g, 1, none⟩ = some c1 ∧ w.cell? ⟨g, 2, none⟩ = some c2 ∧ w.cell? ⟨g, 3, none⟩ = some c3 ∧ w.frozen? ⟨g, 0, none⟩ = false ∧ w.frozen? ⟨g, 1, none⟩ = false ∧ w.frozen? ⟨g, 2, none⟩ = false ∧ w.frozen? ⟨g, 3, none⟩ = false := ⟨(blk_cell h.out 0).trans rfl, (blk_cell h.out 1).trans rfl, (blk_cell h.out 2).trans rfl, (blk_cell h.out 3).trans rfl, blk_frozen h.out 0, blk_frozen h.out 1, blk_frozen h.out 2, blk_frozen h.out 3⟩
theorem qC7 {w : World} {g t : Nat} {c0 c1 c2 c3 c4 c5 c6 : Value} (h : Aside0 (w.heap[g]? = some (.cells #[c0, c1, c2, c3, c4, c5, c6] t (0, 0)))) : w.cell? ⟨g, 0, none⟩ = some c0 ∧ w.cell? ⟨g, 1, none⟩ = some c1 ∧ w.cell? ⟨g, 2, none⟩ = some c2 ∧ w.cell? ⟨g, 3, none⟩ = some c3 ∧ w.cell? ⟨g, 4, none⟩ = some c4 ∧ w.cell? ⟨g, 5, none⟩ = some c5 ∧ w.cell? ⟨g, 6, none⟩ = some c6 ∧ w.frozen? ⟨g, 0, none⟩ = false ∧ w.frozen? ⟨g, 1, none⟩ = false ∧ w.frozen? ⟨g, 2, none⟩ = false ∧ w.frozen? ⟨g, 3, none⟩ = false ∧ w.frozen? ⟨g, 4, none⟩ = false ∧ w.frozen? ⟨g, 5, none⟩ = false ∧ w.frozen? ⟨g, 6, none⟩ = false := ⟨(blk_cell h.out 0).trans rfl, (blk_cell h.out 1).trans rfl, (blk_cell h.out 2).trans rfl, (blk_cell h.out 3).trans rfl, (blk_cell h.out 4).trans rfl, (blk_cell h.out 5).trans rfl, (blk_cell h.out 6).trans rfl, blk_frozen h.out 0, blk_frozen h.out 1, blk_frozen h.out 2, blk_frozen h.out 3, blk_frozen h.out 4, blk_frozen h.out 5, blk_frozen h.out 6⟩
theorem qS0 {p  q : Prop} (h : Aside0 p) (h' : p → q := by intro h_ ; repeat (first | (with_reducible first | exact h_ | apply below_alloc | apply pw_below_drewN | apply below_drew1) | exact h_)) : q := h' h.out
theorem qS1 {p r0 q : Prop} (h : Aside0 p) (k0 : Aside0 r0) (h' : p → r0 → q := by intro h_ e0_; repeat (first | (with_reducible first | exact h_ | apply below_alloc | apply pw_below_drewN | apply below_drew1 | refine below_set ?_ e0_) | exact h_)) : q := h' h.out k0.out
theorem qS2 {p r0 r1 q : Prop} (h : Aside0 p) (k0 : Aside0 r0) (k1 : Aside0 r1) (h' : p → r0 → r1 → q := by intro h_ e0_ e1_; repeat (first | (with_reducible first | exact h_ | apply below_alloc | apply pw_below_drewN | apply below_drew1 | refine below_set ?_ e0_ | refine below_set ?_ e1_) | exact h_)) : q := h' h.out k0.out k1.out
theorem qS3 {p r0 r1 r2 q : Prop} (h : Aside0 p) (k0 : Aside0 r0) (k1 : Aside0 r1) (k2 : Aside0 r2) (h' : p → r0 → r1 → r2 → q := by intro h_ e0_ e1_ e2_; repeat (first | (with_reducible first | exact h_ | apply below_alloc | apply pw_below_drewN | apply below_drew1 | refine below_set ?_ e0_ | refine below_set ?_ e1_ | refine below_set ?_ e2_) | exact h_)) : q := h' h.out k0.out k1.out k2.out
theorem qD {w w1 W : World} {g : Nat} {o : Obj} (h : Aside0 (w.heap[g]? = some o)) (hb : Below W.heap.size W w1) (h' : w.heap[g]? = some o → W.heap[g]? = some o := by intro h_; (with_reducible repeat (first | refine blk_drewN ?_ _ | refine blk_drew ?_ | refine blk_alloc ?_ _)); exact h_) : Aside0 (w1.heap[g]? = some o) := ⟨blk_below (h' h.out) hb⟩
theorem qG {g n m : Nat} (hg : g = m) (h : n ≤ m) : Aside0 (n ≤ g) := ⟨hg ▸ h⟩
theorem qN {g n m : Nat} (hg : g = m) (h : n < m) : Aside0 (n ≠ g) := ⟨hg ▸ Nat.ne_of_lt h⟩
theorem qM {g n m : Nat} (hg : g = m) (h : n < m) : Aside0 (g ≠ n) := ⟨hg ▸ Nat.ne_of_gt h⟩
theorem qZ {p q : Prop} (h : p := by first | rfl | (simp; done) | (simp [*]; done)) (h' : q := by repeat (first | exact Drawn0.refl _ | apply Drawn0.step)) : p ∧ q := ⟨h, h'⟩
theorem qV {p : Prop} (h : p := by first | rfl | (simp; done) | (simp [*]; done)) : p := h
theorem qO {p : Prop} [Decidable p] (h : decide p = true := by first | (with_reducible assumption) | assumption) : p := of_decide_eq_true h
theorem qY {p q : Prop} {α : Type} {y e : α} (hy : y = e) (h : p) (h' : y = e → p → q := by intro hy_ H_; first | (rw [hy_]; with_reducible exact H_) | (have H2_ := (Option.bind_some _ _).symm.trans H_; rw [hy_]; with_reducible exact H2_) | (have H2_ := (Option.bind_some _ _).symm.trans H_; with_reducible exact H2_) | with_reducible exact H_ | (rw [hy_]; exact H_) | exact H_) : q := h' hy h
end Go.Proofs.YtppopmajclmhjaaGreatDoor.QB
namespace Go.Proofs.YtppopmajclmhjaaGreatDoor.QB
open Go.RowKit Go.Proofs.YtppopmajclmhjaaGreatDoorW.PrintWords Go.Proofs.YtppopmajclmhjaaGreatDoorW.PrintLast Go.Proofs.YtppopmajclmhjaaGreatDoorW.PrintMore
attribute [local go_sem] max2_int min2_int max_two min_two max_three min_three max_four min_four
set_option linter.unusedVariables false
set_option linter.unusedSimpArgs false
def errW : Option Int → Value
 | none => .nilIface
 | some c => .iface 0 (.int .i64 c)
theorem errW_none : errW none = .nilIface := rfl
theorem errW_some (c : Int) : errW (some c) = .iface 0 (.int .i64 c) := rfl
theorem info3 : (Tryz.prog.info? 3).map (fun i => (i.zero, i.size, i.bytes)) = some (some (.int .i64 0), 1, 8) := by kernel_rfl
theorem info5 : (Tryz.prog.info? 5).map (fun i => (i.zero, i.size, i.bytes)) = some (some (.int .u8 0), 1, 1) := by kernel_rfl
theorem info9 : (Tryz.prog.info? 9).map (fun i => (i.zero, i.size, i.bytes)) = some (some (.string ⟨#[]⟩), 1, 16) := by kernel_rfl
theorem info56 : (Tryz.prog.info? 56).map (fun i => (i.zero, i.size, i.bytes)) = some (some (.agg #[(.int .i64 0), (.string ⟨#[]⟩), (.int .i64 0), (.int .i64 0), (.int .i64 0), (.int .i64 0), (.string ⟨#[]⟩)]), 7, 72) := by kernel_rfl
theorem info79 : (Tryz.prog.info? 79).map (fun i => (i.zero, i.size, i.bytes)) = some (some (.agg #[(.int .i64 0), (.int .i64 0)]), 2, 16) := by kernel_rfl
structure S48 where
 f0 : Int
 f1 : ByteArray
 f2 : Int
 f3 : Int
 f4 : Int
 f5 : Int
 f6 : ByteArray
def z48 : S48 := ⟨(0 : Int), (⟨#[]⟩ : ByteArray), (0 : Int), (0 : Int), (0 : Int), (0 : Int), (⟨#[]⟩ : ByteArray)⟩
def k48 : Kd S48 := Kd.iso (Kd.pair (Kd.int .i64) (Kd.pair Kd.string (Kd.pair (Kd.int .i64) (Kd.pair (Kd.int .i64) (Kd.pair (Kd.int .i64) (Kd.pair (Kd.int .i64) Kd.string)))))) (fun x : S48 => (x.f0, x.f1, x.f2, x.f3, x.f4, x.f5, x.f6))
theorem k48_open {w : World} {x : S48} {cs : List Value} (h : k48.K w x cs) : cs = [.int .i64 x.f0, .string x.f1, .int .i64 x.f2, .int .i64 x.f3, .int .i64 x.f4, .int .i64 x.f5, .string x.f6] := by
 obtain ⟨_, _, rfl, rfl, ⟨_, _, rfl, rfl, ⟨_, _, rfl, rfl, ⟨_, _, rfl, rfl, ⟨_, _, rfl, rfl, ⟨_, _, rfl, rfl, rfl⟩⟩⟩⟩⟩⟩ := h
 exact rfl
def rd_T48 (xs : List S48) (i : Int) : S48 := xs.getD i.toNat z48
theorem at_T48 {w : World} {A : Option Addr} {n : Nat} {xs : List S48} (h : Kd.C k48 w A n xs) (i : Int) (h0 : 0 ≤ i) (h1 : i < n) : ∃ ad , A = some ad ∧ w.cell? (ad.add (i.toNat * 7)) = some (.int .i64 (rd_T48 xs i).f0) ∧ w.cell? ⟨(ad.add (i.toNat * 7)).block, (ad.add (i.toNat * 7)).off + 1, none⟩ = some (.string (rd_T48 xs i).f1) ∧ w.cell? ⟨(ad.add (i.toNat * 7)).block, (ad.add (i.toNat * 7)).off + 2, none⟩ = some (.int .i64 (rd_T48 xs i).f2) ∧ w.cell? ⟨(ad.add (i.toNat * 7)).block, (ad.add (i.toNat * 7)).off + 3, none⟩ = some (.int .i64 (rd_T48 xs i).f3) ∧ w.cell? ⟨(ad.add (i.toNat * 7)).block, (ad.add (i.toNat * 7)).off + 4, none⟩ = some (.int .i64 (rd_T48 xs i).f4) ∧ w.cell? ⟨(ad.add (i.toNat * 7)).block, (ad.add (i.toNat * 7)).off + 5, none⟩ = some (.int .i64 (rd_T48 xs i).f5) ∧ w.cell? ⟨(ad.add (i.toNat * 7)).block, (ad.add (i.toNat * 7)).off + 6, none⟩ = some (.string (rd_T48 xs i).f6) := by
 (obtain ⟨ad, c, e, _, hK, hc0⟩ := Kd.C_get h z48 i h0 h1); (have hc : ∀ j u, c[j]? = some u → w.cell? (ad.add (i.toNat * 7 + j)) = some u := hc0); (obtain rfl := k48_open hK)
 exact ⟨ad, e, hc 0 _ rfl, by rw [← add_field _ _ 1 (by omega)]; exact hc 1 _ rfl, by rw [← add_field _ _ 2 (by omega)]; exact hc 2 _ rfl, by rw [← add_field _ _ 3 (by omega)]; exact hc 3 _ rfl, by rw [← add_field _ _ 4 (by omega)]; exact hc 4 _ rfl, by rw [← add_field _ _ 5 (by omega)]; exact hc 5 _ rfl, by rw [← add_field _ _ 6 (by omega)]; exact hc 6 _ rfl⟩
structure S56 where
 f0 : Int
 f1 : ByteArray
 f2 : Int
 f3 : Int
 f4 : Int
 f5 : Int
 f6 : ByteArray
def z56 : S56 := ⟨(0 : Int), (⟨#[]⟩ : ByteArray), (0 : Int), (0 : Int), (0 : Int), (0 : Int), (⟨#[]⟩ : ByteArray)⟩
def k56 : Kd S56 := Kd.iso (Kd.pair (Kd.int .i64) (Kd.pair Kd.string (Kd.pair (Kd.int .i64) (Kd.pair (Kd.int .i64) (Kd.pair (Kd.int .i64) (Kd.pair (Kd.int .i64) Kd.string)))))) (fun x : S56 => (x.f0, x.f1, x.f2, x.f3, x.f4, x.f5, x.f6))
theorem k56_open {w : World} {x : S56} {cs : List Value} (h : k56.K w x cs) : cs = [.int .i64 x.f0, .string x.f1, .int .i64 x.f2, .int .i64 x.f3, .int .i64 x.f4, .int .i64 x.f5, .string x.f6] := by
 obtain ⟨_, _, rfl, rfl, ⟨_, _, rfl, rfl, ⟨_, _, rfl, rfl, ⟨_, _, rfl, rfl, ⟨_, _, rfl, rfl, ⟨_, _, rfl, rfl, rfl⟩⟩⟩⟩⟩⟩ := h
 exact rfl
theorem k56_openM {w : World} {base : Nat} {ok : Nat → Prop} {x : S56} {cs : List Value} (h : k56.M w base ok x cs) : cs = [.int .i64 x.f0, .string x.f1, .int .i64 x.f2, .int .i64 x.f3, .int .i64 x.f4, .int .i64 x.f5, .string x.f6] := by
 obtain ⟨_, _, rfl, rfl, ⟨_, _, rfl, rfl, ⟨_, _, rfl, rfl, ⟨_, _, rfl, rfl, ⟨_, _, rfl, rfl, ⟨_, _, rfl, rfl, rfl⟩⟩⟩⟩⟩⟩ := h
 exact rfl
theorem k56_mkM (w : World) (base : Nat) (ok : Nat → Prop) (x : S56)  : k56.M w base ok x [.int .i64 x.f0, .string x.f1, .int .i64 x.f2, .int .i64 x.f3, .int .i64 x.f4, .int .i64 x.f5, .string x.f6] := ⟨[.int .i64 x.f0], [.string x.f1, .int .i64 x.f2, .int .i64 x.f3, .int .i64 x.f4, .int .i64 x.f5, .string x.f6], rfl, rfl, ⟨[.string x.f1], [.int .i64 x.f2, .int .i64 x.f3, .int .i64 x.f4, .int .i64 x.f5, .string x.f6], rfl, rfl, ⟨[.int .i64 x.f2], [.int .i64 x.f3, .int .i64 x.f4, .int .i64 x.f5, .string x.f6], rfl, rfl, ⟨[.int .i64 x.f3], [.int .i64 x.f4, .int .i64 x.f5, .string x.f6], rfl, rfl, ⟨[.int .i64 x.f4], [.int .i64 x.f5, .string x.f6], rfl, rfl, ⟨[.int .i64 x.f5], [.string x.f6], rfl, rfl, rfl⟩⟩⟩⟩⟩⟩
def rd_T56 (xs : List S56) (i : Int) : S56 := xs.getD i.toNat z56
theorem at_T56 {w : World} {A : Option Addr} {n : Nat} {xs : List S56} (h : Kd.C k56 w A n xs) (i : Int) (h0 : 0 ≤ i) (h1 : i < n) : ∃ ad , A = some ad ∧ w.cell? (ad.add (i.toNat * 7)) = some (.int .i64 (rd_T56 xs i).f0) ∧ w.cell? ⟨(ad.add (i.toNat * 7)).block, (ad.add (i.toNat * 7)).off + 1, none⟩ = some (.string (rd_T56 xs i).f1) ∧ w.cell? ⟨(ad.add (i.toNat * 7)).block, (ad.add (i.toNat * 7)).off + 2, none⟩ = some (.int .i64 (rd_T56 xs i).f2) ∧ w.cell? ⟨(ad.add (i.toNat * 7)).block, (ad.add (i.toNat * 7)).off + 3, none⟩ = some (.int .i64 (rd_T56 xs i).f3) ∧ w.cell? ⟨(ad.add (i.toNat * 7)).block, (ad.add (i.toNat * 7)).off + 4, none⟩ = some (.int .i64 (rd_T56 xs i).f4) ∧ w.cell? ⟨(ad.add (i.toNat * 7)).block, (ad.add (i.toNat * 7)).off + 5, none⟩ = some (.int .i64 (rd_T56 xs i).f5) ∧ w.cell? ⟨(ad.add (i.toNat * 7)).block, (ad.add (i.toNat * 7)).off + 6, none⟩ = some (.string (rd_T56 xs i).f6) := by
 (obtain ⟨ad, c, e, _, hK, hc0⟩ := Kd.C_get h z56 i h0 h1); (have hc : ∀ j u, c[j]? = some u → w.cell? (ad.add (i.toNat * 7 + j)) = some u := hc0); (obtain rfl := k56_open hK)
 exact ⟨ad, e, hc 0 _ rfl, by rw [← add_field _ _ 1 (by omega)]; exact hc 1 _ rfl, by rw [← add_field _ _ 2 (by omega)]; exact hc 2 _ rfl, by rw [← add_field _ _ 3 (by omega)]; exact hc 3 _ rfl, by rw [← add_field _ _ 4 (by omega)]; exact hc 4 _ rfl, by rw [← add_field _ _ 5 (by omega)]; exact hc 5 _ rfl, by rw [← add_field _ _ 6 (by omega)]; exact hc 6 _ rfl⟩
structure S79 where
 f0 : Int
 f1 : Int
def z79 : S79 := ⟨(0 : Int), (0 : Int)⟩
def k79 : Kd S79 := Kd.iso (Kd.pair (Kd.int .i64) (Kd.int .i64)) (fun x : S79 => (x.f0, x.f1))
theorem k79_open {w : World} {x : S79} {cs : List Value} (h : k79.K w x cs) : cs = [.int .i64 x.f0, .int .i64 x.f1] := by
 obtain ⟨_, _, rfl, rfl, rfl⟩ := h
 exact rfl
theorem k79_mkM (w : World) (base : Nat) (ok : Nat → Prop) (x : S79)  : k79.M w base ok x [.int .i64 x.f0, .int .i64 x.f1] := ⟨[.int .i64 x.f0], [.int .i64 x.f1], rfl, rfl, rfl⟩
def rd_T79 (xs : List S79) (i : Int) : S79 := xs.getD i.toNat z79
theorem at_T79 {w : World} {A : Option Addr} {n : Nat} {xs : List S79} (h : Kd.C k79 w A n xs) (i : Int) (h0 : 0 ≤ i) (h1 : i < n) : ∃ ad , A = some ad ∧ w.cell? (ad.add (i.toNat * 2)) = some (.int .i64 (rd_T79 xs i).f0) ∧ w.cell? ⟨(ad.add (i.toNat * 2)).block, (ad.add (i.toNat * 2)).off + 1, none⟩ = some (.int .i64 (rd_T79 xs i).f1) := by
 (obtain ⟨ad, c, e, _, hK, hc0⟩ := Kd.C_get h z79 i h0 h1); (have hc : ∀ j u, c[j]? = some u → w.cell? (ad.add (i.toNat * 2 + j)) = some u := hc0); (obtain rfl := k79_open hK)
 exact ⟨ad, e, hc 0 _ rfl, by rw [← add_field _ _ 1 (by omega)]; exact hc 1 _ rfl⟩
structure S23 where
 f0 : Int
 f1 : Int
 f2 : Int
 f3 : Int
def k23 : Kd S23 := Kd.iso (Kd.pair (Kd.int .i64) (Kd.pair (Kd.int .i64) (Kd.pair (Kd.int .i64) (Kd.int .i64)))) (fun x : S23 => (x.f0, x.f1, x.f2, x.f3))
def laws_szReq.f (a0_0 : Int) (a0_1 : ByteArray) (a0_2 : Int) (a0_3 : Int) (a0_4 : Int) (a0_5 : Int) (a0_6 : ByteArray) (a1 : Int) : Option (Int) := if (wrap64 (a1 - (a0_1.size : Int))) < 0 then (some (-1)) else (if (wrap64 ((wrap64 (a1 - (a0_1.size : Int))) - (a0_6.size : Int))) < 0 then (some (-1)) else (some (wrap64 ((wrap64 (a1 - (a0_1.size : Int))) - (a0_6.size : Int)))))
set_option maxHeartbeats 8000000 in
set_option maxRecDepth 100000 in
theorem laws_szReq.calls (a0_0 : Int) (a0_1 : ByteArray) (a0_2 : Int) (a0_3 : Int) (a0_4 : Int) (a0_5 : Int) (a0_6 : ByteArray) (a1 : Int) (r : Int) (w : World) (h : laws_szReq.f a0_0 a0_1 a0_2 a0_3 a0_4 a0_5 a0_6 a1 = some r) :
  Calls Tryz.prog 24 #[.agg #[.int .i64 a0_0, .string a0_1, .int .i64 a0_2, .int .i64 a0_3, .int .i64 a0_4, .int .i64 a0_5, .string a0_6], .int .i64 a1] w fun e w' => e = .returned (.int .i64 r) ∧ Below w.heap.size w w' := by
 (have hu48 := Tryz.underlying48); (have HB := Aside0.mk (Below.refl w.heap.size w)); (have H : (if (wrap64 (a1 - (a0_1.size : Int))) < 0 then (some (-1)) else (if (wrap64 ((wrap64 (a1 - (a0_1.size : Int))) - (a0_6.size : Int))) < 0 then (some (-1)) else (some (wrap64 ((wrap64 (a1 - (a0_1.size : Int))) - (a0_6.size : Int)))))) = some r := h); clear h
 by_cases c3 : (wrap64 (a1 - (a0_1.size : Int))) < 0
 ·rw [if_pos c3] at H
  (have c3b0 : decide ((wrap64 (a1 - (a0_1.size : Int))) < 0) = true := decide_eq_true c3); clear c3; (obtain rfl := Option.some.inj H)
  go_enter Tryz.func24, Tryz.ntmps24
  go_wp2_with (first | ((with_reducible refine gate_dst (N := 2) rfl ?_); refine box_event ?hg (N := 2) ?hd (cs := #[.int .i64 a0_0, .string a0_1, .int .i64 a0_2, .int .i64 a0_3, .int .i64 a0_4, .int .i64 a0_5, .string a0_6]) (t := 48) ?hr ?_; (case hd => rfl); (case hg => rfl); (case hr => first | (go_simp; done) | (go_simp; rfl)); intro gb101 hg w4 hbox hb; have BK101 := Aside0.mk (hbox); have GW101 := qG hg (below_size (qS0 HB)); have GE101 := qG hg (below_size (qS0 HB)); replace HB := Aside0.mk (below_step (qS0 HB) hb); clear hb hbox hg; obtain ⟨hcz5_0, hcz5_1, hcz5_2, hcz5_3, hcz5_4, hcz5_5, hcz5_6, hfz5_0, hfz5_1, hfz5_2, hfz5_3, hfz5_4, hfz5_5, hfz5_6⟩ := qC7 BK101))
  go_ret
  exact ⟨qE, qS1 HB GE101⟩
 ·rw [if_neg c3] at H
  (have c3b0 : decide ((wrap64 (a1 - (a0_1.size : Int))) < 0) = false := decide_eq_false c3); clear c3
  by_cases c6 : (wrap64 ((wrap64 (a1 - (a0_1.size : Int))) - (a0_6.size : Int))) < 0
  ·rw [if_pos c6] at H
   (have c6b0 : decide ((wrap64 ((wrap64 (a1 - (a0_1.size : Int))) - (a0_6.size : Int))) < 0) = true := decide_eq_true c6); clear c6; (obtain rfl := Option.some.inj H)
   go_enter Tryz.func24, Tryz.ntmps24
   go_wp2_with (first | ((with_reducible refine gate_dst (N := 2) rfl ?_); refine box_event ?hg (N := 2) ?hd (cs := #[.int .i64 a0_0, .string a0_1, .int .i64 a0_2, .int .i64 a0_3, .int .i64 a0_4, .int .i64 a0_5, .string a0_6]) (t := 48) ?hr ?_; (case hd => rfl); (case hg => rfl); (case hr => first | (go_simp; done) | (go_simp; rfl)); intro gb101 hg w7 hbox hb; have BK101 := Aside0.mk (hbox); have GW101 := qG hg (below_size (qS0 HB)); have GE101 := qG hg (below_size (qS0 HB)); replace HB := Aside0.mk (below_step (qS0 HB) hb); clear hb hbox hg; obtain ⟨hcz8_0, hcz8_1, hcz8_2, hcz8_3, hcz8_4, hcz8_5, hcz8_6, hfz8_0, hfz8_1, hfz8_2, hfz8_3, hfz8_4, hfz8_5, hfz8_6⟩ := qC7 BK101))
   go_ret
   exact ⟨qE, qS1 HB GE101⟩
  ·rw [if_neg c6] at H
   (have c6b0 : decide ((wrap64 ((wrap64 (a1 - (a0_1.size : Int))) - (a0_6.size : Int))) < 0) = false := decide_eq_false c6); clear c6; (obtain rfl := Option.some.inj H)
   go_enter Tryz.func24, Tryz.ntmps24
   go_wp2_with (first | ((with_reducible refine gate_dst (N := 2) rfl ?_); refine box_event ?hg (N := 2) ?hd (cs := #[.int .i64 a0_0, .string a0_1, .int .i64 a0_2, .int .i64 a0_3, .int .i64 a0_4, .int .i64 a0_5, .string a0_6]) (t := 48) ?hr ?_; (case hd => rfl); (case hg => rfl); (case hr => first | (go_simp; done) | (go_simp; rfl)); intro gb101 hg w9 hbox hb; have BK101 := Aside0.mk (hbox); have GW101 := qG hg (below_size (qS0 HB)); have GE101 := qG hg (below_size (qS0 HB)); replace HB := Aside0.mk (below_step (qS0 HB) hb); clear hb hbox hg; obtain ⟨hcz10_0, hcz10_1, hcz10_2, hcz10_3, hcz10_4, hcz10_5, hcz10_6, hfz10_0, hfz10_1, hfz10_2, hfz10_3, hfz10_4, hfz10_5, hfz10_6⟩ := qC7 BK101))
   go_ret
   exact ⟨qE, qS1 HB GE101⟩
def laws_szReqS.l0 : Nat → List (S48) → Int → Int → Option (Int)
 | 0, _, _, _ => none
 | k + 1, x0, x1, x5 => if x5 < (x0.length : Int) then (if 0 ≤ x5 then ((laws_szReq.f ((rd_T48 x0 x5).f0) ((rd_T48 x0 x5).f1) ((rd_T48 x0 x5).f2) ((rd_T48 x0 x5).f3) ((rd_T48 x0 x5).f4) ((rd_T48 x0 x5).f5) ((rd_T48 x0 x5).f6) x1).bind fun t103 => (if t103 < 0 then (some (-1)) else (laws_szReqS.l0 k x0 t103 (wrap64 (x5 + 1))))) else (none)) else (some x1)
def laws_szReqS.f (k : Nat) (l0 : List (S48)) (a1 : Int) : Option (Int) := if (wrap64 (a1 - (l0.length : Int))) < 0 then (some (-1)) else (laws_szReqS.l0 k l0 (wrap64 (a1 - (l0.length : Int))) 0)
set_option maxHeartbeats 8000000 in
set_option maxRecDepth 100000 in
theorem laws_szReqS.calls (k : Nat) (A0 : Option Addr) (c0 : Nat) (l0 : List (S48)) (a1 : Int) (r : Int) (w : World) (hr0 : Kd.C k48 w A0 l0.length l0) (hc0 : l0.length ≤ c0) (h : laws_szReqS.f k l0 a1 = some r) :
  Calls Tryz.prog 6 #[.slice A0 l0.length c0, .int .i64 a1] w fun e w' => e = .returned (.int .i64 r) ∧ Below w.heap.size w w' := by
 (have hu48 := Tryz.underlying48); (have HR0 := Aside0.mk hr0); (have HC0 := Aside0.mk hc0); clear hr0 hc0; (have HB := Aside0.mk (Below.refl w.heap.size w)); (have H : (if (wrap64 (a1 - (l0.length : Int))) < 0 then (some (-1)) else (laws_szReqS.l0 k l0 (wrap64 (a1 - (l0.length : Int))) 0)) = some r := h); clear h
 by_cases c3 : (wrap64 (a1 - (l0.length : Int))) < 0
 ·rw [if_pos c3] at H
  (have c3b0 : decide ((wrap64 (a1 - (l0.length : Int))) < 0) = true := decide_eq_true c3); clear c3; (obtain rfl := Option.some.inj H)
  go_enter Tryz.func6, Tryz.ntmps6
  go_wp2
  go_ret
  exact ⟨qE, qS0 HB⟩
 ·rw [if_neg c3] at H
  (have c3b0 : decide ((wrap64 (a1 - (l0.length : Int))) < 0) = false := decide_eq_false c3); clear c3; (have H' := Aside0.mk H); clear H
  go_enter Tryz.func6, Tryz.ntmps6
  go_wp2
  go_loopg [1, 5] k (fun kq v1 v5 w' => ∃ (x1_1 : Int) (x5_1 : Int), v1 = .int .i64 x1_1 ∧ v5 = .int .i64 x5_1 ∧ Aside0 (laws_szReqS.l0 kq l0 x1_1 x5_1 = some r) ∧ Aside0 (kq ≤ k) ∧ Aside0 (Below w.heap.size w w'))
  case atStart => exact ⟨(wrap64 (a1 - (l0.length : Int))), (0), qV, qV, H', ⟨Nat.le_refl _⟩, ⟨qS0 HB⟩⟩
  case round =>
   clear H'; (try clear p2); (try clear c3); (try clear c3b0); (obtain ⟨x1_1, x5_1, rfl, rfl, HA, HK1, HB⟩ := hrel)
   cases gk with
   | zero => exact absurd HA.out (by simp [laws_szReqS.l0])
   | succ k1 =>
    (have H := HA.out); clear HA; (simp only [laws_szReqS.l0] at H)
    by_cases c4 : x5_1 < (l0.length : Int)
    ·rw [if_pos c4] at H
     (have c4b0 : decide (x5_1 < (l0.length : Int)) = true := decide_eq_true c4); clear c4
     by_cases c5 : 0 ≤ x5_1
     ·rw [if_pos c5] at H
      (have c5b0 : decide (0 ≤ x5_1) = true := decide_eq_true c5); clear c5; (replace H := Option.bind_eq_some_iff.mp H); (obtain ⟨t103, A60, H⟩ := H)
      try dsimp only at H
      (have A6 := Aside0.mk A60); clear A60
      by_cases c7 : t103 < 0
      ·rw [if_pos c7] at H
       (have c7b0 : decide (t103 < 0) = true := decide_eq_true c7); clear c7; (obtain rfl := Option.some.inj H); (have p102 : 0 ≤ (x5_1 : Int) := qO); (have q102 : x5_1 < (l0.length : Int) := qO); (obtain ⟨ad102, e102, hx102_0, hx102_1, hx102_2, hx102_3, hx102_4, hx102_5, hx102_6⟩ := at_T48 HR0.out x5_1 p102 q102)
       cases e102
       (replace hx102_0 := (HB.out.cell (World.block_lt_of_cell? w _ hx102_0)).trans hx102_0); (replace hx102_1 := (HB.out.cell (World.block_lt_of_cell? w _ hx102_1)).trans hx102_1); (replace hx102_2 := (HB.out.cell (World.block_lt_of_cell? w _ hx102_2)).trans hx102_2); (replace hx102_3 := (HB.out.cell (World.block_lt_of_cell? w _ hx102_3)).trans hx102_3); (replace hx102_4 := (HB.out.cell (World.block_lt_of_cell? w _ hx102_4)).trans hx102_4); (replace hx102_5 := (HB.out.cell (World.block_lt_of_cell? w _ hx102_5)).trans hx102_5); (replace hx102_6 := (HB.out.cell (World.block_lt_of_cell? w _ hx102_6)).trans hx102_6); (replace p102 := eq_true p102); (replace q102 := eq_true q102)
       go_wp2_with (first | ((with_reducible refine gate_callee (f := 24) rfl ?_); refine goesL_ (some 23) rfl rfl Tryz.func24 (by kernel_rfl) rfl #[.agg #[.int .i64 ((rd_T48 l0 x5_1).f0), .string ((rd_T48 l0 x5_1).f1), .int .i64 ((rd_T48 l0 x5_1).f2), .int .i64 ((rd_T48 l0 x5_1).f3), .int .i64 ((rd_T48 l0 x5_1).f4), .int .i64 ((rd_T48 l0 x5_1).f5), .string ((rd_T48 l0 x5_1).f6)], .int .i64 x1_1] rfl qL ?_; (with_reducible refine (laws_szReq.calls ((rd_T48 l0 x5_1).f0) ((rd_T48 l0 x5_1).f1) ((rd_T48 l0 x5_1).f2) ((rd_T48 l0 x5_1).f3) ((rd_T48 l0 x5_1).f4) ((rd_T48 l0 x5_1).f5) ((rd_T48 l0 x5_1).f6) x1_1 t103 _ A6.out).mono ?_); rintro e w8 ⟨rfl, hb⟩; refine ⟨_, rfl, ?_⟩; replace HB := Aside0.mk (below_step (qS0 HB) hb); (try clear hb); (try clear hb2); (try clear hk); (try clear hi)))
       go_ret
       exact ⟨qE, qS0 HB⟩
      ·rw [if_neg c7] at H
       (have c7b0 : decide (t103 < 0) = false := decide_eq_false c7); clear c7; (have H' := Aside0.mk H); clear H; (have p102 : 0 ≤ (x5_1 : Int) := qO); (have q102 : x5_1 < (l0.length : Int) := qO); (obtain ⟨ad102, e102, hx102_0, hx102_1, hx102_2, hx102_3, hx102_4, hx102_5, hx102_6⟩ := at_T48 HR0.out x5_1 p102 q102)
       cases e102
       (replace hx102_0 := (HB.out.cell (World.block_lt_of_cell? w _ hx102_0)).trans hx102_0); (replace hx102_1 := (HB.out.cell (World.block_lt_of_cell? w _ hx102_1)).trans hx102_1); (replace hx102_2 := (HB.out.cell (World.block_lt_of_cell? w _ hx102_2)).trans hx102_2); (replace hx102_3 := (HB.out.cell (World.block_lt_of_cell? w _ hx102_3)).trans hx102_3); (replace hx102_4 := (HB.out.cell (World.block_lt_of_cell? w _ hx102_4)).trans hx102_4); (replace hx102_5 := (HB.out.cell (World.block_lt_of_cell? w _ hx102_5)).trans hx102_5); (replace hx102_6 := (HB.out.cell (World.block_lt_of_cell? w _ hx102_6)).trans hx102_6); (replace p102 := eq_true p102); (replace q102 := eq_true q102)
       go_wp2_with (first | ((with_reducible refine gate_callee (f := 24) rfl ?_); refine goesL_ (some 23) rfl rfl Tryz.func24 (by kernel_rfl) rfl #[.agg #[.int .i64 ((rd_T48 l0 x5_1).f0), .string ((rd_T48 l0 x5_1).f1), .int .i64 ((rd_T48 l0 x5_1).f2), .int .i64 ((rd_T48 l0 x5_1).f3), .int .i64 ((rd_T48 l0 x5_1).f4), .int .i64 ((rd_T48 l0 x5_1).f5), .string ((rd_T48 l0 x5_1).f6)], .int .i64 x1_1] rfl qL ?_; (with_reducible refine (laws_szReq.calls ((rd_T48 l0 x5_1).f0) ((rd_T48 l0 x5_1).f1) ((rd_T48 l0 x5_1).f2) ((rd_T48 l0 x5_1).f3) ((rd_T48 l0 x5_1).f4) ((rd_T48 l0 x5_1).f5) ((rd_T48 l0 x5_1).f6) x1_1 t103 _ A6.out).mono ?_); rintro e w9 ⟨rfl, hb⟩; refine ⟨_, rfl, ?_⟩; replace HB := Aside0.mk (below_step (qS0 HB) hb); (try clear hb); (try clear hb2); (try clear hk); (try clear hi)))
       go_roundg k1
       case measure => have := HK1.out; omega
       case rel => exact ⟨(t103), (wrap64 (x5_1 + 1)), qV, qV, H', ⟨by have := HK1.out; omega⟩, ⟨qS0 HB⟩⟩
     ·rw [if_neg c5] at H
      exact absurd H (by simp)
    ·rw [if_neg c4] at H
     (have c4b0 : decide (x5_1 < (l0.length : Int)) = false := decide_eq_false c4); clear c4; (obtain rfl := Option.some.inj H)
     go_wp2
     go_ret
     exact ⟨qE, qS0 HB⟩
def spec_l02Pow.l0 : Nat → Int → Int → Option (Int)
 | 0, _, _ => none
 | k + 1, x0, x3 => if x0 > 0 then (spec_l02Pow.l0 k (wrap64 (x0 - 1)) (wrap64 (2 * x3))) else (some x3)
def spec_l02Pow.f (k : Nat) (a0 : Int) : Option (Int) := spec_l02Pow.l0 k a0 1
set_option maxHeartbeats 8000000 in
set_option maxRecDepth 100000 in
theorem spec_l02Pow.calls (k : Nat) (a0 : Int) (r : Int) (w : World) (h : spec_l02Pow.f k a0 = some r) :
  Calls Tryz.prog 28 #[.int .i64 a0] w fun e w' => e = .returned (.int .i64 r) ∧ Drawn0 w w' := by
 (have H : (spec_l02Pow.l0 k a0 1) = some r := h); clear h; (have H' := Aside0.mk H); clear H
 go_enter Tryz.func28, Tryz.ntmps28
 go_wp2
 go_loopg [0, 3] k (fun kq v0 v3 w' => ∃ (x0_1 : Int) (x3_1 : Int), v0 = .int .i64 x0_1 ∧ v3 = .int .i64 x3_1 ∧ Aside0 (spec_l02Pow.l0 kq x0_1 x3_1 = some r) ∧ Aside0 (kq ≤ k) ∧ Drawn0 w w')
 case atStart => exact ⟨(a0), (1), qV, qV, H', ⟨Nat.le_refl _⟩, by repeat (first | exact Drawn0.refl _ | apply Drawn0.step)⟩
 case round =>
  clear H'; (obtain ⟨x0_1, x3_1, rfl, rfl, HA, HK1, ⟨m1, rfl⟩⟩ := hrel)
  cases gk with
  | zero => exact absurd HA.out (by simp [spec_l02Pow.l0])
  | succ k1 =>
   (have H := HA.out); clear HA; (simp only [spec_l02Pow.l0] at H)
   by_cases c2 : x0_1 > 0
   ·rw [if_pos c2] at H
    (have c2b0 : decide (0 < x0_1) = true := decide_eq_true c2); clear c2; (have H' := Aside0.mk H); clear H
    go_wp2
    go_roundg k1
    case measure => have := HK1.out; omega
    case rel => exact ⟨(wrap64 (x0_1 - 1)), (wrap64 (2 * x3_1)), qV, qV, H', ⟨by have := HK1.out; omega⟩, by repeat (first | exact Drawn0.refl _ | apply Drawn0.step)⟩
   ·rw [if_neg c2] at H
    (have c2b0 : decide (0 < x0_1) = false := decide_eq_false c2); clear c2; (obtain rfl := Option.some.inj H)
    go_wp2
    go_ret
    exact qZ
def spec_l16Log.f (a0 : Int) : Option (Bool) := if a0 ≥ 2 then (some (decide (a0 ≤ 6))) else (some false)
set_option maxHeartbeats 8000000 in
set_option maxRecDepth 100000 in
theorem spec_l16Log.calls (a0 : Int) (r : Bool) (w : World) (h : spec_l16Log.f a0 = some r) :
  Calls Tryz.prog 81 #[.int .i64 a0] w fun e w' => e = .returned (.bool r) ∧ Drawn0 w w' := by
 (have H : (if a0 ≥ 2 then (some (decide (a0 ≤ 6))) else (some false)) = some r := h); clear h
 by_cases c2 : a0 ≥ 2
 ·rw [if_pos c2] at H
  (have c2b0 : decide (2 ≤ a0) = true := decide_eq_true c2); clear c2; (obtain rfl := Option.some.inj H)
  go_enter Tryz.func81, Tryz.ntmps81
  go_wp2
  go_ret
  exact qZ
 ·rw [if_neg c2] at H
  (have c2b0 : decide (2 ≤ a0) = false := decide_eq_false c2); clear c2; (obtain rfl := Option.some.inj H)
  go_enter Tryz.func81, Tryz.ntmps81
  go_wp2
  go_ret
  exact qZ
def spec_ConfOk.f (a0_0 : Int) (a0_1 : Int) (a0_2 : Int) (a0_3 : Int) : Option (Bool) := if a0_0 ≥ 0 then (if a0_0 ≤ 4294967295 then ((spec_l16Log.f a0_1).bind fun t105 => (if t105 = true then (if a0_2 ≥ 0 then (if a0_2 ≤ 64 then (if a0_3 ≥ 1 then (some (decide (a0_3 ≤ 64))) else (some false)) else (some false)) else (some false)) else (some false))) else (some false)) else (some false)
set_option maxHeartbeats 8000000 in
set_option maxRecDepth 100000 in
theorem spec_ConfOk.calls (a0_0 : Int) (a0_1 : Int) (a0_2 : Int) (a0_3 : Int) (r : Bool) (w : World) (h : spec_ConfOk.f a0_0 a0_1 a0_2 a0_3 = some r) :
  Calls Tryz.prog 53 #[.agg #[.int .i64 a0_0, .int .i64 a0_1, .int .i64 a0_2, .int .i64 a0_3]] w fun e w' => e = .returned (.bool r) ∧ Below w.heap.size w w' := by
 (have hu29 := Tryz.underlying29); (have HB := Aside0.mk (Below.refl w.heap.size w)); (have H : (if a0_0 ≥ 0 then (if a0_0 ≤ 4294967295 then ((spec_l16Log.f a0_1).bind fun t105 => (if t105 = true then (if a0_2 ≥ 0 then (if a0_2 ≤ 64 then (if a0_3 ≥ 1 then (some (decide (a0_3 ≤ 64))) else (some false)) else (some false)) else (some false)) else (some false))) else (some false)) else (some false)) = some r := h); clear h
 by_cases c2 : a0_0 ≥ 0
 ·rw [if_pos c2] at H
  (have c2b0 : decide (0 ≤ a0_0) = true := decide_eq_true c2); clear c2
  by_cases c3 : a0_0 ≤ 4294967295
  ·rw [if_pos c3] at H
   (have c3b0 : decide (a0_0 ≤ 4294967295) = true := decide_eq_true c3); clear c3; (replace H := Option.bind_eq_some_iff.mp H); (obtain ⟨t105, A40, H⟩ := H)
   try dsimp only at H
   (have A4 := Aside0.mk A40); clear A40
   by_cases c5 : t105 = true
   ·subst c5
    (have H1 : (if a0_2 ≥ 0 then (if a0_2 ≤ 64 then (if a0_3 ≥ 1 then (some (decide (a0_3 ≤ 64))) else (some false)) else (some false)) else (some false)) = some r := by rw [if_pos rfl] at H; exact H); clear H; (have H := H1); clear H1
    by_cases c6 : a0_2 ≥ 0
    ·rw [if_pos c6] at H
     (have c6b0 : decide (0 ≤ a0_2) = true := decide_eq_true c6); clear c6
     by_cases c7 : a0_2 ≤ 64
     ·rw [if_pos c7] at H
      (have c7b0 : decide (a0_2 ≤ 64) = true := decide_eq_true c7); clear c7
      by_cases c8 : a0_3 ≥ 1
      ·rw [if_pos c8] at H
       (have c8b0 : decide (1 ≤ a0_3) = true := decide_eq_true c8); clear c8; (obtain rfl := Option.some.inj H)
       go_enter Tryz.func53, Tryz.ntmps53
       go_wp2_with (first | ((with_reducible refine gate_dst (N := 1) rfl ?_); refine box_event ?hg (N := 1) ?hd (cs := #[.int .i64 a0_0, .int .i64 a0_1, .int .i64 a0_2, .int .i64 a0_3]) (t := 29) ?hr ?_; (case hd => rfl); (case hg => rfl); (case hr => first | (go_simp; done) | (go_simp; rfl)); intro gb104 hg w9 hbox hb; have BK104 := Aside0.mk (hbox); have GW104 := qG hg (below_size (qS0 HB)); have GE104 := qG hg (below_size (qS0 HB)); replace HB := Aside0.mk (below_step (qS0 HB) hb); clear hb hbox hg; obtain ⟨hcz10_0, hcz10_1, hcz10_2, hcz10_3, hfz10_0, hfz10_1, hfz10_2, hfz10_3⟩ := qC4 BK104) | (go_at_call 81; (with_reducible refine (spec_l16Log.calls a0_1 true _ A4.out).mono ?_); rintro e w' ⟨rfl, ⟨nd, rfl⟩⟩))
       go_ret
       exact ⟨qE, qS1 HB GE104⟩
      ·rw [if_neg c8] at H
       (have c8b0 : decide (1 ≤ a0_3) = false := decide_eq_false c8); clear c8; (obtain rfl := Option.some.inj H)
       go_enter Tryz.func53, Tryz.ntmps53
       go_wp2_with (first | ((with_reducible refine gate_dst (N := 1) rfl ?_); refine box_event ?hg (N := 1) ?hd (cs := #[.int .i64 a0_0, .int .i64 a0_1, .int .i64 a0_2, .int .i64 a0_3]) (t := 29) ?hr ?_; (case hd => rfl); (case hg => rfl); (case hr => first | (go_simp; done) | (go_simp; rfl)); intro gb104 hg w11 hbox hb; have BK104 := Aside0.mk (hbox); have GW104 := qG hg (below_size (qS0 HB)); have GE104 := qG hg (below_size (qS0 HB)); replace HB := Aside0.mk (below_step (qS0 HB) hb); clear hb hbox hg; obtain ⟨hcz12_0, hcz12_1, hcz12_2, hcz12_3, hfz12_0, hfz12_1, hfz12_2, hfz12_3⟩ := qC4 BK104) | (go_at_call 81; (with_reducible refine (spec_l16Log.calls a0_1 true _ A4.out).mono ?_); rintro e w' ⟨rfl, ⟨nd, rfl⟩⟩))
       go_ret
       exact ⟨qE, qS1 HB GE104⟩
     ·rw [if_neg c7] at H
      (have c7b0 : decide (a0_2 ≤ 64) = false := decide_eq_false c7); clear c7; (obtain rfl := Option.some.inj H)
      go_enter Tryz.func53, Tryz.ntmps53
      go_wp2_with (first | ((with_reducible refine gate_dst (N := 1) rfl ?_); refine box_event ?hg (N := 1) ?hd (cs := #[.int .i64 a0_0, .int .i64 a0_1, .int .i64 a0_2, .int .i64 a0_3]) (t := 29) ?hr ?_; (case hd => rfl); (case hg => rfl); (case hr => first | (go_simp; done) | (go_simp; rfl)); intro gb104 hg w13 hbox hb; have BK104 := Aside0.mk (hbox); have GW104 := qG hg (below_size (qS0 HB)); have GE104 := qG hg (below_size (qS0 HB)); replace HB := Aside0.mk (below_step (qS0 HB) hb); clear hb hbox hg; obtain ⟨hcz14_0, hcz14_1, hcz14_2, hcz14_3, hfz14_0, hfz14_1, hfz14_2, hfz14_3⟩ := qC4 BK104) | (go_at_call 81; (with_reducible refine (spec_l16Log.calls a0_1 true _ A4.out).mono ?_); rintro e w' ⟨rfl, ⟨nd, rfl⟩⟩))
      go_ret
      exact ⟨qE, qS1 HB GE104⟩
    ·rw [if_neg c6] at H
     (have c6b0 : decide (0 ≤ a0_2) = false := decide_eq_false c6); clear c6; (obtain rfl := Option.some.inj H)
     go_enter Tryz.func53, Tryz.ntmps53
     go_wp2_with (first | ((with_reducible refine gate_dst (N := 1) rfl ?_); refine box_event ?hg (N := 1) ?hd (cs := #[.int .i64 a0_0, .int .i64 a0_1, .int .i64 a0_2, .int .i64 a0_3]) (t := 29) ?hr ?_; (case hd => rfl); (case hg => rfl); (case hr => first | (go_simp; done) | (go_simp; rfl)); intro gb104 hg w15 hbox hb; have BK104 := Aside0.mk (hbox); have GW104 := qG hg (below_size (qS0 HB)); have GE104 := qG hg (below_size (qS0 HB)); replace HB := Aside0.mk (below_step (qS0 HB) hb); clear hb hbox hg; obtain ⟨hcz16_0, hcz16_1, hcz16_2, hcz16_3, hfz16_0, hfz16_1, hfz16_2, hfz16_3⟩ := qC4 BK104) | (go_at_call 81; (with_reducible refine (spec_l16Log.calls a0_1 true _ A4.out).mono ?_); rintro e w' ⟨rfl, ⟨nd, rfl⟩⟩))
     go_ret
     exact ⟨qE, qS1 HB GE104⟩
   ·replace c5 := Bool.eq_false_iff.mpr c5
    (subst c5); (have H1 : (some false) = some r := by rw [if_neg (show ¬ (false = true) by decide)] at H; exact H); clear H; (have H := H1); clear H1; (obtain rfl := Option.some.inj H)
    go_enter Tryz.func53, Tryz.ntmps53
    go_wp2_with (first | ((with_reducible refine gate_dst (N := 1) rfl ?_); refine box_event ?hg (N := 1) ?hd (cs := #[.int .i64 a0_0, .int .i64 a0_1, .int .i64 a0_2, .int .i64 a0_3]) (t := 29) ?hr ?_; (case hd => rfl); (case hg => rfl); (case hr => first | (go_simp; done) | (go_simp; rfl)); intro gb104 hg w17 hbox hb; have BK104 := Aside0.mk (hbox); have GW104 := qG hg (below_size (qS0 HB)); have GE104 := qG hg (below_size (qS0 HB)); replace HB := Aside0.mk (below_step (qS0 HB) hb); clear hb hbox hg; obtain ⟨hcz18_0, hcz18_1, hcz18_2, hcz18_3, hfz18_0, hfz18_1, hfz18_2, hfz18_3⟩ := qC4 BK104) | (go_at_call 81; (with_reducible refine (spec_l16Log.calls a0_1 false _ A4.out).mono ?_); rintro e w' ⟨rfl, ⟨nd, rfl⟩⟩))
    go_ret
    exact ⟨qE, qS1 HB GE104⟩
  ·rw [if_neg c3] at H
   (have c3b0 : decide (a0_0 ≤ 4294967295) = false := decide_eq_false c3); clear c3; (obtain rfl := Option.some.inj H)
   go_enter Tryz.func53, Tryz.ntmps53
   go_wp2_with (first | ((with_reducible refine gate_dst (N := 1) rfl ?_); refine box_event ?hg (N := 1) ?hd (cs := #[.int .i64 a0_0, .int .i64 a0_1, .int .i64 a0_2, .int .i64 a0_3]) (t := 29) ?hr ?_; (case hd => rfl); (case hg => rfl); (case hr => first | (go_simp; done) | (go_simp; rfl)); intro gb104 hg w19 hbox hb; have BK104 := Aside0.mk (hbox); have GW104 := qG hg (below_size (qS0 HB)); have GE104 := qG hg (below_size (qS0 HB)); replace HB := Aside0.mk (below_step (qS0 HB) hb); clear hb hbox hg; obtain ⟨hcz20_0, hcz20_1, hcz20_2, hcz20_3, hfz20_0, hfz20_1, hfz20_2, hfz20_3⟩ := qC4 BK104))
   go_ret
   exact ⟨qE, qS1 HB GE104⟩
 ·rw [if_neg c2] at H
  (have c2b0 : decide (0 ≤ a0_0) = false := decide_eq_false c2); clear c2; (obtain rfl := Option.some.inj H)
  go_enter Tryz.func53, Tryz.ntmps53
  go_wp2_with (first | ((with_reducible refine gate_dst (N := 1) rfl ?_); refine box_event ?hg (N := 1) ?hd (cs := #[.int .i64 a0_0, .int .i64 a0_1, .int .i64 a0_2, .int .i64 a0_3]) (t := 29) ?hr ?_; (case hd => rfl); (case hg => rfl); (case hr => first | (go_simp; done) | (go_simp; rfl)); intro gb104 hg w21 hbox hb; have BK104 := Aside0.mk (hbox); have GW104 := qG hg (below_size (qS0 HB)); have GE104 := qG hg (below_size (qS0 HB)); replace HB := Aside0.mk (below_step (qS0 HB) hb); clear hb hbox hg; obtain ⟨hcz22_0, hcz22_1, hcz22_2, hcz22_3, hfz22_0, hfz22_1, hfz22_2, hfz22_3⟩ := qC4 BK104))
  go_ret
  exact ⟨qE, qS1 HB GE104⟩
def spec_l18Shape.f (a0 : Int) (a1 : Int) : Option (Bool) := if a0 = 6 then (if a1 ≥ 1 then (some (decide (a1 ≤ 16))) else (some false)) else (if a0 ≥ 1 then (if a0 ≤ 6 then (some (a1 == 0)) else (some false)) else (some false))
set_option maxHeartbeats 8000000 in
set_option maxRecDepth 100000 in
theorem spec_l18Shape.calls (a0 : Int) (a1 : Int) (r : Bool) (w : World) (h : spec_l18Shape.f a0 a1 = some r) :
  Calls Tryz.prog 116 #[.int .i64 a0, .int .i64 a1] w fun e w' => e = .returned (.bool r) ∧ Drawn0 w w' := by
 (have H : (if a0 = 6 then (if a1 ≥ 1 then (some (decide (a1 ≤ 16))) else (some false)) else (if a0 ≥ 1 then (if a0 ≤ 6 then (some (a1 == 0)) else (some false)) else (some false))) = some r := h); clear h
 by_cases c3 : a0 = 6
 ·rw [if_pos c3] at H
  (have c3b0 : (a0 == 6) = true := beq_iff_eq.mpr c3); (have c3b1 : (a0 != 6) = false := bne_eq_false_iff_eq.mpr c3); clear c3
  by_cases c4 : a1 ≥ 1
  ·rw [if_pos c4] at H
   (have c4b0 : decide (1 ≤ a1) = true := decide_eq_true c4); clear c4; (obtain rfl := Option.some.inj H)
   go_enter Tryz.func116, Tryz.ntmps116
   go_wp2
   go_ret
   exact qZ
  ·rw [if_neg c4] at H
   (have c4b0 : decide (1 ≤ a1) = false := decide_eq_false c4); clear c4; (obtain rfl := Option.some.inj H)
   go_enter Tryz.func116, Tryz.ntmps116
   go_wp2
   go_ret
   exact qZ
 ·rw [if_neg c3] at H
  (have c3b0 : (a0 == 6) = false := beq_eq_false_iff_ne.mpr c3); (have c3b1 : (a0 != 6) = true := bne_iff_ne.mpr c3)
  by_cases c5 : a0 ≥ 1
  ·rw [if_pos c5] at H
   (have c5b0 : decide (1 ≤ a0) = true := decide_eq_true c5); clear c5
   by_cases c6 : a0 ≤ 6
   ·rw [if_pos c6] at H
    (have c6b0 : decide (a0 ≤ 6) = true := decide_eq_true c6); clear c6; (obtain rfl := Option.some.inj H)
    go_enter Tryz.func116, Tryz.ntmps116
    go_wp2
    go_ret
    exact qZ
   ·rw [if_neg c6] at H
    (have c6b0 : decide (a0 ≤ 6) = false := decide_eq_false c6); clear c6; (obtain rfl := Option.some.inj H)
    go_enter Tryz.func116, Tryz.ntmps116
    go_wp2
    go_ret
    exact qZ
  ·rw [if_neg c5] at H
   (have c5b0 : decide (1 ≤ a0) = false := decide_eq_false c5); clear c5; (obtain rfl := Option.some.inj H)
   go_enter Tryz.func116, Tryz.ntmps116
   go_wp2
   go_ret
   exact qZ
def spec_ReqOk.f (a0_0 : Int) (a0_1 : ByteArray) (a0_2 : Int) (a0_3 : Int) (a0_4 : Int) (a0_5 : Int) (a0_6 : ByteArray) : Option (Bool) := (spec_l18Shape.f a0_0 a0_5).bind fun t107 => (if t107 = true then (if (a0_1.size : Int) ≤ 100 then (some (decide ((a0_6.size : Int) ≤ 2000))) else (some false)) else (some false))
set_option maxHeartbeats 8000000 in
set_option maxRecDepth 100000 in
theorem spec_ReqOk.calls (a0_0 : Int) (a0_1 : ByteArray) (a0_2 : Int) (a0_3 : Int) (a0_4 : Int) (a0_5 : Int) (a0_6 : ByteArray) (r : Bool) (w : World) (h : spec_ReqOk.f a0_0 a0_1 a0_2 a0_3 a0_4 a0_5 a0_6 = some r) :
  Calls Tryz.prog 97 #[.agg #[.int .i64 a0_0, .string a0_1, .int .i64 a0_2, .int .i64 a0_3, .int .i64 a0_4, .int .i64 a0_5, .string a0_6]] w fun e w' => e = .returned (.bool r) ∧ Below w.heap.size w w' := by
 (have hu56 := Tryz.underlying56); (have HB := Aside0.mk (Below.refl w.heap.size w)); (have H : ((spec_l18Shape.f a0_0 a0_5).bind fun t107 => (if t107 = true then (if (a0_1.size : Int) ≤ 100 then (some (decide ((a0_6.size : Int) ≤ 2000))) else (some false)) else (some false))) = some r := h); clear h; (replace H := Option.bind_eq_some_iff.mp H); (obtain ⟨t107, A20, H⟩ := H)
 try dsimp only at H
 (have A2 := Aside0.mk A20); clear A20
 by_cases c3 : t107 = true
 ·subst c3
  (have H1 : (if (a0_1.size : Int) ≤ 100 then (some (decide ((a0_6.size : Int) ≤ 2000))) else (some false)) = some r := by rw [if_pos rfl] at H; exact H); clear H; (have H := H1); clear H1
  by_cases c4 : (a0_1.size : Int) ≤ 100
  ·rw [if_pos c4] at H
   (have c4b0 : decide ((a0_1.size : Int) ≤ 100) = true := decide_eq_true c4); (have c4b1 : decide (a0_1.size ≤ 100) = true := decide_eq_true (by omega)); clear c4; (obtain rfl := Option.some.inj H)
   go_enter Tryz.func97, Tryz.ntmps97
   go_wp2_with (first | ((with_reducible refine gate_dst (N := 1) rfl ?_); (try (refine gate_guard (by rfl) ?_; dsimp only)); refine box_event ?hg (N := 1) ?hd (cs := #[.int .i64 a0_0, .string a0_1, .int .i64 a0_2, .int .i64 a0_3, .int .i64 a0_4, .int .i64 a0_5, .string a0_6]) (t := 56) ?hr ?_; (case hd => rfl); (case hg => rfl); (case hr => first | (go_simp; done) | (go_simp; rfl)); intro gb106 hg w5 hbox hb; have BK106 := Aside0.mk (hbox); have GW106 := qG hg (below_size (qS0 HB)); have GE106 := qG hg (below_size (qS0 HB)); replace HB := Aside0.mk (below_step (qS0 HB) hb); clear hb hbox hg; obtain ⟨hcz6_0, hcz6_1, hcz6_2, hcz6_3, hcz6_4, hcz6_5, hcz6_6, hfz6_0, hfz6_1, hfz6_2, hfz6_3, hfz6_4, hfz6_5, hfz6_6⟩ := qC7 BK106) | ((with_reducible refine gate_callee (f := 116) rfl ?_); refine goesL_ (some 7) rfl rfl Tryz.func116 (by kernel_rfl) rfl #[.int .i64 a0_0, .int .i64 a0_5] rfl qL ?_; (with_reducible refine (spec_l18Shape.calls a0_0 a0_5 true _ A2.out).mono ?_); rintro e w' ⟨rfl, ⟨nd, rfl⟩⟩; refine ⟨_, rfl, ?_⟩))
   go_ret
   exact ⟨qE, qS1 HB GE106⟩
  ·rw [if_neg c4] at H
   (have c4b0 : decide ((a0_1.size : Int) ≤ 100) = false := decide_eq_false c4); (have c4b1 : decide (a0_1.size ≤ 100) = false := decide_eq_false (by omega)); clear c4; (obtain rfl := Option.some.inj H)
   go_enter Tryz.func97, Tryz.ntmps97
   go_wp2_with (first | ((with_reducible refine gate_dst (N := 1) rfl ?_); (try (refine gate_guard (by rfl) ?_; dsimp only)); refine box_event ?hg (N := 1) ?hd (cs := #[.int .i64 a0_0, .string a0_1, .int .i64 a0_2, .int .i64 a0_3, .int .i64 a0_4, .int .i64 a0_5, .string a0_6]) (t := 56) ?hr ?_; (case hd => rfl); (case hg => rfl); (case hr => first | (go_simp; done) | (go_simp; rfl)); intro gb106 hg w7 hbox hb; have BK106 := Aside0.mk (hbox); have GW106 := qG hg (below_size (qS0 HB)); have GE106 := qG hg (below_size (qS0 HB)); replace HB := Aside0.mk (below_step (qS0 HB) hb); clear hb hbox hg; obtain ⟨hcz8_0, hcz8_1, hcz8_2, hcz8_3, hcz8_4, hcz8_5, hcz8_6, hfz8_0, hfz8_1, hfz8_2, hfz8_3, hfz8_4, hfz8_5, hfz8_6⟩ := qC7 BK106) | ((with_reducible refine gate_callee (f := 116) rfl ?_); refine goesL_ (some 7) rfl rfl Tryz.func116 (by kernel_rfl) rfl #[.int .i64 a0_0, .int .i64 a0_5] rfl qL ?_; (with_reducible refine (spec_l18Shape.calls a0_0 a0_5 true _ A2.out).mono ?_); rintro e w' ⟨rfl, ⟨nd, rfl⟩⟩; refine ⟨_, rfl, ?_⟩))
   go_ret
   exact ⟨qE, qS1 HB GE106⟩
 ·replace c3 := Bool.eq_false_iff.mpr c3
  (subst c3); (have H1 : (some false) = some r := by rw [if_neg (show ¬ (false = true) by decide)] at H; exact H); clear H; (have H := H1); clear H1; (obtain rfl := Option.some.inj H)
  go_enter Tryz.func97, Tryz.ntmps97
  go_wp2_with (first | ((with_reducible refine gate_dst (N := 1) rfl ?_); (try (refine gate_guard (by rfl) ?_; dsimp only)); refine box_event ?hg (N := 1) ?hd (cs := #[.int .i64 a0_0, .string a0_1, .int .i64 a0_2, .int .i64 a0_3, .int .i64 a0_4, .int .i64 a0_5, .string a0_6]) (t := 56) ?hr ?_; (case hd => rfl); (case hg => rfl); (case hr => first | (go_simp; done) | (go_simp; rfl)); intro gb106 hg w9 hbox hb; have BK106 := Aside0.mk (hbox); have GW106 := qG hg (below_size (qS0 HB)); have GE106 := qG hg (below_size (qS0 HB)); replace HB := Aside0.mk (below_step (qS0 HB) hb); clear hb hbox hg; obtain ⟨hcz10_0, hcz10_1, hcz10_2, hcz10_3, hcz10_4, hcz10_5, hcz10_6, hfz10_0, hfz10_1, hfz10_2, hfz10_3, hfz10_4, hfz10_5, hfz10_6⟩ := qC7 BK106) | ((with_reducible refine gate_callee (f := 116) rfl ?_); refine goesL_ (some 7) rfl rfl Tryz.func116 (by kernel_rfl) rfl #[.int .i64 a0_0, .int .i64 a0_5] rfl qL ?_; (with_reducible refine (spec_l18Shape.calls a0_0 a0_5 false _ A2.out).mono ?_); rintro e w' ⟨rfl, ⟨nd, rfl⟩⟩; refine ⟨_, rfl, ?_⟩))
  go_ret
  exact ⟨qE, qS1 HB GE106⟩
def spec_ReqsOk.l0 : Nat → List (S56) → Int → Option (Bool)
 | 0, _, _ => none
 | k + 1, x0, x3 => if x3 < (x0.length : Int) then (if 0 ≤ x3 then ((spec_ReqOk.f ((rd_T56 x0 x3).f0) ((rd_T56 x0 x3).f1) ((rd_T56 x0 x3).f2) ((rd_T56 x0 x3).f3) ((rd_T56 x0 x3).f4) ((rd_T56 x0 x3).f5) ((rd_T56 x0 x3).f6)).bind fun t109 => (if t109 = true then (spec_ReqsOk.l0 k x0 (wrap64 (x3 + 1))) else (some false))) else (none)) else (some true)
def spec_ReqsOk.f (k : Nat) (l0 : List (S56)) : Option (Bool) := if (l0.length : Int) > 40 then (some false) else (spec_ReqsOk.l0 k l0 0)
set_option maxHeartbeats 8000000 in
set_option maxRecDepth 100000 in
theorem spec_ReqsOk.calls (k : Nat) (A0 : Option Addr) (c0 : Nat) (l0 : List (S56)) (r : Bool) (w : World) (hr0 : Kd.C k56 w A0 l0.length l0) (hc0 : l0.length ≤ c0) (h : spec_ReqsOk.f k l0 = some r) :
  Calls Tryz.prog 54 #[.slice A0 l0.length c0] w fun e w' => e = .returned (.bool r) ∧ Below w.heap.size w w' := by
 (have hu56 := Tryz.underlying56); (have HR0 := Aside0.mk hr0); (have HC0 := Aside0.mk hc0); clear hr0 hc0; (have HB := Aside0.mk (Below.refl w.heap.size w)); (have H : (if (l0.length : Int) > 40 then (some false) else (spec_ReqsOk.l0 k l0 0)) = some r := h); clear h
 by_cases c2 : (l0.length : Int) > 40
 ·rw [if_pos c2] at H
  (have c2b0 : decide (40 < (l0.length : Int)) = true := decide_eq_true c2); (have c2b1 : decide (40 < l0.length) = true := decide_eq_true (by omega)); clear c2; (obtain rfl := Option.some.inj H)
  go_enter Tryz.func54, Tryz.ntmps54
  go_wp2
  go_ret
  exact ⟨qE, qS0 HB⟩
 ·rw [if_neg c2] at H
  (have c2b0 : decide (40 < (l0.length : Int)) = false := decide_eq_false c2); (have c2b1 : decide (40 < l0.length) = false := decide_eq_false (by omega)); clear c2; (have H' := Aside0.mk H); clear H
  go_enter Tryz.func54, Tryz.ntmps54
  go_wp2
  go_loopg [3] k (fun kq v3 w' => ∃ (x3_1 : Int), v3 = .int .i64 x3_1 ∧ Aside0 (spec_ReqsOk.l0 kq l0 x3_1 = some r) ∧ Aside0 (kq ≤ k) ∧ Aside0 (Below w.heap.size w w'))
  case atStart => exact ⟨(0), qV, H', ⟨Nat.le_refl _⟩, ⟨qS0 HB⟩⟩
  case round =>
   clear H'; (try clear c2); (try clear c2b0); (try clear c2b1); (try clear p2); (obtain ⟨x3_1, rfl, HA, HK1, HB⟩ := hrel)
   cases gk with
   | zero => exact absurd HA.out (by simp [spec_ReqsOk.l0])
   | succ k1 =>
    (have H := HA.out); clear HA; (simp only [spec_ReqsOk.l0] at H)
    by_cases c3 : x3_1 < (l0.length : Int)
    ·rw [if_pos c3] at H
     (have c3b0 : decide (x3_1 < (l0.length : Int)) = true := decide_eq_true c3); clear c3
     by_cases c4 : 0 ≤ x3_1
     ·rw [if_pos c4] at H
      (have c4b0 : decide (0 ≤ x3_1) = true := decide_eq_true c4); clear c4; (replace H := Option.bind_eq_some_iff.mp H); (obtain ⟨t109, A50, H⟩ := H); (replace H : (if t109 = true then (spec_ReqsOk.l0 k1 l0 (wrap64 (x3_1 + 1))) else (some false)) = some r := H); (have A5 := Aside0.mk A50); clear A50
      by_cases c6 : t109 = true
      ·subst c6
       (have H1 : (spec_ReqsOk.l0 k1 l0 (wrap64 (x3_1 + 1))) = some r := by rw [if_pos rfl] at H; exact H); clear H; (have H := H1); clear H1; (have H' := Aside0.mk H); clear H; (have p108 : 0 ≤ (x3_1 : Int) := qO); (have q108 : x3_1 < (l0.length : Int) := qO); (obtain ⟨ad108, e108, hx108_0, hx108_1, hx108_2, hx108_3, hx108_4, hx108_5, hx108_6⟩ := at_T56 HR0.out x3_1 p108 q108)
       cases e108
       (replace hx108_0 := (HB.out.cell (World.block_lt_of_cell? w _ hx108_0)).trans hx108_0); (replace hx108_1 := (HB.out.cell (World.block_lt_of_cell? w _ hx108_1)).trans hx108_1); (replace hx108_2 := (HB.out.cell (World.block_lt_of_cell? w _ hx108_2)).trans hx108_2); (replace hx108_3 := (HB.out.cell (World.block_lt_of_cell? w _ hx108_3)).trans hx108_3); (replace hx108_4 := (HB.out.cell (World.block_lt_of_cell? w _ hx108_4)).trans hx108_4); (replace hx108_5 := (HB.out.cell (World.block_lt_of_cell? w _ hx108_5)).trans hx108_5); (replace hx108_6 := (HB.out.cell (World.block_lt_of_cell? w _ hx108_6)).trans hx108_6); (replace p108 := eq_true p108); (replace q108 := eq_true q108)
       go_wp2_with (first | ((with_reducible refine gate_callee (f := 97) rfl ?_); refine goesL_ (some 17) rfl rfl Tryz.func97 (by kernel_rfl) rfl #[.agg #[.int .i64 ((rd_T56 l0 x3_1).f0), .string ((rd_T56 l0 x3_1).f1), .int .i64 ((rd_T56 l0 x3_1).f2), .int .i64 ((rd_T56 l0 x3_1).f3), .int .i64 ((rd_T56 l0 x3_1).f4), .int .i64 ((rd_T56 l0 x3_1).f5), .string ((rd_T56 l0 x3_1).f6)]] rfl qL ?_; (with_reducible refine (spec_ReqOk.calls ((rd_T56 l0 x3_1).f0) ((rd_T56 l0 x3_1).f1) ((rd_T56 l0 x3_1).f2) ((rd_T56 l0 x3_1).f3) ((rd_T56 l0 x3_1).f4) ((rd_T56 l0 x3_1).f5) ((rd_T56 l0 x3_1).f6) true _ A5.out).mono ?_); rintro e w7 ⟨rfl, hb⟩; refine ⟨_, rfl, ?_⟩; replace HB := Aside0.mk (below_step (qS0 HB) hb); (try clear hb); (try clear hb2); (try clear hk); (try clear hi)))
       go_roundg k1
       case measure => have := HK1.out; omega
       case rel => exact ⟨(wrap64 (x3_1 + 1)), qV, H', ⟨by have := HK1.out; omega⟩, ⟨qS0 HB⟩⟩
      ·replace c6 := Bool.eq_false_iff.mpr c6
       (subst c6); (have H1 : (some false) = some r := by rw [if_neg (show ¬ (false = true) by decide)] at H; exact H); clear H; (have H := H1); clear H1; (obtain rfl := Option.some.inj H); (have p108 : 0 ≤ (x3_1 : Int) := qO); (have q108 : x3_1 < (l0.length : Int) := qO); (obtain ⟨ad108, e108, hx108_0, hx108_1, hx108_2, hx108_3, hx108_4, hx108_5, hx108_6⟩ := at_T56 HR0.out x3_1 p108 q108)
       cases e108
       (replace hx108_0 := (HB.out.cell (World.block_lt_of_cell? w _ hx108_0)).trans hx108_0); (replace hx108_1 := (HB.out.cell (World.block_lt_of_cell? w _ hx108_1)).trans hx108_1); (replace hx108_2 := (HB.out.cell (World.block_lt_of_cell? w _ hx108_2)).trans hx108_2); (replace hx108_3 := (HB.out.cell (World.block_lt_of_cell? w _ hx108_3)).trans hx108_3); (replace hx108_4 := (HB.out.cell (World.block_lt_of_cell? w _ hx108_4)).trans hx108_4); (replace hx108_5 := (HB.out.cell (World.block_lt_of_cell? w _ hx108_5)).trans hx108_5); (replace hx108_6 := (HB.out.cell (World.block_lt_of_cell? w _ hx108_6)).trans hx108_6); (replace p108 := eq_true p108); (replace q108 := eq_true q108)
       go_wp2_with (first | ((with_reducible refine gate_callee (f := 97) rfl ?_); refine goesL_ (some 17) rfl rfl Tryz.func97 (by kernel_rfl) rfl #[.agg #[.int .i64 ((rd_T56 l0 x3_1).f0), .string ((rd_T56 l0 x3_1).f1), .int .i64 ((rd_T56 l0 x3_1).f2), .int .i64 ((rd_T56 l0 x3_1).f3), .int .i64 ((rd_T56 l0 x3_1).f4), .int .i64 ((rd_T56 l0 x3_1).f5), .string ((rd_T56 l0 x3_1).f6)]] rfl qL ?_; (with_reducible refine (spec_ReqOk.calls ((rd_T56 l0 x3_1).f0) ((rd_T56 l0 x3_1).f1) ((rd_T56 l0 x3_1).f2) ((rd_T56 l0 x3_1).f3) ((rd_T56 l0 x3_1).f4) ((rd_T56 l0 x3_1).f5) ((rd_T56 l0 x3_1).f6) false _ A5.out).mono ?_); rintro e w8 ⟨rfl, hb⟩; refine ⟨_, rfl, ?_⟩; replace HB := Aside0.mk (below_step (qS0 HB) hb); (try clear hb); (try clear hb2); (try clear hk); (try clear hi)))
       go_ret
       exact ⟨qE, qS0 HB⟩
     ·rw [if_neg c4] at H
      exact absurd H (by simp)
    ·rw [if_neg c3] at H
     (have c3b0 : decide (x3_1 < (l0.length : Int)) = false := decide_eq_false c3); clear c3; (obtain rfl := Option.some.inj H)
     go_wp2
     go_ret
     exact ⟨qE, qS0 HB⟩
mutual
def spec_WordOk.j0 : Nat → ByteArray → Bool → Option (Bool)
 | 0, _, _ => none
 | k + 1, x0, x11 => if x11 = true then (some false) else (spec_WordOk.l0 k x0 0)
def spec_WordOk.l0 : Nat → ByteArray → Int → Option (Bool)
 | 0, _, _ => none
 | k + 1, x0, x3 => if x3 < (x0.size : Int) then (if 0 ≤ x3 then (if (bt x0 x3) < 97 then (some false) else (if (bt x0 x3) > 122 then (some false) else (spec_WordOk.l0 k x0 (wrap64 (x3 + 1))))) else (none)) else (some true)
end
def spec_WordOk.f (k : Nat) (a0 : ByteArray) : Option (Bool) := if (a0.size : Int) < 1 then (spec_WordOk.j0 k a0 true) else (spec_WordOk.j0 k a0 (decide ((a0.size : Int) > 32)))
set_option maxHeartbeats 8000000 in
set_option maxRecDepth 100000 in
theorem spec_WordOk.calls (k : Nat) (a0 : ByteArray) (r : Bool) (w : World) (h : spec_WordOk.f k a0 = some r) :
  Calls Tryz.prog 117 #[.string a0] w fun e w' => e = .returned (.bool r) ∧ Drawn0 w w' := by
 (have H : (if (a0.size : Int) < 1 then (spec_WordOk.j0 k a0 true) else (spec_WordOk.j0 k a0 (decide ((a0.size : Int) > 32)))) = some r := h); clear h; (have HC2 := Aside0.mk H); clear H
 go_enter Tryz.func117, Tryz.ntmps117
 go_upto_region 1 with (fail)
 go_cut [11] (fun v11 wc => ∃ (kq : Nat) (x11_1 : Bool), v11 = .bool x11_1 ∧ Aside0 (spec_WordOk.j0 kq a0 x11_1 = some r) ∧ Aside0 (kq ≤ k) ∧ Drawn0 w wc)
 case first =>
  (have H := HC2.out); clear HC2
  by_cases c3 : (a0.size : Int) < 1
  ·rw [if_pos c3] at H
   (have c3b0 : decide ((a0.size : Int) < 1) = true := decide_eq_true c3); (have c3b1 : decide (a0.size < 1) = true := decide_eq_true (by omega)); clear c3
   (first | rw [c3b0] | (simp only [i64_w, i32_w]; rw [c3b0]) | skip)
   (have H' := Aside0.mk H); clear H
   go_wp2
   go_meet
   case rel => exact ⟨_, (true), qV, H', ⟨by first | omega | exact Nat.le_refl _⟩, by repeat (first | exact Drawn0.refl _ | apply Drawn0.step)⟩
  ·rw [if_neg c3] at H
   (have c3b0 : decide ((a0.size : Int) < 1) = false := decide_eq_false c3); (have c3b1 : decide (a0.size < 1) = false := decide_eq_false (by omega)); clear c3
   (first | rw [c3b0] | (simp only [i64_w, i32_w]; rw [c3b0]) | skip)
   (have H' := Aside0.mk H); clear H
   go_wp2
   go_meet
   case rel => exact ⟨_, (decide ((a0.size : Int) > 32)), qV, H', ⟨by first | omega | exact Nat.le_refl _⟩, by repeat (first | exact Drawn0.refl _ | apply Drawn0.step)⟩
 case rest =>
  clear HC2; (try clear c1); (try clear p2); (try clear c3); (try clear c3b0); (try clear c3b1); (obtain ⟨kq, x11_1, rfl, HA, HJ1, ⟨mc1, rfl⟩⟩ := hcut)
  cases kq with
  | zero => exact absurd HA.out (by simp [spec_WordOk.j0])
  | succ kj1 =>
   (have H := HA.out); clear HA; (simp only [spec_WordOk.j0] at H)
   by_cases c4 : x11_1 = true
   ·subst c4
    (have H1 : (some false) = some r := by rw [if_pos rfl] at H; exact H); clear H; (have H := H1); clear H1; (obtain rfl := Option.some.inj H)
    go_wp2
    go_ret
    exact qZ
   ·replace c4 := Bool.eq_false_iff.mpr c4
    (subst c4); (have H1 : (spec_WordOk.l0 kj1 a0 0) = some r := by rw [if_neg (show ¬ (false = true) by decide)] at H; exact H); clear H; (have H := H1); clear H1; (have H' := Aside0.mk H); clear H
    go_wp2
    go_loopg [3] kj1 (fun kq v3 w' => ∃ (x3_2 : Int), v3 = .int .i64 x3_2 ∧ Aside0 (spec_WordOk.l0 kq a0 x3_2 = some r) ∧ Aside0 (kq ≤ kj1) ∧ Drawn0 w w')
    case atStart => exact ⟨(0), qV, H', ⟨Nat.le_refl _⟩, by repeat (first | exact Drawn0.refl _ | apply Drawn0.step)⟩
    case round =>
     clear H'; (try clear c1); (try clear p2); (try clear c3); (try clear c3b0); (try clear c3b1); (try clear c4); (try clear p2); (obtain ⟨x3_2, rfl, HA, HK2, ⟨m2, rfl⟩⟩ := hrel)
     cases gk with
     | zero => exact absurd HA.out (by simp [spec_WordOk.l0])
     | succ k2 =>
      (have H := HA.out); clear HA; (simp only [spec_WordOk.l0] at H)
      by_cases c5 : x3_2 < (a0.size : Int)
      ·rw [if_pos c5] at H
       (have c5b0 : decide (x3_2 < (a0.size : Int)) = true := decide_eq_true c5); clear c5
       by_cases c6 : 0 ≤ x3_2
       ·rw [if_pos c6] at H
        (have c6b0 : decide (0 ≤ x3_2) = true := decide_eq_true c6); clear c6
        by_cases c8 : (bt a0 x3_2) < 97
        ·rw [if_pos c8] at H
         (have c8b0 : decide ((bt a0 x3_2) < 97) = true := decide_eq_true c8); clear c8; (obtain rfl := Option.some.inj H); (have p7 : 0 ≤ (x3_2 : Int) := qO); (have q7 : x3_2 < (a0.size : Int) := qO); (have hx7 := bt_at a0 x3_2); (replace p7 := eq_true p7); (replace q7 := eq_true q7)
         go_wp2
         go_ret
         exact qZ
        ·rw [if_neg c8] at H
         (have c8b0 : decide ((bt a0 x3_2) < 97) = false := decide_eq_false c8); clear c8
         by_cases c10 : (bt a0 x3_2) > 122
         ·rw [if_pos c10] at H
          (have c10b0 : decide (122 < (bt a0 x3_2)) = true := decide_eq_true c10); clear c10; (obtain rfl := Option.some.inj H); (have p7 : 0 ≤ (x3_2 : Int) := qO); (have q7 : x3_2 < (a0.size : Int) := qO); (have hx7 := bt_at a0 x3_2); (replace p7 := eq_true p7); (replace q7 := eq_true q7); (have p9 : 0 ≤ (x3_2 : Int) := qO); (have q9 : x3_2 < (a0.size : Int) := qO); (have hx9 := bt_at a0 x3_2); (replace p9 := eq_true p9); (replace q9 := eq_true q9)
          go_wp2
          go_ret
          exact qZ
         ·rw [if_neg c10] at H
          (have c10b0 : decide (122 < (bt a0 x3_2)) = false := decide_eq_false c10); clear c10; (have H' := Aside0.mk H); clear H; (have p7 : 0 ≤ (x3_2 : Int) := qO); (have q7 : x3_2 < (a0.size : Int) := qO); (have hx7 := bt_at a0 x3_2); (replace p7 := eq_true p7); (replace q7 := eq_true q7); (have p9 : 0 ≤ (x3_2 : Int) := qO); (have q9 : x3_2 < (a0.size : Int) := qO); (have hx9 := bt_at a0 x3_2); (replace p9 := eq_true p9); (replace q9 := eq_true q9)
          go_wp2
          go_roundg k2
          case measure => have := HJ1.out; have := HK2.out; omega
          case rel => exact ⟨(wrap64 (x3_2 + 1)), qV, H', ⟨by have := HJ1.out; have := HK2.out; omega⟩, by repeat (first | exact Drawn0.refl _ | apply Drawn0.step)⟩
       ·rw [if_neg c6] at H
        exact absurd H (by simp)
      ·rw [if_neg c5] at H
       (have c5b0 : decide (x3_2 < (a0.size : Int)) = false := decide_eq_false c5); clear c5; (obtain rfl := Option.some.inj H)
       go_wp2
       go_ret
       exact qZ
def spec_Fold.l0 : Nat → ByteArray → List Int → Int → Option (ByteArray)
 | 0, _, _, _ => none
 | k + 1, x0, x3, x4 => if x4 < (x0.size : Int) then (if 0 ≤ x4 then (if (bt x0 x4) ≥ 65 then (if (bt x0 x4) ≤ 90 then (if x3.length < 140737488355328 then (spec_Fold.l0 k x0 (x3 ++ [((bt x0 x4) + 32) % 256]) (wrap64 (x4 + 1))) else (none)) else (if x3.length < 140737488355328 then (spec_Fold.l0 k x0 (x3 ++ [bt x0 x4]) (wrap64 (x4 + 1))) else (none))) else (if x3.length < 140737488355328 then (spec_Fold.l0 k x0 (x3 ++ [bt x0 x4]) (wrap64 (x4 + 1))) else (none))) else (none)) else ((spec_WordOk.f k (strOfNums x3)).bind fun t122 => (if t122 = true then (some (strOfNums x3)) else (some (⟨#[]⟩ : ByteArray))))
def spec_Fold.f (k : Nat) (a0 : ByteArray) : Option (ByteArray) := if (a0.size : Int) > 32 then (some (⟨#[]⟩ : ByteArray)) else (spec_Fold.l0 k a0 (([] : List Int)) 0)
set_option maxHeartbeats 8000000 in
set_option maxRecDepth 100000 in
theorem spec_Fold.calls (k : Nat) (a0 : ByteArray) (r : ByteArray) (w : World) (h : spec_Fold.f k a0 = some r) :
  Calls Tryz.prog 98 #[.string a0] w fun e w' => e = .returned (.string r) ∧ Below w.heap.size w w' := by
 (have HB := Aside0.mk (Below.refl w.heap.size w)); (have H : (if (a0.size : Int) > 32 then (some (⟨#[]⟩ : ByteArray)) else (spec_Fold.l0 k a0 (([] : List Int)) 0)) = some r := h); clear h
 by_cases c2 : (a0.size : Int) > 32
 ·rw [if_pos c2] at H
  (have c2b0 : decide (32 < (a0.size : Int)) = true := decide_eq_true c2); (have c2b1 : decide (32 < a0.size) = true := decide_eq_true (by omega)); clear c2; (obtain rfl := Option.some.inj H)
  go_enter Tryz.func98, Tryz.ntmps98
  go_wp2
  go_ret
  exact ⟨qE, qS0 HB⟩
 ·rw [if_neg c2] at H
  (have c2b0 : decide (32 < (a0.size : Int)) = false := decide_eq_false c2); (have c2b1 : decide (32 < a0.size) = false := decide_eq_false (by omega)); clear c2; (obtain ⟨y110, hy110⟩ : ∃ y_ : List Int, y_ = (([] : List Int)) := ⟨_, rfl⟩); (replace H : (spec_Fold.l0 k a0 y110 0) = some r := qY hy110 H); (have Ny110 := Aside0.mk hy110); clear hy110; (have H' := Aside0.mk H); clear H
  go_enter Tryz.func98, Tryz.ntmps98
  go_wp2_with (first | ((with_reducible refine gate_dst (N := 9) rfl ?_); refine Kd.R_lit (Kd.int .u8) _ 5 ?hg (N := 9) ?hd (xs := ([] : List Int)) (inner := []) (ok := fun _ => True) (okp := fun _ => True) ?hr ?hp (fun _ hk => hk) trivial (Below.refl _ _) (Nat.le_refl _) (by simp) ?_; (case hd => rfl); (case hg => rfl); (case hr => first | (go_simp; done) | (go_simp; rfl)); (case hp => exact (Reps.none _ _)); intro v111 w3 ho4 hb hg_ hnew_; clear hg_ hnew_; (first | rw [← Ny110.out] at ho4 | (simp only [Int.reduceToNat] at ho4; rw [← Ny110.out] at ho4)); have HO112 := Aside0.mk (Kd.R_lower ho4 (below_size (qS0 HB))); replace HB := Aside0.mk (below_step (qS0 HB) hb); clear hb ho4))
  go_loopg [3, 4] k (fun kq v3 v4 w' => ∃ (x3_1 : List Int) (x4_1 : Int), v4 = .int .i64 x4_1 ∧ Aside0 (spec_Fold.l0 kq a0 x3_1 x4_1 = some r) ∧ Aside0 (kq ≤ k) ∧ Aside0 (Kd.R (Kd.int .u8) 5 w' w.heap.size (fun _ => True) v3 x3_1) ∧ Aside0 (Below w.heap.size w w'))
  case atStart => exact ⟨(y110), (0), qV, H', ⟨Nat.le_refl _⟩, ⟨qR HO112⟩, ⟨qS0 HB⟩⟩
  case round =>
   clear H'; (try clear c2); (try clear c2b0); (try clear c2b1); (try clear p2); (obtain ⟨x3_1, x4_1, rfl, HA, HK1, HO_3, HB⟩ := hrel)
   cases gk with
   | zero => exact absurd HA.out (by simp [spec_Fold.l0])
   | succ k1 =>
    (have H := HA.out); clear HA; (simp only [spec_Fold.l0] at H)
    by_cases c5 : x4_1 < (a0.size : Int)
    ·rw [if_pos c5] at H
     (have c5b0 : decide (x4_1 < (a0.size : Int)) = true := decide_eq_true c5); clear c5
     by_cases c6 : 0 ≤ x4_1
     ·rw [if_pos c6] at H
      (have c6b0 : decide (0 ≤ x4_1) = true := decide_eq_true c6); clear c6
      by_cases c8 : (bt a0 x4_1) ≥ 65
      ·rw [if_pos c8] at H
       (have c8b0 : decide (65 ≤ (bt a0 x4_1)) = true := decide_eq_true c8); clear c8
       by_cases c9 : (bt a0 x4_1) ≤ 90
       ·rw [if_pos c9] at H
        (have c9b0 : decide ((bt a0 x4_1) ≤ 90) = true := decide_eq_true c9); clear c9
        by_cases c10 : x3_1.length < 140737488355328
        ·rw [if_pos c10] at H
         (have LMc10 := Aside0.mk c10); clear c10; (obtain ⟨y113, hy113⟩ : ∃ y_ : List Int, y_ = (x3_1 ++ [((bt a0 x4_1) + 32) % 256]) := ⟨_, rfl⟩); (replace H : (spec_Fold.l0 k1 a0 y113 (wrap64 (x4_1 + 1))) = some r := qY hy113 H); (have Ny113 := Aside0.mk hy113); clear hy113; (have H' := Aside0.mk H); clear H; (have p7 : 0 ≤ (x4_1 : Int) := qO); (have q7 : x4_1 < (a0.size : Int) := qO); (have hx7 := bt_at a0 x4_1); (replace p7 := eq_true p7); (replace q7 := eq_true q7)
         go_wp2_with (first | ((with_reducible refine gate_builtin (b := .append) (xs := #[.tmp 27, .tmp 29]) rfl ?_); at_builtin; refine Kd.R_append (Kd.int .u8) (w0 := w) w.heap.size rfl (.tmp 27) (.tmp 29) 42 5 (.int .u8 0) 1 rfl Tryz.underlying42 info5 rfl (by decide) (by omega) u3 x3_1 (((bt a0 x4_1) + 32) % 256) [.int .u8 (((bt a0 x4_1) + 32) % 256)] (fun _ => True) (fun _ => False) rfl rfl ?aP (fun _ hk => hk.elim) ?aF ?aO ?aB ?aS ?aL ?_; (case aP => exact rfl); (case aB => exact (qS0 HB)); (case aF => exact (fun _ _ => trivial)); (case aO => exact (qR HO_3)); (case aS => exact (below_size (qS0 HB))); (case aL => have := LMc10.out; omega); intro v114 w11 ho hb hg hat; rw [← Ny113.out] at ho; replace HB := Aside0.mk (hb); have HO115 := Aside0.mk (ho); clear HO_3; clear ho hb hg hat))
         go_roundg k1
         case measure => have := HK1.out; omega
         case rel => exact ⟨(y113), (wrap64 (x4_1 + 1)), qV, H', ⟨by have := HK1.out; omega⟩, ⟨qR HO115⟩, ⟨qS0 HB⟩⟩
        ·rw [if_neg c10] at H
         exact absurd H (by simp)
       ·rw [if_neg c9] at H
        (have c9b0 : decide ((bt a0 x4_1) ≤ 90) = false := decide_eq_false c9); clear c9
        by_cases c12 : x3_1.length < 140737488355328
        ·rw [if_pos c12] at H
         (have LMc12 := Aside0.mk c12); clear c12; (obtain ⟨y116, hy116⟩ : ∃ y_ : List Int, y_ = (x3_1 ++ [bt a0 x4_1]) := ⟨_, rfl⟩); (replace H : (spec_Fold.l0 k1 a0 y116 (wrap64 (x4_1 + 1))) = some r := qY hy116 H); (have Ny116 := Aside0.mk hy116); clear hy116; (have H' := Aside0.mk H); clear H; (have p7 : 0 ≤ (x4_1 : Int) := qO); (have q7 : x4_1 < (a0.size : Int) := qO); (have hx7 := bt_at a0 x4_1); (replace p7 := eq_true p7); (replace q7 := eq_true q7)
         go_wp2_with (first | ((with_reducible refine gate_builtin (b := .append) (xs := #[.tmp 27, .tmp 29]) rfl ?_); at_builtin; refine Kd.R_append (Kd.int .u8) (w0 := w) w.heap.size rfl (.tmp 27) (.tmp 29) 42 5 (.int .u8 0) 1 rfl Tryz.underlying42 info5 rfl (by decide) (by omega) u3 x3_1 (bt a0 x4_1) [.int .u8 (bt a0 x4_1)] (fun _ => True) (fun _ => False) rfl rfl ?aP (fun _ hk => hk.elim) ?aF ?aO ?aB ?aS ?aL ?_; (case aP => exact rfl); (case aB => exact (qS0 HB)); (case aF => exact (fun _ _ => trivial)); (case aO => exact (qR HO_3)); (case aS => exact (below_size (qS0 HB))); (case aL => have := LMc12.out; omega); intro v117 w13 ho hb hg hat; rw [← Ny116.out] at ho; replace HB := Aside0.mk (hb); have HO118 := Aside0.mk (ho); clear HO_3; clear ho hb hg hat))
         go_roundg k1
         case measure => have := HK1.out; omega
         case rel => exact ⟨(y116), (wrap64 (x4_1 + 1)), qV, H', ⟨by have := HK1.out; omega⟩, ⟨qR HO118⟩, ⟨qS0 HB⟩⟩
        ·rw [if_neg c12] at H
         exact absurd H (by simp)
      ·rw [if_neg c8] at H
       (have c8b0 : decide (65 ≤ (bt a0 x4_1)) = false := decide_eq_false c8); clear c8
       by_cases c14 : x3_1.length < 140737488355328
       ·rw [if_pos c14] at H
        (have LMc14 := Aside0.mk c14); clear c14; (obtain ⟨y119, hy119⟩ : ∃ y_ : List Int, y_ = (x3_1 ++ [bt a0 x4_1]) := ⟨_, rfl⟩); (replace H : (spec_Fold.l0 k1 a0 y119 (wrap64 (x4_1 + 1))) = some r := qY hy119 H); (have Ny119 := Aside0.mk hy119); clear hy119; (have H' := Aside0.mk H); clear H; (have p7 : 0 ≤ (x4_1 : Int) := qO); (have q7 : x4_1 < (a0.size : Int) := qO); (have hx7 := bt_at a0 x4_1); (replace p7 := eq_true p7); (replace q7 := eq_true q7)
        go_wp2_with (first | ((with_reducible refine gate_builtin (b := .append) (xs := #[.tmp 27, .tmp 29]) rfl ?_); at_builtin; refine Kd.R_append (Kd.int .u8) (w0 := w) w.heap.size rfl (.tmp 27) (.tmp 29) 42 5 (.int .u8 0) 1 rfl Tryz.underlying42 info5 rfl (by decide) (by omega) u3 x3_1 (bt a0 x4_1) [.int .u8 (bt a0 x4_1)] (fun _ => True) (fun _ => False) rfl rfl ?aP (fun _ hk => hk.elim) ?aF ?aO ?aB ?aS ?aL ?_; (case aP => exact rfl); (case aB => exact (qS0 HB)); (case aF => exact (fun _ _ => trivial)); (case aO => exact (qR HO_3)); (case aS => exact (below_size (qS0 HB))); (case aL => have := LMc14.out; omega); intro v120 w15 ho hb hg hat; rw [← Ny119.out] at ho; replace HB := Aside0.mk (hb); have HO121 := Aside0.mk (ho); clear HO_3; clear ho hb hg hat))
        go_roundg k1
        case measure => have := HK1.out; omega
        case rel => exact ⟨(y119), (wrap64 (x4_1 + 1)), qV, H', ⟨by have := HK1.out; omega⟩, ⟨qR HO121⟩, ⟨qS0 HB⟩⟩
       ·rw [if_neg c14] at H
        exact absurd H (by simp)
     ·rw [if_neg c6] at H
      exact absurd H (by simp)
    ·rw [if_neg c5] at H
     (have c5b0 : decide (x4_1 < (a0.size : Int)) = false := decide_eq_false c5); clear c5; (replace H := Option.bind_eq_some_iff.mp H); (obtain ⟨t122, A160, H⟩ := H); (replace H : (if t122 = true then (some (strOfNums x3_1)) else (some (⟨#[]⟩ : ByteArray))) = some r := H); (have A16 := Aside0.mk A160); clear A160
     by_cases c17 : t122 = true
     ·subst c17
      (have H1 : (some (strOfNums x3_1)) = some r := by rw [if_pos rfl] at H; exact H); clear H; (have H := H1); clear H1; (obtain rfl := Option.some.inj H); (have hcv18 := own_string (P := Tryz.prog) Tryz.underlying42 Tryz.underlying5 Tryz.underlying9 (Kd.own_of_R HO_3.out))
      go_wp2_with (first | ((with_reducible refine gate_callee (f := 117) rfl ?_); refine goesL_ (some 33) rfl rfl Tryz.func117 (by kernel_rfl) rfl #[.string (strOfNums x3_1)] rfl qL ?_; (with_reducible refine (spec_WordOk.calls k1 (strOfNums x3_1) true _ A16.out).mono ?_); rintro e w' ⟨rfl, ⟨nd, rfl⟩⟩; refine ⟨_, rfl, ?_⟩; have hcv19 := own_string (w := World.drewN wr nd) (P := Tryz.prog) Tryz.underlying42 Tryz.underlying5 Tryz.underlying9 (own_move (Kd.own_of_R HO_3.out) (fun _ _ => rfl))))
      go_ret
      exact ⟨qE, qS0 HB⟩
     ·replace c17 := Bool.eq_false_iff.mpr c17
      (subst c17); (have H1 : (some (⟨#[]⟩ : ByteArray)) = some r := by rw [if_neg (show ¬ (false = true) by decide)] at H; exact H); clear H; (have H := H1); clear H1; (obtain rfl := Option.some.inj H); (have hcv20 := own_string (P := Tryz.prog) Tryz.underlying42 Tryz.underlying5 Tryz.underlying9 (Kd.own_of_R HO_3.out))
      go_wp2_with (first | ((with_reducible refine gate_callee (f := 117) rfl ?_); refine goesL_ (some 33) rfl rfl Tryz.func117 (by kernel_rfl) rfl #[.string (strOfNums x3_1)] rfl qL ?_; (with_reducible refine (spec_WordOk.calls k1 (strOfNums x3_1) false _ A16.out).mono ?_); rintro e w' ⟨rfl, ⟨nd, rfl⟩⟩; refine ⟨_, rfl, ?_⟩))
      go_ret
      exact ⟨qE, qS0 HB⟩
def spec_l19Weight.f (a0 : Int) : Option (Bool) := if a0 ≥ 0 then (some (decide (a0 ≤ 65535))) else (some false)
set_option maxHeartbeats 8000000 in
set_option maxRecDepth 100000 in
theorem spec_l19Weight.calls (a0 : Int) (r : Bool) (w : World) (h : spec_l19Weight.f a0 = some r) :
  Calls Tryz.prog 99 #[.int .i64 a0] w fun e w' => e = .returned (.bool r) ∧ Drawn0 w w' := by
 (have H : (if a0 ≥ 0 then (some (decide (a0 ≤ 65535))) else (some false)) = some r := h); clear h
 by_cases c2 : a0 ≥ 0
 ·rw [if_pos c2] at H
  (have c2b0 : decide (0 ≤ a0) = true := decide_eq_true c2); clear c2; (obtain rfl := Option.some.inj H)
  go_enter Tryz.func99, Tryz.ntmps99
  go_wp2
  go_ret
  exact qZ
 ·rw [if_neg c2] at H
  (have c2b0 : decide (0 ≤ a0) = false := decide_eq_false c2); clear c2; (obtain rfl := Option.some.inj H)
  go_enter Tryz.func99, Tryz.ntmps99
  go_wp2
  go_ret
  exact qZ
def spec_l01Gap.f (a0 : Int) : Option (Bool) := if a0 = 9 then (some true) else (if a0 = 10 then (some true) else (if a0 = 13 then (some true) else (some (a0 == 32))))
set_option maxHeartbeats 8000000 in
set_option maxRecDepth 100000 in
theorem spec_l01Gap.calls (a0 : Int) (r : Bool) (w : World) (h : spec_l01Gap.f a0 = some r) :
  Calls Tryz.prog 118 #[.int .u8 a0] w fun e w' => e = .returned (.bool r) ∧ Drawn0 w w' := by
 (have H : (if a0 = 9 then (some true) else (if a0 = 10 then (some true) else (if a0 = 13 then (some true) else (some (a0 == 32))))) = some r := h); clear h
 by_cases c2 : a0 = 9
 ·rw [if_pos c2] at H
  (have c2b0 : (a0 == 9) = true := beq_iff_eq.mpr c2); (have c2b1 : (a0 != 9) = false := bne_eq_false_iff_eq.mpr c2); clear c2; (obtain rfl := Option.some.inj H)
  go_enter Tryz.func118, Tryz.ntmps118
  go_wp2
  go_ret
  exact qZ
 ·rw [if_neg c2] at H
  (have c2b0 : (a0 == 9) = false := beq_eq_false_iff_ne.mpr c2); (have c2b1 : (a0 != 9) = true := bne_iff_ne.mpr c2)
  by_cases c3 : a0 = 10
  ·rw [if_pos c3] at H
   (have c3b0 : (a0 == 10) = true := beq_iff_eq.mpr c3); (have c3b1 : (a0 != 10) = false := bne_eq_false_iff_eq.mpr c3); clear c3; (obtain rfl := Option.some.inj H)
   go_enter Tryz.func118, Tryz.ntmps118
   go_wp2
   go_ret
   exact qZ
  ·rw [if_neg c3] at H
   (have c3b0 : (a0 == 10) = false := beq_eq_false_iff_ne.mpr c3); (have c3b1 : (a0 != 10) = true := bne_iff_ne.mpr c3)
   by_cases c4 : a0 = 13
   ·rw [if_pos c4] at H
    (have c4b0 : (a0 == 13) = true := beq_iff_eq.mpr c4); (have c4b1 : (a0 != 13) = false := bne_eq_false_iff_eq.mpr c4); clear c4; (obtain rfl := Option.some.inj H)
    go_enter Tryz.func118, Tryz.ntmps118
    go_wp2
    go_ret
    exact qZ
   ·rw [if_neg c4] at H
    (have c4b0 : (a0 == 13) = false := beq_eq_false_iff_ne.mpr c4); (have c4b1 : (a0 != 13) = true := bne_iff_ne.mpr c4); (obtain rfl := Option.some.inj H)
    go_enter Tryz.func118, Tryz.ntmps118
    go_wp2
    go_ret
    exact qZ
mutual
def spec_Tokens.j0 : Nat → ByteArray → Int → Bool → Option (List ByteArray × Bool)
 | 0, _, _, _ => none
 | k + 1, x0, x1, x20 => if x20 = true then (some (([] : List ByteArray), false)) else (spec_Tokens.l0 k x0 x1 (([] : List ByteArray)) 0)
def spec_Tokens.l0 : Nat → ByteArray → Int → List ByteArray → Int → Option (List ByteArray × Bool)
 | 0, _, _, _, _ => none
 | k + 1, x0, x1, x6, x7 => if x7 < (x0.size : Int) then (if 0 ≤ x7 then ((spec_l01Gap.f (bt x0 x7)).bind fun t126 => (if t126 = true then (spec_Tokens.j2 k x0 x1 x6 x7 true) else (if x7 > 0 then (if 0 ≤ (wrap64 (x7 - 1)) then (if (wrap64 (x7 - 1)) < (x0.size : Int) then ((spec_l01Gap.f (bt x0 (wrap64 (x7 - 1)))).bind fun t127 => (spec_Tokens.j2 k x0 x1 x6 x7 (!t127))) else (none)) else (none)) else (spec_Tokens.j2 k x0 x1 x6 x7 false)))) else (none)) else (spec_Tokens.l2 k x1 x6)
def spec_Tokens.j2 : Nat → ByteArray → Int → List ByteArray → Int → Bool → Option (List ByteArray × Bool)
 | 0, _, _, _, _, _ => none
 | k + 1, x0, x1, x6, x7, x43 => if x43 = true then (spec_Tokens.l0 k x0 x1 x6 (wrap64 (x7 + 1))) else (spec_Tokens.l1 k x0 x1 x6 x7 x7)
def spec_Tokens.j4 : Nat → ByteArray → Int → List ByteArray → Int → Int → Option (List ByteArray × Bool)
 | 0, _, _, _, _, _ => none
 | k + 1, x0, x1, x6, x7, x8 => if (x6.length : Int) = x1 then (some (([] : List ByteArray), false)) else (if 0 ≤ x7 then (if x7 ≤ x8 then (if x8 ≤ (x0.size : Int) then ((spec_Fold.f k (x0.extract (x7 : Int).toNat (x8 : Int).toNat)).bind fun t129 => (if t129.toList = ([] : List UInt8) then (if x6.length < 8796093022208 then (spec_Tokens.l0 k x0 x1 (x6 ++ [(⟨#[63]⟩ : ByteArray)]) (wrap64 (x7 + 1))) else (none)) else (if x6.length < 8796093022208 then (spec_Tokens.l0 k x0 x1 (x6 ++ [t129]) (wrap64 (x7 + 1))) else (none)))) else (none)) else (none)) else (none))
def spec_Tokens.l1 : Nat → ByteArray → Int → List ByteArray → Int → Int → Option (List ByteArray × Bool)
 | 0, _, _, _, _, _ => none
 | k + 1, x0, x1, x6, x7, x8 => if x8 < (x0.size : Int) then (if 0 ≤ x8 then ((spec_l01Gap.f (bt x0 x8)).bind fun t128 => (if t128 = true then (spec_Tokens.j4 k x0 x1 x6 x7 x8) else (spec_Tokens.l1 k x0 x1 x6 x7 (wrap64 (x8 + 1))))) else (none)) else (spec_Tokens.j4 k x0 x1 x6 x7 x8)
def spec_Tokens.l2 : Nat → Int → List ByteArray → Option (List ByteArray × Bool)
 | 0, _, _ => none
 | k + 1, x1, x6 => if (x6.length : Int) < x1 then (if x6.length < 8796093022208 then (spec_Tokens.l2 k x1 (x6 ++ [(⟨#[]⟩ : ByteArray)])) else (none)) else (some (x6, true))
end
def spec_Tokens.f (k : Nat) (a0 : ByteArray) (a1 : Int) : Option (List ByteArray × Bool) := if (a0.size : Int) > 2000 then (spec_Tokens.j0 k a0 a1 true) else (if a1 < 1 then (spec_Tokens.j0 k a0 a1 true) else (spec_Tokens.j0 k a0 a1 (decide (a1 > 16))))
set_option maxHeartbeats 8000000 in
set_option maxRecDepth 100000 in
theorem spec_Tokens.calls (k : Nat) (a0 : ByteArray) (a1 : Int) (r1 : List ByteArray) (r2 : Bool) (w : World) (h : spec_Tokens.f k a0 a1 = some (r1, r2)) :
  Calls Tryz.prog 100 #[.string a0, .int .i64 a1] w fun e w' => ∃ v0_ : Value, e = .returned (.tuple #[v0_, .bool r2]) ∧ Kd.R Kd.string 9 w' w.heap.size (fun _ => True) v0_ r1 ∧ Below w.heap.size w w' := by
 (have HB := Aside0.mk (Below.refl w.heap.size w)); (have H : (if (a0.size : Int) > 2000 then (spec_Tokens.j0 k a0 a1 true) else (if a1 < 1 then (spec_Tokens.j0 k a0 a1 true) else (spec_Tokens.j0 k a0 a1 (decide (a1 > 16))))) = some (r1, r2) := h); clear h; (have HC3 := Aside0.mk H); clear H
 go_enter Tryz.func100, Tryz.ntmps100
 go_upto_region 1 with (fail)
 go_cut [20] (fun v20 wc => ∃ (kq : Nat) (x20_2 : Bool), v20 = .bool x20_2 ∧ Aside0 (spec_Tokens.j0 kq a0 a1 x20_2 = some (r1, r2)) ∧ Aside0 (kq ≤ k) ∧ Aside0 (Below w.heap.size w wc))
 case first =>
  (have H := HC3.out); clear HC3
  by_cases c4 : (a0.size : Int) > 2000
  ·rw [if_pos c4] at H
   (have c4b0 : decide (2000 < (a0.size : Int)) = true := decide_eq_true c4); (have c4b1 : decide (2000 < a0.size) = true := decide_eq_true (by omega)); clear c4
   (first | rw [c4b0] | (simp only [i64_w, i32_w]; rw [c4b0]) | skip)
   (have H' := Aside0.mk H); clear H
   go_wp2
   go_meet
   case rel => exact ⟨_, (true), qV, H', ⟨by first | omega | exact Nat.le_refl _⟩, ⟨qS0 HB⟩⟩
  ·rw [if_neg c4] at H
   (have c4b0 : decide (2000 < (a0.size : Int)) = false := decide_eq_false c4); (have c4b1 : decide (2000 < a0.size) = false := decide_eq_false (by omega)); clear c4
   (first | rw [c4b0] | (simp only [i64_w, i32_w]; rw [c4b0]) | skip)
   by_cases c5 : a1 < 1
   ·rw [if_pos c5] at H
    (have c5b0 : decide (a1 < 1) = true := decide_eq_true c5); clear c5; (have H' := Aside0.mk H); clear H
    go_wp2
    go_meet
    case rel => exact ⟨_, (true), qV, H', ⟨by first | omega | exact Nat.le_refl _⟩, ⟨qS0 HB⟩⟩
   ·rw [if_neg c5] at H
    (have c5b0 : decide (a1 < 1) = false := decide_eq_false c5); clear c5; (have H' := Aside0.mk H); clear H
    go_wp2
    go_meet
    case rel => exact ⟨_, (decide (a1 > 16)), qV, H', ⟨by first | omega | exact Nat.le_refl _⟩, ⟨qS0 HB⟩⟩
 case rest =>
  clear HC3; (try clear c1); (try clear p2); (try clear c4); (try clear c4b0); (try clear c4b1); (try clear c5); (try clear c5b0); (obtain ⟨kq, x20_2, rfl, HA, HJ2, HB⟩ := hcut)
  cases kq with
  | zero => exact absurd HA.out (by simp [spec_Tokens.j0])
  | succ kj2 =>
   (have H := HA.out); clear HA; (simp only [spec_Tokens.j0] at H)
   by_cases c6 : x20_2 = true
   ·subst c6
    (have H1 : (some (([] : List ByteArray), false)) = some (r1, r2) := by rw [if_pos rfl] at H; exact H); clear H; (have H := H1); clear H1; (simp only [Option.some.injEq, Prod.mk.injEq] at H); (obtain ⟨rfl, rfl⟩ := H)
    go_wp2
    go_ret2
    exact ⟨_, qE, by first | exact Kd.R_nil _ _ _ _ _ | exact Kd.N_nil _ _ _ _ _ | exact Kd.V_nil _ _ _ _ _ | exact Kd.Q_nil _ _ _ _ _ | exact Kd.S_nil _ _ _ _ _, qS0 HB⟩
   ·replace c6 := Bool.eq_false_iff.mpr c6
    (subst c6); (have H1 : (spec_Tokens.l0 kj2 a0 a1 (([] : List ByteArray)) 0) = some (r1, r2) := by rw [if_neg (show ¬ (false = true) by decide)] at H; exact H); clear H; (have H := H1); clear H1; (obtain ⟨y123, hy123⟩ : ∃ y_ : List ByteArray, y_ = (([] : List ByteArray)) := ⟨_, rfl⟩); (replace H : (spec_Tokens.l0 kj2 a0 a1 y123 0) = some (r1, r2) := qY hy123 H); (have Ny123 := Aside0.mk hy123); clear hy123; (have H' := Aside0.mk H); clear H
    go_wp2_with (first | ((with_reducible refine gate_dst (N := 21) rfl ?_); refine Kd.R_lit Kd.string _ 9 ?hg (N := 21) ?hd (xs := ([] : List ByteArray)) (inner := []) (ok := fun _ => True) (okp := fun _ => True) ?hr ?hp (fun _ hk => hk) trivial (Below.refl _ _) (Nat.le_refl _) (by simp) ?_; (case hd => rfl); (case hg => rfl); (case hr => first | (go_simp; done) | (go_simp; rfl)); (case hp => exact (Reps.none _ _)); intro v124 w7 ho8 hb hg_ hnew_; clear hg_ hnew_; (first | rw [← Ny123.out] at ho8 | (simp only [Int.reduceToNat] at ho8; rw [← Ny123.out] at ho8)); have HO125 := Aside0.mk (Kd.R_lower ho8 (below_size (qS0 HB))); replace HB := Aside0.mk (below_step (qS0 HB) hb); clear hb ho8))
    go_loopg [6, 7] kj2 (fun kq v6 v7 w' => ∃ (x6_2 : List ByteArray) (x7_2 : Int), v7 = .int .i64 x7_2 ∧ Aside0 (spec_Tokens.l0 kq a0 a1 x6_2 x7_2 = some (r1, r2)) ∧ Aside0 (kq ≤ kj2) ∧ Aside0 (Kd.R Kd.string 9 w' w.heap.size (fun _ => True) v6 x6_2) ∧ Aside0 (Below w.heap.size w w'))
    case atStart => exact ⟨(y123), (0), qV, H', ⟨Nat.le_refl _⟩, ⟨qR HO125⟩, ⟨qS0 HB⟩⟩
    case round =>
     clear H'; (try clear c1); (try clear p2); (try clear c4); (try clear c4b0); (try clear c4b1); (try clear c5); (try clear c5b0); (try clear c6); (try clear p2); (obtain ⟨x6_2, x7_2, rfl, HA, HK2, HO_6, HB⟩ := hrel)
     cases gk with
     | zero => exact absurd HA.out (by simp [spec_Tokens.l0])
     | succ k2 =>
      (have H := HA.out); clear HA; (simp only [spec_Tokens.l0] at H)
      by_cases c9 : x7_2 < (a0.size : Int)
      ·rw [if_pos c9] at H
       (have c9b0 : decide (x7_2 < (a0.size : Int)) = true := decide_eq_true c9); clear c9; (have HC10 := Aside0.mk H); clear H
       go_upto_region 7 with (fail)
       go_cut [43] (fun v43 wc => ∃ (kq : Nat) (x43_9 : Bool), v43 = .bool x43_9 ∧ Aside0 (spec_Tokens.j2 kq a0 a1 x6_2 x7_2 x43_9 = some (r1, r2)) ∧ Aside0 (kq ≤ k2) ∧ Aside0 (Kd.R Kd.string 9 wc w.heap.size (fun _ => True) u6 x6_2) ∧ Aside0 (Below w.heap.size w wc))
       case first =>
        (have H := HC10.out); clear HC10
        by_cases c11 : 0 ≤ x7_2
        ·rw [if_pos c11] at H
         (have c11b0 : decide (0 ≤ x7_2) = true := decide_eq_true c11); clear c11
         (first | rw [c11b0] | (simp only [i64_w, i32_w]; rw [c11b0]) | skip)
         (replace H := Option.bind_eq_some_iff.mp H); (obtain ⟨t126, A130, H⟩ := H)
         try dsimp only at H
         (have A13 := Aside0.mk A130); clear A130
         by_cases c14 : t126 = true
         ·subst c14
          (have H1 : (spec_Tokens.j2 k2 a0 a1 x6_2 x7_2 true) = some (r1, r2) := by rw [if_pos rfl] at H; exact H); clear H; (have H := H1); clear H1; (have H' := Aside0.mk H); clear H; (have p12 : 0 ≤ (x7_2 : Int) := qO); (have q12 : x7_2 < (a0.size : Int) := qO); (have hx12 := bt_at a0 x7_2); (replace p12 := eq_true p12); (replace q12 := eq_true q12)
          go_wp2_with (first | ((with_reducible refine gate_callee (f := 118) rfl ?_); refine goesL_ (some 31) rfl rfl Tryz.func118 (by kernel_rfl) rfl #[.int .u8 (bt a0 x7_2)] rfl qL ?_; (with_reducible refine (spec_l01Gap.calls (bt a0 x7_2) true _ A13.out).mono ?_); rintro e w' ⟨rfl, ⟨nd, rfl⟩⟩; refine ⟨_, rfl, ?_⟩))
          go_meet
          case rel => exact ⟨_, (true), qV, H', ⟨by have := HJ2.out; have := HK2.out; first | omega | exact Nat.le_refl _⟩, ⟨qR HO_6⟩, ⟨qS0 HB⟩⟩
         ·replace c14 := Bool.eq_false_iff.mpr c14
          (subst c14); (have H1 : (if x7_2 > 0 then (if 0 ≤ (wrap64 (x7_2 - 1)) then (if (wrap64 (x7_2 - 1)) < (a0.size : Int) then ((spec_l01Gap.f (bt a0 (wrap64 (x7_2 - 1)))).bind fun t127 => (spec_Tokens.j2 k2 a0 a1 x6_2 x7_2 (!t127))) else (none)) else (none)) else (spec_Tokens.j2 k2 a0 a1 x6_2 x7_2 false)) = some (r1, r2) := by rw [if_neg (show ¬ (false = true) by decide)] at H; exact H); clear H; (have H := H1); clear H1
          by_cases c15 : x7_2 > 0
          ·rw [if_pos c15] at H
           (have c15b0 : decide (0 < x7_2) = true := decide_eq_true c15); clear c15; (obtain ⟨ji16, hji16⟩ : ∃ j_ : Int, (wrap64 (x7_2 - 1)) = j_ := ⟨_, rfl⟩); (replace H : (if 0 ≤ (ji16) then (if (ji16) < (a0.size : Int) then ((spec_l01Gap.f (bt a0 (ji16))).bind fun t127 => (spec_Tokens.j2 k2 a0 a1 x6_2 x7_2 (!t127))) else (none)) else (none)) = some (r1, r2) := by first | (rw [hji16] at H; exact H) | (simp only [hji16] at H ⊢; exact H)); (try rw [hji16] at A13); (have hji16w : (IntKind.i64.wrap (x7_2 - 1)) = ji16 := (i64_w _).trans hji16)
           by_cases c17 : 0 ≤ (ji16)
           ·rw [if_pos c17] at H
            (have c17b0 : decide (0 ≤ (ji16)) = true := decide_eq_true c17); clear c17
            by_cases c18 : (ji16) < (a0.size : Int)
            ·rw [if_pos c18] at H
             (have c18b0 : decide ((ji16) < (a0.size : Int)) = true := decide_eq_true c18); clear c18; (replace H := Option.bind_eq_some_iff.mp H); (obtain ⟨t127, A200, H⟩ := H); (replace H : (spec_Tokens.j2 k2 a0 a1 x6_2 x7_2 (!t127)) = some (r1, r2) := H); (have A20 := Aside0.mk A200); clear A200; (have H' := Aside0.mk H); clear H; (have p12 : 0 ≤ (x7_2 : Int) := qO); (have q12 : x7_2 < (a0.size : Int) := qO); (have hx12 := bt_at a0 x7_2); (replace p12 := eq_true p12); (replace q12 := eq_true q12)
             go_wp2_with (first | ((with_reducible refine gate_callee (f := 118) rfl ?_); refine goesL_ (some 31) rfl rfl Tryz.func118 (by kernel_rfl) rfl #[.int .u8 (bt a0 x7_2)] rfl qL ?_; (with_reducible refine (spec_l01Gap.calls (bt a0 x7_2) false _ A13.out).mono ?_); rintro e w' ⟨rfl, ⟨nd, rfl⟩⟩; refine ⟨_, rfl, ?_⟩; have p19 : 0 ≤ ((ji16) : Int) := qO; have q19 : (ji16) < (a0.size : Int) := qO; have hx19 := bt_at a0 (ji16); replace p19 := eq_true p19; replace q19 := eq_true q19) | (go_at_call 118; (with_reducible refine (spec_l01Gap.calls (bt a0 (ji16)) t127 _ A20.out).mono ?_); rintro e w' ⟨rfl, ⟨nd, rfl⟩⟩))
             go_meet
             case rel => exact ⟨_, (!t127), qV, H', ⟨by have := HJ2.out; have := HK2.out; first | omega | exact Nat.le_refl _⟩, ⟨qR HO_6⟩, ⟨qS0 HB⟩⟩
            ·rw [if_neg c18] at H
             exact absurd H (by simp)
           ·rw [if_neg c17] at H
            exact absurd H (by simp)
          ·rw [if_neg c15] at H
           (have c15b0 : decide (0 < x7_2) = false := decide_eq_false c15); clear c15; (have H' := Aside0.mk H); clear H; (have p12 : 0 ≤ (x7_2 : Int) := qO); (have q12 : x7_2 < (a0.size : Int) := qO); (have hx12 := bt_at a0 x7_2); (replace p12 := eq_true p12); (replace q12 := eq_true q12)
           go_wp2_with (first | ((with_reducible refine gate_callee (f := 118) rfl ?_); refine goesL_ (some 31) rfl rfl Tryz.func118 (by kernel_rfl) rfl #[.int .u8 (bt a0 x7_2)] rfl qL ?_; (with_reducible refine (spec_l01Gap.calls (bt a0 x7_2) false _ A13.out).mono ?_); rintro e w' ⟨rfl, ⟨nd, rfl⟩⟩; refine ⟨_, rfl, ?_⟩))
           go_meet
           case rel => exact ⟨_, (false), qV, H', ⟨by have := HJ2.out; have := HK2.out; first | omega | exact Nat.le_refl _⟩, ⟨qR HO_6⟩, ⟨qS0 HB⟩⟩
        ·rw [if_neg c11] at H
         exact absurd H (by simp)
       case rest =>
        clear HC10; (try clear c1); (try clear p1); (try clear q1); (try clear hx1); (try clear p2); (try clear c4); (try clear c4b0); (try clear c4b1); (try clear c5); (try clear c5b0); (try clear c6); (try clear p6); (try clear c9); (try clear c9b0); (try clear c10); (try clear c11); (try clear c11b0); (try clear p12); (try clear q12); (try clear hx12); (try clear c14); (try clear c15); (try clear c15b0); (try clear c17); (try clear c17b0); (try clear c18); (try clear c18b0); (try clear p19); (try clear q19); (try clear hx19); (try clear p12); (try clear p19); (try clear p2); (try clear q12); (try clear q19); (obtain ⟨kq, x43_9, rfl, HA, HJ9, HO_6, HB⟩ := hcut)
        cases kq with
        | zero => exact absurd HA.out (by simp [spec_Tokens.j2])
        | succ kj9 =>
         (have H := HA.out); clear HA; (simp only [spec_Tokens.j2] at H)
         by_cases c21 : x43_9 = true
         ·subst c21
          (have H1 : (spec_Tokens.l0 kj9 a0 a1 x6_2 (wrap64 (x7_2 + 1))) = some (r1, r2) := by rw [if_pos rfl] at H; exact H); clear H; (have H := H1); clear H1; (have H' := Aside0.mk H); clear H
          go_wp2
          go_roundg kj9
          case measure => have := HJ2.out; have := HK2.out; have := HJ9.out; omega
          case rel => exact ⟨(x6_2), (wrap64 (x7_2 + 1)), qV, H', ⟨by have := HJ2.out; have := HK2.out; have := HJ9.out; omega⟩, ⟨qR HO_6⟩, ⟨qS0 HB⟩⟩
         ·replace c21 := Bool.eq_false_iff.mpr c21
          (subst c21); (have H1 : (spec_Tokens.l1 kj9 a0 a1 x6_2 x7_2 x7_2) = some (r1, r2) := by rw [if_neg (show ¬ (false = true) by decide)] at H; exact H); clear H; (have H := H1); clear H1; (have HC22 := Aside0.mk H); clear H
          go_upto_block 2 with (fail)
          go_cut [8] (fun v8 wc => ∃ (kq : Nat) (x8_21 : Int), v8 = .int .i64 x8_21 ∧ Aside0 (spec_Tokens.j4 kq a0 a1 x6_2 x7_2 x8_21 = some (r1, r2)) ∧ Aside0 (kq ≤ kj9) ∧ Aside0 (Kd.R Kd.string 9 wc w.heap.size (fun _ => True) u6 x6_2) ∧ Aside0 (Below w.heap.size w wc))
          case first =>
           (have H := HC22.out); clear HC22; (have H' := Aside0.mk H); clear H
           go_wp2
           go_loopg [8] kj9 (fun kq v8 w' => ∃ (x8_4 : Int), v8 = .int .i64 x8_4 ∧ Aside0 (spec_Tokens.l1 kq a0 a1 x6_2 x7_2 x8_4 = some (r1, r2)) ∧ Aside0 (kq ≤ kj9) ∧ Aside0 (Kd.R Kd.string 9 w' w.heap.size (fun _ => True) u6 x6_2) ∧ Aside0 (Below w.heap.size w w'))
           case atStart => exact ⟨(x7_2), qV, H', ⟨Nat.le_refl _⟩, ⟨qR HO_6⟩, ⟨qS0 HB⟩⟩
           case round =>
            clear H'; (try clear c1); (try clear p1); (try clear q1); (try clear hx1); (try clear c2); (try clear p2); (try clear c4); (try clear c4b0); (try clear c4b1); (try clear c5); (try clear c5b0); (try clear c6); (try clear p6); (try clear c9); (try clear c9b0); (try clear c10); (try clear c11); (try clear c11b0); (try clear p12); (try clear q12); (try clear hx12); (try clear c14); (try clear c15); (try clear c15b0); (try clear c17); (try clear c17b0); (try clear c18); (try clear c18b0); (try clear p19); (try clear q19); (try clear hx19); (try clear c21); (try clear p1); (try clear p12); (try clear p19); (try clear p2); (try clear p6); (try clear q1); (try clear q12); (try clear q19); (obtain ⟨x8_4, rfl, HA, HK4, HO_6, HB⟩ := hrel)
            cases gk with
            | zero => exact absurd HA.out (by simp [spec_Tokens.l1])
            | succ k4 =>
             (have H := HA.out); clear HA; (simp only [spec_Tokens.l1] at H)
             by_cases c23 : x8_4 < (a0.size : Int)
             ·rw [if_pos c23] at H
              (have c23b0 : decide (x8_4 < (a0.size : Int)) = true := decide_eq_true c23); clear c23
              (first | rw [c23b0] | (simp only [i64_w, i32_w]; rw [c23b0]) | skip)
              by_cases c24 : 0 ≤ x8_4
              ·rw [if_pos c24] at H
               (have c24b0 : decide (0 ≤ x8_4) = true := decide_eq_true c24); clear c24; (replace H := Option.bind_eq_some_iff.mp H); (obtain ⟨t128, A260, H⟩ := H)
               try dsimp only at H
               (have A26 := Aside0.mk A260); clear A260
               by_cases c27 : t128 = true
               ·subst c27
                (have H1 : (spec_Tokens.j4 k4 a0 a1 x6_2 x7_2 x8_4) = some (r1, r2) := by rw [if_pos rfl] at H; exact H); clear H; (have H := H1); clear H1; (have H' := Aside0.mk H); clear H; (have p25 : 0 ≤ (x8_4 : Int) := qO); (have q25 : x8_4 < (a0.size : Int) := qO); (have hx25 := bt_at a0 x8_4); (replace p25 := eq_true p25); (replace q25 := eq_true q25)
                go_wp2_with (first | (go_at_call 118; (with_reducible refine (spec_l01Gap.calls (bt a0 x8_4) true _ A26.out).mono ?_); rintro e w' ⟨rfl, ⟨nd, rfl⟩⟩))
                go_meet
                case rel => exact ⟨_, (x8_4), qV, H', ⟨by have := HJ2.out; have := HK2.out; have := HJ9.out; have := HK4.out; first | omega | exact Nat.le_refl _⟩, ⟨qR HO_6⟩, ⟨qS0 HB⟩⟩
               ·replace c27 := Bool.eq_false_iff.mpr c27
                (subst c27); (have H1 : (spec_Tokens.l1 k4 a0 a1 x6_2 x7_2 (wrap64 (x8_4 + 1))) = some (r1, r2) := by rw [if_neg (show ¬ (false = true) by decide)] at H; exact H); clear H; (have H := H1); clear H1; (have H' := Aside0.mk H); clear H; (have p25 : 0 ≤ (x8_4 : Int) := qO); (have q25 : x8_4 < (a0.size : Int) := qO); (have hx25 := bt_at a0 x8_4); (replace p25 := eq_true p25); (replace q25 := eq_true q25)
                go_wp2_with (first | (go_at_call 118; (with_reducible refine (spec_l01Gap.calls (bt a0 x8_4) false _ A26.out).mono ?_); rintro e w' ⟨rfl, ⟨nd, rfl⟩⟩))
                go_roundg k4
                case measure => have := HJ2.out; have := HK2.out; have := HJ9.out; have := HK4.out; omega
                case rel => exact ⟨(wrap64 (x8_4 + 1)), qV, H', ⟨by have := HJ2.out; have := HK2.out; have := HJ9.out; have := HK4.out; omega⟩, ⟨qR HO_6⟩, ⟨qS0 HB⟩⟩
              ·rw [if_neg c24] at H
               exact absurd H (by simp)
             ·rw [if_neg c23] at H
              (have c23b0 : decide (x8_4 < (a0.size : Int)) = false := decide_eq_false c23); clear c23
              (first | rw [c23b0] | (simp only [i64_w, i32_w]; rw [c23b0]) | skip)
              (have H' := Aside0.mk H); clear H
              go_wp2
              go_meet
              case rel => exact ⟨_, (x8_4), qV, H', ⟨by have := HJ2.out; have := HK2.out; have := HJ9.out; have := HK4.out; first | omega | exact Nat.le_refl _⟩, ⟨qR HO_6⟩, ⟨qS0 HB⟩⟩
          case rest =>
           clear HC22; (try clear c1); (try clear p1); (try clear q1); (try clear hx1); (try clear c2); (try clear p2); (try clear q2); (try clear hx2); (try clear c4); (try clear c4b0); (try clear c4b1); (try clear c5); (try clear c5b0); (try clear c6); (try clear p6); (try clear c9); (try clear c9b0); (try clear c10); (try clear c11); (try clear c11b0); (try clear p12); (try clear q12); (try clear hx12); (try clear c14); (try clear c15); (try clear c15b0); (try clear c17); (try clear c17b0); (try clear c18); (try clear c18b0); (try clear p19); (try clear q19); (try clear hx19); (try clear c21); (try clear c23); (try clear c23b0); (try clear c24); (try clear c24b0); (try clear p25); (try clear q25); (try clear hx25); (try clear c27); (try clear p1); (try clear p12); (try clear p19); (try clear p2); (try clear p25); (try clear p6); (try clear q1); (try clear q12); (try clear q19); (try clear q25); (obtain ⟨kq, x8_21, rfl, HA, HJ21, HO_6, HB⟩ := hcut)
           cases kq with
           | zero => exact absurd HA.out (by simp [spec_Tokens.j4])
           | succ kj21 =>
            (have H := HA.out); clear HA; (simp only [spec_Tokens.j4] at H)
            by_cases c28 : (x6_2.length : Int) = a1
            ·rw [if_pos c28] at H
             (have c28b0 : ((x6_2.length : Int) == a1) = true := beq_iff_eq.mpr c28); (have c28b1 : ((x6_2.length : Int) != a1) = false := bne_eq_false_iff_eq.mpr c28); clear c28; (simp only [Option.some.injEq, Prod.mk.injEq] at H); (obtain ⟨rfl, rfl⟩ := H); (obtain ⟨Ao29, co29, eo29⟩ := Kd.R_slice HO_6.out); (subst eo29)
             go_wp2
             go_ret2
             exact ⟨_, qE, by first | exact Kd.R_nil _ _ _ _ _ | exact Kd.N_nil _ _ _ _ _ | exact Kd.V_nil _ _ _ _ _ | exact Kd.Q_nil _ _ _ _ _ | exact Kd.S_nil _ _ _ _ _, qS0 HB⟩
            ·rw [if_neg c28] at H
             (have c28b0 : ((x6_2.length : Int) == a1) = false := beq_eq_false_iff_ne.mpr c28); (have c28b1 : ((x6_2.length : Int) != a1) = true := bne_iff_ne.mpr c28)
             by_cases c30 : 0 ≤ x7_2
             ·rw [if_pos c30] at H
              (have c30b0 := eq_true c30); (have c30b1 : decide (0 ≤ x7_2) = true := decide_eq_true c30); clear c30
              by_cases c31 : x7_2 ≤ x8_21
              ·rw [if_pos c31] at H
               (have c31b0 := eq_true c31); (have c31b1 : decide (x7_2 ≤ x8_21) = true := decide_eq_true c31); clear c31
               by_cases c32 : x8_21 ≤ (a0.size : Int)
               ·rw [if_pos c32] at H
                (have c32b0 := eq_true c32); (have c32b1 : decide (x8_21 ≤ (a0.size : Int)) = true := decide_eq_true c32); clear c32; (replace H := Option.bind_eq_some_iff.mp H); (obtain ⟨t129, A330, H⟩ := H)
                try dsimp only at H
                (have A33 := Aside0.mk A330); clear A330
                by_cases c34 : t129.toList = ([] : List UInt8)
                ·rw [if_pos c34] at H
                 (have c34b0 : (t129.toList == ([] : List UInt8)) = true := beq_iff_eq.mpr c34); (have c34b1 : (t129.toList != ([] : List UInt8)) = false := bne_eq_false_iff_eq.mpr c34); clear c34
                 by_cases c35 : x6_2.length < 8796093022208
                 ·rw [if_pos c35] at H
                  (have LMc35 := Aside0.mk c35); clear c35; (obtain ⟨y130, hy130⟩ : ∃ y_ : List ByteArray, y_ = (x6_2 ++ [(⟨#[63]⟩ : ByteArray)]) := ⟨_, rfl⟩); (replace H : (spec_Tokens.l0 kj21 a0 a1 y130 (wrap64 (x7_2 + 1))) = some (r1, r2) := qY hy130 H); (have Ny130 := Aside0.mk hy130); clear hy130; (have H' := Aside0.mk H); clear H; (obtain ⟨Ao36, co36, eo36⟩ := Kd.R_slice HO_6.out); (subst eo36)
                  go_wp2_with (first | ((with_reducible refine gate_callee (f := 98) rfl ?_); refine goesL_ (some 66) rfl rfl Tryz.func98 (by kernel_rfl) rfl #[.string (a0.extract (x7_2 : Int).toNat (x8_21 : Int).toNat)] rfl qL ?_; (with_reducible refine (spec_Fold.calls kj21 (a0.extract (x7_2 : Int).toNat (x8_21 : Int).toNat) t129 _ A33.out).mono ?_); rintro e w37 ⟨rfl, hb⟩; refine ⟨_, rfl, ?_⟩; replace HO_6 := Aside0.mk (Kd.R_below (qR HO_6) hb); replace HB := Aside0.mk (below_step (qS0 HB) hb); (try clear hb); (try clear hb2); (try clear hk); (try clear hi)) | ((with_reducible refine gate_builtin (b := .append) (xs := #[.tmp 69, .tmp 71]) rfl ?_); at_builtin; refine Kd.R_append Kd.string (w0 := w) w.heap.size rfl (.tmp 69) (.tmp 71) 80 9 (.string ⟨#[]⟩) 16 rfl Tryz.underlying80 info9 rfl (by decide) (by omega) (.slice Ao36 x6_2.length co36) x6_2 (⟨#[63]⟩ : ByteArray) [.string (⟨#[63]⟩ : ByteArray)] (fun _ => True) (fun _ => False) rfl rfl ?aP (fun _ hk => hk.elim) ?aF ?aO ?aB ?aS ?aL ?_; (case aP => exact rfl); (case aB => exact (qS0 HB)); (case aF => exact (fun _ _ => trivial)); (case aO => exact (qR HO_6)); (case aS => exact (below_size (qS0 HB))); (case aL => have := LMc35.out; omega); intro v131 w38 ho hb hg hat; rw [← Ny130.out] at ho; replace HB := Aside0.mk (hb); have HO132 := Aside0.mk (ho); clear HO_6; clear ho hb hg hat))
                  go_roundg kj21
                  case measure => have := HJ2.out; have := HK2.out; have := HJ9.out; have := HJ21.out; omega
                  case rel => exact ⟨(y130), (wrap64 (x7_2 + 1)), qV, H', ⟨by have := HJ2.out; have := HK2.out; have := HJ9.out; have := HJ21.out; omega⟩, ⟨qR HO132⟩, ⟨qS0 HB⟩⟩
                 ·rw [if_neg c35] at H
                  exact absurd H (by simp)
                ·rw [if_neg c34] at H
                 (have c34b0 : (t129.toList == ([] : List UInt8)) = false := beq_eq_false_iff_ne.mpr c34); (have c34b1 : (t129.toList != ([] : List UInt8)) = true := bne_iff_ne.mpr c34)
                 by_cases c39 : x6_2.length < 8796093022208
                 ·rw [if_pos c39] at H
                  (have LMc39 := Aside0.mk c39); clear c39; (obtain ⟨y133, hy133⟩ : ∃ y_ : List ByteArray, y_ = (x6_2 ++ [t129]) := ⟨_, rfl⟩); (replace H : (spec_Tokens.l0 kj21 a0 a1 y133 (wrap64 (x7_2 + 1))) = some (r1, r2) := qY hy133 H); (have Ny133 := Aside0.mk hy133); clear hy133; (have H' := Aside0.mk H); clear H; (obtain ⟨Ao40, co40, eo40⟩ := Kd.R_slice HO_6.out); (subst eo40)
                  go_wp2_with (first | ((with_reducible refine gate_callee (f := 98) rfl ?_); refine goesL_ (some 66) rfl rfl Tryz.func98 (by kernel_rfl) rfl #[.string (a0.extract (x7_2 : Int).toNat (x8_21 : Int).toNat)] rfl qL ?_; (with_reducible refine (spec_Fold.calls kj21 (a0.extract (x7_2 : Int).toNat (x8_21 : Int).toNat) t129 _ A33.out).mono ?_); rintro e w41 ⟨rfl, hb⟩; refine ⟨_, rfl, ?_⟩; replace HO_6 := Aside0.mk (Kd.R_below (qR HO_6) hb); replace HB := Aside0.mk (below_step (qS0 HB) hb); (try clear hb); (try clear hb2); (try clear hk); (try clear hi)) | ((with_reducible refine gate_builtin (b := .append) (xs := #[.tmp 69, .tmp 71]) rfl ?_); at_builtin; refine Kd.R_append Kd.string (w0 := w) w.heap.size rfl (.tmp 69) (.tmp 71) 80 9 (.string ⟨#[]⟩) 16 rfl Tryz.underlying80 info9 rfl (by decide) (by omega) (.slice Ao40 x6_2.length co40) x6_2 t129 [.string t129] (fun _ => True) (fun _ => False) rfl rfl ?aP (fun _ hk => hk.elim) ?aF ?aO ?aB ?aS ?aL ?_; (case aP => exact rfl); (case aB => exact (qS0 HB)); (case aF => exact (fun _ _ => trivial)); (case aO => exact (qR HO_6)); (case aS => exact (below_size (qS0 HB))); (case aL => have := LMc39.out; omega); intro v134 w42 ho hb hg hat; rw [← Ny133.out] at ho; replace HB := Aside0.mk (hb); have HO135 := Aside0.mk (ho); clear HO_6; clear ho hb hg hat))
                  go_roundg kj21
                  case measure => have := HJ2.out; have := HK2.out; have := HJ9.out; have := HJ21.out; omega
                  case rel => exact ⟨(y133), (wrap64 (x7_2 + 1)), qV, H', ⟨by have := HJ2.out; have := HK2.out; have := HJ9.out; have := HJ21.out; omega⟩, ⟨qR HO135⟩, ⟨qS0 HB⟩⟩
                 ·rw [if_neg c39] at H
                  exact absurd H (by simp)
               ·rw [if_neg c32] at H
                exact absurd H (by simp)
              ·rw [if_neg c31] at H
               exact absurd H (by simp)
             ·rw [if_neg c30] at H
              exact absurd H (by simp)
      ·rw [if_neg c9] at H
       (have c9b0 : decide (x7_2 < (a0.size : Int)) = false := decide_eq_false c9); clear c9; (have H' := Aside0.mk H); clear H
       go_wp2
       go_loopg [6] k2 (fun kq v6 w' => ∃ (x6_3 : List ByteArray), Aside0 (spec_Tokens.l2 kq a1 x6_3 = some (r1, r2)) ∧ Aside0 (kq ≤ k2) ∧ Aside0 (Kd.R Kd.string 9 w' w.heap.size (fun _ => True) v6 x6_3) ∧ Aside0 (Below w.heap.size w w'))
       case atStart => exact ⟨(x6_2), H', ⟨Nat.le_refl _⟩, ⟨qR HO_6⟩, ⟨qS0 HB⟩⟩
       case round =>
        clear H'; (try clear c1); (try clear p1); (try clear q1); (try clear hx1); (try clear c2); (try clear p2); (try clear q2); (try clear hx2); (try clear c3); (try clear c4); (try clear c4b0); (try clear c4b1); (try clear c5); (try clear c5b0); (try clear c6); (try clear p6); (try clear c9); (try clear c9b0); (try clear c10); (try clear c11); (try clear c11b0); (try clear p12); (try clear q12); (try clear hx12); (try clear c14); (try clear c15); (try clear c15b0); (try clear c17); (try clear c17b0); (try clear c18); (try clear c18b0); (try clear p19); (try clear q19); (try clear hx19); (try clear c21); (try clear c23); (try clear c23b0); (try clear c24); (try clear c24b0); (try clear p25); (try clear q25); (try clear hx25); (try clear c27); (try clear c28); (try clear c28b0); (try clear c28b1); (try clear c30); (try clear c30b0); (try clear c30b1); (try clear c31); (try clear c31b0); (try clear c31b1); (try clear c32); (try clear c32b0); (try clear c32b1); (try clear c34); (try clear c34b0); (try clear c34b1); (try clear c35); (try clear c39); (try clear p1); (try clear p12); (try clear p19); (try clear p2); (try clear p25); (try clear p6); (try clear q1); (try clear q12); (try clear q19); (try clear q2); (try clear q25); (obtain ⟨x6_3, HA, HK3, HO_6, HB⟩ := hrel)
        cases gk with
        | zero => exact absurd HA.out (by simp [spec_Tokens.l2])
        | succ k3 =>
         (have H := HA.out); clear HA; (simp only [spec_Tokens.l2] at H)
         by_cases c43 : (x6_3.length : Int) < a1
         ·rw [if_pos c43] at H
          (have c43b0 : decide ((x6_3.length : Int) < a1) = true := decide_eq_true c43); clear c43
          by_cases c44 : x6_3.length < 8796093022208
          ·rw [if_pos c44] at H
           (have LMc44 := Aside0.mk c44); clear c44; (obtain ⟨y136, hy136⟩ : ∃ y_ : List ByteArray, y_ = (x6_3 ++ [(⟨#[]⟩ : ByteArray)]) := ⟨_, rfl⟩); (replace H : (spec_Tokens.l2 k3 a1 y136) = some (r1, r2) := qY hy136 H); (have Ny136 := Aside0.mk hy136); clear hy136; (have H' := Aside0.mk H); clear H; (obtain ⟨Ao45, co45, eo45⟩ := Kd.R_slice HO_6.out); (subst eo45)
           go_wp2_with (first | ((with_reducible refine gate_builtin (b := .append) (xs := #[.tmp 77, .tmp 78]) rfl ?_); at_builtin; refine Kd.R_append Kd.string (w0 := w) w.heap.size rfl (.tmp 77) (.tmp 78) 80 9 (.string ⟨#[]⟩) 16 rfl Tryz.underlying80 info9 rfl (by decide) (by omega) (.slice Ao45 x6_3.length co45) x6_3 (⟨#[]⟩ : ByteArray) [.string (⟨#[]⟩ : ByteArray)] (fun _ => True) (fun _ => False) rfl rfl ?aP (fun _ hk => hk.elim) ?aF ?aO ?aB ?aS ?aL ?_; (case aP => exact rfl); (case aB => exact (qS0 HB)); (case aF => exact (fun _ _ => trivial)); (case aO => exact (qR HO_6)); (case aS => exact (below_size (qS0 HB))); (case aL => have := LMc44.out; omega); intro v137 w46 ho hb hg hat; rw [← Ny136.out] at ho; replace HB := Aside0.mk (hb); have HO138 := Aside0.mk (ho); clear HO_6; clear ho hb hg hat))
           go_roundg k3
           case measure => have := HJ2.out; have := HK2.out; have := HK3.out; omega
           case rel => exact ⟨(y136), H', ⟨by have := HJ2.out; have := HK2.out; have := HK3.out; omega⟩, ⟨qR HO138⟩, ⟨qS0 HB⟩⟩
          ·rw [if_neg c44] at H
           exact absurd H (by simp)
         ·rw [if_neg c43] at H
          (have c43b0 : decide ((x6_3.length : Int) < a1) = false := decide_eq_false c43); clear c43; (simp only [Option.some.injEq, Prod.mk.injEq] at H); (obtain ⟨rfl, rfl⟩ := H); (obtain ⟨Ao47, co47, eo47⟩ := Kd.R_slice HO_6.out); (subst eo47)
          go_wp2
          go_ret2
          exact ⟨_, qE, qR HO_6, qS0 HB⟩
end Go.Proofs.YtppopmajclmhjaaGreatDoor.QB
