/- Part of the proof of the law FnExactReqText: what it uses of the texts that this session and the kit's print wrote. -/
import Derived.Test.YtbpffdhkeinmcaaDoorZFnExactReqTextx0
import Derived.Test.YtbpffdhkeinmcaaDoorProg
import Derived.Below
import Derived.Deep.Draws
import Derived.Deep.AppendLies
import Derived.Maps.AppendAt
import Derived.OwnWalk
import Derived.Laws.BytesArg
import Derived.Laws.MakeOwn
import Derived.Laws.OwnMore
import Derived.Deep.OwnRows
import Derived.Tactics
import Derived.Lib.ConvBytes
import Derived.Laws.Slices
import Derived.WalkKit
import Derived.KernelRfl
import Derived.RowKit3
import Derived.Deep.LoopGhost
import Derived.Deep.QuietTactic
import Derived.BigQuiet
import Derived.WideLaws
import Derived.Deep.DeepCutAuto
import Derived.Deep.CutBlock
import Derived.Deep.RegionHeld3
import Derived.Laws.Rows
import Derived.Lib.AppendStr
import Derived.ArgAppend
import Derived.Laws.IdiomCopy
import Derived.OrdersHeld
import Derived.Laws.BitsLemmas
import Derived.RowKit
import Derived.Shelf.Abstract
import Derived.WalkLawsBesides
import Derived.Lib.BufferWrite
import Derived.Laws.CopyOwn
import Derived.Shelf.Strconv.Itoa3
import Derived.Shelf.Lay
import Derived.Ground.NamesProg
import Derived.Lib.AppendIntMem
import Derived.Shelf.Strings.Search3
import Derived.Shelf.Strings.IndexAnyAll
import Derived.Laws.Runes
import Derived.Laws.RangeAny
import Derived.Shelf.Small.Utf8
import Derived.Lib.OthersKept
import Derived.Lib.DecodeN
import Derived.Lib.TrimUEq
import Derived.Lib.MapLaws
import Derived.WalkMore
namespace Go.Proofs.YtbpffdhkeinmcaaDoor.QG
open Go.RowKit Go.Proofs.YtbpffdhkeinmcaaDoorW.PrintWords Go.Proofs.YtbpffdhkeinmcaaDoorW.PrintLast Go.Proofs.YtbpffdhkeinmcaaDoorW.PrintMore
set_option linter.unusedVariables false
set_option linter.unusedSimpArgs false
theorem qB {w w' : World} {g : Nat} {o : Obj} (h : Aside0 (w.heap[g]? = some o)) (h' : w.heap[g]? = some o → w'.heap[g]? = some o := by intro h_; (with_reducible repeat (first | refine blk_drewN ?_ _ | refine blk_drew ?_ | refine blk_alloc ?_ _)); exact h_) : w'.heap[g]? = some o := h' h.out
theorem qR {p q : Prop} (h : Aside0 p) (h' : p → q := by intro h_; (with_reducible repeat (first | apply Kd.R_alloc | apply Kd.R_drewN | apply Kd.R_drew)); exact h_) : q := h' h.out
theorem qE {p : Prop} (h : p := by first | rfl | (simp [errW_none, errW_some] <;> rfl) | (simp [*, errW_none, errW_some] <;> rfl)) : p := h
theorem qL {p : Prop} (h : p := by (try simp only [List.map_toArray, List.map_cons, List.map_nil]); first | done | rfl | (simp only [List.length_drop, List.length_take]; rfl)) : p := h
theorem qD {w w1 W : World} {g : Nat} {o : Obj} (h : Aside0 (w.heap[g]? = some o)) (hb : Below W.heap.size W w1) (h' : w.heap[g]? = some o → W.heap[g]? = some o := by intro h_; (with_reducible repeat (first | refine blk_drewN ?_ _ | refine blk_drew ?_ | refine blk_alloc ?_ _)); exact h_) : Aside0 (w1.heap[g]? = some o) := ⟨blk_below (h' h.out) hb⟩
theorem qG {g n m : Nat} (hg : g = m) (h : n ≤ m) : Aside0 (n ≤ g) := ⟨hg ▸ h⟩
theorem qN {g n m : Nat} (hg : g = m) (h : n < m) : Aside0 (n ≠ g) := ⟨hg ▸ Nat.ne_of_lt h⟩
theorem qM {g n m : Nat} (hg : g = m) (h : n < m) : Aside0 (g ≠ n) := ⟨hg ▸ Nat.ne_of_gt h⟩
theorem qT {P : Prop} [Decidable P] {α : Type} {a : Option α} {r : α} (h : (if P then a else none) = some r) : decide P = true ∧ a = some r := by
 by_cases c : P
 ·rw [if_pos c] at h; exact ⟨decide_eq_true c, h⟩
 ·rw [if_neg c] at h; cases h
theorem qU {P : Prop} [Decidable P] {α : Type} {a : Option α} {r : α} (h : (if P then a else none) = some r) : P ∧ a = some r := ⟨of_decide_eq_true (qT h).1, (qT h).2⟩
theorem qI {P : Prop} [Decidable P] {α : Type} {a b r : α} (h : (if P then a else b) = r) : (decide P = true ∧ a = r) ∨ (decide P = false ∧ b = r) := by
 by_cases c : P
 ·rw [if_pos c] at h; exact .inl ⟨decide_eq_true c, h⟩
 ·rw [if_neg c] at h; exact .inr ⟨decide_eq_false c, h⟩
theorem qJ {P : Prop} [Decidable P] {α : Type} {a b r : α} (h : (if P then a else b) = r) : (P ∧ a = r) ∨ (¬ P ∧ b = r) := by
 by_cases c : P
 ·rw [if_pos c] at h; exact .inl ⟨c, h⟩
 ·rw [if_neg c] at h; exact .inr ⟨c, h⟩
theorem qX {α β : Type} {o : Option α} {f : α → Option β} {r : β} (h : o.bind f = some r) : ∃ a, Aside0 (o = some a) ∧ f a = some r := by
 obtain ⟨a, h1, h2⟩ := Option.bind_eq_some_iff.mp h
 exact ⟨a, ⟨h1⟩, h2⟩
theorem qPu {p : Prop} (h : p := by simp only [Act.put, List.setIfInBounds_toArray, List.set_cons_zero, List.set_cons_succ, i64_w, i32_w]; rfl) : p := h
theorem qZ {p q : Prop} (h : p := by first | rfl | (simp; done) | (simp [*]; done)) (h' : q := by repeat (first | exact Drawn0.refl _ | apply Drawn0.step)) : p ∧ q := ⟨h, h'⟩
theorem qV {p : Prop} (h : p := by first | rfl | (simp; done) | (simp [*]; done)) : p := h
theorem qO {p : Prop} [Decidable p] (h : decide p = true := by first | (with_reducible assumption) | assumption) : p := of_decide_eq_true h
theorem qY {p q : Prop} {α : Type} {y e : α} (hy : y = e) (h : p) (h' : y = e → p → q := by intro hy_ H_; first | (rw [hy_]; with_reducible exact H_) | (have H2_ := (Option.bind_some _ _).symm.trans H_; rw [hy_]; with_reducible exact H2_) | (have H2_ := (Option.bind_some _ _).symm.trans H_; with_reducible exact H2_) | with_reducible exact H_ | (rw [hy_]; exact H_) | exact H_) : q := h' hy h
theorem qC7 {w : World} {g t : Nat} {c0 c1 c2 c3 c4 c5 c6 : Value} (h : Aside0 (w.heap[g]? = some (.cells #[c0, c1, c2, c3, c4, c5, c6] t (0, 0)))) : w.cell? ⟨g, 0, none⟩ = some c0 ∧ w.cell? ⟨g, 1, none⟩ = some c1 ∧ w.cell? ⟨g, 2, none⟩ = some c2 ∧ w.cell? ⟨g, 3, none⟩ = some c3 ∧ w.cell? ⟨g, 4, none⟩ = some c4 ∧ w.cell? ⟨g, 5, none⟩ = some c5 ∧ w.cell? ⟨g, 6, none⟩ = some c6 ∧ w.frozen? ⟨g, 0, none⟩ = false ∧ w.frozen? ⟨g, 1, none⟩ = false ∧ w.frozen? ⟨g, 2, none⟩ = false ∧ w.frozen? ⟨g, 3, none⟩ = false ∧ w.frozen? ⟨g, 4, none⟩ = false ∧ w.frozen? ⟨g, 5, none⟩ = false ∧ w.frozen? ⟨g, 6, none⟩ = false := ⟨(blk_cell h.out 0).trans rfl, (blk_cell h.out 1).trans rfl, (blk_cell h.out 2).trans rfl, (blk_cell h.out 3).trans rfl, (blk_cell h.out 4).trans rfl, (blk_cell h.out 5).trans rfl, (blk_cell h.out 6).trans rfl, blk_frozen h.out 0, blk_frozen h.out 1, blk_frozen h.out 2, blk_frozen h.out 3, blk_frozen h.out 4, blk_frozen h.out 5, blk_frozen h.out 6⟩
theorem qS0 {p  q : Prop} (h : Aside0 p) (h' : p → q := by intro h_ ; repeat (first | (with_reducible first | exact h_ | apply below_alloc | apply pw_below_drewN | apply below_drew1) | exact h_)) : q := h' h.out
theorem qS1 {p r0 q : Prop} (h : Aside0 p) (k0 : Aside0 r0) (h' : p → r0 → q := by intro h_ e0_; repeat (first | (with_reducible first | exact h_ | apply below_alloc | apply pw_below_drewN | apply below_drew1 | refine below_set ?_ e0_) | exact h_)) : q := h' h.out k0.out
theorem qS2 {p r0 r1 q : Prop} (h : Aside0 p) (k0 : Aside0 r0) (k1 : Aside0 r1) (h' : p → r0 → r1 → q := by intro h_ e0_ e1_; repeat (first | (with_reducible first | exact h_ | apply below_alloc | apply pw_below_drewN | apply below_drew1 | refine below_set ?_ e0_ | refine below_set ?_ e1_) | exact h_)) : q := h' h.out k0.out k1.out
theorem qS3 {p r0 r1 r2 q : Prop} (h : Aside0 p) (k0 : Aside0 r0) (k1 : Aside0 r1) (k2 : Aside0 r2) (h' : p → r0 → r1 → r2 → q := by intro h_ e0_ e1_ e2_; repeat (first | (with_reducible first | exact h_ | apply below_alloc | apply pw_below_drewN | apply below_drew1 | refine below_set ?_ e0_ | refine below_set ?_ e1_ | refine below_set ?_ e2_) | exact h_)) : q := h' h.out k0.out k1.out k2.out
end Go.Proofs.YtbpffdhkeinmcaaDoor.QG
namespace Go.Proofs.YtbpffdhkeinmcaaDoor.QG
open Go.RowKit Go.Proofs.YtbpffdhkeinmcaaDoorW.PrintWords Go.Proofs.YtbpffdhkeinmcaaDoorW.PrintLast Go.Proofs.YtbpffdhkeinmcaaDoorW.PrintMore
attribute [local go_sem] max2_int min2_int max_two min_two max_three min_three max_four min_four
set_option linter.unusedVariables false
set_option linter.unusedSimpArgs false
def errW : Option Int → Value
 | none => .nilIface
 | some c => .iface 0 (.int .i64 c)
theorem errW_none : errW none = .nilIface := rfl
theorem errW_some (c : Int) : errW (some c) = .iface 0 (.int .i64 c) := rfl
theorem info5 : (Tryd.prog.info? 5).map (fun i => (i.zero, i.size, i.bytes)) = some (some (.int .u8 0), 1, 1) := by kernel_rfl
structure S29 where
 f0 : Int
 f1 : ByteArray
 f2 : Int
 f3 : Int
 f4 : Int
 f5 : Int
 f6 : ByteArray
def k29 : Kd S29 := Kd.iso (Kd.pair (Kd.int .i64) (Kd.pair Kd.string (Kd.pair (Kd.int .i64) (Kd.pair (Kd.int .i64) (Kd.pair (Kd.int .i64) (Kd.pair (Kd.int .i64) Kd.string)))))) (fun x : S29 => (x.f0, x.f1, x.f2, x.f3, x.f4, x.f5, x.f6))
end Go.Proofs.YtbpffdhkeinmcaaDoor.QG
namespace Go.Proofs.YtbpffdhkeinmcaaDoor.QG
open Go.RowKit Go.Proofs.YtbpffdhkeinmcaaDoorW.PrintWords Go.Proofs.YtbpffdhkeinmcaaDoorW.PrintLast Go.Proofs.YtbpffdhkeinmcaaDoorW.PrintMore
attribute [local go_sem] max2_int min2_int max_two min_two max_three min_three max_four min_four
set_option linter.unusedVariables false
set_option linter.unusedSimpArgs false
set_option maxHeartbeats 8000000
set_option maxRecDepth 100000
def laws_szReq.f (a0_0 : Int) (a0_1 : ByteArray) (a0_2 : Int) (a0_3 : Int) (a0_4 : Int) (a0_5 : Int) (a0_6 : ByteArray) (a1 : Int) : Option (Int) := if (wrap64 (a1 - (a0_1.size : Int))) < 0 then (some (-1)) else (if (wrap64 ((wrap64 (a1 - (a0_1.size : Int))) - (a0_6.size : Int))) < 0 then (some (-1)) else (some (wrap64 ((wrap64 (a1 - (a0_1.size : Int))) - (a0_6.size : Int)))))
theorem laws_szReq.calls (a0_0 : Int) (a0_1 : ByteArray) (a0_2 : Int) (a0_3 : Int) (a0_4 : Int) (a0_5 : Int) (a0_6 : ByteArray) (a1 : Int) (r : Int) (w : World) (h : laws_szReq.f a0_0 a0_1 a0_2 a0_3 a0_4 a0_5 a0_6 a1 = some r) :
  Calls Tryd.prog 12 #[.agg #[.int .i64 a0_0, .string a0_1, .int .i64 a0_2, .int .i64 a0_3, .int .i64 a0_4, .int .i64 a0_5, .string a0_6], .int .i64 a1] w fun e w' => e = .returned (.int .i64 r) ∧ Below w.heap.size w w' := by
 (have hu29 := Tryd.underlying29); (have HB := Aside0.mk (Below.refl w.heap.size w)); (have H : (if (wrap64 (a1 - (a0_1.size : Int))) < 0 then (some (-1)) else (if (wrap64 ((wrap64 (a1 - (a0_1.size : Int))) - (a0_6.size : Int))) < 0 then (some (-1)) else (some (wrap64 ((wrap64 (a1 - (a0_1.size : Int))) - (a0_6.size : Int)))))) = some r := h); clear h
 rcases qI H with ⟨c3b0, H⟩ | ⟨c3b0, H⟩
 ·obtain rfl := Option.some.inj H
  go_enter Tryd.func12, Tryd.ntmps12
  go_wp2_with (first | ((with_reducible refine gate_dst (N := 2) rfl ?_); refine box_event ?hg (N := 2) ?hd (cs := #[.int .i64 a0_0, .string a0_1, .int .i64 a0_2, .int .i64 a0_3, .int .i64 a0_4, .int .i64 a0_5, .string a0_6]) (t := 29) ?hr ?_; (case hd => rfl); (case hg => rfl); (case hr => first | (go_simp; done) | (go_simp; rfl)); intro gb101 hg w4 hbox hb; have BK101 := Aside0.mk (hbox); have GW101 := qG hg (below_size (qS0 HB)); have GE101 := qG hg (below_size (qS0 HB)); replace HB := Aside0.mk (below_step (qS0 HB) hb); clear hb hbox hg; obtain ⟨hcz5_0, hcz5_1, hcz5_2, hcz5_3, hcz5_4, hcz5_5, hcz5_6, hfz5_0, hfz5_1, hfz5_2, hfz5_3, hfz5_4, hfz5_5, hfz5_6⟩ := qC7 BK101))
  go_ret
  exact ⟨qE, qS1 HB GE101⟩
 ·rcases qI H with ⟨c6b0, H⟩ | ⟨c6b0, H⟩
  ·obtain rfl := Option.some.inj H
   go_enter Tryd.func12, Tryd.ntmps12
   go_wp2_with (first | ((with_reducible refine gate_dst (N := 2) rfl ?_); refine box_event ?hg (N := 2) ?hd (cs := #[.int .i64 a0_0, .string a0_1, .int .i64 a0_2, .int .i64 a0_3, .int .i64 a0_4, .int .i64 a0_5, .string a0_6]) (t := 29) ?hr ?_; (case hd => rfl); (case hg => rfl); (case hr => first | (go_simp; done) | (go_simp; rfl)); intro gb101 hg w7 hbox hb; have BK101 := Aside0.mk (hbox); have GW101 := qG hg (below_size (qS0 HB)); have GE101 := qG hg (below_size (qS0 HB)); replace HB := Aside0.mk (below_step (qS0 HB) hb); clear hb hbox hg; obtain ⟨hcz8_0, hcz8_1, hcz8_2, hcz8_3, hcz8_4, hcz8_5, hcz8_6, hfz8_0, hfz8_1, hfz8_2, hfz8_3, hfz8_4, hfz8_5, hfz8_6⟩ := qC7 BK101))
   go_ret
   exact ⟨qE, qS1 HB GE101⟩
  ·obtain rfl := Option.some.inj H
   go_enter Tryd.func12, Tryd.ntmps12
   go_wp2_with (first | ((with_reducible refine gate_dst (N := 2) rfl ?_); refine box_event ?hg (N := 2) ?hd (cs := #[.int .i64 a0_0, .string a0_1, .int .i64 a0_2, .int .i64 a0_3, .int .i64 a0_4, .int .i64 a0_5, .string a0_6]) (t := 29) ?hr ?_; (case hd => rfl); (case hg => rfl); (case hr => first | (go_simp; done) | (go_simp; rfl)); intro gb101 hg w9 hbox hb; have BK101 := Aside0.mk (hbox); have GW101 := qG hg (below_size (qS0 HB)); have GE101 := qG hg (below_size (qS0 HB)); replace HB := Aside0.mk (below_step (qS0 HB) hb); clear hb hbox hg; obtain ⟨hcz10_0, hcz10_1, hcz10_2, hcz10_3, hcz10_4, hcz10_5, hcz10_6, hfz10_0, hfz10_1, hfz10_2, hfz10_3, hfz10_4, hfz10_5, hfz10_6⟩ := qC7 BK101))
   go_ret
   exact ⟨qE, qS1 HB GE101⟩
def spec_l26Num.f (a0 : Int) : Option (Bool) := if a0 ≥ 0 then (some (decide (a0 ≤ 999999999))) else (some false)
theorem spec_l26Num.calls (a0 : Int) (r : Bool) (w : World) (h : spec_l26Num.f a0 = some r) :
  Calls Tryd.prog 40 #[.int .i64 a0] w fun e w' => e = .returned (.bool r) ∧ Drawn0 w w' := by
 (have H : (if a0 ≥ 0 then (some (decide (a0 ≤ 999999999))) else (some false)) = some r := h); clear h
 rcases qI H with ⟨(c2b0 : decide (0 ≤ a0) = true), H⟩ | ⟨(c2b0 : decide (0 ≤ a0) = false), H⟩
 ·obtain rfl := Option.some.inj H
  go_enter Tryd.func40, Tryd.ntmps40
  go_wp2
  go_ret
  exact qZ
 ·obtain rfl := Option.some.inj H
  go_enter Tryd.func40, Tryd.ntmps40
  go_wp2
  go_ret
  exact qZ
def spec_l04Num.l0 : Nat → Int → List Int → Int → Option (ByteArray)
 | 0, _, _, _ => none
 | k + 1, x0, x3, x4 => if x4 = 0 then (if x0 < 0 then ((some (([45] : List Int) : List Int)).bind fun y105 => (if y105.length + x3.length < 140737488355328 then (some (strOfNums (y105 ++ x3))) else (none))) else (some (strOfNums x3))) else (if (Int.tmod x4 10) < 0 then ((some (([(wrap64 (48 + (wrap64 (-(Int.tmod x4 10))))) % 256] : List Int) : List Int)).bind fun y111 => (if y111.length + x3.length < 140737488355328 then (spec_l04Num.l0 k x0 (y111 ++ x3) (wrap64 (Int.tdiv x4 10))) else (none))) else ((some (([(wrap64 (48 + (Int.tmod x4 10))) % 256] : List Int) : List Int)).bind fun y117 => (if y117.length + x3.length < 140737488355328 then (spec_l04Num.l0 k x0 (y117 ++ x3) (wrap64 (Int.tdiv x4 10))) else (none))))
def spec_l04Num.f (k : Nat) (a0 : Int) : Option (ByteArray) := if a0 = 0 then (some (⟨#[48]⟩ : ByteArray)) else (spec_l04Num.l0 k a0 (([] : List Int)) a0)
theorem spec_l04Num.calls (k : Nat) (a0 : Int) (r : ByteArray) (w : World) (h : spec_l04Num.f k a0 = some r) :
  Calls Tryd.prog 41 #[.int .i64 a0] w fun e w' => e = .returned (.string r) ∧ Below w.heap.size w w' := by
 (have HB := Aside0.mk (Below.refl w.heap.size w)); (have H : (if a0 = 0 then (some (⟨#[48]⟩ : ByteArray)) else (spec_l04Num.l0 k a0 (([] : List Int)) a0)) = some r := h); clear h
 rcases qJ H with ⟨c2, H⟩ | ⟨c2, H⟩
 ·have c2b0 : (a0 == 0) = true := beq_iff_eq.mpr c2
  (have c2b1 : (a0 != 0) = false := bne_eq_false_iff_eq.mpr c2); clear c2; (obtain rfl := Option.some.inj H)
  go_enter Tryd.func41, Tryd.ntmps41
  go_wp2
  go_ret
  exact ⟨qE, qS0 HB⟩
 ·have c2b0 : (a0 == 0) = false := beq_eq_false_iff_ne.mpr c2
  (have c2b1 : (a0 != 0) = true := bne_iff_ne.mpr c2); (obtain ⟨y102, hy102⟩ : ∃ y_ : List Int, y_ = (([] : List Int)) := ⟨_, rfl⟩); (replace H : (spec_l04Num.l0 k a0 y102 a0) = some r := qY hy102 H); (have Ny102 := Aside0.mk hy102); clear hy102; (have H' := Aside0.mk H); clear H
  go_enter Tryd.func41, Tryd.ntmps41
  go_wp2_with (first | ((with_reducible refine gate_dst (N := 8) rfl ?_); refine Kd.R_lit (Kd.int .u8) _ 5 ?hg (N := 8) ?hd (xs := ([] : List Int)) (inner := []) (ok := fun _ => True) (okp := fun _ => True) ?hr ?hp (fun _ hk => hk) trivial (Below.refl _ _) (Nat.le_refl _) (by simp) ?_; (case hd => rfl); (case hg => rfl); (case hr => first | (go_simp; done) | (go_simp; rfl)); (case hp => exact (Reps.none _ _)); intro v103 w3 ho4 hb hg_ hnew_; clear hg_ hnew_; (first | rw [← Ny102.out] at ho4 | (simp only [Int.reduceToNat] at ho4; rw [← Ny102.out] at ho4)); have HO104 := Aside0.mk (Kd.R_lower ho4 (below_size (qS0 HB))); replace HB := Aside0.mk (below_step (qS0 HB) hb); clear hb ho4))
  go_loopg [3, 4] k (fun kq v3 v4 w' => ∃ (x3_1 : List Int) (x4_1 : Int), v4 = .int .i64 x4_1 ∧ Aside0 (spec_l04Num.l0 kq a0 x3_1 x4_1 = some r) ∧ Aside0 (kq ≤ k) ∧ Aside0 (Kd.R (Kd.int .u8) 5 w' w.heap.size (fun _ => True) v3 x3_1) ∧ Aside0 (Below w.heap.size w w'))
  case atStart => exact ⟨(y102), (a0), qV, H', ⟨Nat.le_refl _⟩, ⟨qR HO104⟩, ⟨qS0 HB⟩⟩
  case round =>
   clear H'; (try clear c2b0); (try clear c2b1); (obtain ⟨x3_1, x4_1, rfl, HA, HK1, HO_3, HB⟩ := hrel)
   cases gk with
   | zero => exact absurd HA.out (by simp [spec_l04Num.l0])
   | succ k1 =>
    (have H := HA.out); clear HA; (simp only [spec_l04Num.l0] at H)
    rcases qJ H with ⟨c5, H⟩ | ⟨c5, H⟩
    ·have c5b0 : (x4_1 == 0) = true := beq_iff_eq.mpr c5
     (have c5b1 : (x4_1 != 0) = false := bne_eq_false_iff_eq.mpr c5); clear c5
     rcases qI H with ⟨c6b0, H⟩ | ⟨c6b0, H⟩
     ·obtain ⟨y105, hy105⟩ : ∃ y_ : List Int, y_ = (([45] : List Int)) := ⟨_, rfl⟩
      (replace H : (if y105.length + x3_1.length < 140737488355328 then (some (strOfNums (y105 ++ x3_1))) else (none)) = some r := qY hy105 H); (have Ny105 := Aside0.mk hy105); clear hy105; (obtain ⟨c7, H⟩ := qU H); (have LMc7 := Aside0.mk c7); clear c7; (obtain ⟨y108, hy108⟩ : ∃ y_ : List Int, y_ = (y105 ++ x3_1) := ⟨_, rfl⟩); (replace H : (some (strOfNums y108)) = some r := qY hy108 H); (have Ny108 := Aside0.mk hy108); clear hy108; (obtain rfl := Option.some.inj H)
      go_wp2_with (first | ((with_reducible refine gate_dst (N := 28) rfl ?_); refine Kd.R_lit (Kd.int .u8) _ 5 ?hg (N := 28) ?hd (xs := ([45] : List Int)) (inner := [.int .u8 45]) (ok := fun _ => True) (okp := fun _ => True) ?hr ?hp (fun _ hk => hk) trivial (Below.refl _ _) (Nat.le_refl _) (by simp) ?_; (case hd => rfl); (case hg => rfl); (case hr => first | (go_simp; done) | (go_simp; rfl)); (case hp => exact (Reps.one (show Kd.M (Kd.int .u8) _ _ _ 45 [.int .u8 45] from rfl) (Reps.none _ _))); intro v106 w8 ho9 hb hg_ hnew_; clear hg_ hnew_; (first | rw [← Ny105.out] at ho9 | (simp only [Int.reduceToNat] at ho9; rw [← Ny105.out] at ho9)); have HO107 := Aside0.mk (Kd.R_lower (Kd.R_new' ho9 (Kd.R_lt (qR HO_3))) (below_size (qS0 HB))); replace HO_3 := Aside0.mk (Kd.R_elder' (qR HO_3) (Kd.R_base ho9) hb); replace HB := Aside0.mk (below_step (qS0 HB) hb); clear hb ho9; obtain ⟨Ao11, co11, eo11⟩ := Kd.R_slice HO_3.out; subst eo11) | ((with_reducible refine gate_builtin (b := .append) (xs := #[.tmp 28, .tmp 29]) rfl ?_); at_builtin; refine Kd.R_append_rows (Kd.int .u8) (w0 := w) w.heap.size rfl (.tmp 28) (.tmp 29) 58 5 (.int .u8 0) 1 rfl Tryd.underlying58 info5 rfl (by decide) (by omega) v106 y105 x3_1 _ _ _ (fun k_ => some k_ ≠ (.slice Ao11 x3_1.length co11 : Value).ownBlock) (fun _ => False) rfl rfl ?aO ?aR (fun _ _ h => h) (fun _ h => h.elim) ?aF ?aB ?aS ?aL ?_; (case aR => repeat (first | exact (Kd.R_reads' HO_3.out).2.2 | (with_reducible refine Kd.C_alloc ?_ _) | (with_reducible refine Kd.C_drewN ?_ _) | (with_reducible refine Kd.C_drew ?_))); (case aB => exact (qS0 HB)); (case aF => exact (fun k_ hk => Kd.fresh' (Kd.R_lt (qR HO_3)) k_ hk)); (case aO => exact (by (with_reducible repeat (first | apply Kd.R_alloc | apply Kd.R_drewN | apply Kd.R_drew)); exact Kd.R_mono HO107.out (fun _ hk => hk.2))); (case aS => exact (below_size (qS0 HB))); (case aL => have := LMc7.out; omega); intro v109 w10 ho hb hg hat; rw [← Ny108.out] at ho; replace HO_3 := Aside0.mk (Kd.R_after (ok := (fun _ => True)) (qR HO_3) hg hat); replace HB := Aside0.mk (hb); have HO110 := Aside0.mk (ho); clear HO107 ho hb hg hat; have hcv12 := own_string (P := Tryd.prog) Tryd.underlying58 Tryd.underlying5 Tryd.underlying9 (Kd.own_of_R HO110.out)))
      go_ret
      exact ⟨qE, qS0 HB⟩
     ·obtain rfl := Option.some.inj H
      have hcv13 := own_string (P := Tryd.prog) Tryd.underlying58 Tryd.underlying5 Tryd.underlying9 (Kd.own_of_R HO_3.out)
      go_wp2
      go_ret
      exact ⟨qE, qS0 HB⟩
    ·have c5b0 : (x4_1 == 0) = false := beq_eq_false_iff_ne.mpr c5
     have c5b1 : (x4_1 != 0) = true := bne_iff_ne.mpr c5
     rcases qI H with ⟨c14b0, H⟩ | ⟨c14b0, H⟩
     ·obtain ⟨y111, hy111⟩ : ∃ y_ : List Int, y_ = (([(wrap64 (48 + (wrap64 (-(Int.tmod x4_1 10))))) % 256] : List Int)) := ⟨_, rfl⟩
      (replace H : (if y111.length + x3_1.length < 140737488355328 then (spec_l04Num.l0 k1 a0 (y111 ++ x3_1) (wrap64 (Int.tdiv x4_1 10))) else (none)) = some r := qY hy111 H); (have Ny111 := Aside0.mk hy111); clear hy111; (obtain ⟨c15, H⟩ := qU H); (have LMc15 := Aside0.mk c15); clear c15; (obtain ⟨y114, hy114⟩ : ∃ y_ : List Int, y_ = (y111 ++ x3_1) := ⟨_, rfl⟩); (replace H : (spec_l04Num.l0 k1 a0 y114 (wrap64 (Int.tdiv x4_1 10))) = some r := qY hy114 H); (have Ny114 := Aside0.mk hy114); clear hy114; (have H' := Aside0.mk H); clear H
      go_wp2_with (first | ((with_reducible refine gate_dst (N := 23) rfl ?_); refine Kd.R_lit (Kd.int .u8) _ 5 ?hg (N := 23) ?hd (xs := ([(wrap64 (48 + (wrap64 (-(Int.tmod x4_1 10))))) % 256] : List Int)) (inner := [.int .u8 ((wrap64 (48 + (wrap64 (-(Int.tmod x4_1 10))))) % 256)]) (ok := fun _ => True) (okp := fun _ => True) ?hr ?hp (fun _ hk => hk) trivial (Below.refl _ _) (Nat.le_refl _) (by simp) ?_; (case hd => rfl); (case hg => rfl); (case hr => first | (go_simp; done) | (go_simp; rfl)); (case hp => exact (Reps.one (show Kd.M (Kd.int .u8) _ _ _ ((wrap64 (48 + (wrap64 (-(Int.tmod x4_1 10))))) % 256) [.int .u8 ((wrap64 (48 + (wrap64 (-(Int.tmod x4_1 10))))) % 256)] from rfl) (Reps.none _ _))); intro v112 w16 ho17 hb hg_ hnew_; clear hg_ hnew_; (first | rw [← Ny111.out] at ho17 | (simp only [Int.reduceToNat] at ho17; rw [← Ny111.out] at ho17)); have HO113 := Aside0.mk (Kd.R_lower (Kd.R_new' ho17 (Kd.R_lt (qR HO_3))) (below_size (qS0 HB))); replace HO_3 := Aside0.mk (Kd.R_elder' (qR HO_3) (Kd.R_base ho17) hb); replace HB := Aside0.mk (below_step (qS0 HB) hb); clear hb ho17; obtain ⟨Ao19, co19, eo19⟩ := Kd.R_slice HO_3.out; subst eo19) | ((with_reducible refine gate_builtin (b := .append) (xs := #[.tmp 23, .tmp 24]) rfl ?_); at_builtin; refine Kd.R_append_rows (Kd.int .u8) (w0 := w) w.heap.size rfl (.tmp 23) (.tmp 24) 58 5 (.int .u8 0) 1 rfl Tryd.underlying58 info5 rfl (by decide) (by omega) v112 y111 x3_1 _ _ _ (fun k_ => some k_ ≠ (.slice Ao19 x3_1.length co19 : Value).ownBlock) (fun _ => False) rfl rfl ?aO ?aR (fun _ _ h => h) (fun _ h => h.elim) ?aF ?aB ?aS ?aL ?_; (case aR => repeat (first | exact (Kd.R_reads' HO_3.out).2.2 | (with_reducible refine Kd.C_alloc ?_ _) | (with_reducible refine Kd.C_drewN ?_ _) | (with_reducible refine Kd.C_drew ?_))); (case aB => exact (qS0 HB)); (case aF => exact (fun k_ hk => Kd.fresh' (Kd.R_lt (qR HO_3)) k_ hk)); (case aO => exact (by (with_reducible repeat (first | apply Kd.R_alloc | apply Kd.R_drewN | apply Kd.R_drew)); exact Kd.R_mono HO113.out (fun _ hk => hk.2))); (case aS => exact (below_size (qS0 HB))); (case aL => have := LMc15.out; omega); intro v115 w18 ho hb hg hat; rw [← Ny114.out] at ho; replace HO_3 := Aside0.mk (Kd.R_after (ok := (fun _ => True)) (qR HO_3) hg hat); replace HB := Aside0.mk (hb); have HO116 := Aside0.mk (ho); clear HO113; clear ho hb hg hat))
      go_roundg k1
      case measure => have := HK1.out; omega
      case rel => exact ⟨(y114), (wrap64 (Int.tdiv x4_1 10)), qV, H', ⟨by have := HK1.out; omega⟩, ⟨by (with_reducible repeat (first | apply Kd.R_alloc | apply Kd.R_drewN | apply Kd.R_drew)); exact Kd.R_mono HO116.out (fun _ hk => trivial)⟩, ⟨qS0 HB⟩⟩
     ·obtain ⟨y117, hy117⟩ : ∃ y_ : List Int, y_ = (([(wrap64 (48 + (Int.tmod x4_1 10))) % 256] : List Int)) := ⟨_, rfl⟩
      (replace H : (if y117.length + x3_1.length < 140737488355328 then (spec_l04Num.l0 k1 a0 (y117 ++ x3_1) (wrap64 (Int.tdiv x4_1 10))) else (none)) = some r := qY hy117 H); (have Ny117 := Aside0.mk hy117); clear hy117; (obtain ⟨c20, H⟩ := qU H); (have LMc20 := Aside0.mk c20); clear c20; (obtain ⟨y120, hy120⟩ : ∃ y_ : List Int, y_ = (y117 ++ x3_1) := ⟨_, rfl⟩); (replace H : (spec_l04Num.l0 k1 a0 y120 (wrap64 (Int.tdiv x4_1 10))) = some r := qY hy120 H); (have Ny120 := Aside0.mk hy120); clear hy120; (have H' := Aside0.mk H); clear H
      go_wp2_with (first | ((with_reducible refine gate_dst (N := 23) rfl ?_); refine Kd.R_lit (Kd.int .u8) _ 5 ?hg (N := 23) ?hd (xs := ([(wrap64 (48 + (Int.tmod x4_1 10))) % 256] : List Int)) (inner := [.int .u8 ((wrap64 (48 + (Int.tmod x4_1 10))) % 256)]) (ok := fun _ => True) (okp := fun _ => True) ?hr ?hp (fun _ hk => hk) trivial (Below.refl _ _) (Nat.le_refl _) (by simp) ?_; (case hd => rfl); (case hg => rfl); (case hr => first | (go_simp; done) | (go_simp; rfl)); (case hp => exact (Reps.one (show Kd.M (Kd.int .u8) _ _ _ ((wrap64 (48 + (Int.tmod x4_1 10))) % 256) [.int .u8 ((wrap64 (48 + (Int.tmod x4_1 10))) % 256)] from rfl) (Reps.none _ _))); intro v118 w21 ho22 hb hg_ hnew_; clear hg_ hnew_; (first | rw [← Ny117.out] at ho22 | (simp only [Int.reduceToNat] at ho22; rw [← Ny117.out] at ho22)); have HO119 := Aside0.mk (Kd.R_lower (Kd.R_new' ho22 (Kd.R_lt (qR HO_3))) (below_size (qS0 HB))); replace HO_3 := Aside0.mk (Kd.R_elder' (qR HO_3) (Kd.R_base ho22) hb); replace HB := Aside0.mk (below_step (qS0 HB) hb); clear hb ho22; obtain ⟨Ao24, co24, eo24⟩ := Kd.R_slice HO_3.out; subst eo24) | ((with_reducible refine gate_builtin (b := .append) (xs := #[.tmp 23, .tmp 24]) rfl ?_); at_builtin; refine Kd.R_append_rows (Kd.int .u8) (w0 := w) w.heap.size rfl (.tmp 23) (.tmp 24) 58 5 (.int .u8 0) 1 rfl Tryd.underlying58 info5 rfl (by decide) (by omega) v118 y117 x3_1 _ _ _ (fun k_ => some k_ ≠ (.slice Ao24 x3_1.length co24 : Value).ownBlock) (fun _ => False) rfl rfl ?aO ?aR (fun _ _ h => h) (fun _ h => h.elim) ?aF ?aB ?aS ?aL ?_; (case aR => repeat (first | exact (Kd.R_reads' HO_3.out).2.2 | (with_reducible refine Kd.C_alloc ?_ _) | (with_reducible refine Kd.C_drewN ?_ _) | (with_reducible refine Kd.C_drew ?_))); (case aB => exact (qS0 HB)); (case aF => exact (fun k_ hk => Kd.fresh' (Kd.R_lt (qR HO_3)) k_ hk)); (case aO => exact (by (with_reducible repeat (first | apply Kd.R_alloc | apply Kd.R_drewN | apply Kd.R_drew)); exact Kd.R_mono HO119.out (fun _ hk => hk.2))); (case aS => exact (below_size (qS0 HB))); (case aL => have := LMc20.out; omega); intro v121 w23 ho hb hg hat; rw [← Ny120.out] at ho; replace HO_3 := Aside0.mk (Kd.R_after (ok := (fun _ => True)) (qR HO_3) hg hat); replace HB := Aside0.mk (hb); have HO122 := Aside0.mk (ho); clear HO119; clear ho hb hg hat))
      go_roundg k1
      case measure => have := HK1.out; omega
      case rel => exact ⟨(y120), (wrap64 (Int.tdiv x4_1 10)), qV, H', ⟨by have := HK1.out; omega⟩, ⟨by (with_reducible repeat (first | apply Kd.R_alloc | apply Kd.R_drewN | apply Kd.R_drew)); exact Kd.R_mono HO122.out (fun _ hk => trivial)⟩, ⟨qS0 HB⟩⟩
def spec_l18Shape.f (a0 : Int) (a1 : Int) : Option (Bool) := if a0 = 6 then (if a1 ≥ 1 then (some (decide (a1 ≤ 16))) else (some false)) else (if a0 ≥ 1 then (if a0 ≤ 6 then (some (a1 == 0)) else (some false)) else (some false))
theorem spec_l18Shape.calls (a0 : Int) (a1 : Int) (r : Bool) (w : World) (h : spec_l18Shape.f a0 a1 = some r) :
  Calls Tryd.prog 80 #[.int .i64 a0, .int .i64 a1] w fun e w' => e = .returned (.bool r) ∧ Drawn0 w w' := by
 (have H : (if a0 = 6 then (if a1 ≥ 1 then (some (decide (a1 ≤ 16))) else (some false)) else (if a0 ≥ 1 then (if a0 ≤ 6 then (some (a1 == 0)) else (some false)) else (some false))) = some r := h); clear h
 rcases qJ H with ⟨c3, H⟩ | ⟨c3, H⟩
 ·have c3b0 : (a0 == 6) = true := beq_iff_eq.mpr c3
  (have c3b1 : (a0 != 6) = false := bne_eq_false_iff_eq.mpr c3); clear c3
  rcases qI H with ⟨(c4b0 : decide (1 ≤ a1) = true), H⟩ | ⟨(c4b0 : decide (1 ≤ a1) = false), H⟩
  ·obtain rfl := Option.some.inj H
   go_enter Tryd.func80, Tryd.ntmps80
   go_wp2
   go_ret
   exact qZ
  ·obtain rfl := Option.some.inj H
   go_enter Tryd.func80, Tryd.ntmps80
   go_wp2
   go_ret
   exact qZ
 ·have c3b0 : (a0 == 6) = false := beq_eq_false_iff_ne.mpr c3
  have c3b1 : (a0 != 6) = true := bne_iff_ne.mpr c3
  rcases qI H with ⟨(c5b0 : decide (1 ≤ a0) = true), H⟩ | ⟨(c5b0 : decide (1 ≤ a0) = false), H⟩
  ·rcases qI H with ⟨c6b0, H⟩ | ⟨c6b0, H⟩
   ·obtain rfl := Option.some.inj H
    go_enter Tryd.func80, Tryd.ntmps80
    go_wp2
    go_ret
    exact qZ
   ·obtain rfl := Option.some.inj H
    go_enter Tryd.func80, Tryd.ntmps80
    go_wp2
    go_ret
    exact qZ
  ·obtain rfl := Option.some.inj H
   go_enter Tryd.func80, Tryd.ntmps80
   go_wp2
   go_ret
   exact qZ
def spec_ReqOk.f (a0_0 : Int) (a0_1 : ByteArray) (a0_2 : Int) (a0_3 : Int) (a0_4 : Int) (a0_5 : Int) (a0_6 : ByteArray) : Option (Bool) := (spec_l18Shape.f a0_0 a0_5).bind fun t124 => (if t124 = true then (if (a0_1.size : Int) ≤ 100 then (some (decide ((a0_6.size : Int) ≤ 2000))) else (some false)) else (some false))
theorem spec_ReqOk.calls (a0_0 : Int) (a0_1 : ByteArray) (a0_2 : Int) (a0_3 : Int) (a0_4 : Int) (a0_5 : Int) (a0_6 : ByteArray) (r : Bool) (w : World) (h : spec_ReqOk.f a0_0 a0_1 a0_2 a0_3 a0_4 a0_5 a0_6 = some r) :
  Calls Tryd.prog 43 #[.agg #[.int .i64 a0_0, .string a0_1, .int .i64 a0_2, .int .i64 a0_3, .int .i64 a0_4, .int .i64 a0_5, .string a0_6]] w fun e w' => e = .returned (.bool r) ∧ Below w.heap.size w w' := by
 (have hu32 := Tryd.underlying32); (have HB := Aside0.mk (Below.refl w.heap.size w)); (have H : ((spec_l18Shape.f a0_0 a0_5).bind fun t124 => (if t124 = true then (if (a0_1.size : Int) ≤ 100 then (some (decide ((a0_6.size : Int) ≤ 2000))) else (some false)) else (some false))) = some r := h); clear h; (obtain ⟨t124, A2, H⟩ := qX H)
 try dsimp only at H
 by_cases c3 : t124 = true
 ·subst c3
  (have H1 : (if (a0_1.size : Int) ≤ 100 then (some (decide ((a0_6.size : Int) ≤ 2000))) else (some false)) = some r := by rw [if_pos rfl] at H; exact H); clear H; (have H := H1); clear H1
  rcases qJ H with ⟨c4, H⟩ | ⟨c4, H⟩
  ·have c4b0 : decide ((a0_1.size : Int) ≤ 100) = true := decide_eq_true c4
   (have c4b1 : decide (a0_1.size ≤ 100) = true := decide_eq_true (by omega)); clear c4; (obtain rfl := Option.some.inj H)
   go_enter Tryd.func43, Tryd.ntmps43
   go_wp2_with (first | ((with_reducible refine gate_dst (N := 1) rfl ?_); (try (refine gate_guard (by rfl) ?_; dsimp only)); refine box_event ?hg (N := 1) ?hd (cs := #[.int .i64 a0_0, .string a0_1, .int .i64 a0_2, .int .i64 a0_3, .int .i64 a0_4, .int .i64 a0_5, .string a0_6]) (t := 32) ?hr ?_; (case hd => rfl); (case hg => rfl); (case hr => first | (go_simp; done) | (go_simp; rfl)); intro gb123 hg w5 hbox hb; have BK123 := Aside0.mk (hbox); have GW123 := qG hg (below_size (qS0 HB)); have GE123 := qG hg (below_size (qS0 HB)); replace HB := Aside0.mk (below_step (qS0 HB) hb); clear hb hbox hg; obtain ⟨hcz6_0, hcz6_1, hcz6_2, hcz6_3, hcz6_4, hcz6_5, hcz6_6, hfz6_0, hfz6_1, hfz6_2, hfz6_3, hfz6_4, hfz6_5, hfz6_6⟩ := qC7 BK123) | ((with_reducible refine gate_callee (f := 80) rfl ?_); refine goesL_ (some 7) rfl rfl Tryd.func80 (by kernel_rfl) rfl #[.int .i64 a0_0, .int .i64 a0_5] rfl qL ?_; (with_reducible refine (spec_l18Shape.calls a0_0 a0_5 true _ A2.out).mono ?_); rintro e w' ⟨rfl, ⟨nd, rfl⟩⟩; refine ⟨_, rfl, ?_⟩))
   go_ret
   exact ⟨qE, qS1 HB GE123⟩
  ·have c4b0 : decide ((a0_1.size : Int) ≤ 100) = false := decide_eq_false c4
   (have c4b1 : decide (a0_1.size ≤ 100) = false := decide_eq_false (by omega)); clear c4; (obtain rfl := Option.some.inj H)
   go_enter Tryd.func43, Tryd.ntmps43
   go_wp2_with (first | ((with_reducible refine gate_dst (N := 1) rfl ?_); (try (refine gate_guard (by rfl) ?_; dsimp only)); refine box_event ?hg (N := 1) ?hd (cs := #[.int .i64 a0_0, .string a0_1, .int .i64 a0_2, .int .i64 a0_3, .int .i64 a0_4, .int .i64 a0_5, .string a0_6]) (t := 32) ?hr ?_; (case hd => rfl); (case hg => rfl); (case hr => first | (go_simp; done) | (go_simp; rfl)); intro gb123 hg w7 hbox hb; have BK123 := Aside0.mk (hbox); have GW123 := qG hg (below_size (qS0 HB)); have GE123 := qG hg (below_size (qS0 HB)); replace HB := Aside0.mk (below_step (qS0 HB) hb); clear hb hbox hg; obtain ⟨hcz8_0, hcz8_1, hcz8_2, hcz8_3, hcz8_4, hcz8_5, hcz8_6, hfz8_0, hfz8_1, hfz8_2, hfz8_3, hfz8_4, hfz8_5, hfz8_6⟩ := qC7 BK123) | ((with_reducible refine gate_callee (f := 80) rfl ?_); refine goesL_ (some 7) rfl rfl Tryd.func80 (by kernel_rfl) rfl #[.int .i64 a0_0, .int .i64 a0_5] rfl qL ?_; (with_reducible refine (spec_l18Shape.calls a0_0 a0_5 true _ A2.out).mono ?_); rintro e w' ⟨rfl, ⟨nd, rfl⟩⟩; refine ⟨_, rfl, ?_⟩))
   go_ret
   exact ⟨qE, qS1 HB GE123⟩
 ·replace c3 := Bool.eq_false_iff.mpr c3
  (subst c3); (have H1 : (some false) = some r := by rw [if_neg (show ¬ (false = true) by decide)] at H; exact H); clear H; (have H := H1); clear H1; (obtain rfl := Option.some.inj H)
  go_enter Tryd.func43, Tryd.ntmps43
  go_wp2_with (first | ((with_reducible refine gate_dst (N := 1) rfl ?_); (try (refine gate_guard (by rfl) ?_; dsimp only)); refine box_event ?hg (N := 1) ?hd (cs := #[.int .i64 a0_0, .string a0_1, .int .i64 a0_2, .int .i64 a0_3, .int .i64 a0_4, .int .i64 a0_5, .string a0_6]) (t := 32) ?hr ?_; (case hd => rfl); (case hg => rfl); (case hr => first | (go_simp; done) | (go_simp; rfl)); intro gb123 hg w9 hbox hb; have BK123 := Aside0.mk (hbox); have GW123 := qG hg (below_size (qS0 HB)); have GE123 := qG hg (below_size (qS0 HB)); replace HB := Aside0.mk (below_step (qS0 HB) hb); clear hb hbox hg; obtain ⟨hcz10_0, hcz10_1, hcz10_2, hcz10_3, hcz10_4, hcz10_5, hcz10_6, hfz10_0, hfz10_1, hfz10_2, hfz10_3, hfz10_4, hfz10_5, hfz10_6⟩ := qC7 BK123) | ((with_reducible refine gate_callee (f := 80) rfl ?_); refine goesL_ (some 7) rfl rfl Tryd.func80 (by kernel_rfl) rfl #[.int .i64 a0_0, .int .i64 a0_5] rfl qL ?_; (with_reducible refine (spec_l18Shape.calls a0_0 a0_5 false _ A2.out).mono ?_); rintro e w' ⟨rfl, ⟨nd, rfl⟩⟩; refine ⟨_, rfl, ?_⟩))
  go_ret
  exact ⟨qE, qS1 HB GE123⟩
def spec_l01Gap.f (a0 : Int) : Option (Bool) := if a0 = 9 then (some true) else (if a0 = 10 then (some true) else (if a0 = 13 then (some true) else (some (a0 == 32))))
theorem spec_l01Gap.calls (a0 : Int) (r : Bool) (w : World) (h : spec_l01Gap.f a0 = some r) :
  Calls Tryd.prog 81 #[.int .u8 a0] w fun e w' => e = .returned (.bool r) ∧ Drawn0 w w' := by
 (have H : (if a0 = 9 then (some true) else (if a0 = 10 then (some true) else (if a0 = 13 then (some true) else (some (a0 == 32))))) = some r := h); clear h
 rcases qJ H with ⟨c2, H⟩ | ⟨c2, H⟩
 ·have c2b0 : (a0 == 9) = true := beq_iff_eq.mpr c2
  (have c2b1 : (a0 != 9) = false := bne_eq_false_iff_eq.mpr c2); clear c2; (obtain rfl := Option.some.inj H)
  go_enter Tryd.func81, Tryd.ntmps81
  go_wp2
  go_ret
  exact qZ
 ·have c2b0 : (a0 == 9) = false := beq_eq_false_iff_ne.mpr c2
  have c2b1 : (a0 != 9) = true := bne_iff_ne.mpr c2
  rcases qJ H with ⟨c3, H⟩ | ⟨c3, H⟩
  ·have c3b0 : (a0 == 10) = true := beq_iff_eq.mpr c3
   (have c3b1 : (a0 != 10) = false := bne_eq_false_iff_eq.mpr c3); clear c3; (obtain rfl := Option.some.inj H)
   go_enter Tryd.func81, Tryd.ntmps81
   go_wp2
   go_ret
   exact qZ
  ·have c3b0 : (a0 == 10) = false := beq_eq_false_iff_ne.mpr c3
   have c3b1 : (a0 != 10) = true := bne_iff_ne.mpr c3
   rcases qJ H with ⟨c4, H⟩ | ⟨c4, H⟩
   ·have c4b0 : (a0 == 13) = true := beq_iff_eq.mpr c4
    (have c4b1 : (a0 != 13) = false := bne_eq_false_iff_eq.mpr c4); clear c4; (obtain rfl := Option.some.inj H)
    go_enter Tryd.func81, Tryd.ntmps81
    go_wp2
    go_ret
    exact qZ
   ·have c4b0 : (a0 == 13) = false := beq_eq_false_iff_ne.mpr c4
    (have c4b1 : (a0 != 13) = true := bne_iff_ne.mpr c4); (obtain rfl := Option.some.inj H)
    go_enter Tryd.func81, Tryd.ntmps81
    go_wp2
    go_ret
    exact qZ
def spec_l26Word.l0 : Nat → ByteArray → Int → Option (Bool)
 | 0, _, _ => none
 | k + 1, x0, x3 => if x3 < (x0.size : Int) then (if 0 ≤ x3 then ((spec_l01Gap.f (bt x0 x3)).bind fun t125 => (if t125 = true then (some false) else (spec_l26Word.l0 k x0 (wrap64 (x3 + 1))))) else (none)) else (some (decide ((x0.size : Int) > 0)))
def spec_l26Word.f (k : Nat) (a0 : ByteArray) : Option (Bool) := spec_l26Word.l0 k a0 0
theorem spec_l26Word.calls (k : Nat) (a0 : ByteArray) (r : Bool) (w : World) (h : spec_l26Word.f k a0 = some r) :
  Calls Tryd.prog 44 #[.string a0] w fun e w' => e = .returned (.bool r) ∧ Drawn0 w w' := by
 (have H : (spec_l26Word.l0 k a0 0) = some r := h); clear h; (have H' := Aside0.mk H); clear H
 go_enter Tryd.func44, Tryd.ntmps44
 go_wp2
 go_loopg [3] k (fun kq v3 w' => ∃ (x3_1 : Int), v3 = .int .i64 x3_1 ∧ Aside0 (spec_l26Word.l0 kq a0 x3_1 = some r) ∧ Aside0 (kq ≤ k) ∧ Drawn0 w w')
 case atStart => exact ⟨(0), qV, H', ⟨Nat.le_refl _⟩, by repeat (first | exact Drawn0.refl _ | apply Drawn0.step)⟩
 case round =>
  clear H'; (obtain ⟨x3_1, rfl, HA, HK1, ⟨m1, rfl⟩⟩ := hrel)
  cases gk with
  | zero => exact absurd HA.out (by simp [spec_l26Word.l0])
  | succ k1 =>
   (have H := HA.out); clear HA; (simp only [spec_l26Word.l0] at H)
   rcases qI H with ⟨c2b0, H⟩ | ⟨c2b0, H⟩
   ·obtain ⟨c3b0, H⟩ := qT H
    (obtain ⟨t125, A5, H⟩ := qX H); (replace H : (if t125 = true then (some false) else (spec_l26Word.l0 k1 a0 (wrap64 (x3_1 + 1)))) = some r := H)
    by_cases c6 : t125 = true
    ·subst c6
     (have H1 : (some false) = some r := by rw [if_pos rfl] at H; exact H); clear H; (have H := H1); clear H1; (obtain rfl := Option.some.inj H); (have p4 : 0 ≤ (x3_1 : Int) := qO); (have q4 : x3_1 < (a0.size : Int) := qO); (have hx4 := bt_at a0 x3_1); (replace p4 := eq_true p4); (replace q4 := eq_true q4)
     go_wp2_with (first | ((with_reducible refine gate_callee (f := 81) rfl ?_); refine goesL_ (some 13) rfl rfl Tryd.func81 (by kernel_rfl) rfl #[.int .u8 (bt a0 x3_1)] rfl qL ?_; (with_reducible refine (spec_l01Gap.calls (bt a0 x3_1) true _ A5.out).mono ?_); rintro e w' ⟨rfl, ⟨nd, rfl⟩⟩; refine ⟨_, rfl, ?_⟩))
     go_ret
     exact qZ
    ·replace c6 := Bool.eq_false_iff.mpr c6
     (subst c6); (have H1 : (spec_l26Word.l0 k1 a0 (wrap64 (x3_1 + 1))) = some r := by rw [if_neg (show ¬ (false = true) by decide)] at H; exact H); clear H; (have H := H1); clear H1; (have H' := Aside0.mk H); clear H; (have p4 : 0 ≤ (x3_1 : Int) := qO); (have q4 : x3_1 < (a0.size : Int) := qO); (have hx4 := bt_at a0 x3_1); (replace p4 := eq_true p4); (replace q4 := eq_true q4)
     go_wp2_with (first | ((with_reducible refine gate_callee (f := 81) rfl ?_); refine goesL_ (some 13) rfl rfl Tryd.func81 (by kernel_rfl) rfl #[.int .u8 (bt a0 x3_1)] rfl qL ?_; (with_reducible refine (spec_l01Gap.calls (bt a0 x3_1) false _ A5.out).mono ?_); rintro e w' ⟨rfl, ⟨nd, rfl⟩⟩; refine ⟨_, rfl, ?_⟩))
     go_roundg k1
     case measure => have := HK1.out; omega
     case rel => exact ⟨(wrap64 (x3_1 + 1)), qV, H', ⟨by have := HK1.out; omega⟩, by repeat (first | exact Drawn0.refl _ | apply Drawn0.step)⟩
   ·obtain rfl := Option.some.inj H
    go_wp2
    go_ret
    exact qZ
end Go.Proofs.YtbpffdhkeinmcaaDoor.QG
