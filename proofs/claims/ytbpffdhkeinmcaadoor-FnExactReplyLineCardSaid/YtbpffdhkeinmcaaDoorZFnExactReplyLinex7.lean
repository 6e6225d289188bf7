/- Part of the proof of the law FnExactReplyLine: what it uses of the texts that this session and the kit's print wrote. -/
import Derived.Test.YtbpffdhkeinmcaaDoorZFnExactReplyLinex1
import Derived.Test.YtbpffdhkeinmcaaDoorZFnExactReplyLinex6
namespace Go.Proofs.YtbpffdhkeinmcaaDoor.QD
open Go.RowKit Go.Proofs.YtbpffdhkeinmcaaDoorW.PrintWords Go.Proofs.YtbpffdhkeinmcaaDoorW.PrintLast Go.Proofs.YtbpffdhkeinmcaaDoorW.PrintMore
attribute [local go_sem] max2_int min2_int max_two min_two max_three min_three max_four min_four   -- for this text's walks alone
set_option linter.unusedVariables false
set_option linter.unusedSimpArgs false
def impl_isAhead.j0 : Nat → Bool → Bool → Int → Int → ByteArray → Bool → Int → Int → ByteArray → Option (Bool)
 | 0, _, _, _, _, _, _, _, _, _ => none
 | k + 1, x12, x206000, x206001, x206002, x206003, x207000, x207001, x207002, x207003 => if x12 = true then (if x206000 = true then (some (!x207000)) else (some false)) else ((cmp_Compare_int.f x206001 x207001).bind fun t207 => ((cmp_Compare_int.f x207002 x206002).bind fun t208 => ((cmp_Compare_string.f x206003 x207003).bind fun t209 => ((cmp_Or_int.f k (([t207, t208, t209] : List Int))).bind fun t213 => (some (decide (t213 < 0)))))))
def impl_isAhead.f (k : Nat) (a0_0 : Bool) (a0_1 : Int) (a0_2 : Int) (a0_3 : ByteArray) (a1_0 : Bool) (a1_1 : Int) (a1_2 : Int) (a1_3 : ByteArray) : Option (Bool) := if a0_0 = true then (impl_isAhead.j0 k (!a1_0) a0_0 a0_1 a0_2 a0_3 a1_0 a1_1 a1_2 a1_3) else (impl_isAhead.j0 k true a0_0 a0_1 a0_2 a0_3 a1_0 a1_1 a1_2 a1_3)
def impl_isAhead.T3 : Bool × List (List Nat × List Nat) := (true, [([], []), ([0], [0]), ([], []), ([2], [2]), ([1, 3], [1, 3]), ([], []), ([5], [5]), ([], []), ([7], [7]), ([6, 8, 4], [6, 8]), ([], []), ([10], [10]), ([], []), ([12], [12]), ([11, 13, 9], [11, 13]), ([4, 9, 14], [4, 9, 14]), ([15, 14], [15]), ([16], [16]), ([17, 16, 0, 1, 2, 3, 4, 5, 6, 7, 8, 9, 10, 11, 12, 13, 14, 15, 16, 17], [17])])
def impl_isAhead.B3 : List Nat := [0, 1, 0, 4, 15, 0, 32, 0, 128, 511, 0, 1024, 0, 4096, 16383, 32767, 65535, 131071, 262143]
theorem impl_isAhead.tab3 : rtab .any (opsOf Tryd.f123 3) = impl_isAhead.T3 := by kernel_rfl
theorem impl_isAhead.bits3 : waitsOk impl_isAhead.T3.2 impl_isAhead.B3 = true := by kernel_rfl
set_option maxHeartbeats 8000000 in
set_option maxRecDepth 100000 in
theorem impl_isAhead.calls (k : Nat) (a0_0 : Bool) (a0_1 : Int) (a0_2 : Int) (a0_3 : ByteArray) (a1_0 : Bool) (a1_1 : Int) (a1_2 : Int) (a1_3 : ByteArray) (r : Bool) (w : World) (h : impl_isAhead.f k a0_0 a0_1 a0_2 a0_3 a1_0 a1_1 a1_2 a1_3 = some r) :
  Calls Tryd.prog 123 #[.agg #[.bool a0_0, .int .i64 a0_1, .int .i64 a0_2, .string a0_3], .agg #[.bool a1_0, .int .i64 a1_1, .int .i64 a1_2, .string a1_3]] w fun e w' => e = .returned (.bool r) ∧ Below w.heap.size w w' := by
 (have hu78 := Tryd.underlying78); (have HB := Aside0.mk (Below.refl w.heap.size w)); (have H : (if a0_0 = true then (impl_isAhead.j0 k (!a1_0) a0_0 a0_1 a0_2 a0_3 a1_0 a1_1 a1_2 a1_3) else (impl_isAhead.j0 k true a0_0 a0_1 a0_2 a0_3 a1_0 a1_1 a1_2 a1_3)) = some r := h); clear h; (have HC3 := Aside0.mk H); clear H
 go_enter Tryd.func123, Tryd.ntmps123
 go_upto_region 1 with (first | ((with_reducible refine gate_dst (N := 2) rfl ?_); refine box_event ?hg (N := 2) ?hd (cs := #[.bool a0_0, .int .i64 a0_1, .int .i64 a0_2, .string a0_3]) (t := 78) ?hr ?_; (case hd => rfl); (case hg => rfl); (case hr => first | (go_simp; done) | (go_simp; rfl)); intro gb205 hg w4 hbox hb; have n0_ := Aside0.mk (below_step (by repeat (first | (with_reducible first | exact HB.out | apply below_alloc | apply pw_below_drewN | apply below_drew1) | exact HB.out)) hb); have n1_ := Aside0.mk (hbox); have n2_ := Aside0.mk ((by rw [hg]; exact (below_size (by repeat (first | (with_reducible first | exact HB.out | apply below_alloc | apply pw_below_drewN | apply below_drew1) | exact HB.out))) : w.heap.size ≤ gb205)); have n3_ := Aside0.mk ((by rw [hg]; exact (below_size (by repeat (first | (with_reducible first | exact HB.out | apply below_alloc | apply pw_below_drewN | apply below_drew1) | exact HB.out))) : w.heap.size ≤ gb205)); clear HB; have HB := n0_; have BK205 := n1_; have GW205 := n2_; have GE205 := n3_; clear n0_ n1_ n2_ n3_; clear hb hbox hg) | ((with_reducible refine gate_dst (N := 3) rfl ?_); refine box_event ?hg (N := 3) ?hd (cs := #[.bool a1_0, .int .i64 a1_1, .int .i64 a1_2, .string a1_3]) (t := 78) ?hr ?_; (case hd => rfl); (case hg => rfl); (case hr => first | (go_simp; done) | (go_simp; rfl)); intro gb206 hg w5 hbox hb; have n0_ := Aside0.mk (blk_below (g := gb205) (o := .cells #[.bool a0_0, .int .i64 a0_1, .int .i64 a0_2, .string a0_3] 78 (0, 0)) (by (with_reducible repeat (first | refine blk_drewN ?_ _ | refine blk_drew ?_ | refine blk_alloc ?_ _)); exact BK205.out) hb); have n1_ := Aside0.mk (below_step (by repeat (first | (with_reducible first | exact HB.out | apply below_alloc | apply pw_below_drewN | apply below_drew1 | refine below_set ?_ GE205.out) | exact HB.out)) hb); have n2_ := Aside0.mk (hbox); have n3_ := Aside0.mk ((by rw [hg]; exact (below_size (by repeat (first | (with_reducible first | exact HB.out | apply below_alloc | apply pw_below_drewN | apply below_drew1 | refine below_set ?_ GE205.out) | exact HB.out))) : w.heap.size ≤ gb206)); have n4_ := Aside0.mk ((by rw [hg]; exact (below_size (by repeat (first | (with_reducible first | exact HB.out | apply below_alloc | apply pw_below_drewN | apply below_drew1 | refine below_set ?_ GE205.out) | exact HB.out))) : w.heap.size ≤ gb206)); have n5_ := Aside0.mk ((by rw [hg]; exact Nat.ne_of_lt (blk_lt (g := gb205) (o := .cells #[.bool a0_0, .int .i64 a0_1, .int .i64 a0_2, .string a0_3] 78 (0, 0)) (by (with_reducible repeat (first | refine blk_drewN ?_ _ | refine blk_drew ?_ | refine blk_alloc ?_ _)); exact BK205.out)) : gb205 ≠ gb206)); have n6_ := Aside0.mk ((by rw [hg]; exact Nat.ne_of_gt (blk_lt (g := gb205) (o := .cells #[.bool a0_0, .int .i64 a0_1, .int .i64 a0_2, .string a0_3] 78 (0, 0)) (by (with_reducible repeat (first | refine blk_drewN ?_ _ | refine blk_drew ?_ | refine blk_alloc ?_ _)); exact BK205.out)) : gb206 ≠ gb205)); clear BK205 HB; have BK205 := n0_; have HB := n1_; have BK206 := n2_; have GW206 := n3_; have GE206 := n4_; have NB205_206 := n5_; have NB206_205 := n6_; clear n0_ n1_ n2_ n3_ n4_ n5_ n6_; clear hb hbox hg))
 (try simp only [Act.put, List.setIfInBounds_toArray, List.set_cons_zero, List.set_cons_succ])
 go_cut [12] (fun v12 wc => ∃ (kq : Nat) (x12_2 : Bool), v12 = .bool x12_2 ∧ Aside0 (impl_isAhead.j0 kq x12_2 a0_0 a0_1 a0_2 a0_3 a1_0 a1_1 a1_2 a1_3 = some r) ∧ Aside0 (kq ≤ k) ∧ Aside0 (wc.heap[gb205]? = some (.cells #[.bool a0_0, .int .i64 a0_1, .int .i64 a0_2, .string a0_3] 78 (0, 0))) ∧ Aside0 (wc.heap[gb206]? = some (.cells #[.bool a1_0, .int .i64 a1_1, .int .i64 a1_2, .string a1_3] 78 (0, 0))) ∧ Aside0 (Below w.heap.size w wc))
 case first =>
  (have H := HC3.out); clear HC3
  by_cases c6 : a0_0 = true
  ·subst c6
   (have H1 : (impl_isAhead.j0 k (!a1_0) true a0_1 a0_2 a0_3 a1_0 a1_1 a1_2 a1_3) = some r := by rw [if_pos rfl] at H; exact H); clear H; (have H := H1); clear H1; (have H' := Aside0.mk H); clear H; (have hnb7 := NB205_206.out); (have hnc7 := NB206_205.out); (have hcz8_0 : w5.cell? ⟨gb205, 0, none⟩ = some (.bool true) := (blk_cell BK205.out 0).trans rfl); (have hcz8_1 : w5.cell? ⟨gb205, 1, none⟩ = some (.int .i64 a0_1) := (blk_cell BK205.out 1).trans rfl); (have hcz8_2 : w5.cell? ⟨gb205, 2, none⟩ = some (.int .i64 a0_2) := (blk_cell BK205.out 2).trans rfl); (have hcz8_3 : w5.cell? ⟨gb205, 3, none⟩ = some (.string a0_3) := (blk_cell BK205.out 3).trans rfl); (have hfz8_0 := blk_frozen BK205.out 0); (have hfz8_1 := blk_frozen BK205.out 1); (have hfz8_2 := blk_frozen BK205.out 2); (have hfz8_3 := blk_frozen BK205.out 3); (have hcz9_0 : w5.cell? ⟨gb206, 0, none⟩ = some (.bool a1_0) := (blk_cell BK206.out 0).trans rfl); (have hcz9_1 : w5.cell? ⟨gb206, 1, none⟩ = some (.int .i64 a1_1) := (blk_cell BK206.out 1).trans rfl); (have hcz9_2 : w5.cell? ⟨gb206, 2, none⟩ = some (.int .i64 a1_2) := (blk_cell BK206.out 2).trans rfl); (have hcz9_3 : w5.cell? ⟨gb206, 3, none⟩ = some (.string a1_3) := (blk_cell BK206.out 3).trans rfl); (have hfz9_0 := blk_frozen BK206.out 0); (have hfz9_1 := blk_frozen BK206.out 1); (have hfz9_2 := blk_frozen BK206.out 2); (have hfz9_3 := blk_frozen BK206.out 3)
   go_wp2
   go_meet
   case rel => exact ⟨_, (!a1_0), (by first | rfl | (simp; done) | (simp [*]; done)), H', ⟨by first | omega | exact Nat.le_refl _⟩, ⟨by (with_reducible repeat (first | refine blk_drewN ?_ _ | refine blk_drew ?_ | refine blk_alloc ?_ _)); exact BK205.out⟩, ⟨by (with_reducible repeat (first | refine blk_drewN ?_ _ | refine blk_drew ?_ | refine blk_alloc ?_ _)); exact BK206.out⟩, ⟨by repeat (first | (with_reducible first | exact HB.out | apply below_alloc | apply pw_below_drewN | apply below_drew1 | refine below_set ?_ GE205.out | refine below_set ?_ GE206.out) | exact HB.out)⟩⟩
  ·replace c6 := Bool.eq_false_iff.mpr c6
   (subst c6); (have H1 : (impl_isAhead.j0 k true false a0_1 a0_2 a0_3 a1_0 a1_1 a1_2 a1_3) = some r := by rw [if_neg (show ¬ (false = true) by decide)] at H; exact H); clear H; (have H := H1); clear H1; (have H' := Aside0.mk H); clear H; (have hnb10 := NB205_206.out); (have hnc10 := NB206_205.out); (have hcz11_0 : w5.cell? ⟨gb205, 0, none⟩ = some (.bool false) := (blk_cell BK205.out 0).trans rfl); (have hcz11_1 : w5.cell? ⟨gb205, 1, none⟩ = some (.int .i64 a0_1) := (blk_cell BK205.out 1).trans rfl); (have hcz11_2 : w5.cell? ⟨gb205, 2, none⟩ = some (.int .i64 a0_2) := (blk_cell BK205.out 2).trans rfl); (have hcz11_3 : w5.cell? ⟨gb205, 3, none⟩ = some (.string a0_3) := (blk_cell BK205.out 3).trans rfl); (have hfz11_0 := blk_frozen BK205.out 0); (have hfz11_1 := blk_frozen BK205.out 1); (have hfz11_2 := blk_frozen BK205.out 2); (have hfz11_3 := blk_frozen BK205.out 3)
   go_wp2
   go_meet
   case rel => exact ⟨_, (true), (by first | rfl | (simp; done) | (simp [*]; done)), H', ⟨by first | omega | exact Nat.le_refl _⟩, ⟨by (with_reducible repeat (first | refine blk_drewN ?_ _ | refine blk_drew ?_ | refine blk_alloc ?_ _)); exact BK205.out⟩, ⟨by (with_reducible repeat (first | refine blk_drewN ?_ _ | refine blk_drew ?_ | refine blk_alloc ?_ _)); exact BK206.out⟩, ⟨by repeat (first | (with_reducible first | exact HB.out | apply below_alloc | apply pw_below_drewN | apply below_drew1 | refine below_set ?_ GE205.out | refine below_set ?_ GE206.out) | exact HB.out)⟩⟩
 case rest =>
  clear HC3; (try clear c1); (try clear p2); (try clear c6); (try clear c7); (try clear c10); (try clear hcz11_0); (try clear hcz11_1); (try clear hcz11_2); (try clear hcz11_3); (try clear hcz8_0); (try clear hcz8_1); (try clear hcz8_2); (try clear hcz8_3); (try clear hcz9_0); (try clear hcz9_1); (try clear hcz9_2); (try clear hcz9_3); (try clear hfz11_0); (try clear hfz11_1); (try clear hfz11_2); (try clear hfz11_3); (try clear hfz8_0); (try clear hfz8_1); (try clear hfz8_2); (try clear hfz8_3); (try clear hfz9_0); (try clear hfz9_1); (try clear hfz9_2); (try clear hfz9_3); (obtain ⟨kq, x12_2, rfl, HA, HJ2, BK205, BK206, HB⟩ := hcut)
  cases kq with
  | zero => exact absurd HA.out (by simp [impl_isAhead.j0])
  | succ kj2 =>
   (have H := HA.out); clear HA; (simp only [impl_isAhead.j0] at H)
   by_cases c12 : x12_2 = true
   ·subst c12
    (have H1 : (if a0_0 = true then (some (!a1_0)) else (some false)) = some r := by rw [if_pos rfl] at H; exact H); clear H; (have H := H1); clear H1
    by_cases c13 : a0_0 = true
    ·subst c13
     (have H1 : (some (!a1_0)) = some r := by rw [if_pos rfl] at H; exact H); clear H; (have H := H1); clear H1; (obtain rfl := Option.some.inj H); (have hnb14 := NB205_206.out); (have hnc14 := NB206_205.out); (have hcz15_0 : wc.cell? ⟨gb205, 0, none⟩ = some (.bool true) := (blk_cell BK205.out 0).trans rfl); (have hcz15_1 : wc.cell? ⟨gb205, 1, none⟩ = some (.int .i64 a0_1) := (blk_cell BK205.out 1).trans rfl); (have hcz15_2 : wc.cell? ⟨gb205, 2, none⟩ = some (.int .i64 a0_2) := (blk_cell BK205.out 2).trans rfl); (have hcz15_3 : wc.cell? ⟨gb205, 3, none⟩ = some (.string a0_3) := (blk_cell BK205.out 3).trans rfl); (have hfz15_0 := blk_frozen BK205.out 0); (have hfz15_1 := blk_frozen BK205.out 1); (have hfz15_2 := blk_frozen BK205.out 2); (have hfz15_3 := blk_frozen BK205.out 3); (have hcz16_0 : wc.cell? ⟨gb206, 0, none⟩ = some (.bool a1_0) := (blk_cell BK206.out 0).trans rfl); (have hcz16_1 : wc.cell? ⟨gb206, 1, none⟩ = some (.int .i64 a1_1) := (blk_cell BK206.out 1).trans rfl); (have hcz16_2 : wc.cell? ⟨gb206, 2, none⟩ = some (.int .i64 a1_2) := (blk_cell BK206.out 2).trans rfl); (have hcz16_3 : wc.cell? ⟨gb206, 3, none⟩ = some (.string a1_3) := (blk_cell BK206.out 3).trans rfl); (have hfz16_0 := blk_frozen BK206.out 0); (have hfz16_1 := blk_frozen BK206.out 1); (have hfz16_2 := blk_frozen BK206.out 2); (have hfz16_3 := blk_frozen BK206.out 3)
     go_wp2
     go_ret
     exact ⟨by first | rfl | (simp [errW_none, errW_some] <;> rfl) | (simp [*, errW_none, errW_some] <;> rfl), by repeat (first | (with_reducible first | exact HB.out | apply below_alloc | apply pw_below_drewN | apply below_drew1 | refine below_set ?_ GE205.out | refine below_set ?_ GE206.out) | exact HB.out)⟩
    ·replace c13 := Bool.eq_false_iff.mpr c13
     (subst c13); (have H1 : (some false) = some r := by rw [if_neg (show ¬ (false = true) by decide)] at H; exact H); clear H; (have H := H1); clear H1; (obtain rfl := Option.some.inj H); (have hnb17 := NB205_206.out); (have hnc17 := NB206_205.out); (have hcz18_0 : wc.cell? ⟨gb205, 0, none⟩ = some (.bool false) := (blk_cell BK205.out 0).trans rfl); (have hcz18_1 : wc.cell? ⟨gb205, 1, none⟩ = some (.int .i64 a0_1) := (blk_cell BK205.out 1).trans rfl); (have hcz18_2 : wc.cell? ⟨gb205, 2, none⟩ = some (.int .i64 a0_2) := (blk_cell BK205.out 2).trans rfl); (have hcz18_3 : wc.cell? ⟨gb205, 3, none⟩ = some (.string a0_3) := (blk_cell BK205.out 3).trans rfl); (have hfz18_0 := blk_frozen BK205.out 0); (have hfz18_1 := blk_frozen BK205.out 1); (have hfz18_2 := blk_frozen BK205.out 2); (have hfz18_3 := blk_frozen BK205.out 3)
     go_wp2
     go_ret
     exact ⟨by first | rfl | (simp [errW_none, errW_some] <;> rfl) | (simp [*, errW_none, errW_some] <;> rfl), by repeat (first | (with_reducible first | exact HB.out | apply below_alloc | apply pw_below_drewN | apply below_drew1 | refine below_set ?_ GE205.out | refine below_set ?_ GE206.out) | exact HB.out)⟩
   ·replace c12 := Bool.eq_false_iff.mpr c12
    (subst c12); (have H1 : ((cmp_Compare_int.f a0_1 a1_1).bind fun t207 => ((cmp_Compare_int.f a1_2 a0_2).bind fun t208 => ((cmp_Compare_string.f a0_3 a1_3).bind fun t209 => ((cmp_Or_int.f kj2 (([t207, t208, t209] : List Int))).bind fun t213 => (some (decide (t213 < 0))))))) = some r := by rw [if_neg (show ¬ (false = true) by decide)] at H; exact H); clear H; (have H := H1); clear H1; (replace H := Option.bind_eq_some_iff.mp H); (obtain ⟨t207, A190, H⟩ := H); (replace H : ((cmp_Compare_int.f a1_2 a0_2).bind fun t208 => ((cmp_Compare_string.f a0_3 a1_3).bind fun t209 => ((cmp_Or_int.f kj2 (([t207, t208, t209] : List Int))).bind fun t213 => (some (decide (t213 < 0)))))) = some r := H); (have A19 := Aside0.mk A190); clear A190; (replace H := Option.bind_eq_some_iff.mp H); (obtain ⟨t208, A200, H⟩ := H); (replace H : ((cmp_Compare_string.f a0_3 a1_3).bind fun t209 => ((cmp_Or_int.f kj2 (([t207, t208, t209] : List Int))).bind fun t213 => (some (decide (t213 < 0))))) = some r := H); (have A20 := Aside0.mk A200); clear A200; (replace H := Option.bind_eq_some_iff.mp H); (obtain ⟨t209, A210, H⟩ := H); (replace H : ((cmp_Or_int.f kj2 (([t207, t208, t209] : List Int))).bind fun t213 => (some (decide (t213 < 0)))) = some r := H); (have A21 := Aside0.mk A210); clear A210; (obtain ⟨y210, hy210⟩ : ∃ y_ : List Int, y_ = (([t207, t208, t209] : List Int)) := ⟨_, rfl⟩); (replace H : ((cmp_Or_int.f kj2 y210).bind fun t213 => (some (decide (t213 < 0)))) = some r := by first | (rw [hy210]; with_reducible exact H) | (have H2_ := (Option.bind_some _ _).symm.trans H; rw [hy210]; with_reducible exact H2_) | (have H2_ := (Option.bind_some _ _).symm.trans H; with_reducible exact H2_) | with_reducible exact H | (rw [hy210]; exact H) | exact H); (have Ny210 := Aside0.mk hy210); clear hy210; (replace H := Option.bind_eq_some_iff.mp H); (obtain ⟨t213, A220, H⟩ := H); (replace H : (some (decide (t213 < 0))) = some r := H); (have A22 := Aside0.mk A220); clear A220; (obtain rfl := Option.some.inj H)
    try go_wp2
    (have n0_ := Aside0.mk (blk_drew BK205.out)); (have n1_ := Aside0.mk (blk_drew BK206.out)); (have n2_ := Aside0.mk (below_drew1 HB.out)); clear BK205 BK206 HB; (have BK205 := n0_); (have BK206 := n1_); (have HB := n2_); clear n0_ n1_ n2_
    refine start_ (n := 19) (S := fun w' => w'.cell? ⟨gb205, 0, none⟩ = some (.bool a0_0) ∧ w'.cell? ⟨gb205, 1, none⟩ = some (.int .i64 a0_1) ∧ w'.cell? ⟨gb205, 2, none⟩ = some (.int .i64 a0_2) ∧ w'.cell? ⟨gb205, 3, none⟩ = some (.string a0_3) ∧ w'.cell? ⟨gb206, 0, none⟩ = some (.bool a1_0) ∧ w'.cell? ⟨gb206, 1, none⟩ = some (.int .i64 a1_1) ∧ w'.cell? ⟨gb206, 2, none⟩ = some (.int .i64 a1_2) ∧ w'.cell? ⟨gb206, 3, none⟩ = some (.string a1_3)) (ds := []) #[false, false, false, false, false, false, false, false, false, false, false, false, false, false, false, false, false, false, false] (by kernel_rfl) rfl rfl ⟨(blk_cell BK205.out 0).trans rfl, (blk_cell BK205.out 1).trans rfl, (blk_cell BK205.out 2).trans rfl, (blk_cell BK205.out 3).trans rfl, (blk_cell BK206.out 0).trans rfl, (blk_cell BK206.out 1).trans rfl, (blk_cell BK206.out 2).trans rfl, (blk_cell BK206.out 3).trans rfl⟩ (fun hHeld => ?_); refine with_tabW impl_isAhead.tab3 impl_isAhead.bits3 (fun HT_ HW_ => ?_)
    generalize wc.drew = w23 at BK205 BK206 HB hHeld ⊢
    refine pure_ (i := 0) (N := some 20) (v := ?_) (a' := ?_) #[true, false, false, false, false, false, false, false, false, false, false, false, false, false, false, false, false, false, false] rfl rfl (any_of HT_.out (by kernel_rfl)) (fun _ _ _ h => h) (Or.inl ⟨by rfl, ?_⟩) ?_ ?_
    rotate_left
    ·intro w'
     go_simp
     with_reducible rfl
    rotate_left
    ·simp only [Act.put, List.setIfInBounds_toArray, List.set_cons_zero, List.set_cons_succ, i64_w, i32_w]
     rfl
    refine pure_ (i := 2) (N := some 22) (v := ?_) (a' := ?_) #[true, false, true, false, false, false, false, false, false, false, false, false, false, false, false, false, false, false, false] rfl rfl (any_of HT_.out (by kernel_rfl)) (fun _ _ _ h => h) (Or.inl ⟨by rfl, ?_⟩) ?_ ?_
    rotate_left
    ·intro w'
     go_simp
     with_reducible rfl
    rotate_left
    ·simp only [Act.put, List.setIfInBounds_toArray, List.set_cons_zero, List.set_cons_succ, i64_w, i32_w]
     rfl
    refine pure_ (i := 5) (N := some 25) (v := ?_) (a' := ?_) #[true, false, true, false, false, true, false, false, false, false, false, false, false, false, false, false, false, false, false] rfl rfl (any_of HT_.out (by kernel_rfl)) (fun _ _ _ h => h) (Or.inl ⟨by rfl, ?_⟩) ?_ ?_
    rotate_left
    ·intro w'
     go_simp
     with_reducible rfl
    rotate_left
    ·simp only [Act.put, List.setIfInBounds_toArray, List.set_cons_zero, List.set_cons_succ, i64_w, i32_w]
     rfl
    refine pure_ (i := 7) (N := some 27) (v := ?_) (a' := ?_) #[true, false, true, false, false, true, false, true, false, false, false, false, false, false, false, false, false, false, false] rfl rfl (any_of HT_.out (by kernel_rfl)) (fun _ _ _ h => h) (Or.inl ⟨by rfl, ?_⟩) ?_ ?_
    rotate_left
    ·intro w'
     go_simp
     with_reducible rfl
    rotate_left
    ·simp only [Act.put, List.setIfInBounds_toArray, List.set_cons_zero, List.set_cons_succ, i64_w, i32_w]
     rfl
    refine pure_ (i := 10) (N := some 30) (v := ?_) (a' := ?_) #[true, false, true, false, false, true, false, true, false, false, true, false, false, false, false, false, false, false, false] rfl rfl (any_of HT_.out (by kernel_rfl)) (fun _ _ _ h => h) (Or.inl ⟨by rfl, ?_⟩) ?_ ?_
    rotate_left
    ·intro w'
     go_simp
     with_reducible rfl
    rotate_left
    ·simp only [Act.put, List.setIfInBounds_toArray, List.set_cons_zero, List.set_cons_succ, i64_w, i32_w]
     rfl
    refine pure_ (i := 12) (N := some 32) (v := ?_) (a' := ?_) #[true, false, true, false, false, true, false, true, false, false, true, false, true, false, false, false, false, false, false] rfl rfl (any_of HT_.out (by kernel_rfl)) (fun _ _ _ h => h) (Or.inl ⟨by rfl, ?_⟩) ?_ ?_
    rotate_left
    ·intro w'
     go_simp
     with_reducible rfl
    rotate_left
    ·simp only [Act.put, List.setIfInBounds_toArray, List.set_cons_zero, List.set_cons_succ, i64_w, i32_w]
     rfl
    refine take_ (i := 1) (N := some 21) (v := ?_) (a' := ?_) #[true, true, true, false, false, true, false, true, false, false, true, false, true, false, false, false, false, false, false] rfl rfl (take_ofW HT_.out HW_.out (by kernel_rfl)) (fun _ _ _ h => h) (Or.inl ⟨by rfl, ?_⟩) hHeld ?_ ?_
    rotate_left
    ·rintro w' ⟨s0, s1, s2, s3, s4, s5, s6, s7⟩
     go_simp
     with_reducible rfl
    rotate_left
    ·simp only [Act.put, List.setIfInBounds_toArray, List.set_cons_zero, List.set_cons_succ, i64_w, i32_w]
     rfl
    refine take_ (i := 3) (N := some 23) (v := ?_) (a' := ?_) #[true, true, true, true, false, true, false, true, false, false, true, false, true, false, false, false, false, false, false] rfl rfl (take_ofW HT_.out HW_.out (by kernel_rfl)) (fun _ _ _ h => h) (Or.inl ⟨by rfl, ?_⟩) hHeld ?_ ?_
    rotate_left
    ·rintro w' ⟨s0, s1, s2, s3, s4, s5, s6, s7⟩
     go_simp
     with_reducible rfl
    rotate_left
    ·simp only [Act.put, List.setIfInBounds_toArray, List.set_cons_zero, List.set_cons_succ, i64_w, i32_w]
     rfl
    refine take_ (i := 6) (N := some 26) (v := ?_) (a' := ?_) #[true, true, true, true, false, true, true, true, false, false, true, false, true, false, false, false, false, false, false] rfl rfl (take_ofW HT_.out HW_.out (by kernel_rfl)) (fun _ _ _ h => h) (Or.inl ⟨by rfl, ?_⟩) hHeld ?_ ?_
    rotate_left
    ·rintro w' ⟨s0, s1, s2, s3, s4, s5, s6, s7⟩
     go_simp
     with_reducible rfl
    rotate_left
    ·simp only [Act.put, List.setIfInBounds_toArray, List.set_cons_zero, List.set_cons_succ, i64_w, i32_w]
     rfl
    refine take_ (i := 8) (N := some 28) (v := ?_) (a' := ?_) #[true, true, true, true, false, true, true, true, true, false, true, false, true, false, false, false, false, false, false] rfl rfl (take_ofW HT_.out HW_.out (by kernel_rfl)) (fun _ _ _ h => h) (Or.inl ⟨by rfl, ?_⟩) hHeld ?_ ?_
    rotate_left
    ·rintro w' ⟨s0, s1, s2, s3, s4, s5, s6, s7⟩
     go_simp
     with_reducible rfl
    rotate_left
    ·simp only [Act.put, List.setIfInBounds_toArray, List.set_cons_zero, List.set_cons_succ, i64_w, i32_w]
     rfl
    refine take_ (i := 11) (N := some 31) (v := ?_) (a' := ?_) #[true, true, true, true, false, true, true, true, true, false, true, true, true, false, false, false, false, false, false] rfl rfl (take_ofW HT_.out HW_.out (by kernel_rfl)) (fun _ _ _ h => h) (Or.inl ⟨by rfl, ?_⟩) hHeld ?_ ?_
    rotate_left
    ·rintro w' ⟨s0, s1, s2, s3, s4, s5, s6, s7⟩
     go_simp
     with_reducible rfl
    rotate_left
    ·simp only [Act.put, List.setIfInBounds_toArray, List.set_cons_zero, List.set_cons_succ, i64_w, i32_w]
     rfl
    refine take_ (i := 13) (N := some 33) (v := ?_) (a' := ?_) #[true, true, true, true, false, true, true, true, true, false, true, true, true, true, false, false, false, false, false] rfl rfl (take_ofW HT_.out HW_.out (by kernel_rfl)) (fun _ _ _ h => h) (Or.inl ⟨by rfl, ?_⟩) hHeld ?_ ?_
    rotate_left
    ·rintro w' ⟨s0, s1, s2, s3, s4, s5, s6, s7⟩
     go_simp
     with_reducible rfl
    rotate_left
    ·simp only [Act.put, List.setIfInBounds_toArray, List.set_cons_zero, List.set_cons_succ, i64_w, i32_w]
     rfl
    refine one_ (i := 4) (N := some 24) #[true, true, true, true, true, true, true, true, true, false, true, true, true, true, false, false, false, false, false] rfl rfl (one_of HT_.out (by kernel_rfl)) (by decide) (fun K hK => ?_)
    refine goes_ Tryd.func148 (by kernel_rfl) rfl #[.int .i64 a0_1, .int .i64 a1_1] (by rfl) rfl rfl (by (try simp only [List.map_toArray, List.map_cons, List.map_nil]); first | done | rfl | (simp only [List.length_drop, List.length_take]; rfl)) ?_
    with_reducible refine (cmp_Compare_int.calls a0_1 a1_1 t207 _ A19.out).mono ?_
    rintro e w' ⟨rfl, ⟨nd, rfl⟩⟩
    refine ⟨_, rfl, ?_⟩
    refine hK.out _ _ ⟨(blk_cell BK205.out 0).trans rfl, (blk_cell BK205.out 1).trans rfl, (blk_cell BK205.out 2).trans rfl, (blk_cell BK205.out 3).trans rfl, (blk_cell BK206.out 0).trans rfl, (blk_cell BK206.out 1).trans rfl, (blk_cell BK206.out 2).trans rfl, (blk_cell BK206.out 3).trans rfl⟩ (fun hHeld => ?_)
    clear hK K
    refine norm_ (a' := ?_) ?_ ?_
    rotate_left
    ·show Act.put _ (some 24) _ = _
     simp only [Act.put, List.setIfInBounds_toArray, List.set_cons_zero, List.set_cons_succ, i64_w, i32_w]
     rfl
    refine one_ (i := 9) (N := some 29) #[true, true, true, true, true, true, true, true, true, true, true, true, true, true, false, false, false, false, false] rfl rfl (one_of HT_.out (by kernel_rfl)) (by decide) (fun K hK => ?_)
    refine goes_ Tryd.func148 (by kernel_rfl) rfl #[.int .i64 a1_2, .int .i64 a0_2] (by rfl) rfl rfl (by (try simp only [List.map_toArray, List.map_cons, List.map_nil]); first | done | rfl | (simp only [List.length_drop, List.length_take]; rfl)) ?_
    with_reducible refine (cmp_Compare_int.calls a1_2 a0_2 t208 _ A20.out).mono ?_
    rintro e w' ⟨rfl, ⟨nd, rfl⟩⟩
    refine ⟨_, rfl, ?_⟩
    refine hK.out _ _ ⟨(blk_cell BK205.out 0).trans rfl, (blk_cell BK205.out 1).trans rfl, (blk_cell BK205.out 2).trans rfl, (blk_cell BK205.out 3).trans rfl, (blk_cell BK206.out 0).trans rfl, (blk_cell BK206.out 1).trans rfl, (blk_cell BK206.out 2).trans rfl, (blk_cell BK206.out 3).trans rfl⟩ (fun hHeld => ?_)
    clear hK K
    refine norm_ (a' := ?_) ?_ ?_
    rotate_left
    ·show Act.put _ (some 29) _ = _
     simp only [Act.put, List.setIfInBounds_toArray, List.set_cons_zero, List.set_cons_succ, i64_w, i32_w]
     rfl
    refine one_ (i := 14) (N := some 34) #[true, true, true, true, true, true, true, true, true, true, true, true, true, true, true, false, false, false, false] rfl rfl (one_of HT_.out (by kernel_rfl)) (by decide) (fun K hK => ?_)
    refine goes_ Tryd.func149 (by kernel_rfl) rfl #[.string a0_3, .string a1_3] (by rfl) rfl rfl (by (try simp only [List.map_toArray, List.map_cons, List.map_nil]); first | done | rfl | (simp only [List.length_drop, List.length_take]; rfl)) ?_
    with_reducible refine (cmp_Compare_string.calls a0_3 a1_3 t209 _ A21.out).mono ?_
    rintro e w' ⟨rfl, ⟨nd, rfl⟩⟩
    refine ⟨_, rfl, ?_⟩
    refine hK.out _ _ ⟨(blk_cell BK205.out 0).trans rfl, (blk_cell BK205.out 1).trans rfl, (blk_cell BK205.out 2).trans rfl, (blk_cell BK205.out 3).trans rfl, (blk_cell BK206.out 0).trans rfl, (blk_cell BK206.out 1).trans rfl, (blk_cell BK206.out 2).trans rfl, (blk_cell BK206.out 3).trans rfl⟩ (fun hHeld => ?_)
    clear hK K
    refine norm_ (a' := ?_) ?_ ?_
    rotate_left
    ·show Act.put _ (some 34) _ = _
     simp only [Act.put, List.setIfInBounds_toArray, List.set_cons_zero, List.set_cons_succ, i64_w, i32_w]
     rfl
    refine one_ (i := 15) (N := some 35) #[true, true, true, true, true, true, true, true, true, true, true, true, true, true, true, true, false, false, false] rfl rfl (one_of HT_.out (by kernel_rfl)) (by decide) (fun K hK => ?_)
    refine Kd.R_lit_step (Kd.int .i64) _ 3 ?hg (N := 35) ?hd (xs := ([t207, t208, t209] : List Int)) (inner := [.int .i64 t207, .int .i64 t208, .int .i64 t209]) (ok := fun _ => True) (okp := fun _ => True) ?hr ?hp (fun _ hk => hk) trivial (Below.refl _ _) (Nat.le_refl _) (by simp) ?_; (case hd => rfl); (case hg => rfl); (case hr => first | (go_simp; done) | (go_simp; rfl)); (case hp => exact (Reps.one (show Kd.M (Kd.int .i64) _ _ _ t207 [.int .i64 t207] from rfl) (Reps.one (show Kd.M (Kd.int .i64) _ _ _ t208 [.int .i64 t208] from rfl) (Reps.one (show Kd.M (Kd.int .i64) _ _ _ t209 [.int .i64 t209] from rfl) (Reps.none _ _)))))
    intro v211 w24 ho25 hb hg_ hnew_
    clear hg_ hnew_
    (first | rw [← Ny210.out] at ho25 | (simp only [Int.reduceToNat] at ho25; rw [← Ny210.out] at ho25))
    (have n0_ := Aside0.mk (Kd.R_lower ho25 (below_size (by repeat (first | (with_reducible first | exact HB.out | apply below_alloc | apply pw_below_drewN | apply below_drew1 | refine below_set ?_ GE205.out | refine below_set ?_ GE206.out) | exact HB.out))))); (have n1_ := Aside0.mk (blk_below (g := gb205) (o := .cells #[.bool a0_0, .int .i64 a0_1, .int .i64 a0_2, .string a0_3] 78 (0, 0)) (by (with_reducible repeat (first | refine blk_drewN ?_ _ | refine blk_drew ?_ | refine blk_alloc ?_ _)); exact BK205.out) hb)); (have n2_ := Aside0.mk (blk_below (g := gb206) (o := .cells #[.bool a1_0, .int .i64 a1_1, .int .i64 a1_2, .string a1_3] 78 (0, 0)) (by (with_reducible repeat (first | refine blk_drewN ?_ _ | refine blk_drew ?_ | refine blk_alloc ?_ _)); exact BK206.out) hb)); (have n3_ := Aside0.mk (below_step (by repeat (first | (with_reducible first | exact HB.out | apply below_alloc | apply pw_below_drewN | apply below_drew1 | refine below_set ?_ GE205.out | refine below_set ?_ GE206.out) | exact HB.out)) hb)); clear BK205 BK206 HB; (have HO212 := n0_); (have BK205 := n1_); (have BK206 := n2_); (have HB := n3_); clear n0_ n1_ n2_ n3_ hb ho25; (obtain ⟨Ao26, co26, eo26⟩ := Kd.R_slice HO212.out)
    (first | subst eo26 | (injection eo26 with f1_ f2_ f3_; have f4_ := f1_.symm; have f5_ := f3_.symm; clear f1_ f2_ f3_; subst f4_; subst f5_))
    refine hK.out _ _ ⟨(blk_cell BK205.out 0).trans rfl, (blk_cell BK205.out 1).trans rfl, (blk_cell BK205.out 2).trans rfl, (blk_cell BK205.out 3).trans rfl, (blk_cell BK206.out 0).trans rfl, (blk_cell BK206.out 1).trans rfl, (blk_cell BK206.out 2).trans rfl, (blk_cell BK206.out 3).trans rfl⟩ (fun hHeld => ?_)
    clear hK K
    refine norm_ (a' := ?_) ?_ ?_
    rotate_left
    ·show Act.put _ (some 35) _ = _
     simp only [Act.put, List.setIfInBounds_toArray, List.set_cons_zero, List.set_cons_succ, i64_w, i32_w]
     rfl
    refine one_ (i := 16) (N := some 36) #[true, true, true, true, true, true, true, true, true, true, true, true, true, true, true, true, true, false, false] rfl rfl (one_of HT_.out (by kernel_rfl)) (by decide) (fun K hK => ?_)
    refine goes_ Tryd.func147 (by kernel_rfl) rfl #[.slice Ao26 y210.length co26] (by rfl) rfl rfl (by (try simp only [List.map_toArray, List.map_cons, List.map_nil]); first | done | rfl | (simp only [List.length_drop, List.length_take]; rfl)) ?_
    with_reducible refine (cmp_Or_int.calls kj2 _ _ y210 t213 _ ?side1 ?side2 A22.out).mono ?_
    (case side1 => repeat (first | exact (Kd.R_reads' HO212.out).2.2 | (with_reducible refine Kd.C_alloc ?_ _) | (with_reducible refine Kd.C_drewN ?_ _) | (with_reducible refine Kd.C_drew ?_)))
    (case side2 => exact (Kd.R_reads' HO212.out).2.1)
    rintro e w' ⟨rfl, ⟨nd, rfl⟩⟩
    refine ⟨_, rfl, ?_⟩
    refine hK.out _ _ ⟨(blk_cell BK205.out 0).trans rfl, (blk_cell BK205.out 1).trans rfl, (blk_cell BK205.out 2).trans rfl, (blk_cell BK205.out 3).trans rfl, (blk_cell BK206.out 0).trans rfl, (blk_cell BK206.out 1).trans rfl, (blk_cell BK206.out 2).trans rfl, (blk_cell BK206.out 3).trans rfl⟩ (fun hHeld => ?_)
    clear hK K
    refine norm_ (a' := ?_) ?_ ?_
    rotate_left
    ·show Act.put _ (some 36) _ = _
     simp only [Act.put, List.setIfInBounds_toArray, List.set_cons_zero, List.set_cons_succ, i64_w, i32_w]
     rfl
    refine pure_ (i := 17) (N := some 37) (v := ?_) (a' := ?_) #[true, true, true, true, true, true, true, true, true, true, true, true, true, true, true, true, true, true, false] rfl rfl (any_of HT_.out (by kernel_rfl)) (fun _ _ _ h => h) (Or.inl ⟨by rfl, ?_⟩) ?_ ?_
    rotate_left
    ·intro w'
     go_simp
     with_reducible rfl
    rotate_left
    ·simp only [Act.put, List.setIfInBounds_toArray, List.set_cons_zero, List.set_cons_succ, i64_w, i32_w]
     rfl
    refine pure_ (i := 18) (N := some 4) (v := ?_) (a' := ?_) #[true, true, true, true, true, true, true, true, true, true, true, true, true, true, true, true, true, true, true] rfl rfl (any_of HT_.out (by kernel_rfl)) (fun _ _ _ h => h) (Or.inl ⟨by rfl, ?_⟩) ?_ ?_
    rotate_left
    ·intro w'
     go_simp
     with_reducible rfl
    rotate_left
    ·simp only [Act.put, List.setIfInBounds_toArray, List.set_cons_zero, List.set_cons_succ, i64_w, i32_w]
     rfl
    refine done_ (done_of HT_.out (by kernel_rfl)) ?_
    try go_wp2
    go_ret
    exact ⟨by first | rfl | (simp [errW_none, errW_some] <;> rfl) | (simp [*, errW_none, errW_some] <;> rfl), by repeat (first | (with_reducible first | exact HB.out | apply below_alloc | apply pw_below_drewN | apply below_drew1 | refine below_set ?_ GE205.out | refine below_set ?_ GE206.out) | exact HB.out)⟩
end Go.Proofs.YtbpffdhkeinmcaaDoor.QD
namespace Go.Proofs.YtbpffdhkeinmcaaDoor.QD
open Go.RowKit Go.Proofs.YtbpffdhkeinmcaaDoorW.PrintWords Go.Proofs.YtbpffdhkeinmcaaDoorW.PrintLast Go.Proofs.YtbpffdhkeinmcaaDoorW.PrintMore
attribute [local go_sem] max2_int min2_int max_two min_two max_three min_three max_four min_four   -- for this text's walks alone
set_option linter.unusedVariables false
set_option linter.unusedSimpArgs false
def idxF {α : Type} (p : α → Option Bool) : List α → Nat → Option Int
 | [], _ => some (-1)
 | x :: xs, i => (p x).bind fun b => if b = true then some (i : Int) else idxF p xs (i + 1)
theorem idxF_at {α : Type} (p : α → Option Bool) (l : List α) (i j : Nat) (hj : j < l.length) : idxF p (l.drop j) i = (p (l[j]'hj)).bind fun b => if b = true then some (i : Int) else idxF p (l.drop (j + 1)) (i + 1) := by
 rw [List.drop_eq_getElem_cons hj]; rfl
def contF {α : Type} (p : α → Option Bool) (l : List α) : Option Bool := (idxF p l 0).bind fun i => some (decide (0 ≤ i))
set_option maxHeartbeats 8000000 in
set_option maxRecDepth 100000 in
theorem idx_78 (p : S78 → Option Bool) (g : Nat) (lb : Array Value) (eg : ∀ args w, (callFunc g args).run Tryd.prog w = .ok (.enter g args) w) (A0 : Option Addr) (c0 : Nat) (l0 : List S78) (r : Int) (w : World) (hr0 : Kd.C k78 w A0 l0.length l0)
  (hp : ∀ (W : World) (x : S78) (b : Bool), Below w.heap.size w W → x ∈ l0 → p x = some b → Calls Tryd.prog g (#[.agg #[.bool x.f0, .int .i64 x.f1, .int .i64 x.f2, .string x.f3]] ++ lb) W fun e w' => e = .returned (.bool b) ∧ Below W.heap.size W w')
  (h : idxF p l0 0 = some r) :
  Calls Tryd.prog 150 #[.slice A0 l0.length c0, .func (.func g) #[] lb] w fun e w' => e = .returned (.int .i64 r) ∧ Below w.heap.size w w' := by
 (have hu := Tryd.underlying78); (have HR0 := Aside0.mk hr0); (have HP := Aside0.mk hp); (have hlen : l0.length ≤ 9223372036854775807 := hr0.2.1); clear hr0 hp; (have H' := Aside0.mk h); clear h
 go_enter Tryd.func150, Tryd.ntmps150
 go_wp2
 go_loopg [5, 8] l0.length (fun gg _ s8 wr => ∃ kk : Nat, kk ≤ l0.length ∧ l0.length - kk ≤ gg ∧ s8 = .int .i64 kk ∧ Aside0 (Below w.heap.size w wr) ∧ Aside0 (idxF p (l0.drop kk) kk = some r))
 case atStart => exact ⟨0, Nat.zero_le _, by omega, rfl, ⟨Below.refl _ w⟩, by simpa using H'⟩
 case round =>
  clear H'; (obtain ⟨kk, hkk, hg, rfl, BW, A⟩ := hrel)
  by_cases hlt : kk < l0.length
  ·have hltz : decide ((kk : Int) < (l0.length : Int)) = true := decide_eq_true (by omega)
   (have A1 := A.out); (rw [idxF_at p l0 kk kk hlt] at A1); clear A; (obtain ⟨b, hb, A2⟩ := Option.bind_eq_some_iff.mp A1); clear A1; (have hmem : l0[kk] ∈ l0 := List.getElem_mem hlt); (have hcall := HP.out wr l0[kk] b BW.out hmem hb); (obtain ⟨ad1, cs1, e1, hl1, hK1, hcell1⟩ := Kd.C_get HR0.out l0[kk] (kk : Int) (by omega) (by omega)); (have hget : l0.getD ((kk : Int)).toNat l0[kk] = l0[kk] := by simp [List.getD, hlt]); (rw [hget] at hK1); clear hget; (obtain rfl := k78_open hK1); (have hx0 := hcell1 0 _ rfl); (rw [show (k78).sz = 4 from rfl, Int.toNat_natCast, Nat.add_zero] at hx0); (have hx1 := hcell1 1 _ rfl); (rw [show (k78).sz = 4 from rfl, Int.toNat_natCast, add_field _ _ 1 (by omega)] at hx1); (have hx2 := hcell1 2 _ rfl); (rw [show (k78).sz = 4 from rfl, Int.toNat_natCast, add_field _ _ 2 (by omega)] at hx2); (have hx3 := hcell1 3 _ rfl); (rw [show (k78).sz = 4 from rfl, Int.toNat_natCast, add_field _ _ 3 (by omega)] at hx3)
   cases e1
   (try clear hK1); clear hl1 hcell1; (replace hx0 := (BW.out.cell (World.block_lt_of_cell? w _ hx0)).trans hx0); (replace hx1 := (BW.out.cell (World.block_lt_of_cell? w _ hx1)).trans hx1); (replace hx2 := (BW.out.cell (World.block_lt_of_cell? w _ hx2)).trans hx2); (replace hx3 := (BW.out.cell (World.block_lt_of_cell? w _ hx3)).trans hx3); clear hmem hb
   generalize l0[kk] = y at hcall hx0 hx1 hx2 hx3
   cases b with
   | true =>
    (obtain rfl : (kk : Int) = r := by simpa using A2); clear A2
    go_wp2_with (go_at_fn g; refine hcall.mono ?_; rintro e w' ⟨rfl, hb'⟩)
    go_ret
    exact ⟨rfl, below_then BW.out BW.out.size hb'⟩
   | false =>
    (have A3 : Aside0 (idxF p (l0.drop (kk + 1)) (kk + 1) = some r) := ⟨by simpa using A2⟩); clear A2
    go_wp2_with (go_at_fn g; refine hcall.mono ?_; rintro e w' ⟨rfl, hb'⟩)
    go_roundg (l0.length - (kk + 1))
    case measure => omega
    case rel => exact ⟨kk + 1, by omega, by omega, by go_num, ⟨below_then BW.out BW.out.size hb'⟩, A3⟩
  ·have hltz : decide ((kk : Int) < (l0.length : Int)) = false := decide_eq_false (by omega)
   obtain rfl : -1 = r := by
    (have A1 := A.out); (rw [show kk = l0.length by omega] at A1)
    simpa [idxF] using A1
   clear A
   go_wp2
   go_ret
   exact ⟨rfl, BW.out⟩
end Go.Proofs.YtbpffdhkeinmcaaDoor.QD
namespace Go.Proofs.YtbpffdhkeinmcaaDoor.QD
open Go.RowKit Go.Proofs.YtbpffdhkeinmcaaDoorW.PrintWords Go.Proofs.YtbpffdhkeinmcaaDoorW.PrintLast Go.Proofs.YtbpffdhkeinmcaaDoorW.PrintMore
attribute [local go_sem] max2_int min2_int max_two min_two max_three min_three max_four min_four   -- for this text's walks alone
set_option linter.unusedVariables false
set_option linter.unusedSimpArgs false
def IsS78 (w0 W : World) (g : Nat) (f0 : Bool) (f1 : Int) (f2 : Int) (f3 : ByteArray) : Prop := W.heap[g]? = some (.cells #[.bool f0, .int .i64 f1, .int .i64 f2, .string f3] 78 (0, 0)) ∧ w0.heap.size ≤ g
theorem IsS78.grown {w0 W : World} {g : Nat} {f0 : Bool} {f1 : Int} {f2 : Int} {f3 : ByteArray} {W1 : World} {row : Option Nat} (h : IsS78 w0 W g f0 f1 f2 f3) (hw : W.grownBy W1 row) (hne : some g ≠ row) : IsS78 w0 W1 g f0 f1 f2 f3 := by
 obtain ⟨hb, hg⟩ := h
 exact ⟨blk_grown hb hw hne, hg⟩
theorem IsS78.kept {w0 W : World} {g : Nat} {f0 : Bool} {f1 : Int} {f2 : Int} {f3 : ByteArray} {W1 : World} {S : Nat → Prop} (h : IsS78 w0 W g f0 f1 f2 f3) (hk : Kept W W1 S) (hne : ¬ S g) : IsS78 w0 W1 g f0 f1 f2 f3 := by
 obtain ⟨hb, hg⟩ := h
 exact ⟨blk_kept hb hk hne, hg⟩
theorem IsS78.below {w0 W : World} {g : Nat} {f0 : Bool} {f1 : Int} {f2 : Int} {f3 : ByteArray} {W1 : World} (h : IsS78 w0 W g f0 f1 f2 f3) (hw : Below W.heap.size W W1) : IsS78 w0 W1 g f0 f1 f2 f3 := h.grown (grown_of_below hw none) (by simp)
theorem IsS78.alloc {w0 W : World} {g : Nat} {f0 : Bool} {f1 : Int} {f2 : Int} {f3 : ByteArray} (h : IsS78 w0 W g f0 f1 f2 f3) (o : Obj) : IsS78 w0 (W.alloc o) g f0 f1 f2 f3 := h.below (below_alloc (Below.refl _ _) o)
theorem IsS78.drewN {w0 W : World} {g : Nat} {f0 : Bool} {f1 : Int} {f2 : Int} {f3 : ByteArray} (h : IsS78 w0 W g f0 f1 f2 f3) (m : Nat) : IsS78 w0 (W.drewN m) g f0 f1 f2 f3 := h
theorem IsS78.drew {w0 W : World} {g : Nat} {f0 : Bool} {f1 : Int} {f2 : Int} {f3 : ByteArray} (h : IsS78 w0 W g f0 f1 f2 f3) : IsS78 w0 W.drew g f0 f1 f2 f3 := h
theorem IsS78.at_ {w0 W : World} {g : Nat} {f0 : Bool} {f1 : Int} {f2 : Int} {f3 : ByteArray} {w' : World} {m : Nat} (hq : W.drewN m = w') (h : IsS78 w0 W g f0 f1 f2 f3) : IsS78 w0 w' g f0 f1 f2 f3 := by subst hq; exact IsS78.drewN h m
theorem IsS78.apart {w0 W : World} {g : Nat} {f0 : Bool} {f1 : Int} {f2 : Int} {f3 : ByteArray} {α : Type} {d : Kd α} {e : Nat} {base : Nat} {ok : Nat → Prop} {v : Value} {xs : List α} (h : IsS78 w0 W g f0 f1 f2 f3) (ho : d.R e W base ok v xs) (ht : ∀ q, q ∈ e :: d.E → q ≠ 78) : d.R e W base (fun k => ok k ∧ k ≠ g) v xs := by
 obtain ⟨hb, hg⟩ := h
 exact Kd.R_types ho hb ht
theorem IsS78.own_ne {w0 W : World} {g : Nat} {f0 : Bool} {f1 : Int} {f2 : Int} {f3 : ByteArray} {α : Type} {d : Kd α} {e : Nat} {base : Nat} {ok : Nat → Prop} {v : Value} {xs : List α} (h : IsS78 w0 W g f0 f1 f2 f3) (ho : d.R e W base ok v xs) (ht : e ≠ 78) : some g ≠ v.ownBlock := by
 obtain ⟨hb, hg⟩ := h
 exact Kd.R_ne ho hb ht
theorem IsS78.lt {w0 W : World} {g : Nat} {f0 : Bool} {f1 : Int} {f2 : Int} {f3 : ByteArray} (h : IsS78 w0 W g f0 f1 f2 f3) : g < W.heap.size := by
 obtain ⟨hb, hg⟩ := h
 exact blk_lt hb
theorem IsS78.ge {w0 W : World} {g : Nat} {f0 : Bool} {f1 : Int} {f2 : Int} {f3 : ByteArray} (h : IsS78 w0 W g f0 f1 f2 f3) : w0.heap.size ≤ g := by
 obtain ⟨hb, hg⟩ := h
 exact hg
theorem IsS78.far {w0 W : World} {g : Nat} {f0 : Bool} {f1 : Int} {f2 : Int} {f3 : ByteArray} {p : Addr} (h : IsS78 w0 W g f0 f1 f2 f3) (hne : g ≠ p.block) (u : Value) : IsS78 w0 (W.setCell p u) g f0 f1 f2 f3 := by
 obtain ⟨hb, hg⟩ := h
 exact ⟨blk_far hb hne u, hg⟩
theorem cellS78_0 {W : World} {g : Nat} {f0 : Bool} {f1 : Int} {f2 : Int} {f3 : ByteArray} (h : W.heap[g]? = some (.cells #[.bool f0, .int .i64 f1, .int .i64 f2, .string f3] 78 (0, 0))) : W.cell? ⟨g, 0, none⟩ = some (.bool f0) := (blk_cell h 0).trans rfl
theorem IsS78.set_0 {w0 W : World} {g : Nat} {f0 : Bool} {f1 : Int} {f2 : Int} {f3 : ByteArray} (h : IsS78 w0 W g f0 f1 f2 f3) (x : Bool) : IsS78 w0 (W.setCell ⟨g, 0, none⟩ (.bool x)) g x f1 f2 f3 := by
 obtain ⟨hb, hg⟩ := h
 exact ⟨by simpa using blk_set hb 0 (.bool x), hg⟩
theorem cellS78_1 {W : World} {g : Nat} {f0 : Bool} {f1 : Int} {f2 : Int} {f3 : ByteArray} (h : W.heap[g]? = some (.cells #[.bool f0, .int .i64 f1, .int .i64 f2, .string f3] 78 (0, 0))) : W.cell? ⟨g, 1, none⟩ = some (.int .i64 f1) := (blk_cell h 1).trans rfl
theorem IsS78.set_1 {w0 W : World} {g : Nat} {f0 : Bool} {f1 : Int} {f2 : Int} {f3 : ByteArray} (h : IsS78 w0 W g f0 f1 f2 f3) (x : Int) : IsS78 w0 (W.setCell ⟨g, 1, none⟩ (.int .i64 x)) g f0 x f2 f3 := by
 obtain ⟨hb, hg⟩ := h
 exact ⟨by simpa using blk_set hb 1 (.int .i64 x), hg⟩
theorem cellS78_2 {W : World} {g : Nat} {f0 : Bool} {f1 : Int} {f2 : Int} {f3 : ByteArray} (h : W.heap[g]? = some (.cells #[.bool f0, .int .i64 f1, .int .i64 f2, .string f3] 78 (0, 0))) : W.cell? ⟨g, 2, none⟩ = some (.int .i64 f2) := (blk_cell h 2).trans rfl
theorem IsS78.set_2 {w0 W : World} {g : Nat} {f0 : Bool} {f1 : Int} {f2 : Int} {f3 : ByteArray} (h : IsS78 w0 W g f0 f1 f2 f3) (x : Int) : IsS78 w0 (W.setCell ⟨g, 2, none⟩ (.int .i64 x)) g f0 f1 x f3 := by
 obtain ⟨hb, hg⟩ := h
 exact ⟨by simpa using blk_set hb 2 (.int .i64 x), hg⟩
theorem cellS78_3 {W : World} {g : Nat} {f0 : Bool} {f1 : Int} {f2 : Int} {f3 : ByteArray} (h : W.heap[g]? = some (.cells #[.bool f0, .int .i64 f1, .int .i64 f2, .string f3] 78 (0, 0))) : W.cell? ⟨g, 3, none⟩ = some (.string f3) := (blk_cell h 3).trans rfl
theorem IsS78.set_3 {w0 W : World} {g : Nat} {f0 : Bool} {f1 : Int} {f2 : Int} {f3 : ByteArray} (h : IsS78 w0 W g f0 f1 f2 f3) (x : ByteArray) : IsS78 w0 (W.setCell ⟨g, 3, none⟩ (.string x)) g f0 f1 f2 x := by
 obtain ⟨hb, hg⟩ := h
 exact ⟨by simpa using blk_set hb 3 (.string x), hg⟩
def impl_isTop_1.f (a0_0 : Bool) (a0_1 : Int) (a0_2 : Int) (a0_3 : ByteArray) (s1_0 : Bool) (s1_1 : Int) (s1_2 : Int) (s1_3 : ByteArray) : Option (Bool × Bool × Int × Int × ByteArray) := some ((a0_3.toList == s1_3.toList), s1_0, s1_1, s1_2, s1_3)
set_option maxHeartbeats 8000000 in
set_option maxRecDepth 100000 in
theorem impl_isTop_1.calls (a0_0 : Bool) (a0_1 : Int) (a0_2 : Int) (a0_3 : ByteArray) (g : Nat) (s1_0 : Bool) (s1_1 : Int) (s1_2 : Int) (s1_3 : ByteArray) (r1 : Bool) (r2 : Bool) (r3 : Int) (r4 : Int) (r5 : ByteArray) (w0 w : World) (hI : IsS78 w0 w g s1_0 s1_1 s1_2 s1_3) (hB : Below w0.heap.size w0 w) (h : impl_isTop_1.f a0_0 a0_1 a0_2 a0_3 s1_0 s1_1 s1_2 s1_3 = some (r1, r2, r3, r4, r5)) :
  Calls Tryd.prog 125 #[.agg #[.bool a0_0, .int .i64 a0_1, .int .i64 a0_2, .string a0_3], .pointer (some ⟨g, 0, none⟩)] w fun e w' => e = .returned (.bool r1) ∧ IsS78 w0 w' g r2 r3 r4 r5 ∧ Below w0.heap.size w0 w' ∧ KeepBut w w' g none := by
 (have hu78 := Tryd.underlying78); (have HI1 := Aside0.mk hI); (have HK := Aside0.mk (KeepBut.refl w g none)); (have HL := Aside0.mk hB.size); clear hI; (have HW0 := Aside0.mk hB.size); (have HB := Aside0.mk hB); clear hB; (have H : (some ((a0_3.toList == s1_3.toList), s1_0, s1_1, s1_2, s1_3)) = some (r1, r2, r3, r4, r5) := h); clear h; (simp only [Option.some.injEq, Prod.mk.injEq] at H); (obtain ⟨rfl, rfl, rfl, rfl, rfl⟩ := H)
 go_enter Tryd.func125, Tryd.ntmps125
 go_wp2_with (first | ((with_reducible refine gate_dst (N := 2) rfl ?_); refine box_event ?hg (N := 2) ?hd (cs := #[.bool a0_0, .int .i64 a0_1, .int .i64 a0_2, .string a0_3]) (t := 78) ?hr ?_; (case hd => rfl); (case hg => rfl); (case hr => first | (go_simp; done) | (go_simp; rfl)); intro gb214 hg w3 hbox hb; have n0_ := Aside0.mk (IsS78.below (by repeat (first | (with_reducible first | exact HI1.out | apply IsS78.alloc | apply IsS78.drewN | apply IsS78.drew | apply IsS78.set_0 | apply IsS78.set_1 | apply IsS78.set_2 | apply IsS78.set_3) | exact HI1.out)) hb); have n1_ := Aside0.mk (KeepBut.trans (by repeat (first | (with_reducible first | exact HK.out | apply KeepBut.set_ | apply keep_drewN | apply keep_drew | apply keep_alloc) | exact HK.out)) (KeepBut.of_below hb g none) (.inl rfl)); have n2_ := Aside0.mk (below_step (by repeat (first | (with_reducible first | exact HB.out | apply below_alloc | apply pw_below_drewN | apply below_drew1 | refine below_set ?_ (IsS78.ge HI1.out)) | exact HB.out)) hb); have n3_ := Aside0.mk (hbox); have n4_ := Aside0.mk ((by rw [hg]; exact (keep_size (w := w) (g := g) (row := none) (by repeat (first | (with_reducible first | exact HK.out | apply KeepBut.set_ | apply keep_drewN | apply keep_drew | apply keep_alloc) | exact HK.out))) : w.heap.size ≤ gb214)); have n5_ := Aside0.mk ((Nat.le_trans HW0.out (by rw [hg]; exact (keep_size (w := w) (g := g) (row := none) (by repeat (first | (with_reducible first | exact HK.out | apply KeepBut.set_ | apply keep_drewN | apply keep_drew | apply keep_alloc) | exact HK.out))) : w.heap.size ≤ gb214) : w0.heap.size ≤ gb214)); have n6_ := Aside0.mk ((by rw [hg]; exact Nat.ne_of_lt (IsS78.lt (show IsS78 w0 _ g s1_0 s1_1 s1_2 s1_3 from by repeat (first | (with_reducible first | exact HI1.out | apply IsS78.alloc | apply IsS78.drewN | apply IsS78.drew | apply IsS78.set_0 | apply IsS78.set_1 | apply IsS78.set_2 | apply IsS78.set_3) | exact HI1.out))) : g ≠ gb214)); have n7_ := Aside0.mk ((by rw [hg]; exact Nat.ne_of_gt (IsS78.lt (show IsS78 w0 _ g s1_0 s1_1 s1_2 s1_3 from by repeat (first | (with_reducible first | exact HI1.out | apply IsS78.alloc | apply IsS78.drewN | apply IsS78.drew | apply IsS78.set_0 | apply IsS78.set_1 | apply IsS78.set_2 | apply IsS78.set_3) | exact HI1.out))) : gb214 ≠ g)); clear HI1 HK HB; have HI1 := n0_; have HK := n1_; have HB := n2_; have BK214 := n3_; have GW214 := n4_; have GE214 := n5_; have NB1_214 := n6_; have NB214_1 := n7_; clear n0_ n1_ n2_ n3_ n4_ n5_ n6_ n7_ hb hbox hg; have hnb4 := NB214_1.out; have hnc4 := NB1_214.out; have hcz5_0 : w3.cell? ⟨gb214, 0, none⟩ = some (.bool a0_0) := (blk_cell BK214.out 0).trans rfl; have hcz5_1 : w3.cell? ⟨gb214, 1, none⟩ = some (.int .i64 a0_1) := (blk_cell BK214.out 1).trans rfl; have hcz5_2 : w3.cell? ⟨gb214, 2, none⟩ = some (.int .i64 a0_2) := (blk_cell BK214.out 2).trans rfl; have hcz5_3 : w3.cell? ⟨gb214, 3, none⟩ = some (.string a0_3) := (blk_cell BK214.out 3).trans rfl; have hfz5_0 := blk_frozen BK214.out 0; have hfz5_1 := blk_frozen BK214.out 1; have hfz5_2 := blk_frozen BK214.out 2; have hfz5_3 := blk_frozen BK214.out 3; obtain ⟨HGz6, hgz6⟩ := HI1.out; have hcz6_0 := cellS78_0 HGz6; have hcz6_1 := cellS78_1 HGz6; have hcz6_2 := cellS78_2 HGz6; have hcz6_3 := cellS78_3 HGz6; have hfz6_0 := blk_frozen HGz6 0; have hfz6_1 := blk_frozen HGz6 1; have hfz6_2 := blk_frozen HGz6 2; have hfz6_3 := blk_frozen HGz6 3; clear HGz6 hgz6))
 go_ret
 exact ⟨by first | rfl | (simp [errW_none, errW_some] <;> rfl) | (simp [*, errW_none, errW_some] <;> rfl), by repeat (first | (with_reducible first | exact HI1.out | apply IsS78.alloc | apply IsS78.drewN | apply IsS78.drew | apply IsS78.set_0 | apply IsS78.set_1 | apply IsS78.set_2 | apply IsS78.set_3 | refine IsS78.far ?_ NB1_214.out _) | exact HI1.out), by repeat (first | (with_reducible first | exact HB.out | apply below_alloc | apply pw_below_drewN | apply below_drew1 | refine below_set ?_ (IsS78.ge HI1.out) | refine below_set ?_ GE214.out) | exact HB.out), by repeat (first | (with_reducible first | exact HK.out | apply KeepBut.set_ | apply keep_drewN | apply keep_drew | apply keep_alloc | refine keep_far ?_ GW214.out _) | exact HK.out)⟩
end Go.Proofs.YtbpffdhkeinmcaaDoor.QD
namespace Go.Proofs.YtbpffdhkeinmcaaDoor.QD
open Go.RowKit Go.Proofs.YtbpffdhkeinmcaaDoorW.PrintWords Go.Proofs.YtbpffdhkeinmcaaDoorW.PrintLast Go.Proofs.YtbpffdhkeinmcaaDoorW.PrintMore
attribute [local go_sem] max2_int min2_int max_two min_two max_three min_three max_four min_four   -- for this text's walks alone
set_option linter.unusedVariables false
set_option linter.unusedSimpArgs false
set_option maxHeartbeats 8000000 in
set_option maxRecDepth 100000 in
theorem cont_78 (p : S78 → Option Bool) (g : Nat) (lb : Array Value) (eg : ∀ args w, (callFunc g args).run Tryd.prog w = .ok (.enter g args) w) (A0 : Option Addr) (c0 : Nat) (l0 : List S78) (r : Bool) (w : World) (hr0 : Kd.C k78 w A0 l0.length l0)
  (hp : ∀ (W : World) (x : S78) (b : Bool), Below w.heap.size w W → x ∈ l0 → p x = some b → Calls Tryd.prog g (#[.agg #[.bool x.f0, .int .i64 x.f1, .int .i64 x.f2, .string x.f3]] ++ lb) W fun e w' => e = .returned (.bool b) ∧ Below W.heap.size W w')
  (h : contF p l0 = some r) :
  Calls Tryd.prog 124 #[.slice A0 l0.length c0, .func (.func g) #[] lb] w fun e w' => e = .returned (.bool r) ∧ Below w.heap.size w w' := by
 (obtain ⟨i, hi, h2⟩ := Option.bind_eq_some_iff.mp h); (obtain rfl : decide (0 ≤ i) = r := by simpa using h2); clear h h2; (have HI := idx_78 p g lb eg A0 c0 l0 i w hr0 hp hi); clear hi hr0 hp
 go_enter Tryd.func124, Tryd.ntmps124
 go_wp2_with (go_at_call 150; refine HI.mono ?_; rintro e w' ⟨rfl, hb'⟩)
 go_ret
 exact ⟨rfl, hb'⟩
theorem below_of_keep {w0 W w' : World} {n g : Nat} {o : Obj} (hb : Below n w0 W) (hb' : Below n w0 w') (hk : KeepBut W w' g none) (h1 : W.heap[g]? = some o) (h2 : w'.heap[g]? = some o) : Below W.heap.size W w' :=
 ⟨hb'.os.trans hb.os.symm, hb'.tape.trans hb.tape.symm, hb'.output.trans hb.output.symm, hk.1, fun k hk' => by
  by_cases e : k = g
  ·subst e; exact h2.trans h1.symm
  ·exact hk.2 k hk' e (by simp)⟩
theorem impl_isTop_1.same (z0 : Bool) (z1 : Int) (z2 : Int) (z3 : ByteArray) (a1_0 : Bool) (a1_1 : Int) (a1_2 : Int) (a1_3 : ByteArray) (t : Bool × Bool × Int × Int × ByteArray) (h : impl_isTop_1.f z0 z1 z2 z3 a1_0 a1_1 a1_2 a1_3 = some t) : t.2 = (a1_0, a1_1, a1_2, a1_3) := by
 unfold impl_isTop_1.f at h
 repeat' split at h
 all_goals first
  | (cases h; rfl)
  | (simp only [Option.bind_eq_some_iff] at h; obtain ⟨_, _, h⟩ := h; (repeat' split at h) <;> (cases h; rfl))
theorem impl_Rec_124.enters : ∀ args w, (callFunc 125 args).run Tryd.prog w = .ok (.enter 125 args) w := enters_of Tryd.func125 (by kernel_rfl) rfl
def impl_Rec_124.f (l0 : List S78) (a1_0 : Bool) (a1_1 : Int) (a1_2 : Int) (a1_3 : ByteArray) : Option Bool := contF (fun x => (impl_isTop_1.f x.f0 x.f1 x.f2 x.f3 a1_0 a1_1 a1_2 a1_3).bind fun t => some t.1) l0
theorem impl_Rec_124.calls (A0 : Option Addr) (c0 : Nat) (l0 : List S78) (a1_0 : Bool) (a1_1 : Int) (a1_2 : Int) (a1_3 : ByteArray) (r : Bool) {g : Nat} (w : World) (hr0 : Kd.C k78 w A0 l0.length l0) (hc0 : l0.length ≤ c0) (h : impl_Rec_124.f l0 a1_0 a1_1 a1_2 a1_3 = some r) (hbx : w.heap[g]? = some (.cells #[.bool a1_0, .int .i64 a1_1, .int .i64 a1_2, .string a1_3] 78 (0, 0))) :
  Calls Tryd.prog 124 #[.slice A0 l0.length c0, .func (.func 125) #[] #[.pointer (some ⟨g, 0, none⟩)]] w fun e w' => e = .returned (.bool r) ∧ Below w.heap.size w w' := by
 unfold impl_Rec_124.f at h
 refine cont_78 (fun x => (impl_isTop_1.f x.f0 x.f1 x.f2 x.f3 a1_0 a1_1 a1_2 a1_3).bind fun t => some t.1) 125 #[.pointer (some ⟨g, 0, none⟩)] impl_Rec_124.enters A0 c0 l0 r w hr0 (fun W x b hW hx h => ?_) h
 (obtain ⟨t, ht, h4⟩ := Option.bind_eq_some_iff.mp h); (have hs := impl_isTop_1.same _ _ _ _ a1_0 a1_1 a1_2 a1_3 t ht); (obtain ⟨t1, t2⟩ := t); (obtain rfl : t2 = (a1_0, a1_1, a1_2, a1_3) := hs); (obtain rfl : t1 = b := Option.some.inj h4); (have hbW := blk_below hbx hW); (have hB0 : Below ({ W with heap := #[] } : World).heap.size { W with heap := #[] } W := ⟨rfl, rfl, rfl, Nat.zero_le _, fun k hk => absurd hk (Nat.not_lt_zero _)⟩)
 refine (impl_isTop_1.calls x.f0 x.f1 x.f2 x.f3 g a1_0 a1_1 a1_2 a1_3 _ a1_0 a1_1 a1_2 a1_3 { W with heap := #[] } W ⟨hbW, Nat.zero_le _⟩ hB0 ht).mono fun e w' ⟨he, hi, hb1, hk⟩ => ⟨he, ?_⟩
 exact below_of_keep hB0 hb1 hk hbW hi.1
end Go.Proofs.YtbpffdhkeinmcaaDoor.QD
