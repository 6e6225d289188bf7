/- Part of the proof of the law FnExactConfRead: what it uses of the texts that this session and the kit's print wrote. -/
import Derived.Test.YtbpffdhkeinmcaaDoorZFnExactConfReadx0
import Derived.Test.YtbpffdhkeinmcaaDoorZFnExactConfReadx1
import Derived.Test.YtbpffdhkeinmcaaDoorZFnExactConfReadx2
import Derived.Test.YtbpffdhkeinmcaaDoorZFnExactConfReadx3
import Derived.Deep.Slices
import Derived.WideShapes
import Derived.ProofKit
import Derived.KernelRfl
import Derived.Lib.ItoaNum
import Derived.Lib.ItoaLen
import Derived.Laws.Strings
import Derived.Lib.SplitLaws
import Derived.Lib.AtoiAllCases
namespace Go.Proofs.YtbpffdhkeinmcaaDoor.QF
open Go.RowKit Go.Proofs.YtbpffdhkeinmcaaDoorW.PrintWords Go.Proofs.YtbpffdhkeinmcaaDoorW.PrintLast Go.Proofs.YtbpffdhkeinmcaaDoorW.PrintMore
attribute [local go_sem] max2_int min2_int max_two min_two max_three min_three max_four min_four   -- for this text's walks alone
set_option linter.unusedVariables false
set_option linter.unusedSimpArgs false
def laws_FnExactConfRead.f (k : Nat) (a0 : ByteArray) : Option (Bool) := if (a0.size : Int) > 1048576 then (some true) else ((spec_ConfRead.f k a0).bind fun bt210 => ((impl_ConfRead.f k a0).bind fun bt216 => ((laws_eqConf.f bt216.1 bt216.2.1 bt216.2.2.1 bt216.2.2.2.1 bt210.1 bt210.2.1 bt210.2.2.1 bt210.2.2.2.1).bind fun t222 => (if t222 = true then (if (bt216.2.2.2.2 != bt210.2.2.2.2) = true then (some false) else (some true)) else (some false)))))
set_option maxHeartbeats 8000000 in
set_option maxRecDepth 100000 in
theorem laws_FnExactConfRead.calls (k : Nat) (a0 : ByteArray) (r : Bool) (w : World) (h : laws_FnExactConfRead.f k a0 = some r) (hG : TabG w) :
    Calls Tryd.prog 8 #[.string a0] w fun e w' => e = .returned (.bool r) ∧ Below w.heap.size w w' := by
  have hu25 := Tryd.underlying25
  have HB := Aside0.mk (Below.refl w.heap.size w)
  have H : (if (a0.size : Int) > 1048576 then (some true) else ((spec_ConfRead.f k a0).bind fun bt210 => ((impl_ConfRead.f k a0).bind fun bt216 => ((laws_eqConf.f bt216.1 bt216.2.1 bt216.2.2.1 bt216.2.2.2.1 bt210.1 bt210.2.1 bt210.2.2.1 bt210.2.2.2.1).bind fun t222 => (if t222 = true then (if (bt216.2.2.2.2 != bt210.2.2.2.2) = true then (some false) else (some true)) else (some false)))))) = some r := h
  clear h
  by_cases c2 : (a0.size : Int) > 1048576
  · rw [if_pos c2] at H
    have c2b0 : decide (1048576 < (a0.size : Int)) = true := decide_eq_true c2
    have c2b1 : decide (1048576 < a0.size) = true := decide_eq_true (by omega)
    clear c2
    obtain rfl := Option.some.inj H
    go_enter Tryd.func8, Tryd.ntmps8
    go_wp2
    go_ret
    exact ⟨by first | rfl | (simp [errW_none, errW_some] <;> rfl) | (simp [*, errW_none, errW_some] <;> rfl), by repeat (first | (with_reducible first | exact HB.out | apply below_alloc | apply pw_below_drewN | apply below_drew1) | exact HB.out)⟩
  · rw [if_neg c2] at H
    have c2b0 : decide (1048576 < (a0.size : Int)) = false := decide_eq_false c2
    have c2b1 : decide (1048576 < a0.size) = false := decide_eq_false (by omega)
    clear c2
    replace H := Option.bind_eq_some_iff.mp H
    obtain ⟨⟨t210, t211, t212, t213, t214⟩, A30, H⟩ := H
    replace H : ((impl_ConfRead.f k a0).bind fun bt216 => ((laws_eqConf.f bt216.1 bt216.2.1 bt216.2.2.1 bt216.2.2.2.1 t210 t211 t212 t213).bind fun t222 => (if t222 = true then (if (bt216.2.2.2.2 != t214) = true then (some false) else (some true)) else (some false)))) = some r := H
    have A3 := Aside0.mk A30
    clear A30
    replace H := Option.bind_eq_some_iff.mp H
    obtain ⟨⟨t216, t217, t218, t219, t220⟩, A40, H⟩ := H
    replace H : ((laws_eqConf.f t216 t217 t218 t219 t210 t211 t212 t213).bind fun t222 => (if t222 = true then (if (t220 != t214) = true then (some false) else (some true)) else (some false))) = some r := H
    have A4 := Aside0.mk A40
    clear A40
    replace H := Option.bind_eq_some_iff.mp H
    obtain ⟨t222, A50, H⟩ := H
    replace H : (if t222 = true then (if (t220 != t214) = true then (some false) else (some true)) else (some false)) = some r := H
    have A5 := Aside0.mk A50
    clear A50
    by_cases c6 : t222 = true
    · subst c6
      have H1 : (if (t220 != t214) = true then (some false) else (some true)) = some r := by rw [if_pos rfl] at H; exact H
      clear H
      have H := H1
      clear H1
      by_cases c7 : (t220 != t214) = true
      · rw [if_pos c7] at H
        have c7b0 : (t220 != t214) = true := c7
        (try (have c7b1 : decide (t220 = t214) = false := by simpa using c7))
        (try (have c7b2 : (t220 == t214) = false := by simpa using c7))
        (try (have c7b3 : ¬ (t220 = t214) := by simpa using c7))
        clear c7
        obtain rfl := Option.some.inj H
        go_enter Tryd.func8, Tryd.ntmps8
        go_wp2_with (first | ((with_reducible refine gate_callee (f := 36) rfl ?_); refine goesL_ (some 12) rfl rfl Tryd.func36 (by kernel_rfl) rfl #[.string a0] rfl (by (try simp only [List.map_toArray, List.map_cons, List.map_nil]); first | done | rfl | (simp only [List.length_drop, List.length_take]; rfl)) ?_; (with_reducible refine (spec_ConfRead.calls k a0 t210 t211 t212 t213 t214 _ A3.out).mono ?_); rintro e w8 ⟨rfl, hb⟩; refine ⟨_, rfl, ?_⟩; have n0_ := Aside0.mk (below_step (by repeat (first | (with_reducible first | exact HB.out | apply below_alloc | apply pw_below_drewN | apply below_drew1) | exact HB.out)) hb); clear HB; have HB := n0_; clear n0_; (try clear hb); (try clear hb2); (try clear hk); (try clear hi)) | ((with_reducible refine gate_dst (N := 3) rfl ?_); refine box_event ?hg (N := 3) ?hd (cs := #[.int .i64 0, .int .i64 0, .int .i64 0, .int .i64 0]) (t := 25) ?hr ?_; (case hd => rfl); (case hg => rfl); (case hr => first | (go_simp; done) | (go_simp; rfl)); intro gb215 hg w9 hbox hb; have n0_ := Aside0.mk (below_step (by repeat (first | (with_reducible first | exact HB.out | apply below_alloc | apply pw_below_drewN | apply below_drew1) | exact HB.out)) hb); have n1_ := Aside0.mk (hbox); have n2_ := Aside0.mk ((by rw [hg]; exact (below_size (by repeat (first | (with_reducible first | exact HB.out | apply below_alloc | apply pw_below_drewN | apply below_drew1) | exact HB.out))) : w.heap.size ≤ gb215)); have n3_ := Aside0.mk ((by rw [hg]; exact (below_size (by repeat (first | (with_reducible first | exact HB.out | apply below_alloc | apply pw_below_drewN | apply below_drew1) | exact HB.out))) : w.heap.size ≤ gb215)); clear HB; have HB := n0_; have BK215 := n1_; have GW215 := n2_; have GE215 := n3_; clear n0_ n1_ n2_ n3_; clear hb hbox hg; have hcz10_0 : w9.cell? ⟨gb215, 0, none⟩ = some (.int .i64 0) := (blk_cell BK215.out 0).trans rfl; have hcz10_1 : w9.cell? ⟨gb215, 1, none⟩ = some (.int .i64 0) := (blk_cell BK215.out 1).trans rfl; have hcz10_2 : w9.cell? ⟨gb215, 2, none⟩ = some (.int .i64 0) := (blk_cell BK215.out 2).trans rfl; have hcz10_3 : w9.cell? ⟨gb215, 3, none⟩ = some (.int .i64 0) := (blk_cell BK215.out 3).trans rfl; have hfz10_0 := blk_frozen BK215.out 0; have hfz10_1 := blk_frozen BK215.out 1; have hfz10_2 := blk_frozen BK215.out 2; have hfz10_3 := blk_frozen BK215.out 3) | ((with_reducible refine gate_callee (f := 37) rfl ?_); refine goesL_ (some 17) rfl rfl Tryd.func37 (by kernel_rfl) rfl #[.string a0] rfl (by (try simp only [List.map_toArray, List.map_cons, List.map_nil]); first | done | rfl | (simp only [List.length_drop, List.length_take]; rfl)) ?_; (with_reducible refine (impl_ConfRead.calls k a0 t216 t217 t218 t219 t220 _ A4.out (G_below (by repeat (first | (with_reducible first | exact HB.out | apply below_alloc | apply pw_below_drewN | apply below_drew1 | refine below_set ?_ GE215.out) | exact HB.out)) hG)).mono ?_); rintro e w11 ⟨rfl, hb⟩; refine ⟨_, rfl, ?_⟩; have n0_ := Aside0.mk (blk_below (g := gb215) (o := .cells #[.int .i64 t210, .int .i64 t211, .int .i64 t212, .int .i64 t213] 25 (0, 0)) (by (with_reducible repeat (first | refine blk_drewN ?_ _ | refine blk_drew ?_ | refine blk_alloc ?_ _)); refine blk_put (cs := #[.int .i64 t210, .int .i64 t211, .int .i64 t212, .int .i64 0]) ?_ 3 _ rfl; (with_reducible repeat (first | refine blk_drewN ?_ _ | refine blk_drew ?_ | refine blk_alloc ?_ _)); refine blk_put (cs := #[.int .i64 t210, .int .i64 t211, .int .i64 0, .int .i64 0]) ?_ 2 _ rfl; (with_reducible repeat (first | refine blk_drewN ?_ _ | refine blk_drew ?_ | refine blk_alloc ?_ _)); refine blk_put (cs := #[.int .i64 t210, .int .i64 0, .int .i64 0, .int .i64 0]) ?_ 1 _ rfl; (with_reducible repeat (first | refine blk_drewN ?_ _ | refine blk_drew ?_ | refine blk_alloc ?_ _)); refine blk_put (cs := #[.int .i64 0, .int .i64 0, .int .i64 0, .int .i64 0]) ?_ 0 _ rfl; (with_reducible repeat (first | refine blk_drewN ?_ _ | refine blk_drew ?_ | refine blk_alloc ?_ _)); exact BK215.out) hb); have n1_ := Aside0.mk (below_step (by repeat (first | (with_reducible first | exact HB.out | apply below_alloc | apply pw_below_drewN | apply below_drew1 | refine below_set ?_ GE215.out) | exact HB.out)) hb); clear BK215; clear HB; have BK215 := n0_; have HB := n1_; clear n0_ n1_; (try clear hb); (try clear hb2); (try clear hk); (try clear hi)) | ((with_reducible refine gate_dst (N := 5) rfl ?_); refine box_event ?hg (N := 5) ?hd (cs := #[.int .i64 0, .int .i64 0, .int .i64 0, .int .i64 0]) (t := 25) ?hr ?_; (case hd => rfl); (case hg => rfl); (case hr => first | (go_simp; done) | (go_simp; rfl)); intro gb221 hg w12 hbox hb; have n0_ := Aside0.mk (blk_below (g := gb215) (o := .cells #[.int .i64 t210, .int .i64 t211, .int .i64 t212, .int .i64 t213] 25 (0, 0)) (by (with_reducible repeat (first | refine blk_drewN ?_ _ | refine blk_drew ?_ | refine blk_alloc ?_ _)); exact BK215.out) hb); have n1_ := Aside0.mk (below_step (by repeat (first | (with_reducible first | exact HB.out | apply below_alloc | apply pw_below_drewN | apply below_drew1 | refine below_set ?_ GE215.out) | exact HB.out)) hb); have n2_ := Aside0.mk (hbox); have n3_ := Aside0.mk ((by rw [hg]; exact (below_size (by repeat (first | (with_reducible first | exact HB.out | apply below_alloc | apply pw_below_drewN | apply below_drew1 | refine below_set ?_ GE215.out) | exact HB.out))) : w.heap.size ≤ gb221)); have n4_ := Aside0.mk ((by rw [hg]; exact (below_size (by repeat (first | (with_reducible first | exact HB.out | apply below_alloc | apply pw_below_drewN | apply below_drew1 | refine below_set ?_ GE215.out) | exact HB.out))) : w.heap.size ≤ gb221)); have n5_ := Aside0.mk ((by rw [hg]; exact Nat.ne_of_lt (blk_lt (g := gb215) (o := .cells #[.int .i64 t210, .int .i64 t211, .int .i64 t212, .int .i64 t213] 25 (0, 0)) (by (with_reducible repeat (first | refine blk_drewN ?_ _ | refine blk_drew ?_ | refine blk_alloc ?_ _)); exact BK215.out)) : gb215 ≠ gb221)); have n6_ := Aside0.mk ((by rw [hg]; exact Nat.ne_of_gt (blk_lt (g := gb215) (o := .cells #[.int .i64 t210, .int .i64 t211, .int .i64 t212, .int .i64 t213] 25 (0, 0)) (by (with_reducible repeat (first | refine blk_drewN ?_ _ | refine blk_drew ?_ | refine blk_alloc ?_ _)); exact BK215.out)) : gb221 ≠ gb215)); clear BK215; clear HB; have BK215 := n0_; have HB := n1_; have BK221 := n2_; have GW221 := n3_; have GE221 := n4_; have NB215_221 := n5_; have NB221_215 := n6_; clear n0_ n1_ n2_ n3_ n4_ n5_ n6_; clear hb hbox hg; have hnb13 := NB221_215.out; have hnc13 := NB215_221.out; have hcz14_0 : w12.cell? ⟨gb221, 0, none⟩ = some (.int .i64 0) := (blk_cell BK221.out 0).trans rfl; have hcz14_1 : w12.cell? ⟨gb221, 1, none⟩ = some (.int .i64 0) := (blk_cell BK221.out 1).trans rfl; have hcz14_2 : w12.cell? ⟨gb221, 2, none⟩ = some (.int .i64 0) := (blk_cell BK221.out 2).trans rfl; have hcz14_3 : w12.cell? ⟨gb221, 3, none⟩ = some (.int .i64 0) := (blk_cell BK221.out 3).trans rfl; have hfz14_0 := blk_frozen BK221.out 0; have hfz14_1 := blk_frozen BK221.out 1; have hfz14_2 := blk_frozen BK221.out 2; have hfz14_3 := blk_frozen BK221.out 3; have hcz15_0 : w12.cell? ⟨gb215, 0, none⟩ = some (.int .i64 t210) := (blk_cell BK215.out 0).trans rfl; have hcz15_1 : w12.cell? ⟨gb215, 1, none⟩ = some (.int .i64 t211) := (blk_cell BK215.out 1).trans rfl; have hcz15_2 : w12.cell? ⟨gb215, 2, none⟩ = some (.int .i64 t212) := (blk_cell BK215.out 2).trans rfl; have hcz15_3 : w12.cell? ⟨gb215, 3, none⟩ = some (.int .i64 t213) := (blk_cell BK215.out 3).trans rfl; have hfz15_0 := blk_frozen BK215.out 0; have hfz15_1 := blk_frozen BK215.out 1; have hfz15_2 := blk_frozen BK215.out 2; have hfz15_3 := blk_frozen BK215.out 3) | ((with_reducible refine gate_callee (f := 38) rfl ?_); refine goesL_ (some 22) rfl rfl Tryd.func38 (by kernel_rfl) rfl #[.agg #[.int .i64 t216, .int .i64 t217, .int .i64 t218, .int .i64 t219], .agg #[.int .i64 t210, .int .i64 t211, .int .i64 t212, .int .i64 t213]] rfl (by (try simp only [List.map_toArray, List.map_cons, List.map_nil]); first | done | rfl | (simp only [List.length_drop, List.length_take]; rfl)) ?_; (with_reducible refine (laws_eqConf.calls t216 t217 t218 t219 t210 t211 t212 t213 true _ A5.out).mono ?_); rintro e w16 ⟨rfl, hb⟩; refine ⟨_, rfl, ?_⟩; have n0_ := Aside0.mk (blk_below (g := gb215) (o := .cells #[.int .i64 t210, .int .i64 t211, .int .i64 t212, .int .i64 t213] 25 (0, 0)) (by (with_reducible repeat (first | refine blk_drewN ?_ _ | refine blk_drew ?_ | refine blk_alloc ?_ _)); refine blk_far ?_ NB215_221.out _; (with_reducible repeat (first | refine blk_drewN ?_ _ | refine blk_drew ?_ | refine blk_alloc ?_ _)); refine blk_far ?_ NB215_221.out _; (with_reducible repeat (first | refine blk_drewN ?_ _ | refine blk_drew ?_ | refine blk_alloc ?_ _)); refine blk_far ?_ NB215_221.out _; (with_reducible repeat (first | refine blk_drewN ?_ _ | refine blk_drew ?_ | refine blk_alloc ?_ _)); refine blk_far ?_ NB215_221.out _; (with_reducible repeat (first | refine blk_drewN ?_ _ | refine blk_drew ?_ | refine blk_alloc ?_ _)); exact BK215.out) hb); have n1_ := Aside0.mk (blk_below (g := gb221) (o := .cells #[.int .i64 t216, .int .i64 t217, .int .i64 t218, .int .i64 t219] 25 (0, 0)) (by (with_reducible repeat (first | refine blk_drewN ?_ _ | refine blk_drew ?_ | refine blk_alloc ?_ _)); refine blk_put (cs := #[.int .i64 t216, .int .i64 t217, .int .i64 t218, .int .i64 0]) ?_ 3 _ rfl; (with_reducible repeat (first | refine blk_drewN ?_ _ | refine blk_drew ?_ | refine blk_alloc ?_ _)); refine blk_put (cs := #[.int .i64 t216, .int .i64 t217, .int .i64 0, .int .i64 0]) ?_ 2 _ rfl; (with_reducible repeat (first | refine blk_drewN ?_ _ | refine blk_drew ?_ | refine blk_alloc ?_ _)); refine blk_put (cs := #[.int .i64 t216, .int .i64 0, .int .i64 0, .int .i64 0]) ?_ 1 _ rfl; (with_reducible repeat (first | refine blk_drewN ?_ _ | refine blk_drew ?_ | refine blk_alloc ?_ _)); refine blk_put (cs := #[.int .i64 0, .int .i64 0, .int .i64 0, .int .i64 0]) ?_ 0 _ rfl; (with_reducible repeat (first | refine blk_drewN ?_ _ | refine blk_drew ?_ | refine blk_alloc ?_ _)); exact BK221.out) hb); have n2_ := Aside0.mk (below_step (by repeat (first | (with_reducible first | exact HB.out | apply below_alloc | apply pw_below_drewN | apply below_drew1 | refine below_set ?_ GE215.out | refine below_set ?_ GE221.out) | exact HB.out)) hb); clear BK215; clear BK221; clear HB; have BK215 := n0_; have BK221 := n1_; have HB := n2_; clear n0_ n1_ n2_; (try clear hb); (try clear hb2); (try clear hk); (try clear hi)))
        go_ret
        exact ⟨by first | rfl | (simp [errW_none, errW_some] <;> rfl) | (simp [*, errW_none, errW_some] <;> rfl), by repeat (first | (with_reducible first | exact HB.out | apply below_alloc | apply pw_below_drewN | apply below_drew1 | refine below_set ?_ GE215.out | refine below_set ?_ GE221.out) | exact HB.out)⟩
      · rw [if_neg c7] at H
        have c7b0 : (t220 != t214) = false := by simpa using c7
        (try (have c7b1 : decide (t220 = t214) = true := by simpa using c7))
        (try (have c7b2 : (t220 == t214) = true := by simpa using c7))
        clear c7
        obtain rfl := Option.some.inj H
        go_enter Tryd.func8, Tryd.ntmps8
        go_wp2_with (first | ((with_reducible refine gate_callee (f := 36) rfl ?_); refine goesL_ (some 12) rfl rfl Tryd.func36 (by kernel_rfl) rfl #[.string a0] rfl (by (try simp only [List.map_toArray, List.map_cons, List.map_nil]); first | done | rfl | (simp only [List.length_drop, List.length_take]; rfl)) ?_; (with_reducible refine (spec_ConfRead.calls k a0 t210 t211 t212 t213 t214 _ A3.out).mono ?_); rintro e w17 ⟨rfl, hb⟩; refine ⟨_, rfl, ?_⟩; have n0_ := Aside0.mk (below_step (by repeat (first | (with_reducible first | exact HB.out | apply below_alloc | apply pw_below_drewN | apply below_drew1) | exact HB.out)) hb); clear HB; have HB := n0_; clear n0_; (try clear hb); (try clear hb2); (try clear hk); (try clear hi)) | ((with_reducible refine gate_dst (N := 3) rfl ?_); refine box_event ?hg (N := 3) ?hd (cs := #[.int .i64 0, .int .i64 0, .int .i64 0, .int .i64 0]) (t := 25) ?hr ?_; (case hd => rfl); (case hg => rfl); (case hr => first | (go_simp; done) | (go_simp; rfl)); intro gb215 hg w18 hbox hb; have n0_ := Aside0.mk (below_step (by repeat (first | (with_reducible first | exact HB.out | apply below_alloc | apply pw_below_drewN | apply below_drew1) | exact HB.out)) hb); have n1_ := Aside0.mk (hbox); have n2_ := Aside0.mk ((by rw [hg]; exact (below_size (by repeat (first | (with_reducible first | exact HB.out | apply below_alloc | apply pw_below_drewN | apply below_drew1) | exact HB.out))) : w.heap.size ≤ gb215)); have n3_ := Aside0.mk ((by rw [hg]; exact (below_size (by repeat (first | (with_reducible first | exact HB.out | apply below_alloc | apply pw_below_drewN | apply below_drew1) | exact HB.out))) : w.heap.size ≤ gb215)); clear HB; have HB := n0_; have BK215 := n1_; have GW215 := n2_; have GE215 := n3_; clear n0_ n1_ n2_ n3_; clear hb hbox hg; have hcz19_0 : w18.cell? ⟨gb215, 0, none⟩ = some (.int .i64 0) := (blk_cell BK215.out 0).trans rfl; have hcz19_1 : w18.cell? ⟨gb215, 1, none⟩ = some (.int .i64 0) := (blk_cell BK215.out 1).trans rfl; have hcz19_2 : w18.cell? ⟨gb215, 2, none⟩ = some (.int .i64 0) := (blk_cell BK215.out 2).trans rfl; have hcz19_3 : w18.cell? ⟨gb215, 3, none⟩ = some (.int .i64 0) := (blk_cell BK215.out 3).trans rfl; have hfz19_0 := blk_frozen BK215.out 0; have hfz19_1 := blk_frozen BK215.out 1; have hfz19_2 := blk_frozen BK215.out 2; have hfz19_3 := blk_frozen BK215.out 3) | ((with_reducible refine gate_callee (f := 37) rfl ?_); refine goesL_ (some 17) rfl rfl Tryd.func37 (by kernel_rfl) rfl #[.string a0] rfl (by (try simp only [List.map_toArray, List.map_cons, List.map_nil]); first | done | rfl | (simp only [List.length_drop, List.length_take]; rfl)) ?_; (with_reducible refine (impl_ConfRead.calls k a0 t216 t217 t218 t219 t220 _ A4.out (G_below (by repeat (first | (with_reducible first | exact HB.out | apply below_alloc | apply pw_below_drewN | apply below_drew1 | refine below_set ?_ GE215.out) | exact HB.out)) hG)).mono ?_); rintro e w20 ⟨rfl, hb⟩; refine ⟨_, rfl, ?_⟩; have n0_ := Aside0.mk (blk_below (g := gb215) (o := .cells #[.int .i64 t210, .int .i64 t211, .int .i64 t212, .int .i64 t213] 25 (0, 0)) (by (with_reducible repeat (first | refine blk_drewN ?_ _ | refine blk_drew ?_ | refine blk_alloc ?_ _)); refine blk_put (cs := #[.int .i64 t210, .int .i64 t211, .int .i64 t212, .int .i64 0]) ?_ 3 _ rfl; (with_reducible repeat (first | refine blk_drewN ?_ _ | refine blk_drew ?_ | refine blk_alloc ?_ _)); refine blk_put (cs := #[.int .i64 t210, .int .i64 t211, .int .i64 0, .int .i64 0]) ?_ 2 _ rfl; (with_reducible repeat (first | refine blk_drewN ?_ _ | refine blk_drew ?_ | refine blk_alloc ?_ _)); refine blk_put (cs := #[.int .i64 t210, .int .i64 0, .int .i64 0, .int .i64 0]) ?_ 1 _ rfl; (with_reducible repeat (first | refine blk_drewN ?_ _ | refine blk_drew ?_ | refine blk_alloc ?_ _)); refine blk_put (cs := #[.int .i64 0, .int .i64 0, .int .i64 0, .int .i64 0]) ?_ 0 _ rfl; (with_reducible repeat (first | refine blk_drewN ?_ _ | refine blk_drew ?_ | refine blk_alloc ?_ _)); exact BK215.out) hb); have n1_ := Aside0.mk (below_step (by repeat (first | (with_reducible first | exact HB.out | apply below_alloc | apply pw_below_drewN | apply below_drew1 | refine below_set ?_ GE215.out) | exact HB.out)) hb); clear BK215; clear HB; have BK215 := n0_; have HB := n1_; clear n0_ n1_; (try clear hb); (try clear hb2); (try clear hk); (try clear hi)) | ((with_reducible refine gate_dst (N := 5) rfl ?_); refine box_event ?hg (N := 5) ?hd (cs := #[.int .i64 0, .int .i64 0, .int .i64 0, .int .i64 0]) (t := 25) ?hr ?_; (case hd => rfl); (case hg => rfl); (case hr => first | (go_simp; done) | (go_simp; rfl)); intro gb221 hg w21 hbox hb; have n0_ := Aside0.mk (blk_below (g := gb215) (o := .cells #[.int .i64 t210, .int .i64 t211, .int .i64 t212, .int .i64 t213] 25 (0, 0)) (by (with_reducible repeat (first | refine blk_drewN ?_ _ | refine blk_drew ?_ | refine blk_alloc ?_ _)); exact BK215.out) hb); have n1_ := Aside0.mk (below_step (by repeat (first | (with_reducible first | exact HB.out | apply below_alloc | apply pw_below_drewN | apply below_drew1 | refine below_set ?_ GE215.out) | exact HB.out)) hb); have n2_ := Aside0.mk (hbox); have n3_ := Aside0.mk ((by rw [hg]; exact (below_size (by repeat (first | (with_reducible first | exact HB.out | apply below_alloc | apply pw_below_drewN | apply below_drew1 | refine below_set ?_ GE215.out) | exact HB.out))) : w.heap.size ≤ gb221)); have n4_ := Aside0.mk ((by rw [hg]; exact (below_size (by repeat (first | (with_reducible first | exact HB.out | apply below_alloc | apply pw_below_drewN | apply below_drew1 | refine below_set ?_ GE215.out) | exact HB.out))) : w.heap.size ≤ gb221)); have n5_ := Aside0.mk ((by rw [hg]; exact Nat.ne_of_lt (blk_lt (g := gb215) (o := .cells #[.int .i64 t210, .int .i64 t211, .int .i64 t212, .int .i64 t213] 25 (0, 0)) (by (with_reducible repeat (first | refine blk_drewN ?_ _ | refine blk_drew ?_ | refine blk_alloc ?_ _)); exact BK215.out)) : gb215 ≠ gb221)); have n6_ := Aside0.mk ((by rw [hg]; exact Nat.ne_of_gt (blk_lt (g := gb215) (o := .cells #[.int .i64 t210, .int .i64 t211, .int .i64 t212, .int .i64 t213] 25 (0, 0)) (by (with_reducible repeat (first | refine blk_drewN ?_ _ | refine blk_drew ?_ | refine blk_alloc ?_ _)); exact BK215.out)) : gb221 ≠ gb215)); clear BK215; clear HB; have BK215 := n0_; have HB := n1_; have BK221 := n2_; have GW221 := n3_; have GE221 := n4_; have NB215_221 := n5_; have NB221_215 := n6_; clear n0_ n1_ n2_ n3_ n4_ n5_ n6_; clear hb hbox hg; have hnb22 := NB221_215.out; have hnc22 := NB215_221.out; have hcz23_0 : w21.cell? ⟨gb221, 0, none⟩ = some (.int .i64 0) := (blk_cell BK221.out 0).trans rfl; have hcz23_1 : w21.cell? ⟨gb221, 1, none⟩ = some (.int .i64 0) := (blk_cell BK221.out 1).trans rfl; have hcz23_2 : w21.cell? ⟨gb221, 2, none⟩ = some (.int .i64 0) := (blk_cell BK221.out 2).trans rfl; have hcz23_3 : w21.cell? ⟨gb221, 3, none⟩ = some (.int .i64 0) := (blk_cell BK221.out 3).trans rfl; have hfz23_0 := blk_frozen BK221.out 0; have hfz23_1 := blk_frozen BK221.out 1; have hfz23_2 := blk_frozen BK221.out 2; have hfz23_3 := blk_frozen BK221.out 3; have hcz24_0 : w21.cell? ⟨gb215, 0, none⟩ = some (.int .i64 t210) := (blk_cell BK215.out 0).trans rfl; have hcz24_1 : w21.cell? ⟨gb215, 1, none⟩ = some (.int .i64 t211) := (blk_cell BK215.out 1).trans rfl; have hcz24_2 : w21.cell? ⟨gb215, 2, none⟩ = some (.int .i64 t212) := (blk_cell BK215.out 2).trans rfl; have hcz24_3 : w21.cell? ⟨gb215, 3, none⟩ = some (.int .i64 t213) := (blk_cell BK215.out 3).trans rfl; have hfz24_0 := blk_frozen BK215.out 0; have hfz24_1 := blk_frozen BK215.out 1; have hfz24_2 := blk_frozen BK215.out 2; have hfz24_3 := blk_frozen BK215.out 3) | ((with_reducible refine gate_callee (f := 38) rfl ?_); refine goesL_ (some 22) rfl rfl Tryd.func38 (by kernel_rfl) rfl #[.agg #[.int .i64 t216, .int .i64 t217, .int .i64 t218, .int .i64 t219], .agg #[.int .i64 t210, .int .i64 t211, .int .i64 t212, .int .i64 t213]] rfl (by (try simp only [List.map_toArray, List.map_cons, List.map_nil]); first | done | rfl | (simp only [List.length_drop, List.length_take]; rfl)) ?_; (with_reducible refine (laws_eqConf.calls t216 t217 t218 t219 t210 t211 t212 t213 true _ A5.out).mono ?_); rintro e w25 ⟨rfl, hb⟩; refine ⟨_, rfl, ?_⟩; have n0_ := Aside0.mk (blk_below (g := gb215) (o := .cells #[.int .i64 t210, .int .i64 t211, .int .i64 t212, .int .i64 t213] 25 (0, 0)) (by (with_reducible repeat (first | refine blk_drewN ?_ _ | refine blk_drew ?_ | refine blk_alloc ?_ _)); refine blk_far ?_ NB215_221.out _; (with_reducible repeat (first | refine blk_drewN ?_ _ | refine blk_drew ?_ | refine blk_alloc ?_ _)); refine blk_far ?_ NB215_221.out _; (with_reducible repeat (first | refine blk_drewN ?_ _ | refine blk_drew ?_ | refine blk_alloc ?_ _)); refine blk_far ?_ NB215_221.out _; (with_reducible repeat (first | refine blk_drewN ?_ _ | refine blk_drew ?_ | refine blk_alloc ?_ _)); refine blk_far ?_ NB215_221.out _; (with_reducible repeat (first | refine blk_drewN ?_ _ | refine blk_drew ?_ | refine blk_alloc ?_ _)); exact BK215.out) hb); have n1_ := Aside0.mk (blk_below (g := gb221) (o := .cells #[.int .i64 t216, .int .i64 t217, .int .i64 t218, .int .i64 t219] 25 (0, 0)) (by (with_reducible repeat (first | refine blk_drewN ?_ _ | refine blk_drew ?_ | refine blk_alloc ?_ _)); refine blk_put (cs := #[.int .i64 t216, .int .i64 t217, .int .i64 t218, .int .i64 0]) ?_ 3 _ rfl; (with_reducible repeat (first | refine blk_drewN ?_ _ | refine blk_drew ?_ | refine blk_alloc ?_ _)); refine blk_put (cs := #[.int .i64 t216, .int .i64 t217, .int .i64 0, .int .i64 0]) ?_ 2 _ rfl; (with_reducible repeat (first | refine blk_drewN ?_ _ | refine blk_drew ?_ | refine blk_alloc ?_ _)); refine blk_put (cs := #[.int .i64 t216, .int .i64 0, .int .i64 0, .int .i64 0]) ?_ 1 _ rfl; (with_reducible repeat (first | refine blk_drewN ?_ _ | refine blk_drew ?_ | refine blk_alloc ?_ _)); refine blk_put (cs := #[.int .i64 0, .int .i64 0, .int .i64 0, .int .i64 0]) ?_ 0 _ rfl; (with_reducible repeat (first | refine blk_drewN ?_ _ | refine blk_drew ?_ | refine blk_alloc ?_ _)); exact BK221.out) hb); have n2_ := Aside0.mk (below_step (by repeat (first | (with_reducible first | exact HB.out | apply below_alloc | apply pw_below_drewN | apply below_drew1 | refine below_set ?_ GE215.out | refine below_set ?_ GE221.out) | exact HB.out)) hb); clear BK215; clear BK221; clear HB; have BK215 := n0_; have BK221 := n1_; have HB := n2_; clear n0_ n1_ n2_; (try clear hb); (try clear hb2); (try clear hk); (try clear hi)))
        go_ret
        exact ⟨by first | rfl | (simp [errW_none, errW_some] <;> rfl) | (simp [*, errW_none, errW_some] <;> rfl), by repeat (first | (with_reducible first | exact HB.out | apply below_alloc | apply pw_below_drewN | apply below_drew1 | refine below_set ?_ GE215.out | refine below_set ?_ GE221.out) | exact HB.out)⟩
    · replace c6 := Bool.eq_false_iff.mpr c6
      subst c6
      have H1 : (some false) = some r := by rw [if_neg (show ¬ (false = true) by decide)] at H; exact H
      clear H
      have H := H1
      clear H1
      obtain rfl := Option.some.inj H
      go_enter Tryd.func8, Tryd.ntmps8
      go_wp2_with (first | ((with_reducible refine gate_callee (f := 36) rfl ?_); refine goesL_ (some 12) rfl rfl Tryd.func36 (by kernel_rfl) rfl #[.string a0] rfl (by (try simp only [List.map_toArray, List.map_cons, List.map_nil]); first | done | rfl | (simp only [List.length_drop, List.length_take]; rfl)) ?_; (with_reducible refine (spec_ConfRead.calls k a0 t210 t211 t212 t213 t214 _ A3.out).mono ?_); rintro e w26 ⟨rfl, hb⟩; refine ⟨_, rfl, ?_⟩; have n0_ := Aside0.mk (below_step (by repeat (first | (with_reducible first | exact HB.out | apply below_alloc | apply pw_below_drewN | apply below_drew1) | exact HB.out)) hb); clear HB; have HB := n0_; clear n0_; (try clear hb); (try clear hb2); (try clear hk); (try clear hi)) | ((with_reducible refine gate_dst (N := 3) rfl ?_); refine box_event ?hg (N := 3) ?hd (cs := #[.int .i64 0, .int .i64 0, .int .i64 0, .int .i64 0]) (t := 25) ?hr ?_; (case hd => rfl); (case hg => rfl); (case hr => first | (go_simp; done) | (go_simp; rfl)); intro gb215 hg w27 hbox hb; have n0_ := Aside0.mk (below_step (by repeat (first | (with_reducible first | exact HB.out | apply below_alloc | apply pw_below_drewN | apply below_drew1) | exact HB.out)) hb); have n1_ := Aside0.mk (hbox); have n2_ := Aside0.mk ((by rw [hg]; exact (below_size (by repeat (first | (with_reducible first | exact HB.out | apply below_alloc | apply pw_below_drewN | apply below_drew1) | exact HB.out))) : w.heap.size ≤ gb215)); have n3_ := Aside0.mk ((by rw [hg]; exact (below_size (by repeat (first | (with_reducible first | exact HB.out | apply below_alloc | apply pw_below_drewN | apply below_drew1) | exact HB.out))) : w.heap.size ≤ gb215)); clear HB; have HB := n0_; have BK215 := n1_; have GW215 := n2_; have GE215 := n3_; clear n0_ n1_ n2_ n3_; clear hb hbox hg; have hcz28_0 : w27.cell? ⟨gb215, 0, none⟩ = some (.int .i64 0) := (blk_cell BK215.out 0).trans rfl; have hcz28_1 : w27.cell? ⟨gb215, 1, none⟩ = some (.int .i64 0) := (blk_cell BK215.out 1).trans rfl; have hcz28_2 : w27.cell? ⟨gb215, 2, none⟩ = some (.int .i64 0) := (blk_cell BK215.out 2).trans rfl; have hcz28_3 : w27.cell? ⟨gb215, 3, none⟩ = some (.int .i64 0) := (blk_cell BK215.out 3).trans rfl; have hfz28_0 := blk_frozen BK215.out 0; have hfz28_1 := blk_frozen BK215.out 1; have hfz28_2 := blk_frozen BK215.out 2; have hfz28_3 := blk_frozen BK215.out 3) | ((with_reducible refine gate_callee (f := 37) rfl ?_); refine goesL_ (some 17) rfl rfl Tryd.func37 (by kernel_rfl) rfl #[.string a0] rfl (by (try simp only [List.map_toArray, List.map_cons, List.map_nil]); first | done | rfl | (simp only [List.length_drop, List.length_take]; rfl)) ?_; (with_reducible refine (impl_ConfRead.calls k a0 t216 t217 t218 t219 t220 _ A4.out (G_below (by repeat (first | (with_reducible first | exact HB.out | apply below_alloc | apply pw_below_drewN | apply below_drew1 | refine below_set ?_ GE215.out) | exact HB.out)) hG)).mono ?_); rintro e w29 ⟨rfl, hb⟩; refine ⟨_, rfl, ?_⟩; have n0_ := Aside0.mk (blk_below (g := gb215) (o := .cells #[.int .i64 t210, .int .i64 t211, .int .i64 t212, .int .i64 t213] 25 (0, 0)) (by (with_reducible repeat (first | refine blk_drewN ?_ _ | refine blk_drew ?_ | refine blk_alloc ?_ _)); refine blk_put (cs := #[.int .i64 t210, .int .i64 t211, .int .i64 t212, .int .i64 0]) ?_ 3 _ rfl; (with_reducible repeat (first | refine blk_drewN ?_ _ | refine blk_drew ?_ | refine blk_alloc ?_ _)); refine blk_put (cs := #[.int .i64 t210, .int .i64 t211, .int .i64 0, .int .i64 0]) ?_ 2 _ rfl; (with_reducible repeat (first | refine blk_drewN ?_ _ | refine blk_drew ?_ | refine blk_alloc ?_ _)); refine blk_put (cs := #[.int .i64 t210, .int .i64 0, .int .i64 0, .int .i64 0]) ?_ 1 _ rfl; (with_reducible repeat (first | refine blk_drewN ?_ _ | refine blk_drew ?_ | refine blk_alloc ?_ _)); refine blk_put (cs := #[.int .i64 0, .int .i64 0, .int .i64 0, .int .i64 0]) ?_ 0 _ rfl; (with_reducible repeat (first | refine blk_drewN ?_ _ | refine blk_drew ?_ | refine blk_alloc ?_ _)); exact BK215.out) hb); have n1_ := Aside0.mk (below_step (by repeat (first | (with_reducible first | exact HB.out | apply below_alloc | apply pw_below_drewN | apply below_drew1 | refine below_set ?_ GE215.out) | exact HB.out)) hb); clear BK215; clear HB; have BK215 := n0_; have HB := n1_; clear n0_ n1_; (try clear hb); (try clear hb2); (try clear hk); (try clear hi)) | ((with_reducible refine gate_dst (N := 5) rfl ?_); refine box_event ?hg (N := 5) ?hd (cs := #[.int .i64 0, .int .i64 0, .int .i64 0, .int .i64 0]) (t := 25) ?hr ?_; (case hd => rfl); (case hg => rfl); (case hr => first | (go_simp; done) | (go_simp; rfl)); intro gb221 hg w30 hbox hb; have n0_ := Aside0.mk (blk_below (g := gb215) (o := .cells #[.int .i64 t210, .int .i64 t211, .int .i64 t212, .int .i64 t213] 25 (0, 0)) (by (with_reducible repeat (first | refine blk_drewN ?_ _ | refine blk_drew ?_ | refine blk_alloc ?_ _)); exact BK215.out) hb); have n1_ := Aside0.mk (below_step (by repeat (first | (with_reducible first | exact HB.out | apply below_alloc | apply pw_below_drewN | apply below_drew1 | refine below_set ?_ GE215.out) | exact HB.out)) hb); have n2_ := Aside0.mk (hbox); have n3_ := Aside0.mk ((by rw [hg]; exact (below_size (by repeat (first | (with_reducible first | exact HB.out | apply below_alloc | apply pw_below_drewN | apply below_drew1 | refine below_set ?_ GE215.out) | exact HB.out))) : w.heap.size ≤ gb221)); have n4_ := Aside0.mk ((by rw [hg]; exact (below_size (by repeat (first | (with_reducible first | exact HB.out | apply below_alloc | apply pw_below_drewN | apply below_drew1 | refine below_set ?_ GE215.out) | exact HB.out))) : w.heap.size ≤ gb221)); have n5_ := Aside0.mk ((by rw [hg]; exact Nat.ne_of_lt (blk_lt (g := gb215) (o := .cells #[.int .i64 t210, .int .i64 t211, .int .i64 t212, .int .i64 t213] 25 (0, 0)) (by (with_reducible repeat (first | refine blk_drewN ?_ _ | refine blk_drew ?_ | refine blk_alloc ?_ _)); exact BK215.out)) : gb215 ≠ gb221)); have n6_ := Aside0.mk ((by rw [hg]; exact Nat.ne_of_gt (blk_lt (g := gb215) (o := .cells #[.int .i64 t210, .int .i64 t211, .int .i64 t212, .int .i64 t213] 25 (0, 0)) (by (with_reducible repeat (first | refine blk_drewN ?_ _ | refine blk_drew ?_ | refine blk_alloc ?_ _)); exact BK215.out)) : gb221 ≠ gb215)); clear BK215; clear HB; have BK215 := n0_; have HB := n1_; have BK221 := n2_; have GW221 := n3_; have GE221 := n4_; have NB215_221 := n5_; have NB221_215 := n6_; clear n0_ n1_ n2_ n3_ n4_ n5_ n6_; clear hb hbox hg; have hnb31 := NB221_215.out; have hnc31 := NB215_221.out; have hcz32_0 : w30.cell? ⟨gb221, 0, none⟩ = some (.int .i64 0) := (blk_cell BK221.out 0).trans rfl; have hcz32_1 : w30.cell? ⟨gb221, 1, none⟩ = some (.int .i64 0) := (blk_cell BK221.out 1).trans rfl; have hcz32_2 : w30.cell? ⟨gb221, 2, none⟩ = some (.int .i64 0) := (blk_cell BK221.out 2).trans rfl; have hcz32_3 : w30.cell? ⟨gb221, 3, none⟩ = some (.int .i64 0) := (blk_cell BK221.out 3).trans rfl; have hfz32_0 := blk_frozen BK221.out 0; have hfz32_1 := blk_frozen BK221.out 1; have hfz32_2 := blk_frozen BK221.out 2; have hfz32_3 := blk_frozen BK221.out 3; have hcz33_0 : w30.cell? ⟨gb215, 0, none⟩ = some (.int .i64 t210) := (blk_cell BK215.out 0).trans rfl; have hcz33_1 : w30.cell? ⟨gb215, 1, none⟩ = some (.int .i64 t211) := (blk_cell BK215.out 1).trans rfl; have hcz33_2 : w30.cell? ⟨gb215, 2, none⟩ = some (.int .i64 t212) := (blk_cell BK215.out 2).trans rfl; have hcz33_3 : w30.cell? ⟨gb215, 3, none⟩ = some (.int .i64 t213) := (blk_cell BK215.out 3).trans rfl; have hfz33_0 := blk_frozen BK215.out 0; have hfz33_1 := blk_frozen BK215.out 1; have hfz33_2 := blk_frozen BK215.out 2; have hfz33_3 := blk_frozen BK215.out 3) | ((with_reducible refine gate_callee (f := 38) rfl ?_); refine goesL_ (some 22) rfl rfl Tryd.func38 (by kernel_rfl) rfl #[.agg #[.int .i64 t216, .int .i64 t217, .int .i64 t218, .int .i64 t219], .agg #[.int .i64 t210, .int .i64 t211, .int .i64 t212, .int .i64 t213]] rfl (by (try simp only [List.map_toArray, List.map_cons, List.map_nil]); first | done | rfl | (simp only [List.length_drop, List.length_take]; rfl)) ?_; (with_reducible refine (laws_eqConf.calls t216 t217 t218 t219 t210 t211 t212 t213 false _ A5.out).mono ?_); rintro e w34 ⟨rfl, hb⟩; refine ⟨_, rfl, ?_⟩; have n0_ := Aside0.mk (blk_below (g := gb215) (o := .cells #[.int .i64 t210, .int .i64 t211, .int .i64 t212, .int .i64 t213] 25 (0, 0)) (by (with_reducible repeat (first | refine blk_drewN ?_ _ | refine blk_drew ?_ | refine blk_alloc ?_ _)); refine blk_far ?_ NB215_221.out _; (with_reducible repeat (first | refine blk_drewN ?_ _ | refine blk_drew ?_ | refine blk_alloc ?_ _)); refine blk_far ?_ NB215_221.out _; (with_reducible repeat (first | refine blk_drewN ?_ _ | refine blk_drew ?_ | refine blk_alloc ?_ _)); refine blk_far ?_ NB215_221.out _; (with_reducible repeat (first | refine blk_drewN ?_ _ | refine blk_drew ?_ | refine blk_alloc ?_ _)); refine blk_far ?_ NB215_221.out _; (with_reducible repeat (first | refine blk_drewN ?_ _ | refine blk_drew ?_ | refine blk_alloc ?_ _)); exact BK215.out) hb); have n1_ := Aside0.mk (blk_below (g := gb221) (o := .cells #[.int .i64 t216, .int .i64 t217, .int .i64 t218, .int .i64 t219] 25 (0, 0)) (by (with_reducible repeat (first | refine blk_drewN ?_ _ | refine blk_drew ?_ | refine blk_alloc ?_ _)); refine blk_put (cs := #[.int .i64 t216, .int .i64 t217, .int .i64 t218, .int .i64 0]) ?_ 3 _ rfl; (with_reducible repeat (first | refine blk_drewN ?_ _ | refine blk_drew ?_ | refine blk_alloc ?_ _)); refine blk_put (cs := #[.int .i64 t216, .int .i64 t217, .int .i64 0, .int .i64 0]) ?_ 2 _ rfl; (with_reducible repeat (first | refine blk_drewN ?_ _ | refine blk_drew ?_ | refine blk_alloc ?_ _)); refine blk_put (cs := #[.int .i64 t216, .int .i64 0, .int .i64 0, .int .i64 0]) ?_ 1 _ rfl; (with_reducible repeat (first | refine blk_drewN ?_ _ | refine blk_drew ?_ | refine blk_alloc ?_ _)); refine blk_put (cs := #[.int .i64 0, .int .i64 0, .int .i64 0, .int .i64 0]) ?_ 0 _ rfl; (with_reducible repeat (first | refine blk_drewN ?_ _ | refine blk_drew ?_ | refine blk_alloc ?_ _)); exact BK221.out) hb); have n2_ := Aside0.mk (below_step (by repeat (first | (with_reducible first | exact HB.out | apply below_alloc | apply pw_below_drewN | apply below_drew1 | refine below_set ?_ GE215.out | refine below_set ?_ GE221.out) | exact HB.out)) hb); clear BK215; clear BK221; clear HB; have BK215 := n0_; have BK221 := n1_; have HB := n2_; clear n0_ n1_ n2_; (try clear hb); (try clear hb2); (try clear hk); (try clear hi)))
      go_ret
      exact ⟨by first | rfl | (simp [errW_none, errW_some] <;> rfl) | (simp [*, errW_none, errW_some] <;> rfl), by repeat (first | (with_reducible first | exact HB.out | apply below_alloc | apply pw_below_drewN | apply below_drew1 | refine below_set ?_ GE215.out | refine below_set ?_ GE221.out) | exact HB.out)⟩
end Go.Proofs.YtbpffdhkeinmcaaDoor.QF
namespace Go.Proofs.YtbpffdhkeinmcaaDoor.Open
open Go.RowKit Go.Proofs.YtbpffdhkeinmcaaDoorW.PrintWords
open Go.ChangeShapes Go.WideShapes
set_option linter.unusedVariables false
def InS (s : ByteArray) : Prop := s.size ≤ 9223372036854775807
end Go.Proofs.YtbpffdhkeinmcaaDoor.Open
namespace Go.Proofs.YtbpffdhkeinmcaaDoor.QF
open Go.RowKit Go.Proofs.YtbpffdhkeinmcaaDoorW.PrintWords Go.Proofs.YtbpffdhkeinmcaaDoorW.PrintLast Go.Proofs.YtbpffdhkeinmcaaDoor
def laws_FnExactConfRead.Pure : Prop := ∀ (y0 : ByteArray), Open.InS y0 → ∃ k, laws_FnExactConfRead.f k y0 = some true
end Go.Proofs.YtbpffdhkeinmcaaDoor.QF
namespace Go.Proofs.YtbpffdhkeinmcaaDoor.L
open Go.RowKit Go.Proofs.YtbpffdhkeinmcaaDoorW.PrintWords Go.Proofs.YtbpffdhkeinmcaaDoorW.PrintMore
set_option linter.unusedVariables false
set_option linter.unusedSimpArgs false
theorem wrap_id {x : Int} (h0 : -9223372036854775808 ≤ x) (h1 : x ≤ 9223372036854775807) : wrap64 x = x := by unfold wrap64; omega
theorem wrap_nat_succ {i : Nat} (h : i < 9223372036854775807) : wrap64 ((i : Int) + 1) = ((i + 1 : Nat) : Int) := by unfold wrap64; omega
theorem evVal {α : Type} {g : Nat → Option α} {r r' : α} (h : Ev g r) (e : r = r') : Ev g r' := e ▸ h
theorem evConst {α : Type} {o : Option α} {r : α} (h : o = some r) : Ev (fun _ => o) r := ⟨0, fun _ _ => h⟩
theorem evBindc {α β : Type} {o : Option α} {f : Nat → α → Option β} {a : α} {r : β} (h : o = some a) (k : Ev (fun n => f n a) r) : Ev (fun n => o.bind (f n)) r := Ev.bind (evConst h) k
theorem getD_lt {α : Type} {l : List α} {i : Nat} (z : α) (h : i < l.length) : l.getD i z = l[i] := by simp [List.getD, h]
end Go.Proofs.YtbpffdhkeinmcaaDoor.L
namespace Go.Proofs.YtbpffdhkeinmcaaDoor.L
open Go.RowKit Go.Proofs.YtbpffdhkeinmcaaDoor.QF Go.Proofs.YtbpffdhkeinmcaaDoorW.PrintWords Go.Proofs.YtbpffdhkeinmcaaDoorW.PrintLast
set_option linter.unusedVariables false
set_option linter.unusedSimpArgs false
theorem within_eq (n lo hi : Int) : impl_within.f n lo hi = some (decide (lo ≤ n ∧ n ≤ hi)) := by
  unfold impl_within.f
  by_cases h : n ≥ lo
  · rw [if_pos h]
    by_cases h2 : n ≤ hi <;> simp [h2] <;> omega
  · rw [if_neg h]
    simp
    omega
end Go.Proofs.YtbpffdhkeinmcaaDoor.L
namespace Go.Proofs.YtbpffdhkeinmcaaDoor.L
open Go.RowKit Go.Proofs.YtbpffdhkeinmcaaDoor.QF Go.Proofs.YtbpffdhkeinmcaaDoorW.PrintWords Go.Proofs.YtbpffdhkeinmcaaDoorW.PrintLast Go.Proofs.YtbpffdhkeinmcaaDoorW.PrintMore
set_option linter.unusedVariables false
set_option linter.unusedSimpArgs false
def confB (a b c d : Int) : Bool := decide (0 ≤ a ∧ a ≤ 4294967295) && (decide (2 ≤ b ∧ b ≤ 6) && (decide (0 ≤ c ∧ c ≤ 64) && decide (1 ≤ d ∧ d ≤ 64)))
theorem isConf_eq (a b c d : Int) : impl_isConf.f a b c d = some (confB a b c d) := by
  unfold impl_isConf.f impl_isDeepLog.f confB
  simp only [within_eq, Option.bind_some]
  by_cases h1 : 0 ≤ a ∧ a ≤ 4294967295 <;> by_cases h2 : 2 ≤ b ∧ b ≤ 6 <;> by_cases h3 : 0 ≤ c ∧ c ≤ 64 <;> simp [h1, h2, h3]
theorem confOk_eq (a b c d : Int) : spec_ConfOk.f a b c d = some (confB a b c d) := by
  unfold spec_ConfOk.f spec_l16Log.f confB
  by_cases h1 : 0 ≤ a <;> by_cases h1' : a ≤ 4294967295 <;> by_cases h2 : 2 ≤ b <;> by_cases h2' : b ≤ 6 <;> by_cases h3 : 0 ≤ c <;> by_cases h3' : c ≤ 64 <;> by_cases h4 : 1 ≤ d <;> by_cases h4' : d ≤ 64 <;>
    simp [h1, h1', h2, h2', h3, h3', h4, h4']
theorem confB_log {a b c d : Int} (h : confB a b c d = true) : 0 ≤ a ∧ a ≤ 4294967295 ∧ 2 ≤ b ∧ b ≤ 6 ∧ 0 ≤ c ∧ c ≤ 64 ∧ 1 ≤ d ∧ d ≤ 64 := by
  unfold confB at h
  simp only [Bool.and_eq_true, decide_eq_true_eq] at h
  omega
end Go.Proofs.YtbpffdhkeinmcaaDoor.L
namespace Go.Proofs.YtbpffdhkeinmcaaDoor.L
open Go.RowKit Go.Proofs.YtbpffdhkeinmcaaDoorW.PrintWords Go.Proofs.YtbpffdhkeinmcaaDoorW.PrintMore
theorem evIf {α : Type} {p : Prop} [Decidable p] {g h : Nat → Option α} {r : α} (hp : p) (hg : Ev g r) : Ev (fun k => if p then g k else h k) r := by simp only [if_pos hp]; exact hg
theorem strOf_nums (l : List UInt8) : strOfNums (l.map fun b => (b.toNat : Int)) = ⟨l.toArray⟩ := by
  unfold strOfNums
  congr 1
  rw [List.map_map]
  have : (fun n : Int => UInt8.ofNat n.toNat) ∘ (fun b : UInt8 => (b.toNat : Int)) = id := by
    funext b
    simp
  rw [this]
  simp
end Go.Proofs.YtbpffdhkeinmcaaDoor.L
namespace Go.Proofs.YtbpffdhkeinmcaaDoor.L
open Go.RowKit Go.Proofs.YtbpffdhkeinmcaaDoor.QF Go.Proofs.YtbpffdhkeinmcaaDoorW.PrintWords Go.Proofs.YtbpffdhkeinmcaaDoorW.PrintLast Go.Proofs.YtbpffdhkeinmcaaDoorW.PrintMore
set_option linter.unusedVariables false
set_option linter.unusedSimpArgs false
def digI (u : Nat) : List Int := (Lib.decDigits u).map fun b => (b.toNat : Int)
theorem digI_small {u : Nat} (h : u < 10) : digI u = [((48 + u : Nat) : Int)] := by
  unfold digI
  rw [Lib.decDigits, dif_pos h, List.map_cons, List.map_nil, UInt8.toNat_ofNat']
  congr 2
  omega
theorem digI_big {u : Nat} (h : ¬ u < 10) : digI u = digI (u / 10) ++ [((48 + u % 10 : Nat) : Int)] := by
  unfold digI
  rw [Lib.decDigits, dif_neg h, List.map_append, List.map_cons, List.map_nil, UInt8.toNat_ofNat']
  congr 3
  omega
def numS (n : Int) : ByteArray := ⟨(Lib.itoa n).toArray⟩
theorem numS_pos {n : Int} (h : 0 ≤ n) : numS n = strOfNums (digI n.toNat) := by
  unfold numS Lib.itoa digI
  rw [if_neg (by omega), strOf_nums]
theorem numLoop_ev (n : Int) (hn : 0 ≤ n) : ∀ (u : Nat) (acc : List Int), 0 < u → u < 1000000000000000000 → acc.length + u < 140737488355320 → Ev (fun k => spec_l04Num.l0 k n acc (u : Int)) (strOfNums (digI u ++ acc)) := by
  intro u
  induction u using Nat.strongRecOn with
  | _ u ih =>
    intro acc h0 hu hl
    refine Ev.step (fun k => rfl) ?_
    have e1 : Int.tmod (u : Int) 10 = ((u % 10 : Nat) : Int) := by rw [Int.tmod_eq_emod_of_nonneg (by omega)]; omega
    have e2 : wrap64 (Int.tdiv (u : Int) 10) = ((u / 10 : Nat) : Int) := by rw [Int.tdiv_eq_ediv_of_nonneg (by omega), wrap_id (by omega) (by omega)]; omega
    have e3 : (wrap64 (48 + ((u % 10 : Nat) : Int))) % 256 = ((48 + u % 10 : Nat) : Int) := by rw [wrap_id (by omega) (by omega)]; omega
    simp only [spec_l04Num.l0, if_neg (show ¬ (u : Int) = 0 by omega), e1, e2, e3, if_neg (show ¬ ((u % 10 : Nat) : Int) < 0 by omega), Option.bind_some, List.length_cons, List.length_nil, if_pos (show 0 + 1 + acc.length < 140737488355328 by omega)]
    by_cases hs : u < 10
    · rw [digI_small hs, show u / 10 = 0 by omega, show u % 10 = u by omega]
      refine Ev.step (fun k => rfl) ?_
      simp only [spec_l04Num.l0, show ((0 : Nat) : Int) = 0 from rfl, if_true, if_neg (show ¬ n < 0 by omega)]
      exact Ev.now _
    · have := ih (u / 10) (by omega) ([((48 + u % 10 : Nat) : Int)] ++ acc) (by omega) (by omega) (by simp only [List.length_append, List.length_cons, List.length_nil]; omega)
      rw [digI_big hs, List.append_assoc]
      exact this
theorem specNum_ev (n : Int) (h0 : 0 ≤ n) (h1 : n ≤ 100000000000000) : Ev (fun k => spec_l04Num.f k n) (numS n) := by
  unfold spec_l04Num.f
  by_cases h : n = 0
  · subst h
    simp only [if_true]
    exact evVal (Ev.now _) (by rw [numS_pos (by omega), show (0 : Int).toNat = 0 from rfl, digI_small (by omega)]; rfl)
  · simp only [if_neg h]
    have := numLoop_ev n h0 n.toNat [] (by omega) (by omega) (by simp only [List.length_nil]; omega)
    rw [Int.toNat_of_nonneg h0] at this
    rw [numS_pos h0]
    simpa using this
theorem itoa_eq (n : Int) (h0 : 0 ≤ n) (h1 : n ≤ 100000000000000) : strconv_Itoa_79.f n = some (numS n) := by
  unfold strconv_Itoa_79.f numS
  rw [if_pos (by omega)]
end Go.Proofs.YtbpffdhkeinmcaaDoor.L
namespace Go.Proofs.YtbpffdhkeinmcaaDoor.L
open Go.RowKit Go.Proofs.YtbpffdhkeinmcaaDoor.QF Go.Proofs.YtbpffdhkeinmcaaDoorW.PrintWords Go.Proofs.YtbpffdhkeinmcaaDoorW.PrintLast Go.Proofs.YtbpffdhkeinmcaaDoorW.PrintMore
set_option linter.unusedVariables false
set_option linter.unusedSimpArgs false
theorem numS_size (n : Int) (h0 : 0 ≤ n) (h1 : n ≤ 100000000000000) : (numS n).size ≤ 21 := by
  have := Lib.itoa_length_le n (by omega) (by omega)
  unfold numS
  simpa [ByteArray.size] using this
def confTextS (a b c d : Int) : ByteArray := if confB a b c d && decide (a ≤ 999999999) then ((((((((⟨#[107, 101, 121, 32]⟩ : ByteArray) ++ numS a) ++ (⟨#[32, 108, 111, 103, 32]⟩ : ByteArray)) ++ numS b) ++ (⟨#[32, 98, 111, 117, 110, 100, 32]⟩ : ByteArray)) ++ numS c) ++ (⟨#[32, 99, 97, 112, 32]⟩ : ByteArray)) ++ numS d) else ⟨#[]⟩
theorem l4 : (⟨#[107, 101, 121, 32]⟩ : ByteArray).size = 4 := rfl
theorem l5 : (⟨#[32, 108, 111, 103, 32]⟩ : ByteArray).size = 5 := rfl
theorem l7 : (⟨#[32, 98, 111, 117, 110, 100, 32]⟩ : ByteArray).size = 7 := rfl
theorem l5' : (⟨#[32, 99, 97, 112, 32]⟩ : ByteArray).size = 5 := rfl
theorem specText_ev (a b c d : Int) : Ev (fun k => spec_ConfText.f k a b c d) (confTextS a b c d) := by
  unfold spec_ConfText.f
  simp only [confOk_eq, Option.bind_some]
  have hno : ∀ r, r = (⟨#[]⟩ : ByteArray) → Ev (fun k => spec_ConfText.j0 k true a b c d) r := by
    rintro r rfl
    refine Ev.step (fun k => rfl) ?_
    simp only [spec_ConfText.j0, if_true]
    exact Ev.now _
  cases hc : confB a b c d with
  | false =>
    simp only [Bool.false_eq_true, if_false]
    exact hno _ (by unfold confTextS; rw [hc, Bool.false_and, if_neg (by decide)])
  | true =>
    have h := confB_log hc
    have e : spec_l26Num.f a = some (decide (a ≤ 999999999)) := by unfold spec_l26Num.f; rw [if_pos (by omega)]
    simp only [if_true, e, Option.bind_some]
    by_cases h9 : a ≤ 999999999
    · simp only [h9, decide_true, Bool.not_true]
      have ha := numS_size a (by omega) (by omega)
      have hb := numS_size b (by omega) (by omega)
      have hcc := numS_size c (by omega) (by omega)
      have hd := numS_size d (by omega) (by omega)
      have hr : confTextS a b c d = ((((((((⟨#[107, 101, 121, 32]⟩ : ByteArray) ++ numS a) ++ (⟨#[32, 108, 111, 103, 32]⟩ : ByteArray)) ++ numS b) ++ (⟨#[32, 98, 111, 117, 110, 100, 32]⟩ : ByteArray)) ++ numS c) ++ (⟨#[32, 99, 97, 112, 32]⟩ : ByteArray)) ++ numS d) := by unfold confTextS; rw [hc, decide_eq_true h9, if_pos (by decide)]
      rw [hr]
      refine Ev.step (fun k => rfl) ?_
      simp only [spec_ConfText.j0, Bool.false_eq_true, if_false]
      refine Ev.bind (specNum_ev a (by omega) (by omega)) ?_
      refine evIf (by omega) (evIf (by simp only [ByteArray.size_append, l4]; omega) ?_)
      refine Ev.bind (specNum_ev b (by omega) (by omega)) ?_
      refine evIf (by simp only [ByteArray.size_append, l4, l5]; omega) (evIf (by simp only [ByteArray.size_append, l4, l5]; omega) ?_)
      refine Ev.bind (specNum_ev c (by omega) (by omega)) ?_
      refine evIf (by simp only [ByteArray.size_append, l4, l5, l7]; omega) (evIf (by simp only [ByteArray.size_append, l4, l5, l7]; omega) ?_)
      refine Ev.bind (specNum_ev d (by omega) (by omega)) ?_
      refine evIf (by simp only [ByteArray.size_append, l4, l5, l7, l5']; omega) ?_
      exact Ev.now _
    · simp only [h9, decide_false, Bool.not_false]
      exact hno _ (by unfold confTextS; rw [decide_eq_false h9, Bool.and_false, if_neg (by decide)])
theorem implTextIn_ev (a b c d : Int) : Ev (fun k => impl_confText.f k a b c d) (confTextS a b c d) := by
  unfold impl_confText.f
  simp only [isConf_eq, Option.bind_some]
  have hno : ∀ r, r = (⟨#[]⟩ : ByteArray) → Ev (fun k => impl_confText.j0 k true a b c d) r := by
    rintro r rfl
    refine Ev.step (fun k => rfl) ?_
    simp only [impl_confText.j0, if_true]
    exact Ev.now _
  cases hc : confB a b c d with
  | false =>
    simp only [Bool.false_eq_true, if_false]
    exact hno _ (by unfold confTextS; rw [hc, Bool.false_and, if_neg (by decide)])
  | true =>
    have h := confB_log hc
    simp only [if_true]
    by_cases h9 : a ≤ 999999999
    · simp only [show ¬ a > 999999999 by omega, decide_false]
      have ha := numS_size a (by omega) (by omega)
      have hb := numS_size b (by omega) (by omega)
      have hcc := numS_size c (by omega) (by omega)
      have hd := numS_size d (by omega) (by omega)
      have hr : confTextS a b c d = ((((((((⟨#[107, 101, 121, 32]⟩ : ByteArray) ++ numS a) ++ (⟨#[32, 108, 111, 103, 32]⟩ : ByteArray)) ++ numS b) ++ (⟨#[32, 98, 111, 117, 110, 100, 32]⟩ : ByteArray)) ++ numS c) ++ (⟨#[32, 99, 97, 112, 32]⟩ : ByteArray)) ++ numS d) := by unfold confTextS; rw [hc, decide_eq_true h9, if_pos (by decide)]
      rw [hr]
      refine Ev.step (fun k => rfl) ?_
      simp only [impl_confText.j0, Bool.false_eq_true, if_false]
      refine Ev.bind (evConst (itoa_eq a (by omega) (by omega))) ?_
      refine evIf (by omega) (evIf (by simp only [ByteArray.size_append, l4]; omega) ?_)
      refine Ev.bind (evConst (itoa_eq b (by omega) (by omega))) ?_
      refine evIf (by simp only [ByteArray.size_append, l4, l5]; omega) (evIf (by simp only [ByteArray.size_append, l4, l5]; omega) ?_)
      refine Ev.bind (evConst (itoa_eq c (by omega) (by omega))) ?_
      refine evIf (by simp only [ByteArray.size_append, l4, l5, l7]; omega) (evIf (by simp only [ByteArray.size_append, l4, l5, l7]; omega) ?_)
      refine Ev.bind (evConst (itoa_eq d (by omega) (by omega))) ?_
      refine evIf (by simp only [ByteArray.size_append, l4, l5, l7, l5']; omega) ?_
      exact Ev.now _
    · simp only [show a > 999999999 by omega, decide_true]
      exact hno _ (by unfold confTextS; rw [decide_eq_false h9, Bool.and_false, if_neg (by decide)])
end Go.Proofs.YtbpffdhkeinmcaaDoor.L
namespace Go.Proofs.YtbpffdhkeinmcaaDoor.L
open Go.RowKit Go.Proofs.YtbpffdhkeinmcaaDoor.QF Go.Proofs.YtbpffdhkeinmcaaDoorW.PrintWords Go.Proofs.YtbpffdhkeinmcaaDoorW.PrintLast Go.Proofs.YtbpffdhkeinmcaaDoorW.PrintMore
set_option linter.unusedVariables false
set_option linter.unusedSimpArgs false
theorem bt_getD' (s : ByteArray) (i : Nat) : bt s (i : Int) = ((s.data.toList.getD i 0).toNat : Int) := by
  rw [← rd_bytesOf]
  unfold rd bytesOf
  rw [Int.toNat_natCast, List.getD_eq_getElem?_getD, List.getD_eq_getElem?_getD, List.getElem?_map]
  cases s.data.toList[i]? <;> rfl
theorem ba_ext {a b : ByteArray} (h : a.data.toList = b.data.toList) : a = b := by
  cases a; cases b
  congr 1
  exact Array.ext' h
theorem ba_append (a b : ByteArray) : (a ++ b).data.toList = a.data.toList ++ b.data.toList := by simp
def spc : ByteArray := ⟨#[32]⟩
def joinS : List ByteArray → ByteArray
  | [] => ⟨#[]⟩
  | [p] => p
  | p :: q :: r => (p ++ spc) ++ joinS (q :: r)
def noSp (p : ByteArray) : Prop := ∀ b, b ∈ p.data.toList → b ≠ 32
theorem joinS_data (p q : ByteArray) (r : List ByteArray) : (joinS (p :: q :: r)).data.toList = p.data.toList ++ 32 :: (joinS (q :: r)).data.toList := by
  show ((p ++ spc) ++ joinS (q :: r)).data.toList = _
  rw [ba_append, ba_append]
  simp [spc]
theorem index_skip : ∀ (p r : List UInt8), (∀ b, b ∈ p → b ≠ 32) → Lib.index (p ++ 32 :: r) [32] = (p.length : Int)
  | [], r, _ => by simp [Lib.index, List.isPrefixOf]
  | c :: p, r, h => by
    have hc : c ≠ 32 := h c (List.mem_cons_self ..)
    have hp : ([32] : List UInt8).isPrefixOf (c :: (p ++ 32 :: r)) = false := by simp [List.isPrefixOf, Ne.symm hc]
    have ih := index_skip p r (fun b hb => h b (List.mem_cons_of_mem _ hb))
    rw [List.cons_append, Lib.index, hp, ih]
    simp only [Bool.false_eq_true, if_false, List.length_cons]
    rw [if_neg (by rw [beq_iff_eq]; omega)]
    omega
theorem index_none : ∀ p : List UInt8, (∀ b, b ∈ p → b ≠ 32) → Lib.index p [32] = -1
  | [], _ => by simp [Lib.index]
  | c :: p, h => by
    have hc : c ≠ 32 := h c (List.mem_cons_self ..)
    have hp : ([32] : List UInt8).isPrefixOf (c :: p) = false := by simp [List.isPrefixOf, Ne.symm hc]
    rw [Lib.index, hp, index_none p (fun b hb => h b (List.mem_cons_of_mem _ hb))]
    simp
theorem split_join : ∀ ps : List ByteArray, ps ≠ [] → (∀ p, p ∈ ps → noSp p) → Lib.splitB spc 0 (Lib.countB (joinS ps) spc) (joinS ps) = ps
  | [], h, _ => absurd rfl h
  | [p], _, h => by
    have hx : Lib.indexB (joinS [p]) spc = -1 := index_none p.data.toList (h p (List.mem_cons_self ..))
    rw [Lib.countB_miss _ _ hx, Lib.splitB_zero]
    rfl
  | p :: q :: r, _, h => by
    have hd := joinS_data p q r
    have hx : Lib.indexB (joinS (p :: q :: r)) spc = (p.size : Int) := by
      show Lib.index _ _ = _
      rw [hd]
      have := index_skip p.data.toList (joinS (q :: r)).data.toList (h p (List.mem_cons_self ..))
      rw [data_length] at this
      exact this
    have hsz : (joinS (p :: q :: r)).size = p.size + 1 + (joinS (q :: r)).size := by
      rw [← data_length, hd, List.length_append, List.length_cons, data_length, data_length]; omega
    have e1 : (joinS (p :: q :: r)).extract (p.size + spc.size) (joinS (p :: q :: r)).size = joinS (q :: r) := by
      apply ba_ext
      rw [Lib.extract_data, hd, show spc.size = 1 from rfl, hsz]
      rw [List.drop_append, List.drop_of_length_le (by rw [data_length]; omega), data_length, show p.size + 1 - p.size = 1 by omega, List.nil_append, List.drop_succ_cons, List.drop_zero, List.take_of_length_le (by rw [data_length]; omega)]
    have e2 : (joinS (p :: q :: r)).extract 0 (p.size + 0) = p := by
      apply ba_ext
      rw [Lib.extract_data, hd, List.drop_zero, List.take_append_of_le_length (by rw [data_length]; omega), List.take_of_length_le (by rw [data_length]; omega)]
    rw [Lib.countB_hit _ _ p.size (by decide) hx, e1, Nat.add_comm 1, Lib.splitB_hit _ _ _ _ p.size hx, e1, e2, split_join (q :: r) (by simp) (fun x hx => h x (List.mem_cons_of_mem _ hx))]
theorem split_size (sep : ByteArray) : ∀ (k : Nat) (s : ByteArray) (m : Nat), s.size ≤ m → ∀ t, t ∈ Lib.splitB sep 0 k s → t.size ≤ m
  | 0, s, m, h, t, ht => by rw [Lib.splitB_zero] at ht; obtain rfl := List.mem_singleton.1 ht; exact h
  | k + 1, s, m, h, t, ht => by
    have ex : ∀ a b, (s.extract a b).size ≤ s.size := fun a b => by
      rw [← data_length, ← data_length, Lib.extract_data]
      simp only [List.length_take, List.length_drop]
      omega
    unfold Lib.splitB at ht
    split at ht
    · obtain rfl := List.mem_singleton.1 ht; exact h
    · rcases List.mem_cons.1 ht with rfl | ht
      · have := ex 0 ((Lib.indexB s sep).toNat + 0); omega
      · exact split_size sep k _ m (by have := ex ((Lib.indexB s sep).toNat + sep.size) s.size; omega) t ht
theorem dec_digits : ∀ (u : Nat) (b : UInt8), b ∈ Lib.decDigits u → 48 ≤ b.toNat ∧ b.toNat ≤ 57 := by
  intro u
  induction u using Nat.strongRecOn with
  | _ u ih =>
    intro b hb
    rw [Lib.decDigits] at hb
    split at hb
    · rename_i h
      rw [List.mem_singleton] at hb
      rw [hb, UInt8.toNat_ofNat']
      omega
    · rcases List.mem_append.1 hb with hb | hb
      · exact ih (u / 10) (by omega) b hb
      · rw [List.mem_singleton] at hb
        rw [hb, UInt8.toNat_ofNat']
        omega
theorem dec_ne (u : Nat) : Lib.decDigits u ≠ [] := by
  rw [Lib.decDigits]
  split
  · simp
  · simp
theorem parse_append : ∀ (l1 l2 : List UInt8) (acc u : Nat), Lib.parseUint10 acc l1 = .ok u → Lib.parseUint10 acc (l1 ++ l2) = Lib.parseUint10 u l2
  | [], l2, acc, u, h => by
    simp only [Lib.parseUint10] at h
    injection h with h
    subst h; rfl
  | c :: l1, l2, acc, u, h => by
    rw [List.cons_append]
    simp only [Lib.parseUint10] at h ⊢
    split at h
    · rename_i h0
      rw [if_pos h0]
      split at h
      · cases h
      · rename_i h1
        rw [if_neg h1]
        split at h
        · cases h
        · rename_i h2
          rw [if_neg h2]
          exact parse_append l1 l2 _ u h
    · cases h
theorem parse_dec : ∀ u : Nat, u < 1000000000000000000 → Lib.parseUint10 0 (Lib.decDigits u) = .ok u := by
  intro u
  induction u using Nat.strongRecOn with
  | _ u ih =>
    intro hu
    have one : ∀ acc d : Nat, d < 10 → acc < 1000000000000000000 → Lib.parseUint10 acc [UInt8.ofNat (48 + d)] = .ok (acc * 10 + d) := by
      intro acc d hd ha
      have e : (UInt8.ofNat (48 + d)).toNat = 48 + d := by rw [UInt8.toNat_ofNat']; omega
      simp only [Lib.parseUint10, e]
      rw [if_pos (by omega), if_neg (by omega), if_neg (by omega)]
      congr 1
      omega
    rw [Lib.decDigits]
    by_cases h : u < 10
    · rw [dif_pos h]
      have := one 0 u h (by omega)
      simpa using this
    · rw [dif_neg h, parse_append _ _ 0 (u / 10) (ih (u / 10) (by omega) (by omega)), one (u / 10) (u % 10) (by omega) (by omega)]
      congr 1
      omega
theorem numS_data (n : Int) : (numS n).data.toList = Lib.itoa n := by unfold numS; simp
theorem numS_noSp {n : Int} (h0 : 0 ≤ n) : noSp (numS n) := by
  intro b hb
  rw [numS_data] at hb
  unfold Lib.itoa at hb
  rw [if_neg (by omega)] at hb
  have := dec_digits _ b hb
  intro e
  rw [e] at this
  exact absurd this.1 (by decide)
theorem atoi_num {n : Int} (h0 : 0 ≤ n) (h1 : n ≤ 999999999) : Lib.atoiAll (numS n).data.toList = .ok n := by
  rw [numS_data]
  unfold Lib.itoa
  rw [if_neg (by omega)]
  have hp := parse_dec n.toNat (by omega)
  have hd := dec_digits n.toNat
  have hne := dec_ne n.toNat
  generalize hl : Lib.decDigits n.toNat = l at hp hd hne
  cases l with
  | nil => exact absurd rfl hne
  | cons c r =>
    have hc := hd c (List.mem_cons_self ..)
    rw [Lib.atoiAll_plain c r (by omega) (by omega)]
    have hm : Lib.parseMag (c :: r) = .ok n.toNat := by unfold Lib.parseMag; rw [if_neg (by simp)]; exact hp
    rw [hm]
    unfold Lib.signless
    simp only
    rw [if_neg (by omega)]
    congr 1
    omega
theorem lineNumber_some (t : ByteArray) (h : t.size ≤ 1048576) : ∃ p, impl_lineNumber.f t = some p := by
  unfold impl_lineNumber.f
  rw [if_pos (by omega)]
  cases hat : Lib.atoiAll t.data.toList with
  | ok v =>
    have hb := Lib.atoiAll_bounds hat
    have e : strconv_Itoa_79.f v = some ⟨(Lib.itoa v).toArray⟩ := by unfold strconv_Itoa_79.f; rw [if_pos (by omega)]
    simp only [e, Option.bind_some]
    split
    · split
      · exact ⟨_, rfl⟩
      · exact ⟨_, rfl⟩
    · exact ⟨_, rfl⟩
  | «syntax» => exact ⟨_, rfl⟩
  | range => exact ⟨_, rfl⟩
theorem lineNumber_num {n : Int} (h0 : 0 ≤ n) (h1 : n ≤ 999999999) : impl_lineNumber.f (numS n) = some (n, true) := by
  have hl := numS_size n h0 (by omega)
  unfold impl_lineNumber.f
  rw [if_pos (by omega), atoi_num h0 h1]
  simp only [itoa_eq n h0 (by omega), Option.bind_some, if_true]
  rw [if_pos ⟨h0, h1⟩]
def cutG (s : ByteArray) : Nat → List ByteArray → Nat → Nat → List ByteArray
  | 0, out, frm, _ => out ++ [s.extract frm s.size]
  | d + 1, out, frm, i => if out.length < 8 then (if s.data.toList.getD i 0 = 32 then cutG s d (out ++ [s.extract frm i]) (i + 1) (i + 1) else cutG s d out frm (i + 1)) else out ++ [s.extract frm s.size]
theorem cut_ev (s : ByteArray) (hs : s.size ≤ 1048576) : ∀ (d i frm : Nat) (out : List ByteArray), i + d = s.size → frm ≤ i → out.length ≤ 8 → Ev (fun k => spec_l26Cut.l0 k s 32 9 out (frm : Int) (i : Int)) (cutG s d out frm i)
  | 0, i, frm, out, hi, hf, ho => by
    refine Ev.step (fun k => rfl) ?_
    simp only [spec_l26Cut.l0, if_neg (show ¬ (i : Int) < (s.size : Int) by omega)]
    refine Ev.step (f := fun _ => some _) (fun k => ?_) (Ev.now _)
    simp only [spec_l26Cut.j1, Bool.false_eq_true, if_false, if_pos (show (0 : Int) ≤ (frm : Int) by omega), if_pos (show (frm : Int) ≤ (s.size : Int) by omega), if_pos (show out.length < 8796093022208 by omega), Int.toNat_natCast]
    rfl
  | d + 1, i, frm, out, hi, hf, ho => by
    refine Ev.step (fun k => rfl) ?_
    have e8 : wrap64 (9 - 1) = 8 := by unfold wrap64; omega
    simp only [spec_l26Cut.l0, if_pos (show (i : Int) < (s.size : Int) by omega), e8]
    unfold cutG
    by_cases h8 : out.length < 8
    · rw [if_pos h8, decide_eq_true (show (out.length : Int) < 8 by omega)]
      refine Ev.step (fun k => rfl) ?_
      simp only [spec_l26Cut.j1, if_true, if_pos (show (0 : Int) ≤ (i : Int) by omega), if_pos (show (i : Int) < (s.size : Int) by omega), bt_getD']
      by_cases hb : s.data.toList.getD i 0 = 32
      · rw [if_pos hb]
        have hb' : (((s.data.toList.getD i 0).toNat : Nat) : Int) = 32 := by rw [hb]; rfl
        simp only [if_pos hb', if_pos (show (0 : Int) ≤ (frm : Int) by omega), if_pos (show (frm : Int) ≤ (i : Int) by omega), if_pos (show (i : Int) ≤ (s.size : Int) by omega), if_pos (show out.length < 8796093022208 by omega), Int.toNat_natCast, wrap_nat_succ (show i < 9223372036854775807 by omega)]
        exact cut_ev s hs d (i + 1) (i + 1) _ (by omega) (Nat.le_refl _) (by rw [List.length_append, List.length_singleton]; omega)
      · rw [if_neg hb]
        have hb' : ¬ (((s.data.toList.getD i 0).toNat : Nat) : Int) = 32 := fun e => hb (UInt8.toNat_inj.1 (by show _ = 32; omega))
        simp only [if_neg hb', wrap_nat_succ (show i < 9223372036854775807 by omega)]
        exact cut_ev s hs d (i + 1) frm out (by omega) (by omega) ho
    · rw [if_neg h8, decide_eq_false (show ¬ (out.length : Int) < 8 by omega)]
      refine Ev.step (f := fun _ => some _) (fun k => ?_) (Ev.now _)
      simp only [spec_l26Cut.j1, Bool.false_eq_true, if_false, if_pos (show (0 : Int) ≤ (frm : Int) by omega), if_pos (show (frm : Int) ≤ (s.size : Int) by omega), if_pos (show out.length < 8796093022208 by omega), Int.toNat_natCast]
theorem cut_skip (s : ByteArray) (out : List ByteArray) (frm : Nat) (h8 : out.length < 8) : ∀ (m d i : Nat), (∀ j, j < m → s.data.toList.getD (i + j) 0 ≠ 32) → cutG s (d + m) out frm i = cutG s d out frm (i + m)
  | 0, d, i, _ => rfl
  | m + 1, d, i, h => by
    have h0 := h 0 (by omega)
    rw [Nat.add_zero] at h0
    have step : cutG s (d + (m + 1)) out frm i = if out.length < 8 then (if s.data.toList.getD i 0 = 32 then cutG s (d + m) (out ++ [s.extract frm i]) (i + 1) (i + 1) else cutG s (d + m) out frm (i + 1)) else out ++ [s.extract frm s.size] := rfl
    rw [step, if_pos h8, if_neg h0, cut_skip s out frm h8 m d (i + 1) (fun j hj => by have := h (j + 1) (by omega); rwa [show i + (j + 1) = i + 1 + j by omega] at this)]
    rw [show i + 1 + m = i + (m + 1) by omega]
theorem cut_join (s : ByteArray) : ∀ (ps : List ByteArray) (pre : List UInt8) (out : List ByteArray), ps ≠ [] → (∀ p, p ∈ ps → noSp p) → s.data.toList = pre ++ (joinS ps).data.toList → out.length + ps.length ≤ 8 → cutG s (joinS ps).size out pre.length pre.length = out ++ ps
  | [], _, _, h, _, _, _ => absurd rfl h
  | [p], pre, out, _, h, hd, hl => by
    have hp := h p (List.mem_cons_self ..)
    have hl : out.length + 1 ≤ 8 := hl
    have hd : s.data.toList = pre ++ p.data.toList := hd
    have e := cut_skip s out pre.length (by omega) p.size 0 pre.length (fun j hj => by
      have hj' : j < p.data.toList.length := by rw [data_length]; exact hj
      rw [hd, List.getD_eq_getElem?_getD, List.getElem?_append_right (by omega), show pre.length + j - pre.length = j by omega, List.getElem?_eq_getElem hj']
      exact hp _ (List.getElem_mem hj'))
    rw [Nat.zero_add] at e
    show cutG s p.size out pre.length pre.length = _
    rw [e]
    show out ++ [s.extract pre.length s.size] = _
    congr 2
    apply ba_ext
    rw [Lib.extract_data, ← data_length s, hd, List.drop_append_of_le_length (Nat.le_refl _), List.drop_length, List.nil_append, List.take_of_length_le (by rw [List.length_append]; omega)]
  | p :: q :: r, pre, out, _, h, hd, hl => by
    have hp := h p (List.mem_cons_self ..)
    have hl2 : out.length + (r.length + 2) ≤ 8 := by simpa using hl
    rw [joinS_data] at hd
    have hsz : (joinS (p :: q :: r)).size = ((joinS (q :: r)).size + 1) + p.size := by
      rw [← data_length, joinS_data, List.length_append, List.length_cons, data_length, data_length]; omega
    have e := cut_skip s out pre.length (by omega) p.size ((joinS (q :: r)).size + 1) pre.length (fun j hj => by
      have hj' : j < p.data.toList.length := by rw [data_length]; exact hj
      rw [hd, List.getD_eq_getElem?_getD, List.getElem?_append_right (by omega), show pre.length + j - pre.length = j by omega, List.getElem?_append_left hj', List.getElem?_eq_getElem hj']
      exact hp _ (List.getElem_mem hj'))
    rw [hsz, e]
    have hb : s.data.toList.getD (pre.length + p.size) 0 = 32 := by
      rw [hd, List.getD_eq_getElem?_getD, List.getElem?_append_right (by omega), show pre.length + p.size - pre.length = p.size by omega, List.getElem?_append_right (by rw [data_length]; omega), data_length, Nat.sub_self]
      rfl
    unfold cutG
    rw [if_pos (by omega), if_pos hb]
    have hx : s.extract pre.length (pre.length + p.size) = p := by
      apply ba_ext
      rw [Lib.extract_data, hd, List.drop_append_of_le_length (Nat.le_refl _), List.drop_length, List.nil_append, show pre.length + p.size - pre.length = p.data.toList.length by rw [data_length]; omega, List.take_append_of_le_length (Nat.le_refl _), List.take_length]
    have ih := cut_join s (q :: r) (pre ++ (p.data.toList ++ [32])) (out ++ [p]) (by simp) (fun x hx => h x (List.mem_cons_of_mem _ hx)) (by rw [hd]; simp) (by rw [List.length_append, List.length_singleton]; simpa [Nat.add_assoc, Nat.add_comm, Nat.add_left_comm] using hl)
    have hlen : (pre ++ (p.data.toList ++ [32])).length = pre.length + p.size + 1 := by rw [List.length_append, List.length_append, List.length_singleton, data_length]; omega
    rw [hlen] at ih
    rw [hx, ih, List.append_assoc]
    rfl
def valU (n : Nat) (l : List UInt8) : Nat := l.foldl (fun n b => 10 * n + (b.toNat - 48)) n
theorem val_dec : ∀ u : Nat, valU 0 (Lib.decDigits u) = u := by
  intro u
  induction u using Nat.strongRecOn with
  | _ u ih =>
    rw [Lib.decDigits]
    by_cases h : u < 10
    · rw [dif_pos h]
      show 10 * 0 + ((UInt8.ofNat (48 + u)).toNat - 48) = u
      rw [UInt8.toNat_ofNat']
      omega
    · rw [dif_neg h]
      unfold valU at ih ⊢
      rw [List.foldl_append, ih (u / 10) (by omega)]
      show 10 * (u / 10) + ((UInt8.ofNat (48 + u % 10)).toNat - 48) = u
      rw [UInt8.toNat_ofNat']
      omega
theorem pow10_le {a b : Nat} (h : a ≤ b) : 10 ^ a ≤ 10 ^ b := Nat.pow_le_pow_right (by omega) h
theorem read_ev (t : ByteArray) : ∃ (x : Int) (ok : Bool), Ev (fun k => spec_l26Read.f k t) (x, ok) ∧ 0 ≤ x ∧ x ≤ 999999999 ∧ (1 ≤ t.size → t.size ≤ 9 → (∀ b, b ∈ t.data.toList → 48 ≤ b.toNat ∧ b.toNat ≤ 57) → x = ((valU 0 t.data.toList : Nat) : Int)) := by
  unfold spec_l26Read.f
  have hno : Ev (fun k => spec_l26Read.j0 k t true) ((0 : Int), false) := by
    refine Ev.step (fun k => rfl) ?_
    simp only [spec_l26Read.j0, if_true]
    exact Ev.now _
  by_cases h1 : (t.size : Int) < 1
  · simp only [if_pos h1]; exact ⟨0, false, hno, by omega, by omega, fun h => by omega⟩
  · by_cases h9 : (t.size : Int) > 9
    · simp only [if_neg h1, h9, decide_true]; exact ⟨0, false, hno, by omega, by omega, fun _ h => by omega⟩
    · simp only [if_neg h1, h9, decide_false]
      have key : ∀ d i n : Nat, i + d = t.size → n < 10 ^ i → ∃ (x : Int) (ok : Bool), Ev (fun k => spec_l26Read.l0 k t (n : Int) (i : Int)) (x, ok) ∧ 0 ≤ x ∧ x ≤ 999999999 ∧ ((∀ b, b ∈ t.data.toList.drop i → 48 ≤ b.toNat ∧ b.toNat ≤ 57) → x = ((valU n (t.data.toList.drop i) : Nat) : Int)) := by
        intro d
        induction d with
        | zero =>
          intro i n hi hn
          have hp := pow10_le (show i ≤ 9 by omega)
          have hn9 : n < 1000000000 := by omega
          refine ⟨(n : Int), ((numS (n : Int)).toList == t.toList), Ev.step (fun k => rfl) ?_, by omega, by omega, fun _ => ?_⟩
          · simp only [spec_l26Read.l0, if_neg (show ¬ (i : Int) < (t.size : Int) by omega)]
            exact Ev.bind (specNum_ev (n : Int) (by omega) (by omega)) (Ev.now _)
          · rw [List.drop_of_length_le (by rw [data_length]; omega)]; rfl
        | succ d ih =>
          intro i n hi hn
          have hlt : i < t.data.toList.length := by rw [data_length]; omega
          have hp := pow10_le (show i + 1 ≤ 9 by omega)
          have hpp : 10 ^ (i + 1) = 10 * 10 ^ i := by rw [Nat.pow_succ, Nat.mul_comm]
          have hbt : bt t (i : Int) = (((t.data.toList[i]).toNat : Nat) : Int) := by rw [bt_getD', getD_lt 0 hlt]
          have hu : (t.data.toList[i]).toNat < 256 := UInt8.toNat_lt _
          have hmem : t.data.toList[i] ∈ t.data.toList.drop i := by rw [List.drop_eq_getElem_cons hlt]; exact List.mem_cons_self ..
          generalize hbb : t.data.toList[i] = b at hbt hu hmem
          by_cases h48 : b.toNat < 48
          · refine ⟨0, false, Ev.step (f := fun _ => some (0, false)) (fun k => ?_) (Ev.now _), by omega, by omega, fun h => absurd (h b hmem).1 (by omega)⟩
            simp only [spec_l26Read.l0, hbt, if_pos (show (i : Int) < (t.size : Int) by omega), if_pos (show (0 : Int) ≤ (i : Int) by omega), if_pos (show ((b.toNat : Nat) : Int) < 48 by omega)]
          · by_cases h57 : b.toNat > 57
            · refine ⟨0, false, Ev.step (f := fun _ => some (0, false)) (fun k => ?_) (Ev.now _), by omega, by omega, fun h => absurd (h b hmem).2 (by omega)⟩
              simp only [spec_l26Read.l0, hbt, if_pos (show (i : Int) < (t.size : Int) by omega), if_pos (show (0 : Int) ≤ (i : Int) by omega), if_neg (show ¬ ((b.toNat : Nat) : Int) < 48 by omega), if_pos (show ((b.toNat : Nat) : Int) > 57 by omega)]
            · obtain ⟨x, ok, hev, hx0, hx1, hx2⟩ := ih (i + 1) (10 * n + (b.toNat - 48)) (by omega) (by omega)
              refine ⟨x, ok, Ev.step (fun k => ?_) hev, hx0, hx1, fun h => ?_⟩
              · have e : wrap64 ((wrap64 (10 * (n : Int))) + ((((b.toNat : Nat) : Int) - 48) % 256)) = ((10 * n + (b.toNat - 48) : Nat) : Int) := by
                  rw [wrap_id (x := 10 * (n : Int)) (by omega) (by omega), wrap_id (by omega) (by omega)]; omega
                simp only [spec_l26Read.l0, hbt, if_pos (show (i : Int) < (t.size : Int) by omega), if_pos (show (0 : Int) ≤ (i : Int) by omega), if_neg (show ¬ ((b.toNat : Nat) : Int) < 48 by omega), if_neg (show ¬ ((b.toNat : Nat) : Int) > 57 by omega), e, wrap_nat_succ (show i < 9223372036854775807 by omega)]
              · rw [hx2 (fun c hc => h c (by rw [List.drop_eq_getElem_cons hlt]; exact List.mem_cons_of_mem _ hc)), List.drop_eq_getElem_cons hlt, hbb]
                rfl
      obtain ⟨x, ok, hev, hx0, hx1, hx2⟩ := key t.size 0 0 (by omega) (by omega)
      refine ⟨x, ok, Ev.step (fun k => rfl) ?_, hx0, hx1, fun _ _ h => hx2 (by simpa using h)⟩
      simp only [spec_l26Read.j0, Bool.false_eq_true, if_false]
      exact hev
theorem itoa_len9 {n : Int} (h0 : 0 ≤ n) (h1 : n ≤ 999999999) : 1 ≤ (numS n).size ∧ (numS n).size ≤ 9 := by
  have key : ∀ (m u : Nat), u < 10 ^ (m + 1) → (Lib.decDigits u).length ≤ m + 1 := by
    intro m
    induction m with
    | zero => intro u hu; rw [Lib.decDigits, dif_pos (by omega)]; simp
    | succ m ih =>
      intro u hu
      rw [Lib.decDigits]
      split
      · simp
      · rw [List.length_append, List.length_singleton]
        have := ih (u / 10) (by rw [Nat.pow_succ] at hu; omega)
        omega
  have e : (numS n).size = (Lib.decDigits n.toNat).length := by
    rw [← data_length, numS_data]
    unfold Lib.itoa
    rw [if_neg (by omega)]
  have := key 8 n.toNat (by omega)
  have hne := dec_ne n.toNat
  rw [e]
  refine ⟨?_, this⟩
  cases h : Lib.decDigits n.toNat with
  | nil => exact absurd h hne
  | cons _ _ => simp
theorem read_num {n : Int} (h0 : 0 ≤ n) (h1 : n ≤ 999999999) : ∃ ok, Ev (fun k => spec_l26Read.f k (numS n)) (n, ok) := by
  obtain ⟨x, ok, hev, _, _, hx⟩ := read_ev (numS n)
  have hl := itoa_len9 h0 h1
  have hd : (numS n).data.toList = Lib.decDigits n.toNat := by
    rw [numS_data]
    unfold Lib.itoa
    rw [if_neg (by omega)]
  have := hx hl.1 hl.2 (by rw [hd]; exact dec_digits _)
  rw [hd, val_dec] at this
  obtain rfl : x = n := by omega
  exact ⟨ok, hev⟩
end Go.Proofs.YtbpffdhkeinmcaaDoor.L
namespace Go.Proofs.YtbpffdhkeinmcaaDoor.Pure
open Go.RowKit Go.Proofs.YtbpffdhkeinmcaaDoor.QF Go.Proofs.YtbpffdhkeinmcaaDoorW.PrintWords Go.Proofs.YtbpffdhkeinmcaaDoorW.PrintLast Go.Proofs.YtbpffdhkeinmcaaDoor.L
set_option linter.unusedVariables false
set_option linter.unusedSimpArgs false
theorem evIfn {α : Type} {p : Prop} [Decidable p] {g h : Nat → Option α} {r : α} (hp : ¬ p) (hh : Ev h r) : Ev (fun k => if p then g k else h k) r := by simpa only [if_neg hp] using hh
theorem evCase {α : Type} {p : Prop} [Decidable p] {g : Nat → Option α} {r : α} (hg : p → Ev g r) : Ev (fun k => if p then g k else some r) r := by
  by_cases h : p
  · simpa only [if_pos h] using hg h
  · simpa only [if_neg h] using Ev.now r
def psOf (a b c d : Int) : List ByteArray := [⟨#[107, 101, 121]⟩, numS a, ⟨#[108, 111, 103]⟩, numS b, ⟨#[98, 111, 117, 110, 100]⟩, numS c, ⟨#[99, 97, 112]⟩, numS d]
def isE (s : ByteArray) (a b c d : Int) : Prop := confB a b c d = true ∧ a ≤ 999999999 ∧ s = confTextS a b c d
theorem e_join {s : ByteArray} {a b c d : Int} (h : isE s a b c d) : s = joinS (psOf a b c d) := by
  obtain ⟨h1, h2, h3⟩ := h
  rw [h3]
  unfold confTextS
  rw [h1, decide_eq_true h2, if_pos (by decide)]
  apply ba_ext
  unfold psOf
  simp [joinS, spc, ByteArray.data_append]
theorem e_size {s : ByteArray} {a b c d : Int} (h : isE s a b c d) : s.size ≤ 60 := by
  obtain ⟨h1, h2, h3⟩ := h
  have hl := confB_log h1
  have ha := itoa_len9 (n := a) (by omega) (by omega)
  have hb := itoa_len9 (n := b) (by omega) (by omega)
  have hc := itoa_len9 (n := c) (by omega) (by omega)
  have hd := itoa_len9 (n := d) (by omega) (by omega)
  rw [h3]
  unfold confTextS
  rw [h1, decide_eq_true h2, if_pos (by decide)]
  simp only [ByteArray.size_append, l4, l5, l7, l5']
  omega
theorem noSp_of {p : ByteArray} (h : p.data.toList.all (fun b => b != 32) = true) : noSp p := fun b hb => by
  have := List.all_eq_true.1 h b hb
  simpa using this
theorem e_noSp {s : ByteArray} {a b c d : Int} (h : isE s a b c d) : ∀ p, p ∈ psOf a b c d → noSp p := by
  obtain ⟨h1, h2, h3⟩ := h
  have hl := confB_log h1
  intro p hp
  unfold psOf at hp
  simp only [List.mem_cons, List.not_mem_nil, or_false] at hp
  rcases hp with rfl | rfl | rfl | rfl | rfl | rfl | rfl | rfl
  · exact noSp_of (by decide)
  · exact numS_noSp (by omega)
  · exact noSp_of (by decide)
  · exact numS_noSp (by omega)
  · exact noSp_of (by decide)
  · exact numS_noSp (by omega)
  · exact noSp_of (by decide)
  · exact numS_noSp (by omega)
theorem text_eq {a b : ByteArray} (h : a.toList = b.toList) : a = b := by
  rw [ByteArray.toList_eq, ByteArray.toList_eq] at h
  exact ba_ext h
theorem specE {s : ByteArray} {a b c d : Int} (h : isE s a b c d) : Ev (fun k => spec_ConfRead.f k s) (a, b, c, d, true) := by
  have hs := e_size h
  have hj := e_join h
  have hn := e_noSp h
  obtain ⟨h1, h2, h3⟩ := h
  have hl := confB_log h1
  have hcut : cutG s s.size [] 0 0 = psOf a b c d := by
    have := cut_join s (psOf a b c d) [] [] (by simp [psOf]) hn (by rw [List.nil_append, ← hj]) (by simp [psOf])
    rw [← hj] at this
    simpa using this
  have hcv := cut_ev s (by omega) s.size 0 0 [] (by omega) (Nat.le_refl _) (by simp)
  rw [hcut] at hcv
  obtain ⟨oa, ha⟩ := read_num (n := a) (by omega) (by omega)
  obtain ⟨ob, hb⟩ := read_num (n := b) (by omega) (by omega)
  obtain ⟨oc, hc⟩ := read_num (n := c) (by omega) (by omega)
  obtain ⟨od, hd⟩ := read_num (n := d) (by omega) (by omega)
  unfold spec_ConfRead.f
  refine Ev.bind (show Ev (fun k => spec_l26Cut.f k s 32 9) (psOf a b c d) from hcv) ?_
  simp only [if_neg (show ¬ (s.size : Int) > 60 by omega), show (((psOf a b c d).length : Int) != 8) = false from rfl]
  refine Ev.step (fun k => rfl) ?_
  simp only [spec_ConfRead.j0, Bool.false_eq_true, if_false]
  refine evIf (show 1 < ((psOf a b c d).length : Int) by simp [psOf]) (Ev.bind (show Ev (fun k => spec_l26Read.f k (rdOf ByteArray.empty (psOf a b c d) 1)) (a, oa) from ha) ?_)
  refine evIf (show 3 < ((psOf a b c d).length : Int) by simp [psOf]) (Ev.bind (show Ev (fun k => spec_l26Read.f k (rdOf ByteArray.empty (psOf a b c d) 3)) (b, ob) from hb) ?_)
  refine evIf (show 5 < ((psOf a b c d).length : Int) by simp [psOf]) (Ev.bind (show Ev (fun k => spec_l26Read.f k (rdOf ByteArray.empty (psOf a b c d) 5)) (c, oc) from hc) ?_)
  refine evIf (show 7 < ((psOf a b c d).length : Int) by simp [psOf]) (Ev.bind (show Ev (fun k => spec_l26Read.f k (rdOf ByteArray.empty (psOf a b c d) 7)) (d, od) from hd) ?_)
  refine Ev.bind (evConst (confOk_eq a b c d)) ?_
  simp only [h1, if_true]
  refine Ev.bind (specText_ev a b c d) ?_
  rw [← h3]
  exact evIf rfl (Ev.now _)
theorem implE {s : ByteArray} {a b c d : Int} (h : isE s a b c d) : Ev (fun k => impl_ConfRead.f k s) (a, b, c, d, true) := by
  have hs := e_size h
  have hj := e_join h
  have hn := e_noSp h
  obtain ⟨h1, h2, h3⟩ := h
  have hl := confB_log h1
  have hsp := split_join (psOf a b c d) (by simp [psOf]) hn
  rw [← hj] at hsp
  have e : strings_Split.f s (⟨#[32]⟩ : ByteArray) = some (psOf a b c d) := by
    unfold strings_Split.f
    rw [if_pos ⟨by omega, by decide⟩]
    exact congrArg some hsp
  unfold impl_ConfRead.f
  rw [e]
  refine Ev.bind (Ev.now (psOf a b c d)) ?_
  refine evIf rfl ?_
  have r1 : impl_lineNumber.f (rdOf ByteArray.empty (psOf a b c d) ((2 * 0 + 1 : Nat) : Int)) = some (a, true) := lineNumber_num (by omega) (by omega)
  have r2 : impl_lineNumber.f (rdOf ByteArray.empty (psOf a b c d) ((2 * (0 + 1) + 1 : Nat) : Int)) = some (b, true) := lineNumber_num (by omega) (by omega)
  have r3 : impl_lineNumber.f (rdOf ByteArray.empty (psOf a b c d) ((2 * (0 + 1 + 1) + 1 : Nat) : Int)) = some (c, true) := lineNumber_num (by omega) (by omega)
  have r4 : impl_lineNumber.f (rdOf ByteArray.empty (psOf a b c d) ((2 * (0 + 1 + 1 + 1) + 1 : Nat) : Int)) = some (d, true) := lineNumber_num (by omega) (by omega)
  unfold crGo
  refine evBindc r1 ?_
  simp only [if_true]
  unfold crGo
  refine evBindc r2 ?_
  simp only [if_true]
  unfold crGo
  refine evBindc r3 ?_
  simp only [if_true]
  unfold crGo
  refine evBindc r4 ?_
  simp only [if_true]
  unfold crGo
  refine Ev.bind (show Ev (fun k => impl_confText.f k a b c d) (confTextS a b c d) from implTextIn_ev a b c d) ?_
  rw [← h3]
  exact evIf rfl (Ev.now _)
theorem confTextS_true {a b c d : Int} {s : ByteArray} (h : confTextS a b c d = s) (hb : confB a b c d = true) (h9 : a ≤ 999999999) : isE s a b c d := ⟨hb, h9, h.symm⟩
theorem specN {s : ByteArray} (hs : s.size ≤ 1048576) (h : ¬ ∃ a b c d, isE s a b c d) : Ev (fun k => spec_ConfRead.f k s) (0, 0, 0, 0, false) := by
  have hcv := cut_ev s (by omega) s.size 0 0 [] (by omega) (Nat.le_refl _) (by simp)
  generalize cutG s s.size [] 0 0 = L at hcv
  unfold spec_ConfRead.f
  refine Ev.bind (show Ev (fun k => spec_l26Cut.f k s 32 9) L from hcv) ?_
  have hno : Ev (fun k => spec_ConfRead.j0 k s L true) (0, 0, 0, 0, false) := by
    refine Ev.step (fun k => rfl) ?_
    simp only [spec_ConfRead.j0, if_true]
    exact Ev.now _
  by_cases h6 : (s.size : Int) > 60
  · simp only [if_pos h6]; exact hno
  · simp only [if_neg h6]
    by_cases hl : L.length = 8
    · rw [show ((L.length : Int) != 8) = false by simp [hl]]
      obtain ⟨x1, o1, e1, p1, q1, _⟩ := read_ev (rdOf ByteArray.empty L 1)
      obtain ⟨x2, o2, e2, p2, q2, _⟩ := read_ev (rdOf ByteArray.empty L 3)
      obtain ⟨x3, o3, e3, p3, q3, _⟩ := read_ev (rdOf ByteArray.empty L 5)
      obtain ⟨x4, o4, e4, p4, q4, _⟩ := read_ev (rdOf ByteArray.empty L 7)
      refine Ev.step (fun k => rfl) ?_
      simp only [spec_ConfRead.j0, Bool.false_eq_true, if_false]
      refine evIf (by omega) (Ev.bind e1 (evIf (by omega) (Ev.bind e2 (evIf (by omega) (Ev.bind e3 (evIf (by omega) (Ev.bind e4 ?_)))))))
      refine Ev.bind (evConst (confOk_eq x1 x2 x3 x4)) ?_
      cases hb : confB x1 x2 x3 x4 with
      | false => simp only [Bool.false_eq_true, if_false]; exact Ev.now _
      | true =>
        simp only [if_true]
        refine Ev.bind (specText_ev x1 x2 x3 x4) ?_
        have hne : ¬ (confTextS x1 x2 x3 x4).toList = s.toList := fun e => h ⟨_, _, _, _, confTextS_true (text_eq e) hb q1⟩
        simp only [if_neg hne]
        exact Ev.now _
    · rw [show ((L.length : Int) != 8) = true by simp; omega]
      exact hno
theorem implN {s : ByteArray} (hs : s.size ≤ 1048576) (h : ¬ ∃ a b c d, isE s a b c d) : Ev (fun k => impl_ConfRead.f k s) (0, 0, 0, 0, false) := by
  have e : strings_Split.f s (⟨#[32]⟩ : ByteArray) = some (Lib.splitB spc 0 (Lib.countB s spc) s) := by
    unfold strings_Split.f
    rw [if_pos ⟨by omega, by decide⟩]
    rfl
  have hsz := split_size spc (Lib.countB s spc) s 1048576 hs
  have hem : s = ⟨#[]⟩ → (Lib.splitB spc 0 (Lib.countB s spc) s).length ≠ 8 := by
    rintro rfl
    have := split_join [⟨#[]⟩] (by simp) (by intro p hp; rw [List.mem_singleton] at hp; subst hp; exact noSp_of (by decide))
    rw [show joinS [(⟨#[]⟩ : ByteArray)] = ⟨#[]⟩ from rfl] at this
    rw [this]
    decide
  generalize Lib.splitB spc 0 (Lib.countB s spc) s = L at e hsz hem
  unfold impl_ConfRead.f
  rw [e]
  refine Ev.bind (Ev.now L) ?_
  by_cases hl : L.length = 8
  · refine evIf hl ?_
    have rd : ∀ j : Nat, j < 8 → ∃ p, impl_lineNumber.f (rdOf ByteArray.empty L (j : Int)) = some p := fun j hj => by
      apply lineNumber_some
      unfold rdOf
      rw [Int.toNat_natCast, getD_lt _ (by omega)]
      exact hsz _ (List.getElem_mem _)
    have fin : ∀ a b c d : Int, Ev (fun k => crGo k s L 0 4 [a, b, c, d]) (0, 0, 0, 0, false) := by
      intro a b c d
      unfold crGo
      refine Ev.bind (show Ev (fun k => impl_confText.f k a b c d) (confTextS a b c d) from implTextIn_ev a b c d) ?_
      have hne : ¬ (confTextS a b c d).toList = s.toList := fun e => by
        have e := text_eq e
        by_cases hb : confB a b c d = true ∧ a ≤ 999999999
        · exact h ⟨_, _, _, _, confTextS_true e hb.1 hb.2⟩
        · unfold confTextS at e
          rw [if_neg (by simpa using hb)] at e
          exact hem e.symm hl
      exact evIfn hne (Ev.now _)
    obtain ⟨⟨x1, o1⟩, e1⟩ := rd 1 (by omega)
    obtain ⟨⟨x2, o2⟩, e2⟩ := rd 3 (by omega)
    obtain ⟨⟨x3, o3⟩, e3⟩ := rd 5 (by omega)
    obtain ⟨⟨x4, o4⟩, e4⟩ := rd 7 (by omega)
    unfold crGo
    refine evBindc e1 ?_
    refine evCase (fun ho => ?_)
    unfold crGo
    refine evBindc e2 ?_
    refine evCase (fun ho => ?_)
    unfold crGo
    refine evBindc e3 ?_
    refine evCase (fun ho => ?_)
    unfold crGo
    refine evBindc e4 ?_
    refine evCase (fun ho => ?_)
    exact fin x1 x2 x3 x4
  · exact evIfn hl (Ev.now _)
theorem FnExactConfRead : laws_FnExactConfRead.Pure := by
  intro s _
  apply Ev.rounds
  unfold laws_FnExactConfRead.f
  by_cases hs : (s.size : Int) > 1048576
  · exact evIf hs (Ev.now _)
  · refine evIfn hs ?_
    by_cases hE : ∃ a b c d, isE s a b c d
    · obtain ⟨a, b, c, d, h⟩ := hE
      refine Ev.bind (specE h) (Ev.bind (implE h) ?_)
      refine Ev.bind (evConst (show laws_eqConf.f a b c d a b c d = some true by unfold laws_eqConf.f; simp)) ?_
      exact evIf rfl (evIfn (by simp) (Ev.now _))
    · refine Ev.bind (specN (by omega) hE) (Ev.bind (implN (by omega) hE) ?_)
      refine Ev.bind (evConst (show laws_eqConf.f 0 0 0 0 0 0 0 0 = some true by unfold laws_eqConf.f; simp)) ?_
      exact evIf rfl (evIfn (by simp) (Ev.now _))
end Go.Proofs.YtbpffdhkeinmcaaDoor.Pure
