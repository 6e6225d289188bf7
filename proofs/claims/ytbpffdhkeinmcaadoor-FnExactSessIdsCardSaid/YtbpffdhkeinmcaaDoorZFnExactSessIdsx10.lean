/- Part of the proof of the law FnExactSessIds: what it uses of the texts that this session and the kit's print wrote. -/
import Derived.Test.YtbpffdhkeinmcaaDoorZFnExactSessIdsx0
import Derived.Test.YtbpffdhkeinmcaaDoorZFnExactSessIdsx1
import Derived.Test.YtbpffdhkeinmcaaDoorZFnExactSessIdsx2
import Derived.Test.YtbpffdhkeinmcaaDoorZFnExactSessIdsx3
import Derived.Test.YtbpffdhkeinmcaaDoorZFnExactSessIdsx4
import Derived.Test.YtbpffdhkeinmcaaDoorZFnExactSessIdsx5
import Derived.Test.YtbpffdhkeinmcaaDoorZFnExactSessIdsx7
import Derived.Test.YtbpffdhkeinmcaaDoorZFnExactSessIdsx8
import Derived.Test.YtbpffdhkeinmcaaDoorZFnExactSessIdsx9
import Derived.Deep.Slices
import Derived.WideShapes
import Derived.ProofKit
import Derived.KernelRfl
import Derived.Lib.MapLaws
namespace Go.Proofs.YtbpffdhkeinmcaaDoor.QC
open Go.RowKit Go.Proofs.YtbpffdhkeinmcaaDoorW.PrintWords Go.Proofs.YtbpffdhkeinmcaaDoorW.PrintLast Go.Proofs.YtbpffdhkeinmcaaDoorW.PrintMore
attribute [local go_sem] max2_int min2_int max_two min_two max_three min_three max_four min_four   -- for this text's walks alone
set_option linter.unusedVariables false
set_option linter.unusedSimpArgs false
mutual
def laws_FnExactSessIds.j0 : Nat → List (S29) → List Int → Bool → List (S32) → List Int → Bool → Bool → Int → Int → Int → Int → Option (Bool)
  | 0, _, _, _, _, _, _, _, _, _, _, _ => none
  | k + 1, x1, x6, x7, x8, x9, x10, x46, x359000, x359001, x359002, x359003 => if x46 = true then (some false) else ((laws_toReqS.f k x1).bind fun t383 => ((laws_eqReqS.f k x8 t383).bind fun t386 => (if t386 = true then ((laws_markReqS.f k x8 1).bind fun bt387 => (if bt387.1 < 0 then (laws_FnExactSessIds.j1 k x1 x6 x7 x9 true x359000 x359001 x359002 x359003) else ((laws_eqIntS.f k x9 x6).bind fun t389 => (if t389 = true then (laws_FnExactSessIds.j1 k x1 x6 x7 x9 (x10 != x7) x359000 x359001 x359002 x359003) else (laws_FnExactSessIds.j1 k x1 x6 x7 x9 true x359000 x359001 x359002 x359003))))) else (some false))))
def laws_FnExactSessIds.j1 : Nat → List (S29) → List Int → Bool → List Int → Bool → Int → Int → Int → Int → Option (Bool)
  | 0, _, _, _, _, _, _, _, _, _ => none
  | k + 1, x1, x6, x7, x9, x67, x359000, x359001, x359002, x359003 => if x67 = true then (some false) else ((laws_markIntS.f k x9 1).bind fun bt390 => ((laws_heldIntS.f k bt390.2 1).bind fun t392 => (if t392 < 0 then (some false) else (if t392 = bt390.1 then ((laws_toConf.f x359000 x359001 x359002 x359003).bind fun bt393 => ((laws_toReqS.f k x1).bind fun t397 => ((impl_SessIds.f k bt393.1 bt393.2.1 bt393.2.2.1 bt393.2.2.2 t397).bind fun bt400 => ((laws_eqIntS.f k bt400.1 x6).bind fun t404 => (if t404 = true then (laws_FnExactSessIds.j2 k bt390.2 bt390.1 (bt400.2 != x7)) else (laws_FnExactSessIds.j2 k bt390.2 bt390.1 true)))))) else (some false)))))
def laws_FnExactSessIds.j2 : Nat → List Int → Int → Bool → Option (Bool)
  | 0, _, _, _ => none
  | k + 1, x9, x12, x95 => if x95 = true then (some false) else ((laws_heldIntS.f k x9 1).bind fun t405 => (if t405 < 0 then (some false) else (if t405 = x12 then (some true) else (some false))))
end
def laws_FnExactSessIds.f (k : Nat) (a0_0 : Int) (a0_1 : Int) (a0_2 : Int) (a0_3 : Int) (l1 : List (S29)) : Option (Bool) := (laws_szReqS.f k l1 1048576).bind fun t359 => (if t359 < 0 then (some true) else ((laws_toConf.f a0_0 a0_1 a0_2 a0_3).bind fun bt360 => ((laws_toReqS.f k l1).bind fun t364 => ((spec_SessIds.f k bt360.1 bt360.2.1 bt360.2.2.1 bt360.2.2.2 t364).bind fun bt367 => ((laws_toReqS.f k l1).bind fun t371 => ((laws_toConf.f a0_0 a0_1 a0_2 a0_3).bind fun bt374 => ((impl_SessIds.f k bt374.1 bt374.2.1 bt374.2.2.1 bt374.2.2.2 t371).bind fun bt378 => ((laws_eqIntS.f k bt378.1 bt367.1).bind fun t382 => (if t382 = true then (laws_FnExactSessIds.j0 k l1 bt367.1 bt367.2 t371 bt378.1 bt378.2 (bt378.2 != bt367.2) a0_0 a0_1 a0_2 a0_3) else (laws_FnExactSessIds.j0 k l1 bt367.1 bt367.2 t371 bt378.1 bt378.2 true a0_0 a0_1 a0_2 a0_3))))))))))
set_option maxHeartbeats 8000000 in
set_option maxRecDepth 100000 in
theorem laws_FnExactSessIds.calls (k : Nat) (a0_0 : Int) (a0_1 : Int) (a0_2 : Int) (a0_3 : Int) (A1 : Option Addr) (c1 : Nat) (l1 : List (S29)) (r : Bool) (w : World) (hr1 : Kd.C k29 w A1 l1.length l1) (hc1 : l1.length ≤ c1) (h : laws_FnExactSessIds.f k a0_0 a0_1 a0_2 a0_3 l1 = some r) (hG : TabG w) :
    Calls Tryd.prog 6 #[.agg #[.int .i64 a0_0, .int .i64 a0_1, .int .i64 a0_2, .int .i64 a0_3], .slice A1 l1.length c1] w fun e w' => e = .returned (.bool r) ∧ Below w.heap.size w w' := by
  have hu23 := Tryd.underlying23
  have HR1 := Aside0.mk hr1
  have HC1 := Aside0.mk hc1
  clear hr1 hc1
  have HB := Aside0.mk (Below.refl w.heap.size w)
  have H : ((laws_szReqS.f k l1 1048576).bind fun t359 => (if t359 < 0 then (some true) else ((laws_toConf.f a0_0 a0_1 a0_2 a0_3).bind fun bt360 => ((laws_toReqS.f k l1).bind fun t364 => ((spec_SessIds.f k bt360.1 bt360.2.1 bt360.2.2.1 bt360.2.2.2 t364).bind fun bt367 => ((laws_toReqS.f k l1).bind fun t371 => ((laws_toConf.f a0_0 a0_1 a0_2 a0_3).bind fun bt374 => ((impl_SessIds.f k bt374.1 bt374.2.1 bt374.2.2.1 bt374.2.2.2 t371).bind fun bt378 => ((laws_eqIntS.f k bt378.1 bt367.1).bind fun t382 => (if t382 = true then (laws_FnExactSessIds.j0 k l1 bt367.1 bt367.2 t371 bt378.1 bt378.2 (bt378.2 != bt367.2) a0_0 a0_1 a0_2 a0_3) else (laws_FnExactSessIds.j0 k l1 bt367.1 bt367.2 t371 bt378.1 bt378.2 true a0_0 a0_1 a0_2 a0_3))))))))))) = some r := h
  clear h
  replace H := Option.bind_eq_some_iff.mp H
  obtain ⟨t359, A30, H⟩ := H
  replace H : (if t359 < 0 then (some true) else ((laws_toConf.f a0_0 a0_1 a0_2 a0_3).bind fun bt360 => ((laws_toReqS.f k l1).bind fun t364 => ((spec_SessIds.f k bt360.1 bt360.2.1 bt360.2.2.1 bt360.2.2.2 t364).bind fun bt367 => ((laws_toReqS.f k l1).bind fun t371 => ((laws_toConf.f a0_0 a0_1 a0_2 a0_3).bind fun bt374 => ((impl_SessIds.f k bt374.1 bt374.2.1 bt374.2.2.1 bt374.2.2.2 t371).bind fun bt378 => ((laws_eqIntS.f k bt378.1 bt367.1).bind fun t382 => (if t382 = true then (laws_FnExactSessIds.j0 k l1 bt367.1 bt367.2 t371 bt378.1 bt378.2 (bt378.2 != bt367.2) a0_0 a0_1 a0_2 a0_3) else (laws_FnExactSessIds.j0 k l1 bt367.1 bt367.2 t371 bt378.1 bt378.2 true a0_0 a0_1 a0_2 a0_3)))))))))) = some r := H
  have A3 := Aside0.mk A30
  clear A30
  by_cases c4 : t359 < 0
  · rw [if_pos c4] at H
    have c4b0 : decide (t359 < 0) = true := decide_eq_true c4
    clear c4
    obtain rfl := Option.some.inj H
    go_enter Tryd.func6, Tryd.ntmps6
    go_wp2_with (first | ((with_reducible refine gate_dst (N := 2) rfl ?_); refine box_event ?hg (N := 2) ?hd (cs := #[.int .i64 a0_0, .int .i64 a0_1, .int .i64 a0_2, .int .i64 a0_3]) (t := 23) ?hr ?_; (case hd => rfl); (case hg => rfl); (case hr => first | (go_simp; done) | (go_simp; rfl)); intro gb358 hg w5 hbox hb; have n0_ := Aside0.mk (below_step (by repeat (first | (with_reducible first | exact HB.out | apply below_alloc | apply pw_below_drewN | apply below_drew1) | exact HB.out)) hb); have n1_ := Aside0.mk (hbox); have n2_ := Aside0.mk ((by rw [hg]; exact (below_size (by repeat (first | (with_reducible first | exact HB.out | apply below_alloc | apply pw_below_drewN | apply below_drew1) | exact HB.out))) : w.heap.size ≤ gb358)); have n3_ := Aside0.mk ((by rw [hg]; exact (below_size (by repeat (first | (with_reducible first | exact HB.out | apply below_alloc | apply pw_below_drewN | apply below_drew1) | exact HB.out))) : w.heap.size ≤ gb358)); clear HB; have HB := n0_; have BK358 := n1_; have GW358 := n2_; have GE358 := n3_; clear n0_ n1_ n2_ n3_; clear hb hbox hg) | ((with_reducible refine gate_callee (f := 21) rfl ?_); refine goesL_ (some 18) rfl rfl Tryd.func21 (by kernel_rfl) rfl #[.slice A1 l1.length c1, .int .i64 1048576] rfl (by (try simp only [List.map_toArray, List.map_cons, List.map_nil]); first | done | rfl | (simp only [List.length_drop, List.length_take]; rfl)) ?_; (with_reducible refine (laws_szReqS.calls k _ _ l1 1048576 t359 _ ?side1 ?side2 A3.out).mono ?_); (case side1 => repeat (first | exact (Kd.C_below HR1.out HB.out) | (with_reducible refine Kd.C_alloc ?_ _) | (with_reducible refine Kd.C_drewN ?_ _) | (with_reducible refine Kd.C_drew ?_))); (case side2 => exact HC1.out); rintro e w6 ⟨rfl, hb⟩; refine ⟨_, rfl, ?_⟩; have n0_ := Aside0.mk (blk_below (g := gb358) (o := .cells #[.int .i64 a0_0, .int .i64 a0_1, .int .i64 a0_2, .int .i64 a0_3] 23 (0, 0)) (by (with_reducible repeat (first | refine blk_drewN ?_ _ | refine blk_drew ?_ | refine blk_alloc ?_ _)); exact BK358.out) hb); have n1_ := Aside0.mk (below_step (by repeat (first | (with_reducible first | exact HB.out | apply below_alloc | apply pw_below_drewN | apply below_drew1 | refine below_set ?_ GE358.out) | exact HB.out)) hb); clear BK358; clear HB; have BK358 := n0_; have HB := n1_; clear n0_ n1_; (try clear hb); (try clear hb2); (try clear hk); (try clear hi)))
    go_ret
    exact ⟨by first | rfl | (simp [errW_none, errW_some] <;> rfl) | (simp [*, errW_none, errW_some] <;> rfl), by repeat (first | (with_reducible first | exact HB.out | apply below_alloc | apply pw_below_drewN | apply below_drew1 | refine below_set ?_ GE358.out) | exact HB.out)⟩
  · rw [if_neg c4] at H
    have c4b0 : decide (t359 < 0) = false := decide_eq_false c4
    clear c4
    replace H := Option.bind_eq_some_iff.mp H
    obtain ⟨⟨t360, t361, t362, t363⟩, A70, H⟩ := H
    replace H : ((laws_toReqS.f k l1).bind fun t364 => ((spec_SessIds.f k t360 t361 t362 t363 t364).bind fun bt367 => ((laws_toReqS.f k l1).bind fun t371 => ((laws_toConf.f a0_0 a0_1 a0_2 a0_3).bind fun bt374 => ((impl_SessIds.f k bt374.1 bt374.2.1 bt374.2.2.1 bt374.2.2.2 t371).bind fun bt378 => ((laws_eqIntS.f k bt378.1 bt367.1).bind fun t382 => (if t382 = true then (laws_FnExactSessIds.j0 k l1 bt367.1 bt367.2 t371 bt378.1 bt378.2 (bt378.2 != bt367.2) a0_0 a0_1 a0_2 a0_3) else (laws_FnExactSessIds.j0 k l1 bt367.1 bt367.2 t371 bt378.1 bt378.2 true a0_0 a0_1 a0_2 a0_3)))))))) = some r := H
    have A7 := Aside0.mk A70
    clear A70
    replace H := Option.bind_eq_some_iff.mp H
    obtain ⟨t364, A80, H⟩ := H
    replace H : ((spec_SessIds.f k t360 t361 t362 t363 t364).bind fun bt367 => ((laws_toReqS.f k l1).bind fun t371 => ((laws_toConf.f a0_0 a0_1 a0_2 a0_3).bind fun bt374 => ((impl_SessIds.f k bt374.1 bt374.2.1 bt374.2.2.1 bt374.2.2.2 t371).bind fun bt378 => ((laws_eqIntS.f k bt378.1 bt367.1).bind fun t382 => (if t382 = true then (laws_FnExactSessIds.j0 k l1 bt367.1 bt367.2 t371 bt378.1 bt378.2 (bt378.2 != bt367.2) a0_0 a0_1 a0_2 a0_3) else (laws_FnExactSessIds.j0 k l1 bt367.1 bt367.2 t371 bt378.1 bt378.2 true a0_0 a0_1 a0_2 a0_3))))))) = some r := H
    have A8 := Aside0.mk A80
    clear A80
    replace H := Option.bind_eq_some_iff.mp H
    obtain ⟨⟨t367, t370⟩, A90, H⟩ := H
    replace H : ((laws_toReqS.f k l1).bind fun t371 => ((laws_toConf.f a0_0 a0_1 a0_2 a0_3).bind fun bt374 => ((impl_SessIds.f k bt374.1 bt374.2.1 bt374.2.2.1 bt374.2.2.2 t371).bind fun bt378 => ((laws_eqIntS.f k bt378.1 t367).bind fun t382 => (if t382 = true then (laws_FnExactSessIds.j0 k l1 t367 t370 t371 bt378.1 bt378.2 (bt378.2 != t370) a0_0 a0_1 a0_2 a0_3) else (laws_FnExactSessIds.j0 k l1 t367 t370 t371 bt378.1 bt378.2 true a0_0 a0_1 a0_2 a0_3)))))) = some r := H
    have A9 := Aside0.mk A90
    clear A90
    replace H := Option.bind_eq_some_iff.mp H
    obtain ⟨t371, A100, H⟩ := H
    replace H : ((laws_toConf.f a0_0 a0_1 a0_2 a0_3).bind fun bt374 => ((impl_SessIds.f k bt374.1 bt374.2.1 bt374.2.2.1 bt374.2.2.2 t371).bind fun bt378 => ((laws_eqIntS.f k bt378.1 t367).bind fun t382 => (if t382 = true then (laws_FnExactSessIds.j0 k l1 t367 t370 t371 bt378.1 bt378.2 (bt378.2 != t370) a0_0 a0_1 a0_2 a0_3) else (laws_FnExactSessIds.j0 k l1 t367 t370 t371 bt378.1 bt378.2 true a0_0 a0_1 a0_2 a0_3))))) = some r := H
    have A10 := Aside0.mk A100
    clear A100
    replace H := Option.bind_eq_some_iff.mp H
    obtain ⟨⟨t374, t375, t376, t377⟩, A110, H⟩ := H
    replace H : ((impl_SessIds.f k t374 t375 t376 t377 t371).bind fun bt378 => ((laws_eqIntS.f k bt378.1 t367).bind fun t382 => (if t382 = true then (laws_FnExactSessIds.j0 k l1 t367 t370 t371 bt378.1 bt378.2 (bt378.2 != t370) a0_0 a0_1 a0_2 a0_3) else (laws_FnExactSessIds.j0 k l1 t367 t370 t371 bt378.1 bt378.2 true a0_0 a0_1 a0_2 a0_3)))) = some r := H
    have A11 := Aside0.mk A110
    clear A110
    replace H := Option.bind_eq_some_iff.mp H
    obtain ⟨⟨t378, t381⟩, A120, H⟩ := H
    replace H : ((laws_eqIntS.f k t378 t367).bind fun t382 => (if t382 = true then (laws_FnExactSessIds.j0 k l1 t367 t370 t371 t378 t381 (t381 != t370) a0_0 a0_1 a0_2 a0_3) else (laws_FnExactSessIds.j0 k l1 t367 t370 t371 t378 t381 true a0_0 a0_1 a0_2 a0_3))) = some r := H
    have A12 := Aside0.mk A120
    clear A120
    have HC13 := Aside0.mk H
    clear H
    go_enter Tryd.func6, Tryd.ntmps6
    go_upto_region 8 with (first | ((with_reducible refine gate_dst (N := 2) rfl ?_); refine box_event ?hg (N := 2) ?hd (cs := #[.int .i64 a0_0, .int .i64 a0_1, .int .i64 a0_2, .int .i64 a0_3]) (t := 23) ?hr ?_; (case hd => rfl); (case hg => rfl); (case hr => first | (go_simp; done) | (go_simp; rfl)); intro gb358 hg w14 hbox hb; have n0_ := Aside0.mk (below_step (by repeat (first | (with_reducible first | exact HB.out | apply below_alloc | apply pw_below_drewN | apply below_drew1) | exact HB.out)) hb); have n1_ := Aside0.mk (hbox); have n2_ := Aside0.mk ((by rw [hg]; exact (below_size (by repeat (first | (with_reducible first | exact HB.out | apply below_alloc | apply pw_below_drewN | apply below_drew1) | exact HB.out))) : w.heap.size ≤ gb358)); have n3_ := Aside0.mk ((by rw [hg]; exact (below_size (by repeat (first | (with_reducible first | exact HB.out | apply below_alloc | apply pw_below_drewN | apply below_drew1) | exact HB.out))) : w.heap.size ≤ gb358)); clear HB; have HB := n0_; have BK358 := n1_; have GW358 := n2_; have GE358 := n3_; clear n0_ n1_ n2_ n3_; clear hb hbox hg) | ((with_reducible refine gate_callee (f := 21) rfl ?_); refine goesL_ (some 18) rfl rfl Tryd.func21 (by kernel_rfl) rfl #[.slice A1 l1.length c1, .int .i64 1048576] rfl (by (try simp only [List.map_toArray, List.map_cons, List.map_nil]); first | done | rfl | (simp only [List.length_drop, List.length_take]; rfl)) ?_; (with_reducible refine (laws_szReqS.calls k _ _ l1 1048576 t359 _ ?side1 ?side2 A3.out).mono ?_); (case side1 => repeat (first | exact (Kd.C_below HR1.out HB.out) | (with_reducible refine Kd.C_alloc ?_ _) | (with_reducible refine Kd.C_drewN ?_ _) | (with_reducible refine Kd.C_drew ?_))); (case side2 => exact HC1.out); rintro e w15 ⟨rfl, hb⟩; refine ⟨_, rfl, ?_⟩; have n0_ := Aside0.mk (blk_below (g := gb358) (o := .cells #[.int .i64 a0_0, .int .i64 a0_1, .int .i64 a0_2, .int .i64 a0_3] 23 (0, 0)) (by (with_reducible repeat (first | refine blk_drewN ?_ _ | refine blk_drew ?_ | refine blk_alloc ?_ _)); exact BK358.out) hb); have n1_ := Aside0.mk (below_step (by repeat (first | (with_reducible first | exact HB.out | apply below_alloc | apply pw_below_drewN | apply below_drew1 | refine below_set ?_ GE358.out) | exact HB.out)) hb); clear BK358; clear HB; have BK358 := n0_; have HB := n1_; clear n0_ n1_; (try clear hb); (try clear hb2); (try clear hk); (try clear hi); have hcz16_0 : w15.cell? ⟨gb358, 0, none⟩ = some (.int .i64 a0_0) := (blk_cell BK358.out 0).trans rfl; have hcz16_1 : w15.cell? ⟨gb358, 1, none⟩ = some (.int .i64 a0_1) := (blk_cell BK358.out 1).trans rfl; have hcz16_2 : w15.cell? ⟨gb358, 2, none⟩ = some (.int .i64 a0_2) := (blk_cell BK358.out 2).trans rfl; have hcz16_3 : w15.cell? ⟨gb358, 3, none⟩ = some (.int .i64 a0_3) := (blk_cell BK358.out 3).trans rfl; have hfz16_0 := blk_frozen BK358.out 0; have hfz16_1 := blk_frozen BK358.out 1; have hfz16_2 := blk_frozen BK358.out 2; have hfz16_3 := blk_frozen BK358.out 3) | ((with_reducible refine gate_callee (f := 10) rfl ?_); refine goesL_ (some 23) rfl rfl Tryd.func10 (by kernel_rfl) rfl #[.agg #[.int .i64 a0_0, .int .i64 a0_1, .int .i64 a0_2, .int .i64 a0_3]] rfl (by (try simp only [List.map_toArray, List.map_cons, List.map_nil]); first | done | rfl | (simp only [List.length_drop, List.length_take]; rfl)) ?_; (with_reducible refine (laws_toConf.calls a0_0 a0_1 a0_2 a0_3 t360 t361 t362 t363 _ A7.out).mono ?_); rintro e w17 ⟨rfl, hb⟩; refine ⟨_, rfl, ?_⟩; have n0_ := Aside0.mk (blk_below (g := gb358) (o := .cells #[.int .i64 a0_0, .int .i64 a0_1, .int .i64 a0_2, .int .i64 a0_3] 23 (0, 0)) (by (with_reducible repeat (first | refine blk_drewN ?_ _ | refine blk_drew ?_ | refine blk_alloc ?_ _)); exact BK358.out) hb); have n1_ := Aside0.mk (below_step (by repeat (first | (with_reducible first | exact HB.out | apply below_alloc | apply pw_below_drewN | apply below_drew1 | refine below_set ?_ GE358.out) | exact HB.out)) hb); clear BK358; clear HB; have BK358 := n0_; have HB := n1_; clear n0_ n1_; (try clear hb); (try clear hb2); (try clear hk); (try clear hi)) | ((with_reducible refine gate_callee (f := 23) rfl ?_); refine goesL_ (some 25) rfl rfl Tryd.func23 (by kernel_rfl) rfl #[.slice A1 l1.length c1] rfl (by (try simp only [List.map_toArray, List.map_cons, List.map_nil]); first | done | rfl | (simp only [List.length_drop, List.length_take]; rfl)) ?_; (with_reducible refine (laws_toReqS.calls k _ _ l1 t364 _ ?side1 ?side2 A8.out).mono ?_); (case side1 => repeat (first | exact (Kd.C_below HR1.out HB.out) | (with_reducible refine Kd.C_alloc ?_ _) | (with_reducible refine Kd.C_drewN ?_ _) | (with_reducible refine Kd.C_drew ?_))); (case side2 => exact HC1.out); rintro e w18 ⟨v365, rfl, ho0, hb⟩; refine ⟨_, rfl, ?_⟩; have n0_ := Aside0.mk (Kd.R_lower ho0 (below_size (by repeat (first | (with_reducible first | exact HB.out | apply below_alloc | apply pw_below_drewN | apply below_drew1 | refine below_set ?_ GE358.out) | exact HB.out)))); have n1_ := Aside0.mk (blk_below (g := gb358) (o := .cells #[.int .i64 a0_0, .int .i64 a0_1, .int .i64 a0_2, .int .i64 a0_3] 23 (0, 0)) (by (with_reducible repeat (first | refine blk_drewN ?_ _ | refine blk_drew ?_ | refine blk_alloc ?_ _)); exact BK358.out) hb); have n2_ := Aside0.mk (below_step (by repeat (first | (with_reducible first | exact HB.out | apply below_alloc | apply pw_below_drewN | apply below_drew1 | refine below_set ?_ GE358.out) | exact HB.out)) hb); clear BK358; clear HB; have HO366 := n0_; have BK358 := n1_; have HB := n2_; clear n0_ n1_ n2_; (try clear hb); (try clear hb2); (try clear hk); (try clear hi); (try clear ho0); obtain ⟨Ao19, co19, eo19⟩ := Kd.R_slice HO366.out; subst eo19) | ((with_reducible refine gate_callee (f := 22) rfl ?_); refine goesL_ (some 26) rfl rfl Tryd.func22 (by kernel_rfl) rfl #[.agg #[.int .i64 t360, .int .i64 t361, .int .i64 t362, .int .i64 t363], .slice Ao19 t364.length co19] rfl (by (try simp only [List.map_toArray, List.map_cons, List.map_nil]); first | done | rfl | (simp only [List.length_drop, List.length_take]; rfl)) ?_; (with_reducible refine (spec_SessIds.calls k t360 t361 t362 t363 _ _ t364 t367 t370 _ ?side1 ?side2 A9.out).mono ?_); (case side1 => repeat (first | exact (Kd.R_reads' HO366.out).2.2 | (with_reducible refine Kd.C_alloc ?_ _) | (with_reducible refine Kd.C_drewN ?_ _) | (with_reducible refine Kd.C_drew ?_))); (case side2 => exact (Kd.R_reads' HO366.out).2.1); rintro e w20 ⟨v368, rfl, ho0, hb⟩; refine ⟨_, rfl, ?_⟩; have n0_ := Aside0.mk (Kd.R_below (by (with_reducible repeat (first | apply Kd.R_alloc | apply Kd.R_drewN | apply Kd.R_drew)); exact HO366.out) hb); have n1_ := Aside0.mk (Kd.R_lower ho0 (below_size (by repeat (first | (with_reducible first | exact HB.out | apply below_alloc | apply pw_below_drewN | apply below_drew1 | refine below_set ?_ GE358.out) | exact HB.out)))); have n2_ := Aside0.mk (blk_below (g := gb358) (o := .cells #[.int .i64 a0_0, .int .i64 a0_1, .int .i64 a0_2, .int .i64 a0_3] 23 (0, 0)) (by (with_reducible repeat (first | refine blk_drewN ?_ _ | refine blk_drew ?_ | refine blk_alloc ?_ _)); exact BK358.out) hb); have n3_ := Aside0.mk (below_step (by repeat (first | (with_reducible first | exact HB.out | apply below_alloc | apply pw_below_drewN | apply below_drew1 | refine below_set ?_ GE358.out) | exact HB.out)) hb); clear HO366; clear BK358; clear HB; have HO366 := n0_; have HO369 := n1_; have BK358 := n2_; have HB := n3_; clear n0_ n1_ n2_ n3_; (try clear hb); (try clear hb2); (try clear hk); (try clear hi); (try clear ho0)) | ((with_reducible refine gate_callee (f := 23) rfl ?_); refine goesL_ (some 30) rfl rfl Tryd.func23 (by kernel_rfl) rfl #[.slice A1 l1.length c1] rfl (by (try simp only [List.map_toArray, List.map_cons, List.map_nil]); first | done | rfl | (simp only [List.length_drop, List.length_take]; rfl)) ?_; (with_reducible refine (laws_toReqS.calls k _ _ l1 t371 _ ?side1 ?side2 A10.out).mono ?_); (case side1 => repeat (first | exact (Kd.C_below HR1.out HB.out) | (with_reducible refine Kd.C_alloc ?_ _) | (with_reducible refine Kd.C_drewN ?_ _) | (with_reducible refine Kd.C_drew ?_))); (case side2 => exact HC1.out); rintro e w21 ⟨v372, rfl, ho0, hb⟩; refine ⟨_, rfl, ?_⟩; have n0_ := Aside0.mk (Kd.R_elder' (by (with_reducible repeat (first | apply Kd.R_alloc | apply Kd.R_drewN | apply Kd.R_drew)); exact HO366.out) (Kd.R_base ho0) hb); have n1_ := Aside0.mk (Kd.R_below (by (with_reducible repeat (first | apply Kd.R_alloc | apply Kd.R_drewN | apply Kd.R_drew)); exact HO369.out) hb); have n2_ := Aside0.mk (Kd.R_lower (Kd.R_new' ho0 (Kd.R_lt (by (with_reducible repeat (first | apply Kd.R_alloc | apply Kd.R_drewN | apply Kd.R_drew)); exact HO366.out))) (below_size (by repeat (first | (with_reducible first | exact HB.out | apply below_alloc | apply pw_below_drewN | apply below_drew1 | refine below_set ?_ GE358.out) | exact HB.out)))); have n3_ := Aside0.mk (blk_below (g := gb358) (o := .cells #[.int .i64 a0_0, .int .i64 a0_1, .int .i64 a0_2, .int .i64 a0_3] 23 (0, 0)) (by (with_reducible repeat (first | refine blk_drewN ?_ _ | refine blk_drew ?_ | refine blk_alloc ?_ _)); exact BK358.out) hb); have n4_ := Aside0.mk (below_step (by repeat (first | (with_reducible first | exact HB.out | apply below_alloc | apply pw_below_drewN | apply below_drew1 | refine below_set ?_ GE358.out) | exact HB.out)) hb); clear HO366; clear HO369; clear BK358; clear HB; have HO366 := n0_; have HO369 := n1_; have HO373 := n2_; have BK358 := n3_; have HB := n4_; clear n0_ n1_ n2_ n3_ n4_; (try clear hb); (try clear hb2); (try clear hk); (try clear hi); (try clear ho0); have hcz22_0 : w21.cell? ⟨gb358, 0, none⟩ = some (.int .i64 a0_0) := (blk_cell BK358.out 0).trans rfl; have hcz22_1 : w21.cell? ⟨gb358, 1, none⟩ = some (.int .i64 a0_1) := (blk_cell BK358.out 1).trans rfl; have hcz22_2 : w21.cell? ⟨gb358, 2, none⟩ = some (.int .i64 a0_2) := (blk_cell BK358.out 2).trans rfl; have hcz22_3 : w21.cell? ⟨gb358, 3, none⟩ = some (.int .i64 a0_3) := (blk_cell BK358.out 3).trans rfl; have hfz22_0 := blk_frozen BK358.out 0; have hfz22_1 := blk_frozen BK358.out 1; have hfz22_2 := blk_frozen BK358.out 2; have hfz22_3 := blk_frozen BK358.out 3) | ((with_reducible refine gate_callee (f := 10) rfl ?_); refine goesL_ (some 33) rfl rfl Tryd.func10 (by kernel_rfl) rfl #[.agg #[.int .i64 a0_0, .int .i64 a0_1, .int .i64 a0_2, .int .i64 a0_3]] rfl (by (try simp only [List.map_toArray, List.map_cons, List.map_nil]); first | done | rfl | (simp only [List.length_drop, List.length_take]; rfl)) ?_; (with_reducible refine (laws_toConf.calls a0_0 a0_1 a0_2 a0_3 t374 t375 t376 t377 _ A11.out).mono ?_); rintro e w23 ⟨rfl, hb⟩; refine ⟨_, rfl, ?_⟩; have n0_ := Aside0.mk (Kd.R_below (by (with_reducible repeat (first | apply Kd.R_alloc | apply Kd.R_drewN | apply Kd.R_drew)); exact HO366.out) hb); have n1_ := Aside0.mk (Kd.R_below (by (with_reducible repeat (first | apply Kd.R_alloc | apply Kd.R_drewN | apply Kd.R_drew)); exact HO369.out) hb); have n2_ := Aside0.mk (Kd.R_below (by (with_reducible repeat (first | apply Kd.R_alloc | apply Kd.R_drewN | apply Kd.R_drew)); exact HO373.out) hb); have n3_ := Aside0.mk (blk_below (g := gb358) (o := .cells #[.int .i64 a0_0, .int .i64 a0_1, .int .i64 a0_2, .int .i64 a0_3] 23 (0, 0)) (by (with_reducible repeat (first | refine blk_drewN ?_ _ | refine blk_drew ?_ | refine blk_alloc ?_ _)); exact BK358.out) hb); have n4_ := Aside0.mk (below_step (by repeat (first | (with_reducible first | exact HB.out | apply below_alloc | apply pw_below_drewN | apply below_drew1 | refine below_set ?_ GE358.out) | exact HB.out)) hb); clear HO366; clear HO369; clear HO373; clear BK358; clear HB; have HO366 := n0_; have HO369 := n1_; have HO373 := n2_; have BK358 := n3_; have HB := n4_; clear n0_ n1_ n2_ n3_ n4_; (try clear hb); (try clear hb2); (try clear hk); (try clear hi); obtain ⟨Ao24, co24, eo24⟩ := Kd.R_slice HO373.out; subst eo24) | ((with_reducible refine gate_callee (f := 24) rfl ?_); refine goesL_ (some 35) rfl rfl Tryd.func24 (by kernel_rfl) rfl #[.agg #[.int .i64 t374, .int .i64 t375, .int .i64 t376, .int .i64 t377], .slice Ao24 t371.length co24] rfl (by (try simp only [List.map_toArray, List.map_cons, List.map_nil]); first | done | rfl | (simp only [List.length_drop, List.length_take]; rfl)) ?_; (with_reducible refine (impl_SessIds.calls k t374 t375 t376 t377 _ _ t371 t378 t381 _ ?side1 ?side2 A12.out (G_below (by repeat (first | (with_reducible first | exact HB.out | apply below_alloc | apply pw_below_drewN | apply below_drew1 | refine below_set ?_ GE358.out) | exact HB.out)) hG)).mono ?_); (case side1 => repeat (first | exact (Kd.R_reads' HO373.out).2.2 | (with_reducible refine Kd.C_alloc ?_ _) | (with_reducible refine Kd.C_drewN ?_ _) | (with_reducible refine Kd.C_drew ?_))); (case side2 => exact (Kd.R_reads' HO373.out).2.1); rintro e w25 ⟨v379, rfl, ho0, hb⟩; refine ⟨_, rfl, ?_⟩; have n0_ := Aside0.mk (Kd.R_below (by (with_reducible repeat (first | apply Kd.R_alloc | apply Kd.R_drewN | apply Kd.R_drew)); exact HO366.out) hb); have n1_ := Aside0.mk (Kd.R_elder' (by (with_reducible repeat (first | apply Kd.R_alloc | apply Kd.R_drewN | apply Kd.R_drew)); exact HO369.out) (Kd.R_base ho0) hb); have n2_ := Aside0.mk (Kd.R_below (by (with_reducible repeat (first | apply Kd.R_alloc | apply Kd.R_drewN | apply Kd.R_drew)); exact HO373.out) hb); have n3_ := Aside0.mk (Kd.R_lower (Kd.R_new' ho0 (Kd.R_lt (by (with_reducible repeat (first | apply Kd.R_alloc | apply Kd.R_drewN | apply Kd.R_drew)); exact HO369.out))) (below_size (by repeat (first | (with_reducible first | exact HB.out | apply below_alloc | apply pw_below_drewN | apply below_drew1 | refine below_set ?_ GE358.out) | exact HB.out)))); have n4_ := Aside0.mk (blk_below (g := gb358) (o := .cells #[.int .i64 a0_0, .int .i64 a0_1, .int .i64 a0_2, .int .i64 a0_3] 23 (0, 0)) (by (with_reducible repeat (first | refine blk_drewN ?_ _ | refine blk_drew ?_ | refine blk_alloc ?_ _)); exact BK358.out) hb); have n5_ := Aside0.mk (below_step (by repeat (first | (with_reducible first | exact HB.out | apply below_alloc | apply pw_below_drewN | apply below_drew1 | refine below_set ?_ GE358.out) | exact HB.out)) hb); clear HO366; clear HO369; clear HO373; clear BK358; clear HB; have HO366 := n0_; have HO369 := n1_; have HO373 := n2_; have HO380 := n3_; have BK358 := n4_; have HB := n5_; clear n0_ n1_ n2_ n3_ n4_ n5_; (try clear hb); (try clear hb2); (try clear hk); (try clear hi); (try clear ho0)))
    (try simp only [Act.put, List.setIfInBounds_toArray, List.set_cons_zero, List.set_cons_succ])
    go_cut [46] (fun v46 wc => ∃ (kq : Nat) (x46_12 : Bool), v46 = .bool x46_12 ∧ Aside0 (laws_FnExactSessIds.j0 kq l1 t367 t370 t371 t378 t381 x46_12 a0_0 a0_1 a0_2 a0_3 = some r) ∧ Aside0 (kq ≤ k) ∧ Aside0 (Kd.R (Kd.int .i64) 3 wc w.heap.size (fun k_ => some k_ ≠ (v379 : Value).ownBlock) v368 t367) ∧ Aside0 (Kd.R k32 32 wc w.heap.size (fun _ => True) (.slice Ao24 t371.length co24) t371) ∧ Aside0 (Kd.R (Kd.int .i64) 3 wc w.heap.size (fun k_ => some k_ ≠ (v368 : Value).ownBlock) v379 t378) ∧ Aside0 (wc.heap[gb358]? = some (.cells #[.int .i64 a0_0, .int .i64 a0_1, .int .i64 a0_2, .int .i64 a0_3] 23 (0, 0))) ∧ Aside0 (Below w.heap.size w wc))
    case first =>
      have H := HC13.out
      clear HC13
      replace H := Option.bind_eq_some_iff.mp H
      obtain ⟨t382, A260, H⟩ := H
      replace H : (if t382 = true then (laws_FnExactSessIds.j0 k l1 t367 t370 t371 t378 t381 (t381 != t370) a0_0 a0_1 a0_2 a0_3) else (laws_FnExactSessIds.j0 k l1 t367 t370 t371 t378 t381 true a0_0 a0_1 a0_2 a0_3)) = some r := H
      have A26 := Aside0.mk A260
      clear A260
      by_cases c27 : t382 = true
      · subst c27
        have H1 : (laws_FnExactSessIds.j0 k l1 t367 t370 t371 t378 t381 (t381 != t370) a0_0 a0_1 a0_2 a0_3) = some r := by rw [if_pos rfl] at H; exact H
        clear H
        have H := H1
        clear H1
        have H' := Aside0.mk H
        clear H
        obtain ⟨Ao28, co28, eo28⟩ := Kd.R_slice HO380.out
        subst eo28
        obtain ⟨Ao29, co29, eo29⟩ := Kd.R_slice HO369.out
        subst eo29
        go_wp2_with (first | ((with_reducible refine gate_callee (f := 25) rfl ?_); refine goesL_ (some 40) rfl rfl Tryd.func25 (by kernel_rfl) rfl #[.slice Ao28 t378.length co28, .slice Ao29 t367.length co29] rfl (by (try simp only [List.map_toArray, List.map_cons, List.map_nil]); first | done | rfl | (simp only [List.length_drop, List.length_take]; rfl)) ?_; (with_reducible refine (laws_eqIntS.calls k _ _ t378 _ _ t367 true _ ?side1 ?side2 ?side3 ?side4 A26.out).mono ?_); (case side1 => repeat (first | exact (Kd.R_reads' HO380.out).2.2 | (with_reducible refine Kd.C_alloc ?_ _) | (with_reducible refine Kd.C_drewN ?_ _) | (with_reducible refine Kd.C_drew ?_))); (case side2 => exact (Kd.R_reads' HO380.out).2.1); (case side3 => repeat (first | exact (Kd.R_reads' HO369.out).2.2 | (with_reducible refine Kd.C_alloc ?_ _) | (with_reducible refine Kd.C_drewN ?_ _) | (with_reducible refine Kd.C_drew ?_))); (case side4 => exact (Kd.R_reads' HO369.out).2.1); rintro e w' ⟨rfl, ⟨nd, rfl⟩⟩; refine ⟨_, rfl, ?_⟩))
        go_meet
        case rel => exact ⟨_, ((t381 != t370)), (by first | rfl | (simp; done) | (simp [*]; done)), H', ⟨by first | omega | exact Nat.le_refl _⟩, ⟨by (with_reducible repeat (first | apply Kd.R_alloc | apply Kd.R_drewN | apply Kd.R_drew)); exact Kd.R_mono HO369.out (fun _ hk => hk.2)⟩, ⟨by (with_reducible repeat (first | apply Kd.R_alloc | apply Kd.R_drewN | apply Kd.R_drew)); exact Kd.R_mono HO373.out (fun _ hk => trivial)⟩, ⟨by (with_reducible repeat (first | apply Kd.R_alloc | apply Kd.R_drewN | apply Kd.R_drew)); exact Kd.R_mono HO380.out (fun _ hk => hk.2)⟩, ⟨by (with_reducible repeat (first | refine blk_drewN ?_ _ | refine blk_drew ?_ | refine blk_alloc ?_ _)); exact BK358.out⟩, ⟨by repeat (first | (with_reducible first | exact HB.out | apply below_alloc | apply pw_below_drewN | apply below_drew1 | refine below_set ?_ GE358.out) | exact HB.out)⟩⟩
      · replace c27 := Bool.eq_false_iff.mpr c27
        subst c27
        have H1 : (laws_FnExactSessIds.j0 k l1 t367 t370 t371 t378 t381 true a0_0 a0_1 a0_2 a0_3) = some r := by rw [if_neg (show ¬ (false = true) by decide)] at H; exact H
        clear H
        have H := H1
        clear H1
        have H' := Aside0.mk H
        clear H
        obtain ⟨Ao30, co30, eo30⟩ := Kd.R_slice HO380.out
        subst eo30
        obtain ⟨Ao31, co31, eo31⟩ := Kd.R_slice HO369.out
        subst eo31
        go_wp2_with (first | ((with_reducible refine gate_callee (f := 25) rfl ?_); refine goesL_ (some 40) rfl rfl Tryd.func25 (by kernel_rfl) rfl #[.slice Ao30 t378.length co30, .slice Ao31 t367.length co31] rfl (by (try simp only [List.map_toArray, List.map_cons, List.map_nil]); first | done | rfl | (simp only [List.length_drop, List.length_take]; rfl)) ?_; (with_reducible refine (laws_eqIntS.calls k _ _ t378 _ _ t367 false _ ?side1 ?side2 ?side3 ?side4 A26.out).mono ?_); (case side1 => repeat (first | exact (Kd.R_reads' HO380.out).2.2 | (with_reducible refine Kd.C_alloc ?_ _) | (with_reducible refine Kd.C_drewN ?_ _) | (with_reducible refine Kd.C_drew ?_))); (case side2 => exact (Kd.R_reads' HO380.out).2.1); (case side3 => repeat (first | exact (Kd.R_reads' HO369.out).2.2 | (with_reducible refine Kd.C_alloc ?_ _) | (with_reducible refine Kd.C_drewN ?_ _) | (with_reducible refine Kd.C_drew ?_))); (case side4 => exact (Kd.R_reads' HO369.out).2.1); rintro e w' ⟨rfl, ⟨nd, rfl⟩⟩; refine ⟨_, rfl, ?_⟩))
        go_meet
        case rel => exact ⟨_, (true), (by first | rfl | (simp; done) | (simp [*]; done)), H', ⟨by first | omega | exact Nat.le_refl _⟩, ⟨by (with_reducible repeat (first | apply Kd.R_alloc | apply Kd.R_drewN | apply Kd.R_drew)); exact Kd.R_mono HO369.out (fun _ hk => hk.2)⟩, ⟨by (with_reducible repeat (first | apply Kd.R_alloc | apply Kd.R_drewN | apply Kd.R_drew)); exact Kd.R_mono HO373.out (fun _ hk => trivial)⟩, ⟨by (with_reducible repeat (first | apply Kd.R_alloc | apply Kd.R_drewN | apply Kd.R_drew)); exact Kd.R_mono HO380.out (fun _ hk => hk.2)⟩, ⟨by (with_reducible repeat (first | refine blk_drewN ?_ _ | refine blk_drew ?_ | refine blk_alloc ?_ _)); exact BK358.out⟩, ⟨by repeat (first | (with_reducible first | exact HB.out | apply below_alloc | apply pw_below_drewN | apply below_drew1 | refine below_set ?_ GE358.out) | exact HB.out)⟩⟩
    case rest =>
      clear HC13
      try clear c1
      try clear c2
      try clear p2
      try clear c4
      try clear c4b0
      try clear c6
      try clear c10
      try clear c21
      try clear c22
      try clear c23
      try clear c24
      try clear c25
      try clear c27
      try clear hcz16_0
      try clear hcz16_1
      try clear hcz16_2
      try clear hcz16_3
      try clear hcz22_0
      try clear hcz22_1
      try clear hcz22_2
      try clear hcz22_3
      try clear hfz16_0
      try clear hfz16_1
      try clear hfz16_2
      try clear hfz16_3
      try clear hfz22_0
      try clear hfz22_1
      try clear hfz22_2
      try clear hfz22_3
      obtain ⟨kq, x46_12, rfl, HA, HJ12, HO_6, HO_8, HO_9, BK358, HB⟩ := hcut
      cases kq with
      | zero => exact absurd HA.out (by simp [laws_FnExactSessIds.j0])
      | succ kj12 =>
        have H := HA.out
        clear HA
        simp only [laws_FnExactSessIds.j0] at H
        by_cases c32 : x46_12 = true
        · subst c32
          have H1 : (some false) = some r := by rw [if_pos rfl] at H; exact H
          clear H
          have H := H1
          clear H1
          obtain rfl := Option.some.inj H
          go_wp2
          go_ret
          exact ⟨by first | rfl | (simp [errW_none, errW_some] <;> rfl) | (simp [*, errW_none, errW_some] <;> rfl), by repeat (first | (with_reducible first | exact HB.out | apply below_alloc | apply pw_below_drewN | apply below_drew1 | refine below_set ?_ GE358.out) | exact HB.out)⟩
        · replace c32 := Bool.eq_false_iff.mpr c32
          subst c32
          have H1 : ((laws_toReqS.f kj12 l1).bind fun t383 => ((laws_eqReqS.f kj12 t371 t383).bind fun t386 => (if t386 = true then ((laws_markReqS.f kj12 t371 1).bind fun bt387 => (if bt387.1 < 0 then (laws_FnExactSessIds.j1 kj12 l1 t367 t370 t378 true a0_0 a0_1 a0_2 a0_3) else ((laws_eqIntS.f kj12 t378 t367).bind fun t389 => (if t389 = true then (laws_FnExactSessIds.j1 kj12 l1 t367 t370 t378 (t381 != t370) a0_0 a0_1 a0_2 a0_3) else (laws_FnExactSessIds.j1 kj12 l1 t367 t370 t378 true a0_0 a0_1 a0_2 a0_3))))) else (some false)))) = some r := by rw [if_neg (show ¬ (false = true) by decide)] at H; exact H
          clear H
          have H := H1
          clear H1
          replace H := Option.bind_eq_some_iff.mp H
          obtain ⟨t383, A330, H⟩ := H
          replace H : ((laws_eqReqS.f kj12 t371 t383).bind fun t386 => (if t386 = true then ((laws_markReqS.f kj12 t371 1).bind fun bt387 => (if bt387.1 < 0 then (laws_FnExactSessIds.j1 kj12 l1 t367 t370 t378 true a0_0 a0_1 a0_2 a0_3) else ((laws_eqIntS.f kj12 t378 t367).bind fun t389 => (if t389 = true then (laws_FnExactSessIds.j1 kj12 l1 t367 t370 t378 (t381 != t370) a0_0 a0_1 a0_2 a0_3) else (laws_FnExactSessIds.j1 kj12 l1 t367 t370 t378 true a0_0 a0_1 a0_2 a0_3))))) else (some false))) = some r := H
          have A33 := Aside0.mk A330
          clear A330
          replace H := Option.bind_eq_some_iff.mp H
          obtain ⟨t386, A340, H⟩ := H
          replace H : (if t386 = true then ((laws_markReqS.f kj12 t371 1).bind fun bt387 => (if bt387.1 < 0 then (laws_FnExactSessIds.j1 kj12 l1 t367 t370 t378 true a0_0 a0_1 a0_2 a0_3) else ((laws_eqIntS.f kj12 t378 t367).bind fun t389 => (if t389 = true then (laws_FnExactSessIds.j1 kj12 l1 t367 t370 t378 (t381 != t370) a0_0 a0_1 a0_2 a0_3) else (laws_FnExactSessIds.j1 kj12 l1 t367 t370 t378 true a0_0 a0_1 a0_2 a0_3))))) else (some false)) = some r := H
          have A34 := Aside0.mk A340
          clear A340
          by_cases c35 : t386 = true
          · subst c35
            have H1 : ((laws_markReqS.f kj12 t371 1).bind fun bt387 => (if bt387.1 < 0 then (laws_FnExactSessIds.j1 kj12 l1 t367 t370 t378 true a0_0 a0_1 a0_2 a0_3) else ((laws_eqIntS.f kj12 t378 t367).bind fun t389 => (if t389 = true then (laws_FnExactSessIds.j1 kj12 l1 t367 t370 t378 (t381 != t370) a0_0 a0_1 a0_2 a0_3) else (laws_FnExactSessIds.j1 kj12 l1 t367 t370 t378 true a0_0 a0_1 a0_2 a0_3))))) = some r := by rw [if_pos rfl] at H; exact H
            clear H
            have H := H1
            clear H1
            replace H := Option.bind_eq_some_iff.mp H
            obtain ⟨⟨t387, t388⟩, A360, H⟩ := H
            replace H : (if t387 < 0 then (laws_FnExactSessIds.j1 kj12 l1 t367 t370 t378 true a0_0 a0_1 a0_2 a0_3) else ((laws_eqIntS.f kj12 t378 t367).bind fun t389 => (if t389 = true then (laws_FnExactSessIds.j1 kj12 l1 t367 t370 t378 (t381 != t370) a0_0 a0_1 a0_2 a0_3) else (laws_FnExactSessIds.j1 kj12 l1 t367 t370 t378 true a0_0 a0_1 a0_2 a0_3)))) = some r := H
            have A36 := Aside0.mk A360
            clear A360
            have HC37 := Aside0.mk H
            clear H
            go_upto_region 14 with (first | ((with_reducible refine gate_callee (f := 23) rfl ?_); refine goesL_ (some 49) rfl rfl Tryd.func23 (by kernel_rfl) rfl #[.slice A1 l1.length c1] rfl (by (try simp only [List.map_toArray, List.map_cons, List.map_nil]); first | done | rfl | (simp only [List.length_drop, List.length_take]; rfl)) ?_; (with_reducible refine (laws_toReqS.calls kj12 _ _ l1 t383 _ ?side1 ?side2 A33.out).mono ?_); (case side1 => repeat (first | exact (Kd.C_below HR1.out HB.out) | (with_reducible refine Kd.C_alloc ?_ _) | (with_reducible refine Kd.C_drewN ?_ _) | (with_reducible refine Kd.C_drew ?_))); (case side2 => exact HC1.out); rintro e w38 ⟨v384, rfl, ho0, hb⟩; refine ⟨_, rfl, ?_⟩; have n0_ := Aside0.mk (Kd.R_below (by (with_reducible repeat (first | apply Kd.R_alloc | apply Kd.R_drewN | apply Kd.R_drew)); exact HO_6.out) hb); have n1_ := Aside0.mk (Kd.R_elder' (by (with_reducible repeat (first | apply Kd.R_alloc | apply Kd.R_drewN | apply Kd.R_drew)); exact HO_8.out) (Kd.R_base ho0) hb); have n2_ := Aside0.mk (Kd.R_below (by (with_reducible repeat (first | apply Kd.R_alloc | apply Kd.R_drewN | apply Kd.R_drew)); exact HO_9.out) hb); have n3_ := Aside0.mk (Kd.R_lower (Kd.R_new' ho0 (Kd.R_lt (by (with_reducible repeat (first | apply Kd.R_alloc | apply Kd.R_drewN | apply Kd.R_drew)); exact HO_8.out))) (below_size (by repeat (first | (with_reducible first | exact HB.out | apply below_alloc | apply pw_below_drewN | apply below_drew1 | refine below_set ?_ GE358.out) | exact HB.out)))); have n4_ := Aside0.mk (blk_below (g := gb358) (o := .cells #[.int .i64 a0_0, .int .i64 a0_1, .int .i64 a0_2, .int .i64 a0_3] 23 (0, 0)) (by (with_reducible repeat (first | refine blk_drewN ?_ _ | refine blk_drew ?_ | refine blk_alloc ?_ _)); exact BK358.out) hb); have n5_ := Aside0.mk (below_step (by repeat (first | (with_reducible first | exact HB.out | apply below_alloc | apply pw_below_drewN | apply below_drew1 | refine below_set ?_ GE358.out) | exact HB.out)) hb); clear HO_6; clear HO_8; clear HO_9; clear BK358; clear HB; have HO_6 := n0_; have HO_8 := n1_; have HO_9 := n2_; have HO385 := n3_; have BK358 := n4_; have HB := n5_; clear n0_ n1_ n2_ n3_ n4_ n5_; (try clear hb); (try clear hb2); (try clear hk); (try clear hi); (try clear ho0); obtain ⟨Ao39, co39, eo39⟩ := Kd.R_slice HO385.out; subst eo39) | ((with_reducible refine gate_callee (f := 26) rfl ?_); refine goesL_ (some 50) rfl rfl Tryd.func26 (by kernel_rfl) rfl #[.slice Ao24 t371.length co24, .slice Ao39 t383.length co39] rfl (by (try simp only [List.map_toArray, List.map_cons, List.map_nil]); first | done | rfl | (simp only [List.length_drop, List.length_take]; rfl)) ?_; (with_reducible refine (laws_eqReqS.calls kj12 _ _ t371 _ _ t383 true _ ?side1 ?side2 ?side3 ?side4 A34.out).mono ?_); (case side1 => repeat (first | exact (Kd.R_reads' HO_8.out).2.2 | (with_reducible refine Kd.C_alloc ?_ _) | (with_reducible refine Kd.C_drewN ?_ _) | (with_reducible refine Kd.C_drew ?_))); (case side2 => exact (Kd.R_reads' HO_8.out).2.1); (case side3 => repeat (first | exact (Kd.R_reads' HO385.out).2.2 | (with_reducible refine Kd.C_alloc ?_ _) | (with_reducible refine Kd.C_drewN ?_ _) | (with_reducible refine Kd.C_drew ?_))); (case side4 => exact (Kd.R_reads' HO385.out).2.1); rintro e w40 ⟨rfl, hb⟩; refine ⟨_, rfl, ?_⟩; have n0_ := Aside0.mk (Kd.R_below (by (with_reducible repeat (first | apply Kd.R_alloc | apply Kd.R_drewN | apply Kd.R_drew)); exact HO_6.out) hb); have n1_ := Aside0.mk (Kd.R_below (by (with_reducible repeat (first | apply Kd.R_alloc | apply Kd.R_drewN | apply Kd.R_drew)); exact HO_8.out) hb); have n2_ := Aside0.mk (Kd.R_below (by (with_reducible repeat (first | apply Kd.R_alloc | apply Kd.R_drewN | apply Kd.R_drew)); exact HO_9.out) hb); have n3_ := Aside0.mk (Kd.R_below (by (with_reducible repeat (first | apply Kd.R_alloc | apply Kd.R_drewN | apply Kd.R_drew)); exact HO385.out) hb); have n4_ := Aside0.mk (blk_below (g := gb358) (o := .cells #[.int .i64 a0_0, .int .i64 a0_1, .int .i64 a0_2, .int .i64 a0_3] 23 (0, 0)) (by (with_reducible repeat (first | refine blk_drewN ?_ _ | refine blk_drew ?_ | refine blk_alloc ?_ _)); exact BK358.out) hb); have n5_ := Aside0.mk (below_step (by repeat (first | (with_reducible first | exact HB.out | apply below_alloc | apply pw_below_drewN | apply below_drew1 | refine below_set ?_ GE358.out) | exact HB.out)) hb); clear HO_6; clear HO_8; clear HO_9; clear HO385; clear BK358; clear HB; have HO_6 := n0_; have HO_8 := n1_; have HO_9 := n2_; have HO385 := n3_; have BK358 := n4_; have HB := n5_; clear n0_ n1_ n2_ n3_ n4_ n5_; (try clear hb); (try clear hb2); (try clear hk); (try clear hi)) | ((with_reducible refine gate_callee (f := 27) rfl ?_); refine goesL_ (some 54) rfl rfl Tryd.func27 (by kernel_rfl) rfl #[.slice Ao24 t371.length co24, .int .i64 1] rfl (by (try simp only [List.map_toArray, List.map_cons, List.map_nil]); first | done | rfl | (simp only [List.length_drop, List.length_take]; rfl)) ?_; (with_reducible refine (laws_markReqS.calls kj12 (fun k_ => some k_ = (.slice Ao24 t371.length co24 : Value).ownBlock) (.slice Ao24 t371.length co24) t371 1 t387 t388 w _ ?side1 ?side2 A36.out).mono ?_); (case side1 => repeat (first | (with_reducible first | exact HB.out | apply below_alloc | apply pw_below_drewN | apply below_drew1 | refine below_set ?_ GE358.out) | exact HB.out)); (case side2 => exact Kd.R_tight rfl HO_8.out); rintro e w41 ⟨rfl, hy0, hb, hkp⟩; refine ⟨_, rfl, ?_⟩; have n0_ := Aside0.mk (Kd.R_mono (ok' := fun k_ => some k_ ≠ (v379 : Value).ownBlock) (Kd.R_keptB ((Kd.R_apart' HO_6.out (Kd.R_typed HO_8.out) (by decide))) hkp (fun k_ hk_ hs_ => (hk_.2) hs_)) (fun k_ hk_ => hk_.1.1)); have n1_ := Aside0.mk (Kd.R_reok rfl hy0 (fun k_ e_ => HO_8.out.1 k_ e_)); have n2_ := Aside0.mk (Kd.R_mono (ok' := fun k_ => some k_ ≠ (v368 : Value).ownBlock) (Kd.R_keptB ((Kd.R_apart' HO_9.out (Kd.R_typed HO_8.out) (by decide))) hkp (fun k_ hk_ hs_ => (hk_.2) hs_)) (fun k_ hk_ => hk_.1.1)); have n3_ := Aside0.mk (blk_kept (by (with_reducible repeat (first | refine blk_drewN ?_ _ | refine blk_drew ?_ | refine blk_alloc ?_ _)); exact BK358.out) hkp (fun hs_ => (fun e_ => (Kd.R_ne HO_8.out BK358.out (by decide)) e_) hs_)); have n4_ := Aside0.mk (Kd.R_mono (ok' := fun k_ => some k_ ≠ (.slice Ao24 t371.length co24 : Value).ownBlock) (Kd.R_keptB (HO385.out) hkp (fun k_ hk_ hs_ => (hk_.2) hs_)) (fun k_ hk_ => hk_.1.2)); have n5_ := Aside0.mk (hb); clear HO_6; clear HO_8; clear HO_9; clear BK358; clear HO385; clear HB; have HO_6 := n0_; have HO_8 := n1_; have HO_9 := n2_; have BK358 := n3_; have HO385 := n4_; have HB := n5_; clear n0_ n1_ n2_ n3_ n4_ n5_; (try clear hb); (try clear hkp); (try clear hy0)))
            (try simp only [Act.put, List.setIfInBounds_toArray, List.set_cons_zero, List.set_cons_succ])
            go_cut [67] (fun v67 wc => ∃ (kq : Nat) (x67_36 : Bool), v67 = .bool x67_36 ∧ Aside0 (laws_FnExactSessIds.j1 kq l1 t367 t370 t378 x67_36 a0_0 a0_1 a0_2 a0_3 = some r) ∧ Aside0 (kq ≤ kj12) ∧ Aside0 (Kd.R (Kd.int .i64) 3 wc w.heap.size (fun k_ => some k_ ≠ (v379 : Value).ownBlock) v368 t367) ∧ Aside0 (Kd.R (Kd.int .i64) 3 wc w.heap.size (fun k_ => some k_ ≠ (v368 : Value).ownBlock) v379 t378) ∧ Aside0 (wc.heap[gb358]? = some (.cells #[.int .i64 a0_0, .int .i64 a0_1, .int .i64 a0_2, .int .i64 a0_3] 23 (0, 0))) ∧ Aside0 (Below w.heap.size w wc))
            case first =>
              have H := HC37.out
              clear HC37
              by_cases c42 : t387 < 0
              · rw [if_pos c42] at H
                have c42b0 : decide (t387 < 0) = true := decide_eq_true c42
                clear c42
                (first | rw [c42b0] | (simp only [i64_w, i32_w]; rw [c42b0]) | skip)
                have H' := Aside0.mk H
                clear H
                go_wp2
                go_meet
                case rel => exact ⟨_, (true), (by first | rfl | (simp; done) | (simp [*]; done)), H', ⟨by have := HJ12.out; first | omega | exact Nat.le_refl _⟩, ⟨by (with_reducible repeat (first | apply Kd.R_alloc | apply Kd.R_drewN | apply Kd.R_drew)); exact HO_6.out⟩, ⟨by (with_reducible repeat (first | apply Kd.R_alloc | apply Kd.R_drewN | apply Kd.R_drew)); exact HO_9.out⟩, ⟨by (with_reducible repeat (first | refine blk_drewN ?_ _ | refine blk_drew ?_ | refine blk_alloc ?_ _)); exact BK358.out⟩, ⟨by repeat (first | (with_reducible first | exact HB.out | apply below_alloc | apply pw_below_drewN | apply below_drew1 | refine below_set ?_ GE358.out) | exact HB.out)⟩⟩
              · rw [if_neg c42] at H
                have c42b0 : decide (t387 < 0) = false := decide_eq_false c42
                clear c42
                (first | rw [c42b0] | (simp only [i64_w, i32_w]; rw [c42b0]) | skip)
                replace H := Option.bind_eq_some_iff.mp H
                obtain ⟨t389, A430, H⟩ := H
                replace H : (if t389 = true then (laws_FnExactSessIds.j1 kj12 l1 t367 t370 t378 (t381 != t370) a0_0 a0_1 a0_2 a0_3) else (laws_FnExactSessIds.j1 kj12 l1 t367 t370 t378 true a0_0 a0_1 a0_2 a0_3)) = some r := H
                have A43 := Aside0.mk A430
                clear A430
                by_cases c44 : t389 = true
                · subst c44
                  have H1 : (laws_FnExactSessIds.j1 kj12 l1 t367 t370 t378 (t381 != t370) a0_0 a0_1 a0_2 a0_3) = some r := by rw [if_pos rfl] at H; exact H
                  clear H
                  have H := H1
                  clear H1
                  have H' := Aside0.mk H
                  clear H
                  obtain ⟨Ao45, co45, eo45⟩ := Kd.R_slice HO_9.out
                  subst eo45
                  obtain ⟨Ao46, co46, eo46⟩ := Kd.R_slice HO_6.out
                  subst eo46
                  go_wp2_with (first | (go_at_call 25; (with_reducible refine (laws_eqIntS.calls kj12 _ _ t378 _ _ t367 true _ ?side1 ?side2 ?side3 ?side4 A43.out).mono ?_); (case side1 => repeat (first | exact (Kd.R_reads' HO_9.out).2.2 | (with_reducible refine Kd.C_alloc ?_ _) | (with_reducible refine Kd.C_drewN ?_ _) | (with_reducible refine Kd.C_drew ?_))); (case side2 => exact (Kd.R_reads' HO_9.out).2.1); (case side3 => repeat (first | exact (Kd.R_reads' HO_6.out).2.2 | (with_reducible refine Kd.C_alloc ?_ _) | (with_reducible refine Kd.C_drewN ?_ _) | (with_reducible refine Kd.C_drew ?_))); (case side4 => exact (Kd.R_reads' HO_6.out).2.1); rintro e w' ⟨rfl, ⟨nd, rfl⟩⟩))
                  go_meet
                  case rel => exact ⟨_, ((t381 != t370)), (by first | rfl | (simp; done) | (simp [*]; done)), H', ⟨by have := HJ12.out; first | omega | exact Nat.le_refl _⟩, ⟨by (with_reducible repeat (first | apply Kd.R_alloc | apply Kd.R_drewN | apply Kd.R_drew)); exact HO_6.out⟩, ⟨by (with_reducible repeat (first | apply Kd.R_alloc | apply Kd.R_drewN | apply Kd.R_drew)); exact HO_9.out⟩, ⟨by (with_reducible repeat (first | refine blk_drewN ?_ _ | refine blk_drew ?_ | refine blk_alloc ?_ _)); exact BK358.out⟩, ⟨by repeat (first | (with_reducible first | exact HB.out | apply below_alloc | apply pw_below_drewN | apply below_drew1 | refine below_set ?_ GE358.out) | exact HB.out)⟩⟩
                · replace c44 := Bool.eq_false_iff.mpr c44
                  subst c44
                  have H1 : (laws_FnExactSessIds.j1 kj12 l1 t367 t370 t378 true a0_0 a0_1 a0_2 a0_3) = some r := by rw [if_neg (show ¬ (false = true) by decide)] at H; exact H
                  clear H
                  have H := H1
                  clear H1
                  have H' := Aside0.mk H
                  clear H
                  obtain ⟨Ao47, co47, eo47⟩ := Kd.R_slice HO_9.out
                  subst eo47
                  obtain ⟨Ao48, co48, eo48⟩ := Kd.R_slice HO_6.out
                  subst eo48
                  go_wp2_with (first | (go_at_call 25; (with_reducible refine (laws_eqIntS.calls kj12 _ _ t378 _ _ t367 false _ ?side1 ?side2 ?side3 ?side4 A43.out).mono ?_); (case side1 => repeat (first | exact (Kd.R_reads' HO_9.out).2.2 | (with_reducible refine Kd.C_alloc ?_ _) | (with_reducible refine Kd.C_drewN ?_ _) | (with_reducible refine Kd.C_drew ?_))); (case side2 => exact (Kd.R_reads' HO_9.out).2.1); (case side3 => repeat (first | exact (Kd.R_reads' HO_6.out).2.2 | (with_reducible refine Kd.C_alloc ?_ _) | (with_reducible refine Kd.C_drewN ?_ _) | (with_reducible refine Kd.C_drew ?_))); (case side4 => exact (Kd.R_reads' HO_6.out).2.1); rintro e w' ⟨rfl, ⟨nd, rfl⟩⟩))
                  go_meet
                  case rel => exact ⟨_, (true), (by first | rfl | (simp; done) | (simp [*]; done)), H', ⟨by have := HJ12.out; first | omega | exact Nat.le_refl _⟩, ⟨by (with_reducible repeat (first | apply Kd.R_alloc | apply Kd.R_drewN | apply Kd.R_drew)); exact HO_6.out⟩, ⟨by (with_reducible repeat (first | apply Kd.R_alloc | apply Kd.R_drewN | apply Kd.R_drew)); exact HO_9.out⟩, ⟨by (with_reducible repeat (first | refine blk_drewN ?_ _ | refine blk_drew ?_ | refine blk_alloc ?_ _)); exact BK358.out⟩, ⟨by repeat (first | (with_reducible first | exact HB.out | apply below_alloc | apply pw_below_drewN | apply below_drew1 | refine below_set ?_ GE358.out) | exact HB.out)⟩⟩
            case rest =>
              clear HC37
              try clear c1
              try clear c2
              try clear p2
              try clear c3
              try clear c4
              try clear c4b0
              try clear c6
              try clear c10
              try clear c21
              try clear c22
              try clear c23
              try clear c24
              try clear c25
              try clear c26
              try clear c27
              try clear c32
              try clear c35
              try clear c42
              try clear c42b0
              try clear c44
              try clear hcz16_0
              try clear hcz16_1
              try clear hcz16_2
              try clear hcz16_3
              try clear hcz22_0
              try clear hcz22_1
              try clear hcz22_2
              try clear hcz22_3
              try clear hfz16_0
              try clear hfz16_1
              try clear hfz16_2
              try clear hfz16_3
              try clear hfz22_0
              try clear hfz22_1
              try clear hfz22_2
              try clear hfz22_3
              try clear p2
              obtain ⟨kq, x67_36, rfl, HA, HJ36, HO_6, HO_9, BK358, HB⟩ := hcut
              cases kq with
              | zero => exact absurd HA.out (by simp [laws_FnExactSessIds.j1])
              | succ kj36 =>
                have H := HA.out
                clear HA
                simp only [laws_FnExactSessIds.j1] at H
                by_cases c49 : x67_36 = true
                · subst c49
                  have H1 : (some false) = some r := by rw [if_pos rfl] at H; exact H
                  clear H
                  have H := H1
                  clear H1
                  obtain rfl := Option.some.inj H
                  go_wp2
                  go_ret
                  exact ⟨by first | rfl | (simp [errW_none, errW_some] <;> rfl) | (simp [*, errW_none, errW_some] <;> rfl), by repeat (first | (with_reducible first | exact HB.out | apply below_alloc | apply pw_below_drewN | apply below_drew1 | refine below_set ?_ GE358.out) | exact HB.out)⟩
                · replace c49 := Bool.eq_false_iff.mpr c49
                  subst c49
                  have H1 : ((laws_markIntS.f kj36 t378 1).bind fun bt390 => ((laws_heldIntS.f kj36 bt390.2 1).bind fun t392 => (if t392 < 0 then (some false) else (if t392 = bt390.1 then ((laws_toConf.f a0_0 a0_1 a0_2 a0_3).bind fun bt393 => ((laws_toReqS.f kj36 l1).bind fun t397 => ((impl_SessIds.f kj36 bt393.1 bt393.2.1 bt393.2.2.1 bt393.2.2.2 t397).bind fun bt400 => ((laws_eqIntS.f kj36 bt400.1 t367).bind fun t404 => (if t404 = true then (laws_FnExactSessIds.j2 kj36 bt390.2 bt390.1 (bt400.2 != t370)) else (laws_FnExactSessIds.j2 kj36 bt390.2 bt390.1 true)))))) else (some false))))) = some r := by rw [if_neg (show ¬ (false = true) by decide)] at H; exact H
                  clear H
                  have H := H1
                  clear H1
                  replace H := Option.bind_eq_some_iff.mp H
                  obtain ⟨⟨t390, t391⟩, A500, H⟩ := H
                  replace H : ((laws_heldIntS.f kj36 t391 1).bind fun t392 => (if t392 < 0 then (some false) else (if t392 = t390 then ((laws_toConf.f a0_0 a0_1 a0_2 a0_3).bind fun bt393 => ((laws_toReqS.f kj36 l1).bind fun t397 => ((impl_SessIds.f kj36 bt393.1 bt393.2.1 bt393.2.2.1 bt393.2.2.2 t397).bind fun bt400 => ((laws_eqIntS.f kj36 bt400.1 t367).bind fun t404 => (if t404 = true then (laws_FnExactSessIds.j2 kj36 t391 t390 (bt400.2 != t370)) else (laws_FnExactSessIds.j2 kj36 t391 t390 true)))))) else (some false)))) = some r := H
                  have A50 := Aside0.mk A500
                  clear A500
                  replace H := Option.bind_eq_some_iff.mp H
                  obtain ⟨t392, A510, H⟩ := H
                  replace H : (if t392 < 0 then (some false) else (if t392 = t390 then ((laws_toConf.f a0_0 a0_1 a0_2 a0_3).bind fun bt393 => ((laws_toReqS.f kj36 l1).bind fun t397 => ((impl_SessIds.f kj36 bt393.1 bt393.2.1 bt393.2.2.1 bt393.2.2.2 t397).bind fun bt400 => ((laws_eqIntS.f kj36 bt400.1 t367).bind fun t404 => (if t404 = true then (laws_FnExactSessIds.j2 kj36 t391 t390 (bt400.2 != t370)) else (laws_FnExactSessIds.j2 kj36 t391 t390 true)))))) else (some false))) = some r := H
                  have A51 := Aside0.mk A510
                  clear A510
                  by_cases c52 : t392 < 0
                  · rw [if_pos c52] at H
                    have c52b0 : decide (t392 < 0) = true := decide_eq_true c52
                    clear c52
                    obtain rfl := Option.some.inj H
                    obtain ⟨Ao53, co53, eo53⟩ := Kd.R_slice HO_9.out
                    subst eo53
                    go_wp2_with (first | ((with_reducible refine gate_callee (f := 28) rfl ?_); refine goesL_ (some 70) rfl rfl Tryd.func28 (by kernel_rfl) rfl #[.slice Ao53 t378.length co53, .int .i64 1] rfl (by (try simp only [List.map_toArray, List.map_cons, List.map_nil]); first | done | rfl | (simp only [List.length_drop, List.length_take]; rfl)) ?_; (with_reducible refine (laws_markIntS.calls kj36 (fun k_ => some k_ = (.slice Ao53 t378.length co53 : Value).ownBlock) (.slice Ao53 t378.length co53) t378 1 t390 t391 w _ ?side1 ?side2 A50.out).mono ?_); (case side1 => repeat (first | (with_reducible first | exact HB.out | apply below_alloc | apply pw_below_drewN | apply below_drew1 | refine below_set ?_ GE358.out) | exact HB.out)); (case side2 => exact Kd.R_tight rfl HO_9.out); rintro e w54 ⟨rfl, hy0, hb, hkp⟩; refine ⟨_, rfl, ?_⟩; have n0_ := Aside0.mk (Kd.R_mono (ok' := fun k_ => some k_ ≠ (.slice Ao53 t378.length co53 : Value).ownBlock) (Kd.R_keptB (HO_6.out) hkp (fun k_ hk_ hs_ => (hk_) hs_)) (fun k_ hk_ => hk_.1)); have n1_ := Aside0.mk (Kd.R_reok rfl hy0 (fun k_ e_ => HO_9.out.1 k_ e_)); have n2_ := Aside0.mk (blk_kept (by (with_reducible repeat (first | refine blk_drewN ?_ _ | refine blk_drew ?_ | refine blk_alloc ?_ _)); exact BK358.out) hkp (fun hs_ => (fun e_ => (Kd.R_ne HO_9.out BK358.out (by decide)) e_) hs_)); have n3_ := Aside0.mk (hb); clear HO_6; clear HO_9; clear BK358; clear HB; have HO_6 := n0_; have HO_9 := n1_; have BK358 := n2_; have HB := n3_; clear n0_ n1_ n2_ n3_; (try clear hb); (try clear hkp); (try clear hy0)) | ((with_reducible refine gate_callee (f := 29) rfl ?_); refine goesL_ (some 73) rfl rfl Tryd.func29 (by kernel_rfl) rfl #[.slice Ao53 t391.length co53, .int .i64 1] rfl (by (try simp only [List.map_toArray, List.map_cons, List.map_nil]); first | done | (rw [show t391.length = t378.length from (Kd.R_reads' HO_9.out).1.symm] <;> rfl) | rfl | (simp only [List.length_drop, List.length_take]; rfl)) ?_; (with_reducible refine (laws_heldIntS.calls kj36 _ _ t391 1 t392 _ ?side1 ?side2 A51.out).mono ?_); (case side1 => repeat (first | exact (Kd.R_reads' HO_9.out).2.2 | (with_reducible refine Kd.C_alloc ?_ _) | (with_reducible refine Kd.C_drewN ?_ _) | (with_reducible refine Kd.C_drew ?_))); (case side2 => rw [show t391.length = t378.length from (Kd.R_reads' HO_9.out).1.symm]; exact (Kd.R_reads' HO_9.out).2.1); rintro e w' ⟨rfl, ⟨nd, rfl⟩⟩; refine ⟨_, rfl, ?_⟩))
                    go_ret
                    exact ⟨by first | rfl | (simp [errW_none, errW_some] <;> rfl) | (simp [*, errW_none, errW_some] <;> rfl), by repeat (first | (with_reducible first | exact HB.out | apply below_alloc | apply pw_below_drewN | apply below_drew1 | refine below_set ?_ GE358.out) | exact HB.out)⟩
                  · rw [if_neg c52] at H
                    have c52b0 : decide (t392 < 0) = false := decide_eq_false c52
                    clear c52
                    by_cases c55 : t392 = t390
                    · rw [if_pos c55] at H
                      have c55b0 : (t392 == t390) = true := beq_iff_eq.mpr c55
                      have c55b1 : (t392 != t390) = false := bne_eq_false_iff_eq.mpr c55
                      clear c55
                      replace H := Option.bind_eq_some_iff.mp H
                      obtain ⟨⟨t393, t394, t395, t396⟩, A560, H⟩ := H
                      replace H : ((laws_toReqS.f kj36 l1).bind fun t397 => ((impl_SessIds.f kj36 t393 t394 t395 t396 t397).bind fun bt400 => ((laws_eqIntS.f kj36 bt400.1 t367).bind fun t404 => (if t404 = true then (laws_FnExactSessIds.j2 kj36 t391 t390 (bt400.2 != t370)) else (laws_FnExactSessIds.j2 kj36 t391 t390 true))))) = some r := H
                      have A56 := Aside0.mk A560
                      clear A560
                      replace H := Option.bind_eq_some_iff.mp H
                      obtain ⟨t397, A570, H⟩ := H
                      replace H : ((impl_SessIds.f kj36 t393 t394 t395 t396 t397).bind fun bt400 => ((laws_eqIntS.f kj36 bt400.1 t367).bind fun t404 => (if t404 = true then (laws_FnExactSessIds.j2 kj36 t391 t390 (bt400.2 != t370)) else (laws_FnExactSessIds.j2 kj36 t391 t390 true)))) = some r := H
                      have A57 := Aside0.mk A570
                      clear A570
                      replace H := Option.bind_eq_some_iff.mp H
                      obtain ⟨⟨t400, t403⟩, A580, H⟩ := H
                      replace H : ((laws_eqIntS.f kj36 t400 t367).bind fun t404 => (if t404 = true then (laws_FnExactSessIds.j2 kj36 t391 t390 (t403 != t370)) else (laws_FnExactSessIds.j2 kj36 t391 t390 true))) = some r := H
                      have A58 := Aside0.mk A580
                      clear A580
                      have HC59 := Aside0.mk H
                      clear H
                      obtain ⟨Ao60, co60, eo60⟩ := Kd.R_slice HO_9.out
                      subst eo60
                      go_upto_region 25 with (first | ((with_reducible refine gate_callee (f := 28) rfl ?_); refine goesL_ (some 70) rfl rfl Tryd.func28 (by kernel_rfl) rfl #[.slice Ao60 t378.length co60, .int .i64 1] rfl (by (try simp only [List.map_toArray, List.map_cons, List.map_nil]); first | done | rfl | (simp only [List.length_drop, List.length_take]; rfl)) ?_; (with_reducible refine (laws_markIntS.calls kj36 (fun k_ => some k_ = (.slice Ao60 t378.length co60 : Value).ownBlock) (.slice Ao60 t378.length co60) t378 1 t390 t391 w _ ?side1 ?side2 A50.out).mono ?_); (case side1 => repeat (first | (with_reducible first | exact HB.out | apply below_alloc | apply pw_below_drewN | apply below_drew1 | refine below_set ?_ GE358.out) | exact HB.out)); (case side2 => exact Kd.R_tight rfl HO_9.out); rintro e w61 ⟨rfl, hy0, hb, hkp⟩; refine ⟨_, rfl, ?_⟩; have n0_ := Aside0.mk (Kd.R_mono (ok' := fun k_ => some k_ ≠ (.slice Ao60 t378.length co60 : Value).ownBlock) (Kd.R_keptB (HO_6.out) hkp (fun k_ hk_ hs_ => (hk_) hs_)) (fun k_ hk_ => hk_.1)); have n1_ := Aside0.mk (Kd.R_reok rfl hy0 (fun k_ e_ => HO_9.out.1 k_ e_)); have n2_ := Aside0.mk (blk_kept (by (with_reducible repeat (first | refine blk_drewN ?_ _ | refine blk_drew ?_ | refine blk_alloc ?_ _)); exact BK358.out) hkp (fun hs_ => (fun e_ => (Kd.R_ne HO_9.out BK358.out (by decide)) e_) hs_)); have n3_ := Aside0.mk (hb); clear HO_6; clear HO_9; clear BK358; clear HB; have HO_6 := n0_; have HO_9 := n1_; have BK358 := n2_; have HB := n3_; clear n0_ n1_ n2_ n3_; (try clear hb); (try clear hkp); (try clear hy0)) | ((with_reducible refine gate_callee (f := 29) rfl ?_); refine goesL_ (some 73) rfl rfl Tryd.func29 (by kernel_rfl) rfl #[.slice Ao60 t391.length co60, .int .i64 1] rfl (by (try simp only [List.map_toArray, List.map_cons, List.map_nil]); first | done | (rw [show t391.length = t378.length from (Kd.R_reads' HO_9.out).1.symm] <;> rfl) | rfl | (simp only [List.length_drop, List.length_take]; rfl)) ?_; (with_reducible refine (laws_heldIntS.calls kj36 _ _ t391 1 t392 _ ?side1 ?side2 A51.out).mono ?_); (case side1 => repeat (first | exact (Kd.R_reads' HO_9.out).2.2 | (with_reducible refine Kd.C_alloc ?_ _) | (with_reducible refine Kd.C_drewN ?_ _) | (with_reducible refine Kd.C_drew ?_))); (case side2 => rw [show t391.length = t378.length from (Kd.R_reads' HO_9.out).1.symm]; exact (Kd.R_reads' HO_9.out).2.1); rintro e w' ⟨rfl, ⟨nd, rfl⟩⟩; refine ⟨_, rfl, ?_⟩; have hcz62_0 : w61.cell? ⟨gb358, 0, none⟩ = some (.int .i64 a0_0) := (blk_cell BK358.out 0).trans rfl; have hcz62_1 : w61.cell? ⟨gb358, 1, none⟩ = some (.int .i64 a0_1) := (blk_cell BK358.out 1).trans rfl; have hcz62_2 : w61.cell? ⟨gb358, 2, none⟩ = some (.int .i64 a0_2) := (blk_cell BK358.out 2).trans rfl; have hcz62_3 : w61.cell? ⟨gb358, 3, none⟩ = some (.int .i64 a0_3) := (blk_cell BK358.out 3).trans rfl; have hfz62_0 := blk_frozen BK358.out 0; have hfz62_1 := blk_frozen BK358.out 1; have hfz62_2 := blk_frozen BK358.out 2; have hfz62_3 := blk_frozen BK358.out 3) | ((with_reducible refine gate_callee (f := 10) rfl ?_); refine goesL_ (some 81) rfl rfl Tryd.func10 (by kernel_rfl) rfl #[.agg #[.int .i64 a0_0, .int .i64 a0_1, .int .i64 a0_2, .int .i64 a0_3]] rfl (by (try simp only [List.map_toArray, List.map_cons, List.map_nil]); first | done | rfl | (simp only [List.length_drop, List.length_take]; rfl)) ?_; (with_reducible refine (laws_toConf.calls a0_0 a0_1 a0_2 a0_3 t393 t394 t395 t396 _ A56.out).mono ?_); rintro e w63 ⟨rfl, hb⟩; refine ⟨_, rfl, ?_⟩; have n0_ := Aside0.mk (Kd.R_below (by (with_reducible repeat (first | apply Kd.R_alloc | apply Kd.R_drewN | apply Kd.R_drew)); exact HO_6.out) hb); have n1_ := Aside0.mk (Kd.R_below (by (with_reducible repeat (first | apply Kd.R_alloc | apply Kd.R_drewN | apply Kd.R_drew)); exact HO_9.out) hb); have n2_ := Aside0.mk (blk_below (g := gb358) (o := .cells #[.int .i64 a0_0, .int .i64 a0_1, .int .i64 a0_2, .int .i64 a0_3] 23 (0, 0)) (by (with_reducible repeat (first | refine blk_drewN ?_ _ | refine blk_drew ?_ | refine blk_alloc ?_ _)); exact BK358.out) hb); have n3_ := Aside0.mk (below_step (by repeat (first | (with_reducible first | exact HB.out | apply below_alloc | apply pw_below_drewN | apply below_drew1 | refine below_set ?_ GE358.out) | exact HB.out)) hb); clear HO_6; clear HO_9; clear BK358; clear HB; have HO_6 := n0_; have HO_9 := n1_; have BK358 := n2_; have HB := n3_; clear n0_ n1_ n2_ n3_; (try clear hb); (try clear hb2); (try clear hk); (try clear hi)) | ((with_reducible refine gate_callee (f := 23) rfl ?_); refine goesL_ (some 83) rfl rfl Tryd.func23 (by kernel_rfl) rfl #[.slice A1 l1.length c1] rfl (by (try simp only [List.map_toArray, List.map_cons, List.map_nil]); first | done | rfl | (simp only [List.length_drop, List.length_take]; rfl)) ?_; (with_reducible refine (laws_toReqS.calls kj36 _ _ l1 t397 _ ?side1 ?side2 A57.out).mono ?_); (case side1 => repeat (first | exact (Kd.C_below HR1.out HB.out) | (with_reducible refine Kd.C_alloc ?_ _) | (with_reducible refine Kd.C_drewN ?_ _) | (with_reducible refine Kd.C_drew ?_))); (case side2 => exact HC1.out); rintro e w64 ⟨v398, rfl, ho0, hb⟩; refine ⟨_, rfl, ?_⟩; have n0_ := Aside0.mk (Kd.R_below (by (with_reducible repeat (first | apply Kd.R_alloc | apply Kd.R_drewN | apply Kd.R_drew)); exact HO_6.out) hb); have n1_ := Aside0.mk (Kd.R_below (by (with_reducible repeat (first | apply Kd.R_alloc | apply Kd.R_drewN | apply Kd.R_drew)); exact HO_9.out) hb); have n2_ := Aside0.mk (Kd.R_lower ho0 (below_size (by repeat (first | (with_reducible first | exact HB.out | apply below_alloc | apply pw_below_drewN | apply below_drew1 | refine below_set ?_ GE358.out) | exact HB.out)))); have n3_ := Aside0.mk (blk_below (g := gb358) (o := .cells #[.int .i64 a0_0, .int .i64 a0_1, .int .i64 a0_2, .int .i64 a0_3] 23 (0, 0)) (by (with_reducible repeat (first | refine blk_drewN ?_ _ | refine blk_drew ?_ | refine blk_alloc ?_ _)); exact BK358.out) hb); have n4_ := Aside0.mk (below_step (by repeat (first | (with_reducible first | exact HB.out | apply below_alloc | apply pw_below_drewN | apply below_drew1 | refine below_set ?_ GE358.out) | exact HB.out)) hb); clear HO_6; clear HO_9; clear BK358; clear HB; have HO_6 := n0_; have HO_9 := n1_; have HO399 := n2_; have BK358 := n3_; have HB := n4_; clear n0_ n1_ n2_ n3_ n4_; (try clear hb); (try clear hb2); (try clear hk); (try clear hi); (try clear ho0); obtain ⟨Ao65, co65, eo65⟩ := Kd.R_slice HO399.out; subst eo65) | ((with_reducible refine gate_callee (f := 24) rfl ?_); refine goesL_ (some 84) rfl rfl Tryd.func24 (by kernel_rfl) rfl #[.agg #[.int .i64 t393, .int .i64 t394, .int .i64 t395, .int .i64 t396], .slice Ao65 t397.length co65] rfl (by (try simp only [List.map_toArray, List.map_cons, List.map_nil]); first | done | rfl | (simp only [List.length_drop, List.length_take]; rfl)) ?_; (with_reducible refine (impl_SessIds.calls kj36 t393 t394 t395 t396 _ _ t397 t400 t403 _ ?side1 ?side2 A58.out (G_below (by repeat (first | (with_reducible first | exact HB.out | apply below_alloc | apply pw_below_drewN | apply below_drew1 | refine below_set ?_ GE358.out) | exact HB.out)) hG)).mono ?_); (case side1 => repeat (first | exact (Kd.R_reads' HO399.out).2.2 | (with_reducible refine Kd.C_alloc ?_ _) | (with_reducible refine Kd.C_drewN ?_ _) | (with_reducible refine Kd.C_drew ?_))); (case side2 => exact (Kd.R_reads' HO399.out).2.1); rintro e w66 ⟨v401, rfl, ho0, hb⟩; refine ⟨_, rfl, ?_⟩; have n0_ := Aside0.mk (Kd.R_elder' (by (with_reducible repeat (first | apply Kd.R_alloc | apply Kd.R_drewN | apply Kd.R_drew)); exact HO_6.out) (Kd.R_base ho0) hb); have n1_ := Aside0.mk (Kd.R_elder' (by (with_reducible repeat (first | apply Kd.R_alloc | apply Kd.R_drewN | apply Kd.R_drew)); exact HO_9.out) (Kd.R_base ho0) hb); have n2_ := Aside0.mk (Kd.R_below (by (with_reducible repeat (first | apply Kd.R_alloc | apply Kd.R_drewN | apply Kd.R_drew)); exact HO399.out) hb); have n3_ := Aside0.mk (Kd.R_lower (Kd.R_new' (Kd.R_new' ho0 (Kd.R_lt (by (with_reducible repeat (first | apply Kd.R_alloc | apply Kd.R_drewN | apply Kd.R_drew)); exact HO_6.out))) (Kd.R_lt (by (with_reducible repeat (first | apply Kd.R_alloc | apply Kd.R_drewN | apply Kd.R_drew)); exact HO_9.out))) (below_size (by repeat (first | (with_reducible first | exact HB.out | apply below_alloc | apply pw_below_drewN | apply below_drew1 | refine below_set ?_ GE358.out) | exact HB.out)))); have n4_ := Aside0.mk (blk_below (g := gb358) (o := .cells #[.int .i64 a0_0, .int .i64 a0_1, .int .i64 a0_2, .int .i64 a0_3] 23 (0, 0)) (by (with_reducible repeat (first | refine blk_drewN ?_ _ | refine blk_drew ?_ | refine blk_alloc ?_ _)); exact BK358.out) hb); have n5_ := Aside0.mk (below_step (by repeat (first | (with_reducible first | exact HB.out | apply below_alloc | apply pw_below_drewN | apply below_drew1 | refine below_set ?_ GE358.out) | exact HB.out)) hb); clear HO_6; clear HO_9; clear HO399; clear BK358; clear HB; have HO_6 := n0_; have HO_9 := n1_; have HO399 := n2_; have HO402 := n3_; have BK358 := n4_; have HB := n5_; clear n0_ n1_ n2_ n3_ n4_ n5_; (try clear hb); (try clear hb2); (try clear hk); (try clear hi); (try clear ho0)))
                      (try simp only [Act.put, List.setIfInBounds_toArray, List.set_cons_zero, List.set_cons_succ])
                      go_cut [95] (fun v95 wc => ∃ (kq : Nat) (x95_58 : Bool), v95 = .bool x95_58 ∧ Aside0 (laws_FnExactSessIds.j2 kq t391 t390 x95_58 = some r) ∧ Aside0 (kq ≤ kj36) ∧ Aside0 (Kd.R (Kd.int .i64) 3 wc w.heap.size (fun _ => True) (.slice Ao60 t378.length co60) t391) ∧ Aside0 (wc.heap[gb358]? = some (.cells #[.int .i64 a0_0, .int .i64 a0_1, .int .i64 a0_2, .int .i64 a0_3] 23 (0, 0))) ∧ Aside0 (Below w.heap.size w wc))
                      case first =>
                        have H := HC59.out
                        clear HC59
                        replace H := Option.bind_eq_some_iff.mp H
                        obtain ⟨t404, A670, H⟩ := H
                        replace H : (if t404 = true then (laws_FnExactSessIds.j2 kj36 t391 t390 (t403 != t370)) else (laws_FnExactSessIds.j2 kj36 t391 t390 true)) = some r := H
                        have A67 := Aside0.mk A670
                        clear A670
                        by_cases c68 : t404 = true
                        · subst c68
                          have H1 : (laws_FnExactSessIds.j2 kj36 t391 t390 (t403 != t370)) = some r := by rw [if_pos rfl] at H; exact H
                          clear H
                          have H := H1
                          clear H1
                          have H' := Aside0.mk H
                          clear H
                          obtain ⟨Ao69, co69, eo69⟩ := Kd.R_slice HO402.out
                          subst eo69
                          obtain ⟨Ao70, co70, eo70⟩ := Kd.R_slice HO_6.out
                          subst eo70
                          go_wp2_with (first | ((with_reducible refine gate_callee (f := 25) rfl ?_); refine goesL_ (some 89) rfl rfl Tryd.func25 (by kernel_rfl) rfl #[.slice Ao69 t400.length co69, .slice Ao70 t367.length co70] rfl (by (try simp only [List.map_toArray, List.map_cons, List.map_nil]); first | done | rfl | (simp only [List.length_drop, List.length_take]; rfl)) ?_; (with_reducible refine (laws_eqIntS.calls kj36 _ _ t400 _ _ t367 true _ ?side1 ?side2 ?side3 ?side4 A67.out).mono ?_); (case side1 => repeat (first | exact (Kd.R_reads' HO402.out).2.2 | (with_reducible refine Kd.C_alloc ?_ _) | (with_reducible refine Kd.C_drewN ?_ _) | (with_reducible refine Kd.C_drew ?_))); (case side2 => exact (Kd.R_reads' HO402.out).2.1); (case side3 => repeat (first | exact (Kd.R_reads' HO_6.out).2.2 | (with_reducible refine Kd.C_alloc ?_ _) | (with_reducible refine Kd.C_drewN ?_ _) | (with_reducible refine Kd.C_drew ?_))); (case side4 => exact (Kd.R_reads' HO_6.out).2.1); rintro e w' ⟨rfl, ⟨nd, rfl⟩⟩; refine ⟨_, rfl, ?_⟩))
                          go_meet
                          case rel => exact ⟨_, ((t403 != t370)), (by first | rfl | (simp; done) | (simp [*]; done)), H', ⟨by have := HJ12.out; have := HJ36.out; first | omega | exact Nat.le_refl _⟩, ⟨by (with_reducible repeat (first | apply Kd.R_alloc | apply Kd.R_drewN | apply Kd.R_drew)); exact Kd.R_mono HO_9.out (fun _ hk => trivial)⟩, ⟨by (with_reducible repeat (first | refine blk_drewN ?_ _ | refine blk_drew ?_ | refine blk_alloc ?_ _)); exact BK358.out⟩, ⟨by repeat (first | (with_reducible first | exact HB.out | apply below_alloc | apply pw_below_drewN | apply below_drew1 | refine below_set ?_ GE358.out) | exact HB.out)⟩⟩
                        · replace c68 := Bool.eq_false_iff.mpr c68
                          subst c68
                          have H1 : (laws_FnExactSessIds.j2 kj36 t391 t390 true) = some r := by rw [if_neg (show ¬ (false = true) by decide)] at H; exact H
                          clear H
                          have H := H1
                          clear H1
                          have H' := Aside0.mk H
                          clear H
                          obtain ⟨Ao71, co71, eo71⟩ := Kd.R_slice HO402.out
                          subst eo71
                          obtain ⟨Ao72, co72, eo72⟩ := Kd.R_slice HO_6.out
                          subst eo72
                          go_wp2_with (first | ((with_reducible refine gate_callee (f := 25) rfl ?_); refine goesL_ (some 89) rfl rfl Tryd.func25 (by kernel_rfl) rfl #[.slice Ao71 t400.length co71, .slice Ao72 t367.length co72] rfl (by (try simp only [List.map_toArray, List.map_cons, List.map_nil]); first | done | rfl | (simp only [List.length_drop, List.length_take]; rfl)) ?_; (with_reducible refine (laws_eqIntS.calls kj36 _ _ t400 _ _ t367 false _ ?side1 ?side2 ?side3 ?side4 A67.out).mono ?_); (case side1 => repeat (first | exact (Kd.R_reads' HO402.out).2.2 | (with_reducible refine Kd.C_alloc ?_ _) | (with_reducible refine Kd.C_drewN ?_ _) | (with_reducible refine Kd.C_drew ?_))); (case side2 => exact (Kd.R_reads' HO402.out).2.1); (case side3 => repeat (first | exact (Kd.R_reads' HO_6.out).2.2 | (with_reducible refine Kd.C_alloc ?_ _) | (with_reducible refine Kd.C_drewN ?_ _) | (with_reducible refine Kd.C_drew ?_))); (case side4 => exact (Kd.R_reads' HO_6.out).2.1); rintro e w' ⟨rfl, ⟨nd, rfl⟩⟩; refine ⟨_, rfl, ?_⟩))
                          go_meet
                          case rel => exact ⟨_, (true), (by first | rfl | (simp; done) | (simp [*]; done)), H', ⟨by have := HJ12.out; have := HJ36.out; first | omega | exact Nat.le_refl _⟩, ⟨by (with_reducible repeat (first | apply Kd.R_alloc | apply Kd.R_drewN | apply Kd.R_drew)); exact Kd.R_mono HO_9.out (fun _ hk => trivial)⟩, ⟨by (with_reducible repeat (first | refine blk_drewN ?_ _ | refine blk_drew ?_ | refine blk_alloc ?_ _)); exact BK358.out⟩, ⟨by repeat (first | (with_reducible first | exact HB.out | apply below_alloc | apply pw_below_drewN | apply below_drew1 | refine below_set ?_ GE358.out) | exact HB.out)⟩⟩
                      case rest =>
                        clear HC59
                        try clear c1
                        try clear c2
                        try clear p2
                        try clear c3
                        try clear c4
                        try clear c4b0
                        try clear c5
                        try clear c6
                        try clear c10
                        try clear c21
                        try clear c22
                        try clear c23
                        try clear c24
                        try clear c25
                        try clear c26
                        try clear c27
                        try clear c28
                        try clear c29
                        try clear c32
                        try clear c35
                        try clear c42
                        try clear c42b0
                        try clear c44
                        try clear c49
                        try clear c52
                        try clear c52b0
                        try clear c55
                        try clear c55b0
                        try clear c55b1
                        try clear c68
                        try clear hcz16_0
                        try clear hcz16_1
                        try clear hcz16_2
                        try clear hcz16_3
                        try clear hcz22_0
                        try clear hcz22_1
                        try clear hcz22_2
                        try clear hcz22_3
                        try clear hcz62_0
                        try clear hcz62_1
                        try clear hcz62_2
                        try clear hcz62_3
                        try clear hfz16_0
                        try clear hfz16_1
                        try clear hfz16_2
                        try clear hfz16_3
                        try clear hfz22_0
                        try clear hfz22_1
                        try clear hfz22_2
                        try clear hfz22_3
                        try clear hfz62_0
                        try clear hfz62_1
                        try clear hfz62_2
                        try clear hfz62_3
                        try clear p2
                        obtain ⟨kq, x95_58, rfl, HA, HJ58, HO_9, BK358, HB⟩ := hcut
                        have hl9_58 := (Kd.R_reads' HO_9.out).1
                        rw [hl9_58] at HO_9
                        (try simp only [hl9_58])
                        (try simp only [hl9_58] at BK358)
                        cases kq with
                        | zero => exact absurd HA.out (by simp [laws_FnExactSessIds.j2])
                        | succ kj58 =>
                          have H := HA.out
                          clear HA
                          simp only [laws_FnExactSessIds.j2] at H
                          by_cases c73 : x95_58 = true
                          · subst c73
                            have H1 : (some false) = some r := by rw [if_pos rfl] at H; exact H
                            clear H
                            have H := H1
                            clear H1
                            obtain rfl := Option.some.inj H
                            go_wp2
                            go_ret
                            exact ⟨by first | rfl | (simp [errW_none, errW_some] <;> rfl) | (simp [*, errW_none, errW_some] <;> rfl), by repeat (first | (with_reducible first | exact HB.out | apply below_alloc | apply pw_below_drewN | apply below_drew1 | refine below_set ?_ GE358.out) | exact HB.out)⟩
                          · replace c73 := Bool.eq_false_iff.mpr c73
                            subst c73
                            have H1 : ((laws_heldIntS.f kj58 t391 1).bind fun t405 => (if t405 < 0 then (some false) else (if t405 = t390 then (some true) else (some false)))) = some r := by rw [if_neg (show ¬ (false = true) by decide)] at H; exact H
                            clear H
                            have H := H1
                            clear H1
                            replace H := Option.bind_eq_some_iff.mp H
                            obtain ⟨t405, A740, H⟩ := H
                            replace H : (if t405 < 0 then (some false) else (if t405 = t390 then (some true) else (some false))) = some r := H
                            have A74 := Aside0.mk A740
                            clear A740
                            by_cases c75 : t405 < 0
                            · rw [if_pos c75] at H
                              have c75b0 : decide (t405 < 0) = true := decide_eq_true c75
                              clear c75
                              obtain rfl := Option.some.inj H
                              go_wp2_with (first | ((with_reducible refine gate_callee (f := 29) rfl ?_); refine goesL_ (some 98) rfl rfl Tryd.func29 (by kernel_rfl) rfl #[.slice Ao60 t391.length co60, .int .i64 1] rfl (by (try simp only [List.map_toArray, List.map_cons, List.map_nil]); first | done | rfl | (simp only [List.length_drop, List.length_take]; rfl)) ?_; (with_reducible refine (laws_heldIntS.calls kj58 _ _ t391 1 t405 _ ?side1 ?side2 A74.out).mono ?_); (case side1 => repeat (first | exact (Kd.R_reads' HO_9.out).2.2 | (with_reducible refine Kd.C_alloc ?_ _) | (with_reducible refine Kd.C_drewN ?_ _) | (with_reducible refine Kd.C_drew ?_))); (case side2 => exact (Kd.R_reads' HO_9.out).2.1); rintro e w' ⟨rfl, ⟨nd, rfl⟩⟩; refine ⟨_, rfl, ?_⟩))
                              go_ret
                              exact ⟨by first | rfl | (simp [errW_none, errW_some] <;> rfl) | (simp [*, errW_none, errW_some] <;> rfl), by repeat (first | (with_reducible first | exact HB.out | apply below_alloc | apply pw_below_drewN | apply below_drew1 | refine below_set ?_ GE358.out) | exact HB.out)⟩
                            · rw [if_neg c75] at H
                              have c75b0 : decide (t405 < 0) = false := decide_eq_false c75
                              clear c75
                              by_cases c76 : t405 = t390
                              · rw [if_pos c76] at H
                                have c76b0 : (t405 == t390) = true := beq_iff_eq.mpr c76
                                have c76b1 : (t405 != t390) = false := bne_eq_false_iff_eq.mpr c76
                                clear c76
                                obtain rfl := Option.some.inj H
                                go_wp2_with (first | ((with_reducible refine gate_callee (f := 29) rfl ?_); refine goesL_ (some 98) rfl rfl Tryd.func29 (by kernel_rfl) rfl #[.slice Ao60 t391.length co60, .int .i64 1] rfl (by (try simp only [List.map_toArray, List.map_cons, List.map_nil]); first | done | rfl | (simp only [List.length_drop, List.length_take]; rfl)) ?_; (with_reducible refine (laws_heldIntS.calls kj58 _ _ t391 1 t405 _ ?side1 ?side2 A74.out).mono ?_); (case side1 => repeat (first | exact (Kd.R_reads' HO_9.out).2.2 | (with_reducible refine Kd.C_alloc ?_ _) | (with_reducible refine Kd.C_drewN ?_ _) | (with_reducible refine Kd.C_drew ?_))); (case side2 => exact (Kd.R_reads' HO_9.out).2.1); rintro e w' ⟨rfl, ⟨nd, rfl⟩⟩; refine ⟨_, rfl, ?_⟩))
                                go_ret
                                exact ⟨by first | rfl | (simp [errW_none, errW_some] <;> rfl) | (simp [*, errW_none, errW_some] <;> rfl), by repeat (first | (with_reducible first | exact HB.out | apply below_alloc | apply pw_below_drewN | apply below_drew1 | refine below_set ?_ GE358.out) | exact HB.out)⟩
                              · rw [if_neg c76] at H
                                have c76b0 : (t405 == t390) = false := beq_eq_false_iff_ne.mpr c76
                                have c76b1 : (t405 != t390) = true := bne_iff_ne.mpr c76
                                obtain rfl := Option.some.inj H
                                go_wp2_with (first | ((with_reducible refine gate_callee (f := 29) rfl ?_); refine goesL_ (some 98) rfl rfl Tryd.func29 (by kernel_rfl) rfl #[.slice Ao60 t391.length co60, .int .i64 1] rfl (by (try simp only [List.map_toArray, List.map_cons, List.map_nil]); first | done | rfl | (simp only [List.length_drop, List.length_take]; rfl)) ?_; (with_reducible refine (laws_heldIntS.calls kj58 _ _ t391 1 t405 _ ?side1 ?side2 A74.out).mono ?_); (case side1 => repeat (first | exact (Kd.R_reads' HO_9.out).2.2 | (with_reducible refine Kd.C_alloc ?_ _) | (with_reducible refine Kd.C_drewN ?_ _) | (with_reducible refine Kd.C_drew ?_))); (case side2 => exact (Kd.R_reads' HO_9.out).2.1); rintro e w' ⟨rfl, ⟨nd, rfl⟩⟩; refine ⟨_, rfl, ?_⟩))
                                go_ret
                                exact ⟨by first | rfl | (simp [errW_none, errW_some] <;> rfl) | (simp [*, errW_none, errW_some] <;> rfl), by repeat (first | (with_reducible first | exact HB.out | apply below_alloc | apply pw_below_drewN | apply below_drew1 | refine below_set ?_ GE358.out) | exact HB.out)⟩
                    · rw [if_neg c55] at H
                      have c55b0 : (t392 == t390) = false := beq_eq_false_iff_ne.mpr c55
                      have c55b1 : (t392 != t390) = true := bne_iff_ne.mpr c55
                      obtain rfl := Option.some.inj H
                      obtain ⟨Ao77, co77, eo77⟩ := Kd.R_slice HO_9.out
                      subst eo77
                      go_wp2_with (first | ((with_reducible refine gate_callee (f := 28) rfl ?_); refine goesL_ (some 70) rfl rfl Tryd.func28 (by kernel_rfl) rfl #[.slice Ao77 t378.length co77, .int .i64 1] rfl (by (try simp only [List.map_toArray, List.map_cons, List.map_nil]); first | done | rfl | (simp only [List.length_drop, List.length_take]; rfl)) ?_; (with_reducible refine (laws_markIntS.calls kj36 (fun k_ => some k_ = (.slice Ao77 t378.length co77 : Value).ownBlock) (.slice Ao77 t378.length co77) t378 1 t390 t391 w _ ?side1 ?side2 A50.out).mono ?_); (case side1 => repeat (first | (with_reducible first | exact HB.out | apply below_alloc | apply pw_below_drewN | apply below_drew1 | refine below_set ?_ GE358.out) | exact HB.out)); (case side2 => exact Kd.R_tight rfl HO_9.out); rintro e w78 ⟨rfl, hy0, hb, hkp⟩; refine ⟨_, rfl, ?_⟩; have n0_ := Aside0.mk (Kd.R_mono (ok' := fun k_ => some k_ ≠ (.slice Ao77 t378.length co77 : Value).ownBlock) (Kd.R_keptB (HO_6.out) hkp (fun k_ hk_ hs_ => (hk_) hs_)) (fun k_ hk_ => hk_.1)); have n1_ := Aside0.mk (Kd.R_reok rfl hy0 (fun k_ e_ => HO_9.out.1 k_ e_)); have n2_ := Aside0.mk (blk_kept (by (with_reducible repeat (first | refine blk_drewN ?_ _ | refine blk_drew ?_ | refine blk_alloc ?_ _)); exact BK358.out) hkp (fun hs_ => (fun e_ => (Kd.R_ne HO_9.out BK358.out (by decide)) e_) hs_)); have n3_ := Aside0.mk (hb); clear HO_6; clear HO_9; clear BK358; clear HB; have HO_6 := n0_; have HO_9 := n1_; have BK358 := n2_; have HB := n3_; clear n0_ n1_ n2_ n3_; (try clear hb); (try clear hkp); (try clear hy0)) | ((with_reducible refine gate_callee (f := 29) rfl ?_); refine goesL_ (some 73) rfl rfl Tryd.func29 (by kernel_rfl) rfl #[.slice Ao77 t391.length co77, .int .i64 1] rfl (by (try simp only [List.map_toArray, List.map_cons, List.map_nil]); first | done | (rw [show t391.length = t378.length from (Kd.R_reads' HO_9.out).1.symm] <;> rfl) | rfl | (simp only [List.length_drop, List.length_take]; rfl)) ?_; (with_reducible refine (laws_heldIntS.calls kj36 _ _ t391 1 t392 _ ?side1 ?side2 A51.out).mono ?_); (case side1 => repeat (first | exact (Kd.R_reads' HO_9.out).2.2 | (with_reducible refine Kd.C_alloc ?_ _) | (with_reducible refine Kd.C_drewN ?_ _) | (with_reducible refine Kd.C_drew ?_))); (case side2 => rw [show t391.length = t378.length from (Kd.R_reads' HO_9.out).1.symm]; exact (Kd.R_reads' HO_9.out).2.1); rintro e w' ⟨rfl, ⟨nd, rfl⟩⟩; refine ⟨_, rfl, ?_⟩))
                      go_ret
                      exact ⟨by first | rfl | (simp [errW_none, errW_some] <;> rfl) | (simp [*, errW_none, errW_some] <;> rfl), by repeat (first | (with_reducible first | exact HB.out | apply below_alloc | apply pw_below_drewN | apply below_drew1 | refine below_set ?_ GE358.out) | exact HB.out)⟩
          · replace c35 := Bool.eq_false_iff.mpr c35
            subst c35
            have H1 : (some false) = some r := by rw [if_neg (show ¬ (false = true) by decide)] at H; exact H
            clear H
            have H := H1
            clear H1
            obtain rfl := Option.some.inj H
            go_wp2_with (first | ((with_reducible refine gate_callee (f := 23) rfl ?_); refine goesL_ (some 49) rfl rfl Tryd.func23 (by kernel_rfl) rfl #[.slice A1 l1.length c1] rfl (by (try simp only [List.map_toArray, List.map_cons, List.map_nil]); first | done | rfl | (simp only [List.length_drop, List.length_take]; rfl)) ?_; (with_reducible refine (laws_toReqS.calls kj12 _ _ l1 t383 _ ?side1 ?side2 A33.out).mono ?_); (case side1 => repeat (first | exact (Kd.C_below HR1.out HB.out) | (with_reducible refine Kd.C_alloc ?_ _) | (with_reducible refine Kd.C_drewN ?_ _) | (with_reducible refine Kd.C_drew ?_))); (case side2 => exact HC1.out); rintro e w79 ⟨v384, rfl, ho0, hb⟩; refine ⟨_, rfl, ?_⟩; have n0_ := Aside0.mk (Kd.R_below (by (with_reducible repeat (first | apply Kd.R_alloc | apply Kd.R_drewN | apply Kd.R_drew)); exact HO_6.out) hb); have n1_ := Aside0.mk (Kd.R_elder' (by (with_reducible repeat (first | apply Kd.R_alloc | apply Kd.R_drewN | apply Kd.R_drew)); exact HO_8.out) (Kd.R_base ho0) hb); have n2_ := Aside0.mk (Kd.R_below (by (with_reducible repeat (first | apply Kd.R_alloc | apply Kd.R_drewN | apply Kd.R_drew)); exact HO_9.out) hb); have n3_ := Aside0.mk (Kd.R_lower (Kd.R_new' ho0 (Kd.R_lt (by (with_reducible repeat (first | apply Kd.R_alloc | apply Kd.R_drewN | apply Kd.R_drew)); exact HO_8.out))) (below_size (by repeat (first | (with_reducible first | exact HB.out | apply below_alloc | apply pw_below_drewN | apply below_drew1 | refine below_set ?_ GE358.out) | exact HB.out)))); have n4_ := Aside0.mk (blk_below (g := gb358) (o := .cells #[.int .i64 a0_0, .int .i64 a0_1, .int .i64 a0_2, .int .i64 a0_3] 23 (0, 0)) (by (with_reducible repeat (first | refine blk_drewN ?_ _ | refine blk_drew ?_ | refine blk_alloc ?_ _)); exact BK358.out) hb); have n5_ := Aside0.mk (below_step (by repeat (first | (with_reducible first | exact HB.out | apply below_alloc | apply pw_below_drewN | apply below_drew1 | refine below_set ?_ GE358.out) | exact HB.out)) hb); clear HO_6; clear HO_8; clear HO_9; clear BK358; clear HB; have HO_6 := n0_; have HO_8 := n1_; have HO_9 := n2_; have HO385 := n3_; have BK358 := n4_; have HB := n5_; clear n0_ n1_ n2_ n3_ n4_ n5_; (try clear hb); (try clear hb2); (try clear hk); (try clear hi); (try clear ho0); obtain ⟨Ao80, co80, eo80⟩ := Kd.R_slice HO385.out; subst eo80) | ((with_reducible refine gate_callee (f := 26) rfl ?_); refine goesL_ (some 50) rfl rfl Tryd.func26 (by kernel_rfl) rfl #[.slice Ao24 t371.length co24, .slice Ao80 t383.length co80] rfl (by (try simp only [List.map_toArray, List.map_cons, List.map_nil]); first | done | rfl | (simp only [List.length_drop, List.length_take]; rfl)) ?_; (with_reducible refine (laws_eqReqS.calls kj12 _ _ t371 _ _ t383 false _ ?side1 ?side2 ?side3 ?side4 A34.out).mono ?_); (case side1 => repeat (first | exact (Kd.R_reads' HO_8.out).2.2 | (with_reducible refine Kd.C_alloc ?_ _) | (with_reducible refine Kd.C_drewN ?_ _) | (with_reducible refine Kd.C_drew ?_))); (case side2 => exact (Kd.R_reads' HO_8.out).2.1); (case side3 => repeat (first | exact (Kd.R_reads' HO385.out).2.2 | (with_reducible refine Kd.C_alloc ?_ _) | (with_reducible refine Kd.C_drewN ?_ _) | (with_reducible refine Kd.C_drew ?_))); (case side4 => exact (Kd.R_reads' HO385.out).2.1); rintro e w81 ⟨rfl, hb⟩; refine ⟨_, rfl, ?_⟩; have n0_ := Aside0.mk (Kd.R_below (by (with_reducible repeat (first | apply Kd.R_alloc | apply Kd.R_drewN | apply Kd.R_drew)); exact HO_6.out) hb); have n1_ := Aside0.mk (Kd.R_below (by (with_reducible repeat (first | apply Kd.R_alloc | apply Kd.R_drewN | apply Kd.R_drew)); exact HO_8.out) hb); have n2_ := Aside0.mk (Kd.R_below (by (with_reducible repeat (first | apply Kd.R_alloc | apply Kd.R_drewN | apply Kd.R_drew)); exact HO_9.out) hb); have n3_ := Aside0.mk (Kd.R_below (by (with_reducible repeat (first | apply Kd.R_alloc | apply Kd.R_drewN | apply Kd.R_drew)); exact HO385.out) hb); have n4_ := Aside0.mk (blk_below (g := gb358) (o := .cells #[.int .i64 a0_0, .int .i64 a0_1, .int .i64 a0_2, .int .i64 a0_3] 23 (0, 0)) (by (with_reducible repeat (first | refine blk_drewN ?_ _ | refine blk_drew ?_ | refine blk_alloc ?_ _)); exact BK358.out) hb); have n5_ := Aside0.mk (below_step (by repeat (first | (with_reducible first | exact HB.out | apply below_alloc | apply pw_below_drewN | apply below_drew1 | refine below_set ?_ GE358.out) | exact HB.out)) hb); clear HO_6; clear HO_8; clear HO_9; clear HO385; clear BK358; clear HB; have HO_6 := n0_; have HO_8 := n1_; have HO_9 := n2_; have HO385 := n3_; have BK358 := n4_; have HB := n5_; clear n0_ n1_ n2_ n3_ n4_ n5_; (try clear hb); (try clear hb2); (try clear hk); (try clear hi)))
            go_ret
            exact ⟨by first | rfl | (simp [errW_none, errW_some] <;> rfl) | (simp [*, errW_none, errW_some] <;> rfl), by repeat (first | (with_reducible first | exact HB.out | apply below_alloc | apply pw_below_drewN | apply below_drew1 | refine below_set ?_ GE358.out) | exact HB.out)⟩
end Go.Proofs.YtbpffdhkeinmcaaDoor.QC
namespace Go.Proofs.YtbpffdhkeinmcaaDoor.Open
open Go.RowKit Go.Proofs.YtbpffdhkeinmcaaDoorW.PrintWords
open Go.ChangeShapes Go.WideShapes
set_option linter.unusedVariables false
def InK (k : IntKind) (n : Int) : Prop := (Lit.int k n).wf = true
def InS (s : ByteArray) : Prop := s.size ≤ 9223372036854775807
def InL {α : Type} (W : α → Prop) (xs : List α) : Prop := xs.length ≤ 9223372036854775807 ∧ ∀ x, x ∈ xs → W x
structure Opens {α : Type} (P : Program) (t : TypeId) (d : Kd α) (W : α → Prop) : Prop where
  cells : P.cellsOf t = d.sz
  reads : ∀ {H : Type} (enc : TypeId × Value → H) (w : World) (base fuel : Nat) (held : Bool) (cs : List Value) (x : DataW H × List MemPlace),
    DataW.trod enc P w base (fun _ => true) held fuel t cs = some x → ∃ y, d.K w y cs ∧ W y
theorem opens_int {P : Program} {t : TypeId} {k : IntKind} (ht : P.underlying t = some (.int k)) (hc : P.cellsOf t = 1) : Opens P t (Kd.int k) (InK k) := by
  refine ⟨hc, ?_⟩
  intro H enc w base fuel held cs x h
  cases fuel with
  | zero => simp [DataW.trod] at h
  | succ n =>
    unfold DataW.trod at h
    rw [ht] at h
    split at h <;> simp_all
    rename_i h2
    obtain ⟨⟨rfl, h3⟩, _⟩ := h
    exact ⟨_, rfl, h3⟩
theorem opens_string {P : Program} {t : TypeId} (ht : P.underlying t = some .string) (hc : P.cellsOf t = 1) : Opens P t Kd.string InS := by
  refine ⟨hc, ?_⟩
  intro H enc w base fuel held cs x h
  cases fuel with
  | zero => simp [DataW.trod] at h
  | succ n =>
    unfold DataW.trod at h
    rw [ht] at h
    split at h <;> simp_all
    exact ⟨_, rfl, by unfold InS; have := h.1; simpa [maxLen] using this⟩
theorem opens_slice {α : Type} {P : Program} {t e : TypeId} {d : Kd α} {W : α → Prop} (ht : P.underlying t = some (.slice e)) (hc : P.cellsOf t = 1) (z : α) (he : Opens P e d W) : Opens P t (Kd.slice e d) (InL W) := by
  refine ⟨hc, ?_⟩
  intro H enc w base fuel held cs x h
  rcases Go.Deep.open_slice ht h with ⟨rfl, _⟩ | ⟨a, len, cap, m, n, D, Pl, rfl, hb, hl, hm, hmm, rfl, hx⟩
  · exact ⟨[], ⟨none, 0, rfl, Nat.le_refl _, rfl, by simp, fun h0 => absurd h0 (by simp)⟩, by simp, by simp⟩
  · simp only [if_true] at hmm
    subst hmm
    have hm' : m ≤ 9223372036854775807 := by simpa [maxLen] using hm
    have each : ∀ i, i < m → ∃ y : α, ∃ c : List Value, c.length = d.sz ∧ d.K w y c ∧ W y ∧ ∀ j u, c[j]? = some u → w.cell? (a.add (i * d.sz + j)) = some u := by
      intro i hi
      obtain ⟨cs', h1, h2⟩ := hx i hi
      obtain ⟨y, hK, hW⟩ := he.reads enc w base n held cs' _ h2
      obtain ⟨_, hlen, hcell⟩ := World.cells?_some h1
      refine ⟨y, cs', d.K_len hK, hK, hW, fun j u hu => ?_⟩
      have hj : j < P.cellsOf e := by
        rw [← hlen]
        exact (List.getElem?_eq_some_iff.1 hu).1
      have := hcell j hj
      rw [Go.Deep.add_add, he.cells] at this
      rw [this]; exact hu
    haveI : Inhabited α := ⟨z⟩
    obtain ⟨f, hf⟩ := Go.Deep.choose_lt each
    refine ⟨(List.range len).map f, ⟨some a, m, ?_, ?_, ?_⟩, ?_, ?_⟩
    · simp
    · simp; exact hl
    · refine ⟨by simp, by simp; omega, fun _ => ⟨a, rfl, fun j p hj => ?_⟩⟩
      have hj1 : j < len := by have := (List.getElem?_eq_some_iff.1 hj).1; simpa using this
      have hp : f j = p := by simpa [hj1] using hj
      obtain ⟨c, h1, h2, _, h3⟩ := hf j (by omega)
      exact ⟨c, h1, hp ▸ h2, h3⟩
    · simp; omega
    · intro y hy
      obtain ⟨i, hi, rfl⟩ := List.mem_map.1 hy
      obtain ⟨c, _, _, hW, _⟩ := hf i (by have := List.mem_range.1 hi; omega)
      exact hW
structure FieldsOpen {α : Type} (P : Program) (fs : List Field) (off : Nat) (d : Kd α) (W : α → Prop) : Prop where
  reads : ∀ {H : Type} (enc : TypeId × Value → H) (w : World) (base fuel : Nat) (held : Bool) (cs : List Value) (xs : List (DataW H × List MemPlace)),
    cs.length = off + d.sz → (fs.mapM fun f => DataW.trod enc P w base (fun _ => true) held fuel f.type ((cs.drop f.offset).take (P.cellsOf f.type))) = some xs → ∃ y, d.K w y (cs.drop off) ∧ W y
theorem fields_one {α : Type} {P : Program} {f : Field} {off : Nat} {d : Kd α} {W : α → Prop} (ho : f.offset = off) (h : Opens P f.type d W) : FieldsOpen P [f] off d W := by
  refine ⟨?_⟩
  intro H enc w base fuel held cs xs hl hm
  have h1 := mapM_some_get hm 0 f rfl
  have h2 := mapM_some_length hm
  simp only [List.length_singleton] at h2
  rw [List.getElem?_eq_getElem (by omega)] at h1
  obtain ⟨y, hK, hW⟩ := h.reads enc w base fuel held _ _ h1
  refine ⟨y, ?_, hW⟩
  rw [ho, h.cells, List.take_of_length_le (by rw [List.length_drop]; omega)] at hK
  exact hK
theorem fields_cons {α β : Type} {P : Program} {f : Field} {fs : List Field} {off : Nat} {a : Kd α} {b : Kd β} {Wa : α → Prop} {Wb : β → Prop} (ho : f.offset = off) (h : Opens P f.type a Wa) (hs : FieldsOpen P fs (off + a.sz) b Wb) :
    FieldsOpen P (f :: fs) off (Kd.pair a b) (fun x => Wa x.1 ∧ Wb x.2) := by
  refine ⟨?_⟩
  intro H enc w base fuel held cs xs hl hm
  have hsz : (Kd.pair a b).sz = a.sz + b.sz := rfl
  rw [hsz] at hl
  rw [List.mapM_cons] at hm
  obtain ⟨x0, h0, hm⟩ := Option.bind_eq_some_iff.1 hm
  obtain ⟨xs', hm', hm⟩ := Option.bind_eq_some_iff.1 hm
  obtain ⟨y, hK, hW⟩ := h.reads enc w base fuel held _ _ h0
  obtain ⟨y', hK', hW'⟩ := hs.reads enc w base fuel held cs xs' (by omega) hm'
  refine ⟨(y, y'), ⟨(cs.drop off).take a.sz, cs.drop (off + a.sz), ?_, ?_, hK'⟩, hW, hW'⟩
  · rw [← List.drop_drop, List.take_append_drop]
  · rw [ho, h.cells] at hK
    exact hK
theorem opens_struct {α : Type} {P : Program} {t : TypeId} {fs : Array Field} {d : Kd α} {W : α → Prop} (ht : P.underlying t = some (.struct fs)) (hc : P.cellsOf t = d.sz) (h : FieldsOpen P fs.toList 0 d W) : Opens P t d W := by
  refine ⟨hc, ?_⟩
  intro H enc w base fuel held cs x hx
  cases fuel with
  | zero => simp [DataW.trod] at hx
  | succ n =>
    have hx' : (if cs.length = P.cellsOf t then (fs.toList.mapM fun f => DataW.trod enc P w base (fun _ => true) held n f.type ((cs.drop f.offset).take (P.cellsOf f.type))).map fun xs => (DataW.agg (xs.map (·.1)), xs.flatMap (·.2)) else none) = some x := by
      unfold DataW.trod at hx
      rw [ht] at hx
      split at hx <;> first | exact hx | simp_all
    split at hx'
    · rename_i hlen
      obtain ⟨xs, hm, _⟩ := Option.map_eq_some_iff.1 hx'
      obtain ⟨y, hK, hW⟩ := h.reads enc w base n held cs xs (by omega) hm
      rw [List.drop_zero] at hK
      exact ⟨y, hK, hW⟩
    · cases hx'
theorem opens_iso {α β : Type} {P : Program} {t : TypeId} {d : Kd α} {W : α → Prop} {f : β → α} (g : α → β) (hg : ∀ x, f (g x) = x) (h : Opens P t d W) : Opens P t (Kd.iso d f) (fun y => W (f y)) := by
  refine ⟨h.cells, ?_⟩
  intro H enc w base fuel held cs x hx
  obtain ⟨y, hK, hW⟩ := h.reads enc w base fuel held cs x hx
  refine ⟨g y, ?_, by rw [hg]; exact hW⟩
  show d.K w (f (g y)) cs
  rw [hg]; exact hK
theorem opens_mono {α : Type} {P : Program} {t : TypeId} {d : Kd α} {W W' : α → Prop} (h : Opens P t d W) (hw : ∀ x, W x → W' x) : Opens P t d W' :=
  ⟨h.cells, fun enc w base fuel held cs x hx => let ⟨y, hK, hW⟩ := h.reads enc w base fuel held cs x hx; ⟨y, hK, hw y hW⟩⟩
theorem open_arg {α : Type} {H : Type} {enc : TypeId × Value → H} {P : Program} {w : World} {t : TypeId} {d : Kd α} {W : α → Prop} (ho : Opens P t d W) {v : Value} {dd : DataW H} {ps : List MemPlace}
    (h : DataW.Trod enc P w 0 (fun _ => true) true t v dd ps) : ∃ y, d.K w y v.cells.toList ∧ W y := by
  obtain ⟨fuel, hf⟩ := h
  exact ho.reads enc w 0 fuel true _ _ hf
theorem okWide_agg {P : Program} {w : World} {r : Reach} {base : Nat} {t : TypeId} {fs : Array Field} {v : Value} (ht : P.underlying t = some (.struct fs)) (h : Value.okWide P w r base t v) : ∃ cs, v = .agg cs := by
  unfold Value.okWide at h
  rw [ht] at h
  obtain ⟨cs, rfl, _⟩ := h
  exact ⟨cs, rfl⟩
end Go.Proofs.YtbpffdhkeinmcaaDoor.Open
namespace Go.Proofs.YtbpffdhkeinmcaaDoor.QC
open Go.RowKit Go.Proofs.YtbpffdhkeinmcaaDoorW.PrintWords Go.Proofs.YtbpffdhkeinmcaaDoorW.PrintLast Go.Proofs.YtbpffdhkeinmcaaDoor
def W23 (x : S23) : Prop := Open.InK .i64 x.f0 ∧ Open.InK .i64 x.f1 ∧ Open.InK .i64 x.f2 ∧ Open.InK .i64 x.f3
theorem opens23 : Open.Opens Tryd.prog 23 k23 W23 :=
  Open.opens_mono (Open.opens_iso (fun x => (⟨x.1, x.2.1, x.2.2.1, x.2.2.2⟩ : S23)) (fun _ => rfl) (Open.opens_struct Tryd.underlying23 (by kernel_rfl) (by exact (Open.fields_cons rfl (Open.opens_int (k := .i64) Tryd.underlying3 (by kernel_rfl)) (Open.fields_cons rfl (Open.opens_int (k := .i64) Tryd.underlying3 (by kernel_rfl)) (Open.fields_cons rfl (Open.opens_int (k := .i64) Tryd.underlying3 (by kernel_rfl)) (Open.fields_one rfl (Open.opens_int (k := .i64) Tryd.underlying3 (by kernel_rfl))))))))) (fun _ h => h)
def W29 (x : S29) : Prop := Open.InK .i64 x.f0 ∧ Open.InS x.f1 ∧ Open.InK .i64 x.f2 ∧ Open.InK .i64 x.f3 ∧ Open.InK .i64 x.f4 ∧ Open.InK .i64 x.f5 ∧ Open.InS x.f6
theorem opens29 : Open.Opens Tryd.prog 29 k29 W29 :=
  Open.opens_mono (Open.opens_iso (fun x => (⟨x.1, x.2.1, x.2.2.1, x.2.2.2.1, x.2.2.2.2.1, x.2.2.2.2.2.1, x.2.2.2.2.2.2⟩ : S29)) (fun _ => rfl) (Open.opens_struct Tryd.underlying29 (by kernel_rfl) (by exact (Open.fields_cons rfl (Open.opens_int (k := .i64) Tryd.underlying3 (by kernel_rfl)) (Open.fields_cons rfl (Open.opens_string Tryd.underlying9 (by kernel_rfl)) (Open.fields_cons rfl (Open.opens_int (k := .i64) Tryd.underlying3 (by kernel_rfl)) (Open.fields_cons rfl (Open.opens_int (k := .i64) Tryd.underlying3 (by kernel_rfl)) (Open.fields_cons rfl (Open.opens_int (k := .i64) Tryd.underlying3 (by kernel_rfl)) (Open.fields_cons rfl (Open.opens_int (k := .i64) Tryd.underlying3 (by kernel_rfl)) (Open.fields_one rfl (Open.opens_string Tryd.underlying9 (by kernel_rfl)))))))))))) (fun _ h => h)
end Go.Proofs.YtbpffdhkeinmcaaDoor.QC
namespace Go.Proofs.YtbpffdhkeinmcaaDoor.QC
open Go.RowKit Go.Proofs.YtbpffdhkeinmcaaDoorW.PrintWords Go.Proofs.YtbpffdhkeinmcaaDoorW.PrintLast Go.Proofs.YtbpffdhkeinmcaaDoor
def laws_FnExactSessIds.Pure : Prop := ∀ (y0 : S23) (y1 : List (S29)), W23 y0 → Open.InL (fun z => W29 z) y1 → ∃ k, laws_FnExactSessIds.f k y0.f0 y0.f1 y0.f2 y0.f3 y1 = some true
end Go.Proofs.YtbpffdhkeinmcaaDoor.QC
namespace Go.Proofs.YtbpffdhkeinmcaaDoor.L
open Go.RowKit Go.Proofs.YtbpffdhkeinmcaaDoorW.PrintWords Go.Proofs.YtbpffdhkeinmcaaDoorW.PrintMore
set_option linter.unusedVariables false
set_option linter.unusedSimpArgs false
theorem wrap_id {x : Int} (h0 : -9223372036854775808 ≤ x) (h1 : x ≤ 9223372036854775807) : wrap64 x = x := by unfold wrap64; omega
theorem wrap_nat_succ {i : Nat} (h : i < 9223372036854775807) : wrap64 ((i : Int) + 1) = ((i + 1 : Nat) : Int) := by unfold wrap64; omega
theorem evVal {α : Type} {g : Nat → Option α} {r r' : α} (h : Ev g r) (e : r = r') : Ev g r' := e ▸ h
theorem evConst {α : Type} {o : Option α} {r : α} (h : o = some r) : Ev (fun _ => o) r := ⟨0, fun _ _ => h⟩
theorem loop_ev {σ ρ : Type} (n : Nat) (G : Nat → σ → Int → Option ρ) (s : Nat → σ) (r : ρ)
    (hstep : ∀ i, i < n → Ev (fun k => G k (s (i + 1)) ((i + 1 : Nat) : Int)) r → Ev (fun k => G k (s i) (i : Int)) r)
    (hend : Ev (fun k => G k (s n) (n : Int)) r) : Ev (fun k => G k (s 0) 0) r := by
  have key : ∀ d i, i + d = n → Ev (fun k => G k (s i) (i : Int)) r := by
    intro d
    induction d with
    | zero => intro i h; obtain rfl : i = n := by omega
              exact hend
    | succ d ih => intro i h; exact hstep i (by omega) (ih (i + 1) (by omega))
  exact key n 0 (by omega)
theorem search_ev {ρ : Type} (n : Nat) (G : Nat → Int → Option ρ) (p : Nat → Bool) (rno ryes : ρ)
    (hgo : ∀ i, i < n → p i = true → ∀ r, Ev (fun k => G k ((i + 1 : Nat) : Int)) r → Ev (fun k => G k (i : Int)) r)
    (hstop : ∀ i, i < n → p i = false → Ev (fun k => G k (i : Int)) rno)
    (hend : Ev (fun k => G k (n : Int)) ryes) : Ev (fun k => G k 0) (if (List.range n).all p then ryes else rno) := by
  have key : ∀ d i, i + d = n → Ev (fun k => G k (i : Int)) (if ((List.range n).drop i).all p then ryes else rno) := by
    intro d
    induction d with
    | zero =>
      intro i h
      obtain rfl : i = n := by omega
      rw [List.drop_of_length_le (by simp)]
      exact hend
    | succ d ih =>
      intro i h
      have hi : i < n := by omega
      rw [List.drop_eq_getElem_cons (by simpa using hi), List.getElem_range, List.all_cons]
      cases hp : p i with
      | true => simpa using hgo i hi hp _ (ih (i + 1) (by omega))
      | false => simpa using hstop i hi hp
  have := key n 0 (by omega)
  simpa using this
theorem all_range {α : Type} (l : List α) (z : α) (q : α → Bool) : (List.range l.length).all (fun i => q (l.getD i z)) = l.all q := by
  induction l with
  | nil => rfl
  | cons x xs ih =>
    rw [List.length_cons, List.range_succ_eq_map, List.all_cons, List.all_map, List.all_cons, ← ih]
    rfl
theorem fill_ev {β : Type} (n : Nat) (z : β) (G : Nat → List β → Int → Option (List β)) (b : Nat → β)
    (hstep : ∀ i x3, i < n → x3.length = n → ∀ r, Ev (fun k => G k (x3.set i (b i)) ((i + 1 : Nat) : Int)) r → Ev (fun k => G k x3 (i : Int)) r)
    (hend : ∀ x3 : List β, x3.length = n → Ev (fun k => G k x3 (n : Int)) x3) : Ev (fun k => G k (List.replicate n z) 0) ((List.range n).map b) := by
  have key : ∀ d i x3, i + d = n → x3.length = n → (∀ j, j < i → x3[j]? = some (b j)) → Ev (fun k => G k x3 (i : Int)) ((List.range n).map b) := by
    intro d
    induction d with
    | zero =>
      intro i x3 h hl hx
      obtain rfl : i = n := by omega
      refine evVal (hend x3 hl) ?_
      apply List.ext_getElem?
      intro j
      by_cases hj : j < i
      · rw [hx j hj]; simp [hj]
      · rw [List.getElem?_eq_none (by omega), List.getElem?_eq_none (by simp; omega)]
    | succ d ih =>
      intro i x3 h hl hx
      refine hstep i x3 (by omega) hl _ (ih (i + 1) _ (by omega) (by simpa using hl) (fun j hj => ?_))
      by_cases e : j = i
      · subst e; rw [List.getElem?_set_self (by omega)]
      · rw [List.getElem?_set_ne (by omega)]; exact hx j (by omega)
  exact key n 0 _ (by omega) (by simp) (fun j hj => absurd hj (Nat.not_lt_zero _))
theorem map_range {α β : Type} (l : List α) (z : α) (t : α → β) : (List.range l.length).map (fun i => t (l.getD i z)) = l.map t := by
  apply List.ext_getElem?
  intro i
  by_cases hi : i < l.length
  · simp [hi, List.getD]
  · simp [hi]
theorem getD_lt {α : Type} {l : List α} {i : Nat} (z : α) (h : i < l.length) : l.getD i z = l[i] := by simp [List.getD, h]
end Go.Proofs.YtbpffdhkeinmcaaDoor.L
namespace Go.Proofs.YtbpffdhkeinmcaaDoor.L
open Go.RowKit Go.Proofs.YtbpffdhkeinmcaaDoor.QC Go.Proofs.YtbpffdhkeinmcaaDoorW.PrintWords Go.Proofs.YtbpffdhkeinmcaaDoorW.PrintLast
set_option linter.unusedVariables false
set_option linter.unusedSimpArgs false
theorem within_eq (n lo hi : Int) : impl_within.f n lo hi = some (decide (lo ≤ n ∧ n ≤ hi)) := by
  unfold impl_within.f
  by_cases h : n ≥ lo
  · rw [if_pos h]
    by_cases h2 : n ≤ hi <;> simp [h2] <;> omega
  · rw [if_neg h]
    simp
    omega
end Go.Proofs.YtbpffdhkeinmcaaDoor.L
namespace Go.Proofs.YtbpffdhkeinmcaaDoor.L
open Go.RowKit Go.Proofs.YtbpffdhkeinmcaaDoor.QC Go.Proofs.YtbpffdhkeinmcaaDoorW.PrintWords Go.Proofs.YtbpffdhkeinmcaaDoorW.PrintLast Go.Proofs.YtbpffdhkeinmcaaDoorW.PrintMore
set_option linter.unusedVariables false
set_option linter.unusedSimpArgs false
def letB (s : ByteArray) (i : Nat) : Bool := decide (97 ≤ bt s (i : Int)) && decide (bt s (i : Int) ≤ 122)
def lettersB (s : ByteArray) : Bool := (List.range s.size).all (letB s)
def wordB (s : ByteArray) : Bool := decide (1 ≤ s.size ∧ s.size ≤ 32) && lettersB s
theorem specWordOk_ev (s : ByteArray) (hs : s.size ≤ 9223372036854775807) : Ev (fun k => spec_WordOk.f k s) (wordB s) := by
  unfold spec_WordOk.f wordB
  by_cases h1 : s.size < 1
  · simp only [if_pos (show (s.size : Int) < 1 by omega), show ¬ (1 ≤ s.size ∧ s.size ≤ 32) by omega, decide_false, Bool.false_and]
    refine Ev.step (fun k => rfl) ?_
    simp only [spec_WordOk.j0, if_true]
    exact Ev.now _
  · simp only [if_neg (show ¬ (s.size : Int) < 1 by omega)]
    refine Ev.step (fun k => rfl) ?_
    by_cases h2 : s.size ≤ 32
    · simp only [spec_WordOk.j0, show ¬ ((s.size : Int) > 32) by omega, decide_false, Bool.false_eq_true, if_false, show (1 ≤ s.size ∧ s.size ≤ 32) by omega, decide_true, Bool.true_and]
      refine evVal (search_ev s.size (fun k i => spec_WordOk.l0 k s i) (letB s) false true ?_ ?_ ?_) ?_
      · intro i hi hp r hr
        unfold letB at hp
        simp only [Bool.and_eq_true, decide_eq_true_eq] at hp
        refine Ev.step (fun k => ?_) hr
        simp only [spec_WordOk.l0]
        rw [if_pos (by omega), if_pos (by omega), if_neg (by omega), if_neg (by omega), wrap_nat_succ (by omega)]
      · intro i hi hp
        unfold letB at hp
        refine Ev.step (f := fun _ => some false) (fun k => ?_) (Ev.now _)
        simp only [spec_WordOk.l0]
        rw [if_pos (by omega), if_pos (by omega)]
        by_cases h97 : bt s (i : Int) < 97
        · rw [if_pos h97]
        · rw [if_neg h97, if_pos (by simp at hp; omega)]
      · refine Ev.step (f := fun _ => some true) (fun k => ?_) (Ev.now _)
        simp only [spec_WordOk.l0]
        rw [if_neg (by omega)]
      · unfold lettersB
        cases (List.range s.size).all (letB s) <;> rfl
    · simp only [spec_WordOk.j0, show ((s.size : Int) > 32) by omega, decide_true, if_true, show ¬ (1 ≤ s.size ∧ s.size ≤ 32) by omega, decide_false, Bool.false_and]
      exact Ev.now _
theorem isWord_ev (s : ByteArray) (hs : s.size ≤ 9223372036854775807) : Ev (fun k => impl_isWord.f k s) (wordB s) := by
  unfold impl_isWord.f wordB
  refine evVal (search_ev s.size (fun k i => impl_isWord.l0 k s (s.size : Int) i) (letB s) false (decide (1 ≤ s.size ∧ s.size ≤ 32)) ?_ ?_ ?_) ?_
  · intro i hi hp r hr
    unfold letB at hp
    simp only [Bool.and_eq_true, decide_eq_true_eq] at hp
    refine Ev.step (fun k => ?_) hr
    simp only [impl_isWord.l0]
    rw [if_pos (by omega), if_pos (by omega), if_pos (by omega), if_neg (by omega), if_neg (by omega), wrap_nat_succ (by omega)]
  · intro i hi hp
    unfold letB at hp
    refine Ev.step (f := fun _ => some false) (fun k => ?_) (Ev.now _)
    simp only [impl_isWord.l0]
    rw [if_pos (by omega), if_pos (by omega), if_pos (by omega)]
    by_cases h97 : bt s (i : Int) < 97
    · rw [if_pos h97]
    · rw [if_neg h97, if_pos (by simp at hp; omega)]
  · refine Ev.step (f := fun _ => some (decide (1 ≤ s.size ∧ s.size ≤ 32))) (fun k => ?_) (Ev.now _)
    simp only [impl_isWord.l0, within_eq, Option.bind_some]
    rw [if_neg (by omega)]
    congr 2
    apply propext
    omega
  · unfold lettersB
    cases (List.range s.size).all (letB s) <;> simp
theorem wordB_size {s : ByteArray} (h : wordB s = true) : 1 ≤ s.size ∧ s.size ≤ 32 := by
  unfold wordB at h
  rw [Bool.and_eq_true] at h
  exact of_decide_eq_true h.1
def padW (s : ByteArray) : List Int := (s.size : Int) :: (bytesOf s ++ List.replicate (32 - s.size) 0)
def padL (s : ByteArray) : List Int := if wordB s then padW s else List.replicate 33 0
theorem padL_length (s : ByteArray) : (padL s).length = 33 := by
  unfold padL padW
  split
  · rename_i h
    have := wordB_size h
    simp [bytesOf_length]
    omega
  · simp
theorem implPad_ev (s : ByteArray) (hs : s.size ≤ 9223372036854775807) : Ev (fun k => impl_pad.f k s) (padL s) := by
  unfold impl_pad.f padL
  refine Ev.bind (isWord_ev s hs) ?_
  cases h : wordB s with
  | false => simp only [Bool.false_eq_true, if_false]; exact Ev.now _
  | true =>
    simp only [if_true, if_pos (wordB_size h).2]
    exact Ev.now _
theorem specPad_ev (s : ByteArray) (hs : s.size ≤ 9223372036854775807) : Ev (fun k => spec_Pad.f k s) (padL s) := by
  unfold spec_Pad.f padL
  simp only [show 33 ≤ 281474976710656 by omega, if_true, Option.bind_some]
  refine Ev.bind (specWordOk_ev s hs) ?_
  cases h : wordB s with
  | false => simp only [Bool.false_eq_true, if_false]; exact Ev.now _
  | true =>
    have hb := wordB_size h
    have e0 : (List.replicate 33 (0 : Int)).set (0 : Int).toNat ((s.size : Int) % 256) = (s.size : Int) :: List.replicate 32 0 := by
      rw [show (0 : Int).toNat = 0 from rfl, List.replicate_succ, List.set_cons_zero]
      congr 1
      omega
    simp only [if_true, List.length_replicate, if_pos (show (0 : Int) < ((33 : Nat) : Int) by omega), e0]
    have key : ∀ d i, i + d = s.size → Ev (fun k => spec_Pad.l0 k s ((s.size : Int) :: ((bytesOf s).take i ++ List.replicate (32 - i) 0)) (i : Int)) (padW s) := by
      intro d
      induction d with
      | zero =>
        intro i hi
        refine evVal (Ev.step (f := fun _ => some ((s.size : Int) :: ((bytesOf s).take i ++ List.replicate (32 - i) 0))) (fun k => ?_) (Ev.now _)) ?_
        · simp only [spec_Pad.l0]
          rw [if_neg (by omega)]
        · unfold padW
          rw [List.take_of_length_le (by rw [bytesOf_length]; omega), show i = s.size by omega]
      | succ d ih =>
        intro i hi
        refine Ev.step (fun k => ?_) (ih (i + 1) (by omega))
        have hl : (((s.size : Int) :: ((bytesOf s).take i ++ List.replicate (32 - i) 0)).length : Int) = 33 := by simp [bytesOf_length]; omega
        simp only [spec_Pad.l0]
        rw [if_pos (by omega), if_pos (by omega), wrap_nat_succ (by omega), if_pos (by omega), if_pos (by rw [hl]; omega)]
        congr 1
        rw [Int.toNat_natCast, List.set_cons_succ, List.set_append_right _ _ (by rw [List.length_take, bytesOf_length]; omega), List.length_take, bytesOf_length, Nat.min_eq_left (by omega), Nat.sub_self, show 32 - i = (32 - (i + 1)) + 1 by omega, List.replicate_succ, List.set_cons_zero, List.take_succ_eq_append_getElem (by rw [bytesOf_length]; omega), List.append_assoc]
        congr 3
        have := rd_bytesOf s (i : Int)
        unfold rd at this
        rw [Int.toNat_natCast, List.getD_eq_getElem?_getD, List.getElem?_eq_getElem (by rw [bytesOf_length]; omega)] at this
        exact this.symm
    have := key s.size 0 (by omega)
    simpa using this
end Go.Proofs.YtbpffdhkeinmcaaDoor.L
namespace Go.Proofs.YtbpffdhkeinmcaaDoor.L
open Go.RowKit Go.Proofs.YtbpffdhkeinmcaaDoorW.PrintWords Go.Proofs.YtbpffdhkeinmcaaDoorW.PrintMore
theorem evIf {α : Type} {p : Prop} [Decidable p] {g h : Nat → Option α} {r : α} (hp : p) (hg : Ev g r) : Ev (fun k => if p then g k else h k) r := by simp only [if_pos hp]; exact hg
theorem strOf_nums (l : List UInt8) : strOfNums (l.map fun b => (b.toNat : Int)) = ⟨l.toArray⟩ := by
  unfold strOfNums
  congr 1
  rw [List.map_map]
  have : (fun n : Int => UInt8.ofNat n.toNat) ∘ (fun b : UInt8 => (b.toNat : Int)) = id := by
    funext b
    simp
  rw [this]
  simp
end Go.Proofs.YtbpffdhkeinmcaaDoor.L
namespace Go.Proofs.YtbpffdhkeinmcaaDoor.L
open Go.RowKit Go.Proofs.YtbpffdhkeinmcaaDoor.QC Go.Proofs.YtbpffdhkeinmcaaDoorW.PrintWords Go.Proofs.YtbpffdhkeinmcaaDoorW.PrintLast Go.Proofs.YtbpffdhkeinmcaaDoorW.PrintMore
set_option linter.unusedVariables false
set_option linter.unusedSimpArgs false
theorem bt_getD (s : ByteArray) (i : Nat) : bt s (i : Int) = ((s.data.toList.getD i 0).toNat : Int) := by
  rw [← rd_bytesOf]
  unfold rd bytesOf
  rw [Int.toNat_natCast, List.getD_eq_getElem?_getD, List.getD_eq_getElem?_getD, List.getElem?_map]
  cases s.data.toList[i]? <;> rfl
def letU (b : UInt8) : Bool := decide (97 ≤ b.toNat ∧ b.toNat ≤ 122)
theorem lettersB_all (s : ByteArray) : lettersB s = s.data.toList.all letU := by
  unfold lettersB
  rw [← all_range s.data.toList 0 letU, data_length]
  congr 1
  funext i
  unfold letB letU
  rw [bt_getD]
  rw [Bool.eq_iff_iff]
  simp only [Bool.and_eq_true, decide_eq_true_eq]
  omega
def lowU (b : UInt8) : UInt8 := if 65 ≤ b.toNat ∧ b.toNat ≤ 90 then UInt8.ofNat (b.toNat + 32) else b
def lowS (s : ByteArray) : ByteArray := ⟨(s.data.toList.map lowU).toArray⟩
theorem lowS_size (s : ByteArray) : (lowS s).size = s.size := by
  rw [← data_length (lowS s), ← data_length s]
  show (s.data.toList.map lowU).toArray.toList.length = _
  rw [List.toList_toArray, List.length_map]
def foldS (s : ByteArray) : ByteArray := if s.size ≤ 32 ∧ wordB (lowS s) = true then lowS s else ⟨#[]⟩
theorem foldS_size (s : ByteArray) : (foldS s).size ≤ 32 := by
  unfold foldS
  split
  · rename_i h; rw [lowS_size]; exact h.1
  · exact Nat.zero_le _
theorem dec_small (l : List UInt8) (hb : (l.getD 0 0).toNat < 128) : Lib.decodeL l = ((l.getD 0 0).toNat, 1) := by
  rw [Lib.decodeL_N]
  unfold Lib.decodeN
  rw [if_pos hb]
theorem dec_big (l : List UInt8) (hb : 128 ≤ (l.getD 0 0).toNat) : 128 ≤ (Lib.decodeL l).1 := by
  rw [Lib.decodeL_N]
  rcases Lib.decodeN_shape l.length (l.getD 0 0).toNat (l.getD 1 0).toNat (l.getD 2 0).toNat (l.getD 3 0).toNat with ⟨c, e⟩ | ⟨c1, c2, c3, cv, e⟩ | ⟨c1, c2, c3, c4, cv, cs, e⟩ | ⟨c1, c2, c3, c4, c5, cv, cw, e⟩ | e
  all_goals (rw [e]; dsimp only; omega)
theorem toU8 (x : Int) (h0 : 0 ≤ x) (h1 : x < 256) : (x.toNat.toUInt8).toNat = x.toNat := by
  rw [Nat.toUInt8, UInt8.toNat_ofNat']
  omega
theorem enc_big (r : Int) (h : 128 ≤ r) : ∃ b, b ∈ Lib.encodeRune r ∧ 128 ≤ b.toNat := by
  have hz : ∃ x, x ∈ Lib.encodeRuneZ r ∧ 128 ≤ x ∧ x < 256 := by
    unfold Lib.encodeRuneZ
    split
    · omega
    · split
      · exact ⟨192 + r / 64, by simp, by omega, by omega⟩
      · split
        · exact ⟨224 + r / 4096, by simp, by omega, by omega⟩
        · split
          · exact ⟨240 + r / 262144, by simp, by omega, by omega⟩
          · exact ⟨239, by simp, by omega, by omega⟩
  obtain ⟨x, hx, h0, h1⟩ := hz
  refine ⟨x.toNat.toUInt8, List.mem_map.2 ⟨x, hx, rfl⟩, ?_⟩
  rw [toU8 x (by omega) h1]
  omega
theorem lowR_small (n : Nat) (h : n < 128) : lowR (n : Int) = ((lowU (UInt8.ofNat n)).toNat : Int) := by
  unfold lowR lowU
  rw [UInt8.toNat_ofNat', show n % 2 ^ 8 = n by omega]
  by_cases h1 : 65 ≤ n
  · by_cases h2 : n ≤ 90
    · rw [if_pos (by omega), if_pos (by omega), if_pos ⟨h1, h2⟩, UInt8.toNat_ofNat']
      omega
    · rw [if_pos (by omega), if_neg (by omega), if_neg (by omega), UInt8.toNat_ofNat']
      omega
  · rw [if_neg (by omega), if_neg (by omega), UInt8.toNat_ofNat']
    omega
theorem lowR_big (n : Nat) (h : 128 ≤ n) : lowR (n : Int) = (n : Int) := by
  unfold lowR
  rw [if_pos (by omega), if_neg (by omega)]
theorem enc_low (b : UInt8) (h : b.toNat < 128) : Lib.encodeRune (lowR (b.toNat : Int)) = [lowU b] := by
  have e : UInt8.ofNat b.toNat = b := by simp
  rw [lowR_small _ h, e]
  have hl : (lowU b).toNat < 128 := by
    unfold lowU
    split
    · rename_i h2; rw [UInt8.toNat_ofNat']; omega
    · exact h
  unfold Lib.encodeRune
  rw [Lib.encodeRuneZ_one (by omega) (by omega)]
  simp only [List.map_cons, List.map_nil, Int.toNat_natCast]
  congr 1
  apply UInt8.toNat_inj.1
  rw [Nat.toUInt8, UInt8.toNat_ofNat']
  omega
theorem lowR_nonneg (n : Nat) : 0 ≤ lowR (n : Int) := by
  unfold lowR
  split
  · split <;> omega
  · omega
theorem mapD_small : ∀ l : List UInt8, (∀ b, b ∈ l → b.toNat < 128) → Lib.mapD lowR l = l.map lowU
  | [], _ => rfl
  | b :: l, h => by
    have hb := h b (List.mem_cons_self ..)
    rw [Lib.mapD_step lowR (b :: l) (by simp), dec_small (b :: l) hb]
    show (if 0 ≤ lowR (b.toNat : Int) then Lib.encodeRune (lowR (b.toNat : Int)) else []) ++ Lib.mapD lowR l = _
    rw [if_pos (lowR_nonneg _), enc_low b hb, mapD_small l (fun x hx => h x (List.mem_cons_of_mem _ hx))]
    rfl
theorem mapD_big : ∀ (n : Nat) (l : List UInt8), l.length ≤ n → (∃ b, b ∈ l ∧ 128 ≤ b.toNat) → ∃ b, b ∈ Lib.mapD lowR l ∧ 128 ≤ b.toNat
  | 0, l, hn, ⟨b, hb, _⟩ => by
    obtain rfl : l = [] := List.eq_nil_of_length_eq_zero (by omega)
    cases hb
  | n + 1, [], _, ⟨b, hb, _⟩ => by cases hb
  | n + 1, c :: l, hn, ⟨b, hb, hb2⟩ => by
    rw [Lib.mapD_step lowR (c :: l) (by simp)]
    by_cases hc : c.toNat < 128
    · rw [dec_small (c :: l) hc]
      have hbl : b ∈ l := by
        rcases List.mem_cons.1 hb with rfl | h
        · omega
        · exact h
      obtain ⟨x, hx, hx2⟩ := mapD_big n l (by simp only [List.length_cons] at hn; omega) ⟨b, hbl, hb2⟩
      exact ⟨x, List.mem_append_right _ hx, hx2⟩
    · have h1 := dec_big (c :: l) (by show 128 ≤ c.toNat; omega)
      rw [if_pos (lowR_nonneg _), lowR_big _ h1]
      obtain ⟨x, hx, hx2⟩ := enc_big ((Lib.decodeL (c :: l)).1 : Int) (by omega)
      exact ⟨x, List.mem_append_left _ hx, hx2⟩
theorem big_no_word (l : List UInt8) (h : ∃ b, b ∈ l ∧ 128 ≤ b.toNat) : wordB ⟨l.toArray⟩ = false := by
  unfold wordB
  rw [lettersB_all]
  have : (⟨l.toArray⟩ : ByteArray).data.toList.all letU = false := by
    obtain ⟨b, hb, h2⟩ := h
    rw [List.all_eq_false]
    exact ⟨b, by simpa using hb, by unfold letU; simp; omega⟩
  rw [this, Bool.and_false]
theorem mapD_word (s : ByteArray) : (if wordB ⟨(Lib.mapD lowR s.data.toList).toArray⟩ = true then (⟨(Lib.mapD lowR s.data.toList).toArray⟩ : ByteArray) else ⟨#[]⟩) = if wordB (lowS s) = true then lowS s else ⟨#[]⟩ := by
  by_cases h : ∀ b, b ∈ s.data.toList → b.toNat < 128
  · rw [mapD_small _ h]
    rfl
  · have h2 : ∃ b, b ∈ s.data.toList ∧ 128 ≤ b.toNat := by
      obtain ⟨b, hb⟩ := Classical.not_forall.1 h
      exact ⟨b, by by_cases hm : b ∈ s.data.toList; exact hm; exact absurd (fun h' => absurd h' hm) hb, by by_cases hm : b.toNat < 128; exact absurd (fun _ => hm) hb; omega⟩
    rw [big_no_word _ (mapD_big _ _ (Nat.le_refl _) h2)]
    have h3 : ∃ b, b ∈ s.data.toList.map lowU ∧ 128 ≤ b.toNat := by
      obtain ⟨b, hb, hb2⟩ := h2
      refine ⟨lowU b, List.mem_map.2 ⟨b, hb, rfl⟩, ?_⟩
      unfold lowU
      rw [if_neg (by omega)]
      exact hb2
    rw [show wordB (lowS s) = false from big_no_word _ h3]
    rfl
theorem enc_len (r : Int) : (Lib.encodeRune r).length ≤ 4 := by
  unfold Lib.encodeRune
  rw [List.length_map]
  exact (Lib.encodeRuneZ_length r).2
theorem mapD_length : ∀ (n : Nat) (l : List UInt8), l.length ≤ n → (Lib.mapD lowR l).length ≤ 4 * l.length
  | 0, l, hn => by
    obtain rfl : l = [] := List.eq_nil_of_length_eq_zero (by omega)
    exact Nat.zero_le _
  | n + 1, [], _ => Nat.zero_le _
  | n + 1, c :: l, hn => by
    have hw := Lib.decodeL_width (c :: l)
    rw [Lib.mapD_step lowR (c :: l) (by simp), List.length_append, if_pos (lowR_nonneg _)]
    have h1 := enc_len (lowR ((Lib.decodeL (c :: l)).1 : Int))
    have h2 := mapD_length n ((c :: l).drop (Lib.decodeL (c :: l)).2) (by rw [List.length_drop]; simp only [List.length_cons] at hn ⊢; omega)
    rw [List.length_drop] at h2
    simp only [List.length_cons] at h2 ⊢
    omega
theorem implFold_ev (s : ByteArray) (hs : s.size ≤ 1048576) : Ev (fun k => impl_Fold.f k s) (foldS s) := by
  have e : strings_Map.f s = some ⟨(Lib.mapD lowR s.data.toList).toArray⟩ := by unfold strings_Map.f; rw [if_pos (by omega)]
  have hl : (⟨(Lib.mapD lowR s.data.toList).toArray⟩ : ByteArray).size ≤ 4194304 := by
    have := mapD_length _ s.data.toList (Nat.le_refl _)
    rw [data_length] at this
    show (Lib.mapD lowR s.data.toList).toArray.size ≤ _
    rw [List.size_toArray]
    omega
  have hm := mapD_word s
  unfold impl_Fold.f
  refine Ev.bind (evConst e) ?_
  clear e
  generalize (⟨(Lib.mapD lowR s.data.toList).toArray⟩ : ByteArray) = m at hl hm
  by_cases h : (s.size : Int) > 32
  · simp only [if_pos h]
    exact evVal (Ev.now _) (by unfold foldS; rw [if_neg (by omega)])
  · simp only [if_neg h]
    refine Ev.bind (isWord_ev m (by omega)) ?_
    have hf : foldS s = if wordB (lowS s) = true then lowS s else ⟨#[]⟩ := by
      unfold foldS
      by_cases hw : wordB (lowS s) = true
      · rw [if_pos ⟨by omega, hw⟩, if_pos hw]
      · rw [if_neg (fun h => hw h.2), if_neg hw]
    rw [hf, ← hm]
    cases wordB m with
    | true => simp only [if_true]; exact Ev.now _
    | false => simp only [Bool.false_eq_true, if_false]; exact Ev.now _
def lowI (x : Int) : Int := if x ≥ 65 then (if x ≤ 90 then (x + 32) % 256 else x) else x
theorem lowI_bt (s : ByteArray) (i : Nat) : lowI (bt s (i : Int)) = ((lowU (s.data.toList.getD i 0)).toNat : Int) := by
  rw [bt_getD]
  have hb : (s.data.toList.getD i 0).toNat < 256 := UInt8.toNat_lt _
  generalize s.data.toList.getD i 0 = b at hb
  unfold lowI lowU
  by_cases h1 : 65 ≤ b.toNat
  · by_cases h2 : b.toNat ≤ 90
    · rw [if_pos (by omega), if_pos (by omega), if_pos ⟨h1, h2⟩, UInt8.toNat_ofNat']; omega
    · rw [if_pos (by omega), if_neg (by omega), if_neg (by omega)]
  · rw [if_neg (by omega), if_neg (by omega)]
theorem strOf_low (s : ByteArray) : strOfNums ((s.data.toList.map lowU).map fun b => (b.toNat : Int)) = lowS s := strOf_nums _
theorem specFold_ev (s : ByteArray) (hs : s.size ≤ 1048576) : Ev (fun k => spec_Fold.f k s) (foldS s) := by
  unfold spec_Fold.f
  by_cases h : (s.size : Int) > 32
  · simp only [if_pos h]
    exact evVal (Ev.now _) (by unfold foldS; rw [if_neg (by omega)])
  · simp only [if_neg h]
    have hf : foldS s = if wordB (lowS s) = true then lowS s else ⟨#[]⟩ := by
      unfold foldS
      by_cases hw : wordB (lowS s) = true
      · rw [if_pos ⟨by omega, hw⟩, if_pos hw]
      · rw [if_neg (fun h => hw h.2), if_neg hw]
    refine loop_ev s.size (fun k x i => spec_Fold.l0 k s x i) (fun i => ((s.data.toList.map lowU).take i).map fun b => (b.toNat : Int)) (foldS s) ?_ ?_
    · intro i hi hr
      refine Ev.step (fun k => ?_) hr
      have hil : i < (s.data.toList.map lowU).length := by rw [List.length_map, data_length]; exact hi
      have e2 : (((s.data.toList.map lowU).take (i + 1)).map fun b => (b.toNat : Int)) = (((s.data.toList.map lowU).take i).map fun b => (b.toNat : Int)) ++ [lowI (bt s (i : Int))] := by
        rw [List.take_succ_eq_append_getElem hil, List.map_append, lowI_bt, List.map_cons, List.map_nil, List.getElem_map, getD_lt 0 (by rw [data_length]; exact hi)]
      have hl : ((((s.data.toList.map lowU).take i).map fun b => (b.toNat : Int))).length < 140737488355328 := by rw [List.length_map, List.length_take]; omega
      rw [e2]
      simp only [spec_Fold.l0]
      rw [if_pos (by omega), if_pos (by omega), wrap_nat_succ (by omega)]
      simp only [if_pos hl]
      unfold lowI
      by_cases h1 : bt s (i : Int) ≥ 65
      · rw [if_pos h1, if_pos h1]
        by_cases h2 : bt s (i : Int) ≤ 90
        · rw [if_pos h2, if_pos h2]
        · rw [if_neg h2, if_neg h2]
      · rw [if_neg h1, if_neg h1]
    · refine Ev.step (fun k => rfl) ?_
      simp only [spec_Fold.l0, if_neg (show ¬ ((s.size : Int) < (s.size : Int)) by omega)]
      rw [List.take_of_length_le (by rw [List.length_map, data_length]; omega), strOf_low]
      refine Ev.bind (specWordOk_ev (lowS s) (by rw [lowS_size]; omega)) ?_
      rw [hf]
      cases wordB (lowS s) with
      | true => simp only [if_true]; exact Ev.now _
      | false => simp only [Bool.false_eq_true, if_false]; exact Ev.now _
end Go.Proofs.YtbpffdhkeinmcaaDoor.L
