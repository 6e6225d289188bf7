/- Part of the proof of the law FnExactExportRead: what it uses of the texts that this session and the kit's print wrote. -/
import Derived.Test.YtpkmhdeimedhgaaZFnExactExportReadx0
import Derived.Test.YtpkmhdeimedhgaaZFnExactExportReadx1
import Derived.Test.YtpkmhdeimedhgaaZFnExactExportReadx2
import Derived.Test.YtpkmhdeimedhgaaZFnExactExportReadx3
import Derived.Test.YtpkmhdeimedhgaaZFnExactExportReadx4
import Derived.Test.YtpkmhdeimedhgaaZFnExactExportReadx5
import Derived.Test.YtpkmhdeimedhgaaZFnExactExportReadx6
import Derived.Deep.Slices
import Derived.WideShapes
import Derived.ProofKit
import Derived.KernelRfl
import Derived.Laws.BytesArg
import Derived.Laws.Strings
import Derived.Laws.BitsLemmas
namespace Go.Proofs.Ytpkmhdeimedhgaa.QB
open Go.RowKit Go.Proofs.YtpkmhdeimedhgaaW.PrintWords Go.Proofs.YtpkmhdeimedhgaaW.PrintLast Go.Proofs.YtpkmhdeimedhgaaW.PrintMore
attribute [local go_sem] max2_int min2_int max_two min_two max_three min_three max_four min_four   -- for this text's walks alone
set_option linter.unusedVariables false
set_option linter.unusedSimpArgs false
mutual
def laws_FnExactExportRead.j0 : Nat → List Int → List (S85) → Bool → List Int → List (S85) → Bool → Bool → Option (Bool)
  | 0, _, _, _, _, _, _, _ => none
  | k + 1, x0, x3, x4, x5, x6, x7, x37 => if x37 = true then (some false) else ((laws_toByteS.f k x0).bind fun t295 => ((laws_eqByteS.f k x5 t295).bind fun t298 => (if t298 = true then ((laws_markByteS.f k x5 1).bind fun bt299 => (if bt299.1 < 0 then (laws_FnExactExportRead.j1 k x0 x3 x4 x6 true) else ((laws_eqEntryS.f k x6 x3).bind fun t301 => (if t301 = true then (laws_FnExactExportRead.j1 k x0 x3 x4 x6 (x7 != x4)) else (laws_FnExactExportRead.j1 k x0 x3 x4 x6 true))))) else (some false))))
def laws_FnExactExportRead.j1 : Nat → List Int → List (S85) → Bool → List (S85) → Bool → Option (Bool)
  | 0, _, _, _, _, _ => none
  | k + 1, x0, x3, x4, x6, x58 => if x58 = true then (some false) else ((laws_markEntryS.f k x6 1).bind fun bt302 => ((laws_heldEntryS.f k bt302.2 1).bind fun t304 => (if t304 < 0 then (some false) else (if t304 = bt302.1 then ((laws_toByteS.f k x0).bind fun t305 => ((impl_ExportRead.f k t305).bind fun bt308 => ((laws_eqEntryS.f k bt308.1 x3).bind fun t312 => (if t312 = true then (laws_FnExactExportRead.j2 k bt302.2 bt302.1 (bt308.2 != x4)) else (laws_FnExactExportRead.j2 k bt302.2 bt302.1 true))))) else (some false)))))
def laws_FnExactExportRead.j2 : Nat → List (S85) → Int → Bool → Option (Bool)
  | 0, _, _, _ => none
  | k + 1, x6, x9, x84 => if x84 = true then (some false) else ((laws_heldEntryS.f k x6 1).bind fun t313 => (if t313 < 0 then (some false) else (if t313 = x9 then (some true) else (some false))))
end
def laws_FnExactExportRead.f (k : Nat) (l0 : List Int) : Option (Bool) := if (l0.length : Int) > 1048576 then (some true) else ((laws_toByteS.f k l0).bind fun t280 => ((spec_ExportRead.f k t280).bind fun bt283 => ((laws_toByteS.f k l0).bind fun t287 => ((impl_ExportRead.f k t287).bind fun bt290 => ((laws_eqEntryS.f k bt290.1 bt283.1).bind fun t294 => (if t294 = true then (laws_FnExactExportRead.j0 k l0 bt283.1 bt283.2 t287 bt290.1 bt290.2 (bt290.2 != bt283.2)) else (laws_FnExactExportRead.j0 k l0 bt283.1 bt283.2 t287 bt290.1 bt290.2 true)))))))
set_option maxHeartbeats 8000000 in
set_option maxRecDepth 100000 in
theorem laws_FnExactExportRead.calls (k : Nat) (A0 : Option Addr) (c0 : Nat) (l0 : List Int) (r : Bool) (w : World) (hr0 : Kd.C (Kd.int .u8) w A0 l0.length l0) (hc0 : l0.length ≤ c0) (h : laws_FnExactExportRead.f k l0 = some r) :
    Calls Try.prog 7 #[.slice A0 l0.length c0] w fun e w' => e = .returned (.bool r) ∧ Below w.heap.size w w' := by
  have HR0 := Aside0.mk hr0
  have HC0 := Aside0.mk hc0
  clear hr0 hc0
  have HB := Aside0.mk (Below.refl w.heap.size w)
  have H : (if (l0.length : Int) > 1048576 then (some true) else ((laws_toByteS.f k l0).bind fun t280 => ((spec_ExportRead.f k t280).bind fun bt283 => ((laws_toByteS.f k l0).bind fun t287 => ((impl_ExportRead.f k t287).bind fun bt290 => ((laws_eqEntryS.f k bt290.1 bt283.1).bind fun t294 => (if t294 = true then (laws_FnExactExportRead.j0 k l0 bt283.1 bt283.2 t287 bt290.1 bt290.2 (bt290.2 != bt283.2)) else (laws_FnExactExportRead.j0 k l0 bt283.1 bt283.2 t287 bt290.1 bt290.2 true)))))))) = some r := h
  clear h
  by_cases c2 : (l0.length : Int) > 1048576
  · rw [if_pos c2] at H
    have c2b0 : decide (1048576 < (l0.length : Int)) = true := decide_eq_true c2
    have c2b1 : decide (1048576 < l0.length) = true := decide_eq_true (by omega)
    clear c2
    obtain rfl := Option.some.inj H
    go_enter Try.func7, Try.ntmps7
    go_wp2
    go_ret
    exact ⟨by first | rfl | (simp [errW_none, errW_some] <;> rfl) | (simp [*, errW_none, errW_some] <;> rfl), by repeat (first | (with_reducible first | exact HB.out | apply below_alloc | apply pw_below_drewN | apply below_drew1) | exact HB.out)⟩
  · rw [if_neg c2] at H
    have c2b0 : decide (1048576 < (l0.length : Int)) = false := decide_eq_false c2
    have c2b1 : decide (1048576 < l0.length) = false := decide_eq_false (by omega)
    clear c2
    replace H := Option.bind_eq_some_iff.mp H
    obtain ⟨t280, A30, H⟩ := H
    replace H : ((spec_ExportRead.f k t280).bind fun bt283 => ((laws_toByteS.f k l0).bind fun t287 => ((impl_ExportRead.f k t287).bind fun bt290 => ((laws_eqEntryS.f k bt290.1 bt283.1).bind fun t294 => (if t294 = true then (laws_FnExactExportRead.j0 k l0 bt283.1 bt283.2 t287 bt290.1 bt290.2 (bt290.2 != bt283.2)) else (laws_FnExactExportRead.j0 k l0 bt283.1 bt283.2 t287 bt290.1 bt290.2 true)))))) = some r := H
    have A3 := Aside0.mk A30
    clear A30
    replace H := Option.bind_eq_some_iff.mp H
    obtain ⟨⟨t283, t284⟩, A40, H⟩ := H
    replace H : ((laws_toByteS.f k l0).bind fun t287 => ((impl_ExportRead.f k t287).bind fun bt290 => ((laws_eqEntryS.f k bt290.1 t283).bind fun t294 => (if t294 = true then (laws_FnExactExportRead.j0 k l0 t283 t284 t287 bt290.1 bt290.2 (bt290.2 != t284)) else (laws_FnExactExportRead.j0 k l0 t283 t284 t287 bt290.1 bt290.2 true))))) = some r := H
    have A4 := Aside0.mk A40
    clear A40
    replace H := Option.bind_eq_some_iff.mp H
    obtain ⟨t287, A50, H⟩ := H
    replace H : ((impl_ExportRead.f k t287).bind fun bt290 => ((laws_eqEntryS.f k bt290.1 t283).bind fun t294 => (if t294 = true then (laws_FnExactExportRead.j0 k l0 t283 t284 t287 bt290.1 bt290.2 (bt290.2 != t284)) else (laws_FnExactExportRead.j0 k l0 t283 t284 t287 bt290.1 bt290.2 true)))) = some r := H
    have A5 := Aside0.mk A50
    clear A50
    replace H := Option.bind_eq_some_iff.mp H
    obtain ⟨⟨t290, t291⟩, A60, H⟩ := H
    replace H : ((laws_eqEntryS.f k t290 t283).bind fun t294 => (if t294 = true then (laws_FnExactExportRead.j0 k l0 t283 t284 t287 t290 t291 (t291 != t284)) else (laws_FnExactExportRead.j0 k l0 t283 t284 t287 t290 t291 true))) = some r := H
    have A6 := Aside0.mk A60
    clear A60
    have HC7 := Aside0.mk H
    clear H
    go_enter Try.func7, Try.ntmps7
    go_upto_region 6 with (first | ((with_reducible refine gate_callee (f := 38) rfl ?_); refine goesL_ (some 18) rfl rfl Try.func38 (by kernel_rfl) rfl #[.slice A0 l0.length c0] rfl (by (try simp only [List.map_toArray, List.map_cons, List.map_nil]); first | done | rfl | (simp only [List.length_drop, List.length_take]; rfl)) ?_; (with_reducible refine (laws_toByteS.calls k _ _ l0 t280 _ ?side1 ?side2 A3.out).mono ?_); (case side1 => repeat (first | exact HR0.out | (with_reducible refine Kd.C_alloc ?_ _) | (with_reducible refine Kd.C_drewN ?_ _) | (with_reducible refine Kd.C_drew ?_))); (case side2 => exact HC0.out); rintro e w8 ⟨v281, rfl, ho0, hb⟩; refine ⟨_, rfl, ?_⟩; have n0_ := Aside0.mk (Kd.R_lower ho0 (below_size (by repeat (first | (with_reducible first | exact HB.out | apply below_alloc | apply pw_below_drewN | apply below_drew1) | exact HB.out)))); have n1_ := Aside0.mk (below_step (by repeat (first | (with_reducible first | exact HB.out | apply below_alloc | apply pw_below_drewN | apply below_drew1) | exact HB.out)) hb); clear HB; have HO282 := n0_; have HB := n1_; clear n0_ n1_; (try clear hb); (try clear hb2); (try clear hk); (try clear hi); (try clear ho0); obtain ⟨Ao9, co9, eo9⟩ := Kd.R_slice HO282.out; subst eo9) | ((with_reducible refine gate_callee (f := 37) rfl ?_); refine goesL_ (some 19) rfl rfl Try.func37 (by kernel_rfl) rfl #[.slice Ao9 t280.length co9] rfl (by (try simp only [List.map_toArray, List.map_cons, List.map_nil]); first | done | rfl | (simp only [List.length_drop, List.length_take]; rfl)) ?_; (with_reducible refine (spec_ExportRead.calls k _ _ t280 t283 t284 _ ?side1 ?side2 A4.out).mono ?_); (case side1 => repeat (first | exact (Kd.R_reads' HO282.out).2.2 | (with_reducible refine Kd.C_alloc ?_ _) | (with_reducible refine Kd.C_drewN ?_ _) | (with_reducible refine Kd.C_drew ?_))); (case side2 => exact (Kd.R_reads' HO282.out).2.1); rintro e w10 ⟨v285, rfl, ho0, hb⟩; refine ⟨_, rfl, ?_⟩; have n0_ := Aside0.mk (Kd.R_below (by (with_reducible repeat (first | apply Kd.R_alloc | apply Kd.R_drewN | apply Kd.R_drew)); exact HO282.out) hb); have n1_ := Aside0.mk (Kd.R_lower ho0 (below_size (by repeat (first | (with_reducible first | exact HB.out | apply below_alloc | apply pw_below_drewN | apply below_drew1) | exact HB.out)))); have n2_ := Aside0.mk (below_step (by repeat (first | (with_reducible first | exact HB.out | apply below_alloc | apply pw_below_drewN | apply below_drew1) | exact HB.out)) hb); clear HO282; clear HB; have HO282 := n0_; have HO286 := n1_; have HB := n2_; clear n0_ n1_ n2_; (try clear hb); (try clear hb2); (try clear hk); (try clear hi); (try clear ho0)) | ((with_reducible refine gate_callee (f := 38) rfl ?_); refine goesL_ (some 23) rfl rfl Try.func38 (by kernel_rfl) rfl #[.slice A0 l0.length c0] rfl (by (try simp only [List.map_toArray, List.map_cons, List.map_nil]); first | done | rfl | (simp only [List.length_drop, List.length_take]; rfl)) ?_; (with_reducible refine (laws_toByteS.calls k _ _ l0 t287 _ ?side1 ?side2 A5.out).mono ?_); (case side1 => repeat (first | exact (Kd.C_below HR0.out HB.out) | (with_reducible refine Kd.C_alloc ?_ _) | (with_reducible refine Kd.C_drewN ?_ _) | (with_reducible refine Kd.C_drew ?_))); (case side2 => exact HC0.out); rintro e w11 ⟨v288, rfl, ho0, hb⟩; refine ⟨_, rfl, ?_⟩; have n0_ := Aside0.mk (Kd.R_elder' (by (with_reducible repeat (first | apply Kd.R_alloc | apply Kd.R_drewN | apply Kd.R_drew)); exact HO282.out) (Kd.R_base ho0) hb); have n1_ := Aside0.mk (Kd.R_below (by (with_reducible repeat (first | apply Kd.R_alloc | apply Kd.R_drewN | apply Kd.R_drew)); exact HO286.out) hb); have n2_ := Aside0.mk (Kd.R_lower (Kd.R_new' ho0 (Kd.R_lt (by (with_reducible repeat (first | apply Kd.R_alloc | apply Kd.R_drewN | apply Kd.R_drew)); exact HO282.out))) (below_size (by repeat (first | (with_reducible first | exact HB.out | apply below_alloc | apply pw_below_drewN | apply below_drew1) | exact HB.out)))); have n3_ := Aside0.mk (below_step (by repeat (first | (with_reducible first | exact HB.out | apply below_alloc | apply pw_below_drewN | apply below_drew1) | exact HB.out)) hb); clear HO282; clear HO286; clear HB; have HO282 := n0_; have HO286 := n1_; have HO289 := n2_; have HB := n3_; clear n0_ n1_ n2_ n3_; (try clear hb); (try clear hb2); (try clear hk); (try clear hi); (try clear ho0); obtain ⟨Ao12, co12, eo12⟩ := Kd.R_slice HO289.out; subst eo12) | ((with_reducible refine gate_callee (f := 39) rfl ?_); refine goesL_ (some 26) rfl rfl Try.func39 (by kernel_rfl) rfl #[.slice Ao12 t287.length co12] rfl (by (try simp only [List.map_toArray, List.map_cons, List.map_nil]); first | done | rfl | (simp only [List.length_drop, List.length_take]; rfl)) ?_; (with_reducible refine (impl_ExportRead.calls k _ _ t287 t290 t291 _ ?side1 ?side2 A6.out).mono ?_); (case side1 => repeat (first | exact (Kd.R_reads' HO289.out).2.2 | (with_reducible refine Kd.C_alloc ?_ _) | (with_reducible refine Kd.C_drewN ?_ _) | (with_reducible refine Kd.C_drew ?_))); (case side2 => exact (Kd.R_reads' HO289.out).2.1); rintro e w13 ⟨v292, rfl, ho0, hb⟩; refine ⟨_, rfl, ?_⟩; have n0_ := Aside0.mk (Kd.R_below (by (with_reducible repeat (first | apply Kd.R_alloc | apply Kd.R_drewN | apply Kd.R_drew)); exact HO282.out) hb); have n1_ := Aside0.mk (Kd.R_elder' (by (with_reducible repeat (first | apply Kd.R_alloc | apply Kd.R_drewN | apply Kd.R_drew)); exact HO286.out) (Kd.R_base ho0) hb); have n2_ := Aside0.mk (Kd.R_below (by (with_reducible repeat (first | apply Kd.R_alloc | apply Kd.R_drewN | apply Kd.R_drew)); exact HO289.out) hb); have n3_ := Aside0.mk (Kd.R_lower (Kd.R_new' ho0 (Kd.R_lt (by (with_reducible repeat (first | apply Kd.R_alloc | apply Kd.R_drewN | apply Kd.R_drew)); exact HO286.out))) (below_size (by repeat (first | (with_reducible first | exact HB.out | apply below_alloc | apply pw_below_drewN | apply below_drew1) | exact HB.out)))); have n4_ := Aside0.mk (below_step (by repeat (first | (with_reducible first | exact HB.out | apply below_alloc | apply pw_below_drewN | apply below_drew1) | exact HB.out)) hb); clear HO282; clear HO286; clear HO289; clear HB; have HO282 := n0_; have HO286 := n1_; have HO289 := n2_; have HO293 := n3_; have HB := n4_; clear n0_ n1_ n2_ n3_ n4_; (try clear hb); (try clear hb2); (try clear hk); (try clear hi); (try clear ho0)))
    (try simp only [Act.put, List.setIfInBounds_toArray, List.set_cons_zero, List.set_cons_succ])
    go_cut [37] (fun v37 wc => ∃ (kq : Nat) (x37_6 : Bool), v37 = .bool x37_6 ∧ Aside0 (laws_FnExactExportRead.j0 kq l0 t283 t284 t287 t290 t291 x37_6 = some r) ∧ Aside0 (kq ≤ k) ∧ Aside0 (Kd.R k85 85 wc w.heap.size (fun k_ => some k_ ≠ (v292 : Value).ownBlock) v285 t283) ∧ Aside0 (Kd.R (Kd.int .u8) 5 wc w.heap.size (fun _ => True) (.slice Ao12 t287.length co12) t287) ∧ Aside0 (Kd.R k85 85 wc w.heap.size (fun k_ => some k_ ≠ (v285 : Value).ownBlock) v292 t290) ∧ Aside0 (Below w.heap.size w wc))
    case first =>
      have H := HC7.out
      clear HC7
      replace H := Option.bind_eq_some_iff.mp H
      obtain ⟨t294, A140, H⟩ := H
      replace H : (if t294 = true then (laws_FnExactExportRead.j0 k l0 t283 t284 t287 t290 t291 (t291 != t284)) else (laws_FnExactExportRead.j0 k l0 t283 t284 t287 t290 t291 true)) = some r := H
      have A14 := Aside0.mk A140
      clear A140
      by_cases c15 : t294 = true
      · subst c15
        have H1 : (laws_FnExactExportRead.j0 k l0 t283 t284 t287 t290 t291 (t291 != t284)) = some r := by rw [if_pos rfl] at H; exact H
        clear H
        have H := H1
        clear H1
        have H' := Aside0.mk H
        clear H
        obtain ⟨Ao16, co16, eo16⟩ := Kd.R_slice HO293.out
        subst eo16
        obtain ⟨Ao17, co17, eo17⟩ := Kd.R_slice HO286.out
        subst eo17
        go_wp2_with (first | ((with_reducible refine gate_callee (f := 29) rfl ?_); refine goesL_ (some 31) rfl rfl Try.func29 (by kernel_rfl) rfl #[.slice Ao16 t290.length co16, .slice Ao17 t283.length co17] rfl (by (try simp only [List.map_toArray, List.map_cons, List.map_nil]); first | done | rfl | (simp only [List.length_drop, List.length_take]; rfl)) ?_; (with_reducible refine (laws_eqEntryS.calls k _ _ t290 _ _ t283 true _ ?side1 ?side2 ?side3 ?side4 A14.out).mono ?_); (case side1 => repeat (first | exact (Kd.R_reads' HO293.out).2.2 | (with_reducible refine Kd.C_alloc ?_ _) | (with_reducible refine Kd.C_drewN ?_ _) | (with_reducible refine Kd.C_drew ?_))); (case side2 => exact (Kd.R_reads' HO293.out).2.1); (case side3 => repeat (first | exact (Kd.R_reads' HO286.out).2.2 | (with_reducible refine Kd.C_alloc ?_ _) | (with_reducible refine Kd.C_drewN ?_ _) | (with_reducible refine Kd.C_drew ?_))); (case side4 => exact (Kd.R_reads' HO286.out).2.1); rintro e w18 ⟨rfl, hb⟩; refine ⟨_, rfl, ?_⟩; have n0_ := Aside0.mk (Kd.R_below (by (with_reducible repeat (first | apply Kd.R_alloc | apply Kd.R_drewN | apply Kd.R_drew)); exact HO282.out) hb); have n1_ := Aside0.mk (Kd.R_below (by (with_reducible repeat (first | apply Kd.R_alloc | apply Kd.R_drewN | apply Kd.R_drew)); exact HO286.out) hb); have n2_ := Aside0.mk (Kd.R_below (by (with_reducible repeat (first | apply Kd.R_alloc | apply Kd.R_drewN | apply Kd.R_drew)); exact HO289.out) hb); have n3_ := Aside0.mk (Kd.R_below (by (with_reducible repeat (first | apply Kd.R_alloc | apply Kd.R_drewN | apply Kd.R_drew)); exact HO293.out) hb); have n4_ := Aside0.mk (below_step (by repeat (first | (with_reducible first | exact HB.out | apply below_alloc | apply pw_below_drewN | apply below_drew1) | exact HB.out)) hb); clear HO282; clear HO286; clear HO289; clear HO293; clear HB; have HO282 := n0_; have HO286 := n1_; have HO289 := n2_; have HO293 := n3_; have HB := n4_; clear n0_ n1_ n2_ n3_ n4_; (try clear hb); (try clear hb2); (try clear hk); (try clear hi)))
        go_meet
        case rel => exact ⟨_, ((t291 != t284)), (by first | rfl | (simp; done) | (simp [*]; done)), H', ⟨by first | omega | exact Nat.le_refl _⟩, ⟨by (with_reducible repeat (first | apply Kd.R_alloc | apply Kd.R_drewN | apply Kd.R_drew)); exact Kd.R_mono HO286.out (fun _ hk => hk.2)⟩, ⟨by (with_reducible repeat (first | apply Kd.R_alloc | apply Kd.R_drewN | apply Kd.R_drew)); exact Kd.R_mono HO289.out (fun _ hk => trivial)⟩, ⟨by (with_reducible repeat (first | apply Kd.R_alloc | apply Kd.R_drewN | apply Kd.R_drew)); exact Kd.R_mono HO293.out (fun _ hk => hk.2)⟩, ⟨by repeat (first | (with_reducible first | exact HB.out | apply below_alloc | apply pw_below_drewN | apply below_drew1) | exact HB.out)⟩⟩
      · replace c15 := Bool.eq_false_iff.mpr c15
        subst c15
        have H1 : (laws_FnExactExportRead.j0 k l0 t283 t284 t287 t290 t291 true) = some r := by rw [if_neg (show ¬ (false = true) by decide)] at H; exact H
        clear H
        have H := H1
        clear H1
        have H' := Aside0.mk H
        clear H
        obtain ⟨Ao19, co19, eo19⟩ := Kd.R_slice HO293.out
        subst eo19
        obtain ⟨Ao20, co20, eo20⟩ := Kd.R_slice HO286.out
        subst eo20
        go_wp2_with (first | ((with_reducible refine gate_callee (f := 29) rfl ?_); refine goesL_ (some 31) rfl rfl Try.func29 (by kernel_rfl) rfl #[.slice Ao19 t290.length co19, .slice Ao20 t283.length co20] rfl (by (try simp only [List.map_toArray, List.map_cons, List.map_nil]); first | done | rfl | (simp only [List.length_drop, List.length_take]; rfl)) ?_; (with_reducible refine (laws_eqEntryS.calls k _ _ t290 _ _ t283 false _ ?side1 ?side2 ?side3 ?side4 A14.out).mono ?_); (case side1 => repeat (first | exact (Kd.R_reads' HO293.out).2.2 | (with_reducible refine Kd.C_alloc ?_ _) | (with_reducible refine Kd.C_drewN ?_ _) | (with_reducible refine Kd.C_drew ?_))); (case side2 => exact (Kd.R_reads' HO293.out).2.1); (case side3 => repeat (first | exact (Kd.R_reads' HO286.out).2.2 | (with_reducible refine Kd.C_alloc ?_ _) | (with_reducible refine Kd.C_drewN ?_ _) | (with_reducible refine Kd.C_drew ?_))); (case side4 => exact (Kd.R_reads' HO286.out).2.1); rintro e w21 ⟨rfl, hb⟩; refine ⟨_, rfl, ?_⟩; have n0_ := Aside0.mk (Kd.R_below (by (with_reducible repeat (first | apply Kd.R_alloc | apply Kd.R_drewN | apply Kd.R_drew)); exact HO282.out) hb); have n1_ := Aside0.mk (Kd.R_below (by (with_reducible repeat (first | apply Kd.R_alloc | apply Kd.R_drewN | apply Kd.R_drew)); exact HO286.out) hb); have n2_ := Aside0.mk (Kd.R_below (by (with_reducible repeat (first | apply Kd.R_alloc | apply Kd.R_drewN | apply Kd.R_drew)); exact HO289.out) hb); have n3_ := Aside0.mk (Kd.R_below (by (with_reducible repeat (first | apply Kd.R_alloc | apply Kd.R_drewN | apply Kd.R_drew)); exact HO293.out) hb); have n4_ := Aside0.mk (below_step (by repeat (first | (with_reducible first | exact HB.out | apply below_alloc | apply pw_below_drewN | apply below_drew1) | exact HB.out)) hb); clear HO282; clear HO286; clear HO289; clear HO293; clear HB; have HO282 := n0_; have HO286 := n1_; have HO289 := n2_; have HO293 := n3_; have HB := n4_; clear n0_ n1_ n2_ n3_ n4_; (try clear hb); (try clear hb2); (try clear hk); (try clear hi)))
        go_meet
        case rel => exact ⟨_, (true), (by first | rfl | (simp; done) | (simp [*]; done)), H', ⟨by first | omega | exact Nat.le_refl _⟩, ⟨by (with_reducible repeat (first | apply Kd.R_alloc | apply Kd.R_drewN | apply Kd.R_drew)); exact Kd.R_mono HO286.out (fun _ hk => hk.2)⟩, ⟨by (with_reducible repeat (first | apply Kd.R_alloc | apply Kd.R_drewN | apply Kd.R_drew)); exact Kd.R_mono HO289.out (fun _ hk => trivial)⟩, ⟨by (with_reducible repeat (first | apply Kd.R_alloc | apply Kd.R_drewN | apply Kd.R_drew)); exact Kd.R_mono HO293.out (fun _ hk => hk.2)⟩, ⟨by repeat (first | (with_reducible first | exact HB.out | apply below_alloc | apply pw_below_drewN | apply below_drew1) | exact HB.out)⟩⟩
    case rest =>
      clear HC7
      try clear c1
      try clear c2
      try clear c2b0
      try clear c2b1
      try clear p2
      try clear c3
      try clear c7
      try clear c15
      obtain ⟨kq, x37_6, rfl, HA, HJ6, HO_3, HO_5, HO_6, HB⟩ := hcut
      cases kq with
      | zero => exact absurd HA.out (by simp [laws_FnExactExportRead.j0])
      | succ kj6 =>
        have H := HA.out
        clear HA
        simp only [laws_FnExactExportRead.j0] at H
        by_cases c22 : x37_6 = true
        · subst c22
          have H1 : (some false) = some r := by rw [if_pos rfl] at H; exact H
          clear H
          have H := H1
          clear H1
          obtain rfl := Option.some.inj H
          go_wp2
          go_ret
          exact ⟨by first | rfl | (simp [errW_none, errW_some] <;> rfl) | (simp [*, errW_none, errW_some] <;> rfl), by repeat (first | (with_reducible first | exact HB.out | apply below_alloc | apply pw_below_drewN | apply below_drew1) | exact HB.out)⟩
        · replace c22 := Bool.eq_false_iff.mpr c22
          subst c22
          have H1 : ((laws_toByteS.f kj6 l0).bind fun t295 => ((laws_eqByteS.f kj6 t287 t295).bind fun t298 => (if t298 = true then ((laws_markByteS.f kj6 t287 1).bind fun bt299 => (if bt299.1 < 0 then (laws_FnExactExportRead.j1 kj6 l0 t283 t284 t290 true) else ((laws_eqEntryS.f kj6 t290 t283).bind fun t301 => (if t301 = true then (laws_FnExactExportRead.j1 kj6 l0 t283 t284 t290 (t291 != t284)) else (laws_FnExactExportRead.j1 kj6 l0 t283 t284 t290 true))))) else (some false)))) = some r := by rw [if_neg (show ¬ (false = true) by decide)] at H; exact H
          clear H
          have H := H1
          clear H1
          replace H := Option.bind_eq_some_iff.mp H
          obtain ⟨t295, A230, H⟩ := H
          replace H : ((laws_eqByteS.f kj6 t287 t295).bind fun t298 => (if t298 = true then ((laws_markByteS.f kj6 t287 1).bind fun bt299 => (if bt299.1 < 0 then (laws_FnExactExportRead.j1 kj6 l0 t283 t284 t290 true) else ((laws_eqEntryS.f kj6 t290 t283).bind fun t301 => (if t301 = true then (laws_FnExactExportRead.j1 kj6 l0 t283 t284 t290 (t291 != t284)) else (laws_FnExactExportRead.j1 kj6 l0 t283 t284 t290 true))))) else (some false))) = some r := H
          have A23 := Aside0.mk A230
          clear A230
          replace H := Option.bind_eq_some_iff.mp H
          obtain ⟨t298, A240, H⟩ := H
          replace H : (if t298 = true then ((laws_markByteS.f kj6 t287 1).bind fun bt299 => (if bt299.1 < 0 then (laws_FnExactExportRead.j1 kj6 l0 t283 t284 t290 true) else ((laws_eqEntryS.f kj6 t290 t283).bind fun t301 => (if t301 = true then (laws_FnExactExportRead.j1 kj6 l0 t283 t284 t290 (t291 != t284)) else (laws_FnExactExportRead.j1 kj6 l0 t283 t284 t290 true))))) else (some false)) = some r := H
          have A24 := Aside0.mk A240
          clear A240
          by_cases c25 : t298 = true
          · subst c25
            have H1 : ((laws_markByteS.f kj6 t287 1).bind fun bt299 => (if bt299.1 < 0 then (laws_FnExactExportRead.j1 kj6 l0 t283 t284 t290 true) else ((laws_eqEntryS.f kj6 t290 t283).bind fun t301 => (if t301 = true then (laws_FnExactExportRead.j1 kj6 l0 t283 t284 t290 (t291 != t284)) else (laws_FnExactExportRead.j1 kj6 l0 t283 t284 t290 true))))) = some r := by rw [if_pos rfl] at H; exact H
            clear H
            have H := H1
            clear H1
            replace H := Option.bind_eq_some_iff.mp H
            obtain ⟨⟨t299, t300⟩, A260, H⟩ := H
            replace H : (if t299 < 0 then (laws_FnExactExportRead.j1 kj6 l0 t283 t284 t290 true) else ((laws_eqEntryS.f kj6 t290 t283).bind fun t301 => (if t301 = true then (laws_FnExactExportRead.j1 kj6 l0 t283 t284 t290 (t291 != t284)) else (laws_FnExactExportRead.j1 kj6 l0 t283 t284 t290 true)))) = some r := H
            have A26 := Aside0.mk A260
            clear A260
            have HC27 := Aside0.mk H
            clear H
            go_upto_region 12 with (first | ((with_reducible refine gate_callee (f := 38) rfl ?_); refine goesL_ (some 40) rfl rfl Try.func38 (by kernel_rfl) rfl #[.slice A0 l0.length c0] rfl (by (try simp only [List.map_toArray, List.map_cons, List.map_nil]); first | done | rfl | (simp only [List.length_drop, List.length_take]; rfl)) ?_; (with_reducible refine (laws_toByteS.calls kj6 _ _ l0 t295 _ ?side1 ?side2 A23.out).mono ?_); (case side1 => repeat (first | exact (Kd.C_below HR0.out HB.out) | (with_reducible refine Kd.C_alloc ?_ _) | (with_reducible refine Kd.C_drewN ?_ _) | (with_reducible refine Kd.C_drew ?_))); (case side2 => exact HC0.out); rintro e w28 ⟨v296, rfl, ho0, hb⟩; refine ⟨_, rfl, ?_⟩; have n0_ := Aside0.mk (Kd.R_below (by (with_reducible repeat (first | apply Kd.R_alloc | apply Kd.R_drewN | apply Kd.R_drew)); exact HO_3.out) hb); have n1_ := Aside0.mk (Kd.R_elder' (by (with_reducible repeat (first | apply Kd.R_alloc | apply Kd.R_drewN | apply Kd.R_drew)); exact HO_5.out) (Kd.R_base ho0) hb); have n2_ := Aside0.mk (Kd.R_below (by (with_reducible repeat (first | apply Kd.R_alloc | apply Kd.R_drewN | apply Kd.R_drew)); exact HO_6.out) hb); have n3_ := Aside0.mk (Kd.R_lower (Kd.R_new' ho0 (Kd.R_lt (by (with_reducible repeat (first | apply Kd.R_alloc | apply Kd.R_drewN | apply Kd.R_drew)); exact HO_5.out))) (below_size (by repeat (first | (with_reducible first | exact HB.out | apply below_alloc | apply pw_below_drewN | apply below_drew1) | exact HB.out)))); have n4_ := Aside0.mk (below_step (by repeat (first | (with_reducible first | exact HB.out | apply below_alloc | apply pw_below_drewN | apply below_drew1) | exact HB.out)) hb); clear HO_3; clear HO_5; clear HO_6; clear HB; have HO_3 := n0_; have HO_5 := n1_; have HO_6 := n2_; have HO297 := n3_; have HB := n4_; clear n0_ n1_ n2_ n3_ n4_; (try clear hb); (try clear hb2); (try clear hk); (try clear hi); (try clear ho0); obtain ⟨Ao29, co29, eo29⟩ := Kd.R_slice HO297.out; subst eo29) | ((with_reducible refine gate_callee (f := 28) rfl ?_); refine goesL_ (some 41) rfl rfl Try.func28 (by kernel_rfl) rfl #[.slice Ao12 t287.length co12, .slice Ao29 t295.length co29] rfl (by (try simp only [List.map_toArray, List.map_cons, List.map_nil]); first | done | rfl | (simp only [List.length_drop, List.length_take]; rfl)) ?_; (with_reducible refine (laws_eqByteS.calls kj6 _ _ t287 _ _ t295 true _ ?side1 ?side2 ?side3 ?side4 A24.out).mono ?_); (case side1 => repeat (first | exact (Kd.R_reads' HO_5.out).2.2 | (with_reducible refine Kd.C_alloc ?_ _) | (with_reducible refine Kd.C_drewN ?_ _) | (with_reducible refine Kd.C_drew ?_))); (case side2 => exact (Kd.R_reads' HO_5.out).2.1); (case side3 => repeat (first | exact (Kd.R_reads' HO297.out).2.2 | (with_reducible refine Kd.C_alloc ?_ _) | (with_reducible refine Kd.C_drewN ?_ _) | (with_reducible refine Kd.C_drew ?_))); (case side4 => exact (Kd.R_reads' HO297.out).2.1); rintro e w' ⟨rfl, ⟨nd, rfl⟩⟩; refine ⟨_, rfl, ?_⟩) | ((with_reducible refine gate_callee (f := 31) rfl ?_); refine goesL_ (some 45) rfl rfl Try.func31 (by kernel_rfl) rfl #[.slice Ao12 t287.length co12, .int .i64 1] rfl (by (try simp only [List.map_toArray, List.map_cons, List.map_nil]); first | done | rfl | (simp only [List.length_drop, List.length_take]; rfl)) ?_; (with_reducible refine (laws_markByteS.calls kj6 (fun k_ => some k_ = (.slice Ao12 t287.length co12 : Value).ownBlock) (.slice Ao12 t287.length co12) t287 1 t299 t300 w _ ?side1 ?side2 A26.out).mono ?_); (case side1 => repeat (first | (with_reducible first | exact HB.out | apply below_alloc | apply pw_below_drewN | apply below_drew1) | exact HB.out)); (case side2 => exact Kd.R_tight rfl HO_5.out); rintro e w30 ⟨rfl, hy0, hb, hkp⟩; refine ⟨_, rfl, ?_⟩; have n0_ := Aside0.mk (Kd.R_mono (ok' := fun k_ => some k_ ≠ (v292 : Value).ownBlock) (Kd.R_keptB ((Kd.R_apart' HO_3.out (Kd.R_typed HO_5.out) (by decide))) hkp (fun k_ hk_ hs_ => (hk_.2) hs_)) (fun k_ hk_ => hk_.1.1)); have n1_ := Aside0.mk (Kd.R_reok rfl hy0 (fun k_ e_ => HO_5.out.1 k_ e_)); have n2_ := Aside0.mk (Kd.R_mono (ok' := fun k_ => some k_ ≠ (v285 : Value).ownBlock) (Kd.R_keptB ((Kd.R_apart' HO_6.out (Kd.R_typed HO_5.out) (by decide))) hkp (fun k_ hk_ hs_ => (hk_.2) hs_)) (fun k_ hk_ => hk_.1.1)); have n3_ := Aside0.mk (Kd.R_mono (ok' := fun k_ => some k_ ≠ (.slice Ao12 t287.length co12 : Value).ownBlock) (Kd.R_keptB (HO297.out) hkp (fun k_ hk_ hs_ => (hk_.2) hs_)) (fun k_ hk_ => hk_.1.2)); have n4_ := Aside0.mk (hb); clear HO_3; clear HO_5; clear HO_6; clear HO297; clear HB; have HO_3 := n0_; have HO_5 := n1_; have HO_6 := n2_; have HO297 := n3_; have HB := n4_; clear n0_ n1_ n2_ n3_ n4_; (try clear hb); (try clear hkp); (try clear hy0)))
            (try simp only [Act.put, List.setIfInBounds_toArray, List.set_cons_zero, List.set_cons_succ])
            go_cut [58] (fun v58 wc => ∃ (kq : Nat) (x58_26 : Bool), v58 = .bool x58_26 ∧ Aside0 (laws_FnExactExportRead.j1 kq l0 t283 t284 t290 x58_26 = some r) ∧ Aside0 (kq ≤ kj6) ∧ Aside0 (Kd.R k85 85 wc w.heap.size (fun k_ => some k_ ≠ (v292 : Value).ownBlock) v285 t283) ∧ Aside0 (Kd.R k85 85 wc w.heap.size (fun k_ => some k_ ≠ (v285 : Value).ownBlock) v292 t290) ∧ Aside0 (Below w.heap.size w wc))
            case first =>
              have H := HC27.out
              clear HC27
              by_cases c31 : t299 < 0
              · rw [if_pos c31] at H
                have c31b0 : decide (t299 < 0) = true := decide_eq_true c31
                clear c31
                (first | rw [c31b0] | (simp only [i64_w, i32_w]; rw [c31b0]) | skip)
                have H' := Aside0.mk H
                clear H
                go_wp2
                go_meet
                case rel => exact ⟨_, (true), (by first | rfl | (simp; done) | (simp [*]; done)), H', ⟨by have := HJ6.out; first | omega | exact Nat.le_refl _⟩, ⟨by (with_reducible repeat (first | apply Kd.R_alloc | apply Kd.R_drewN | apply Kd.R_drew)); exact HO_3.out⟩, ⟨by (with_reducible repeat (first | apply Kd.R_alloc | apply Kd.R_drewN | apply Kd.R_drew)); exact HO_6.out⟩, ⟨by repeat (first | (with_reducible first | exact HB.out | apply below_alloc | apply pw_below_drewN | apply below_drew1) | exact HB.out)⟩⟩
              · rw [if_neg c31] at H
                have c31b0 : decide (t299 < 0) = false := decide_eq_false c31
                clear c31
                (first | rw [c31b0] | (simp only [i64_w, i32_w]; rw [c31b0]) | skip)
                replace H := Option.bind_eq_some_iff.mp H
                obtain ⟨t301, A320, H⟩ := H
                replace H : (if t301 = true then (laws_FnExactExportRead.j1 kj6 l0 t283 t284 t290 (t291 != t284)) else (laws_FnExactExportRead.j1 kj6 l0 t283 t284 t290 true)) = some r := H
                have A32 := Aside0.mk A320
                clear A320
                by_cases c33 : t301 = true
                · subst c33
                  have H1 : (laws_FnExactExportRead.j1 kj6 l0 t283 t284 t290 (t291 != t284)) = some r := by rw [if_pos rfl] at H; exact H
                  clear H
                  have H := H1
                  clear H1
                  have H' := Aside0.mk H
                  clear H
                  obtain ⟨Ao34, co34, eo34⟩ := Kd.R_slice HO_6.out
                  subst eo34
                  obtain ⟨Ao35, co35, eo35⟩ := Kd.R_slice HO_3.out
                  subst eo35
                  go_wp2_with (first | (go_at_call 29; (with_reducible refine (laws_eqEntryS.calls kj6 _ _ t290 _ _ t283 true _ ?side1 ?side2 ?side3 ?side4 A32.out).mono ?_); (case side1 => repeat (first | exact (Kd.R_reads' HO_6.out).2.2 | (with_reducible refine Kd.C_alloc ?_ _) | (with_reducible refine Kd.C_drewN ?_ _) | (with_reducible refine Kd.C_drew ?_))); (case side2 => exact (Kd.R_reads' HO_6.out).2.1); (case side3 => repeat (first | exact (Kd.R_reads' HO_3.out).2.2 | (with_reducible refine Kd.C_alloc ?_ _) | (with_reducible refine Kd.C_drewN ?_ _) | (with_reducible refine Kd.C_drew ?_))); (case side4 => exact (Kd.R_reads' HO_3.out).2.1); rintro e w36 ⟨rfl, hb⟩; have n0_ := Aside0.mk (Kd.R_below (by (with_reducible repeat (first | apply Kd.R_alloc | apply Kd.R_drewN | apply Kd.R_drew)); exact HO_3.out) hb); have n1_ := Aside0.mk (Kd.R_below (by (with_reducible repeat (first | apply Kd.R_alloc | apply Kd.R_drewN | apply Kd.R_drew)); exact HO_5.out) hb); have n2_ := Aside0.mk (Kd.R_below (by (with_reducible repeat (first | apply Kd.R_alloc | apply Kd.R_drewN | apply Kd.R_drew)); exact HO_6.out) hb); have n3_ := Aside0.mk (Kd.R_below (by (with_reducible repeat (first | apply Kd.R_alloc | apply Kd.R_drewN | apply Kd.R_drew)); exact HO297.out) hb); have n4_ := Aside0.mk (below_step (by repeat (first | (with_reducible first | exact HB.out | apply below_alloc | apply pw_below_drewN | apply below_drew1) | exact HB.out)) hb); clear HO_3; clear HO_5; clear HO_6; clear HO297; clear HB; have HO_3 := n0_; have HO_5 := n1_; have HO_6 := n2_; have HO297 := n3_; have HB := n4_; clear n0_ n1_ n2_ n3_ n4_; (try clear hb); (try clear hb2); (try clear hk); (try clear hi)))
                  go_meet
                  case rel => exact ⟨_, ((t291 != t284)), (by first | rfl | (simp; done) | (simp [*]; done)), H', ⟨by have := HJ6.out; first | omega | exact Nat.le_refl _⟩, ⟨by (with_reducible repeat (first | apply Kd.R_alloc | apply Kd.R_drewN | apply Kd.R_drew)); exact HO_3.out⟩, ⟨by (with_reducible repeat (first | apply Kd.R_alloc | apply Kd.R_drewN | apply Kd.R_drew)); exact HO_6.out⟩, ⟨by repeat (first | (with_reducible first | exact HB.out | apply below_alloc | apply pw_below_drewN | apply below_drew1) | exact HB.out)⟩⟩
                · replace c33 := Bool.eq_false_iff.mpr c33
                  subst c33
                  have H1 : (laws_FnExactExportRead.j1 kj6 l0 t283 t284 t290 true) = some r := by rw [if_neg (show ¬ (false = true) by decide)] at H; exact H
                  clear H
                  have H := H1
                  clear H1
                  have H' := Aside0.mk H
                  clear H
                  obtain ⟨Ao37, co37, eo37⟩ := Kd.R_slice HO_6.out
                  subst eo37
                  obtain ⟨Ao38, co38, eo38⟩ := Kd.R_slice HO_3.out
                  subst eo38
                  go_wp2_with (first | (go_at_call 29; (with_reducible refine (laws_eqEntryS.calls kj6 _ _ t290 _ _ t283 false _ ?side1 ?side2 ?side3 ?side4 A32.out).mono ?_); (case side1 => repeat (first | exact (Kd.R_reads' HO_6.out).2.2 | (with_reducible refine Kd.C_alloc ?_ _) | (with_reducible refine Kd.C_drewN ?_ _) | (with_reducible refine Kd.C_drew ?_))); (case side2 => exact (Kd.R_reads' HO_6.out).2.1); (case side3 => repeat (first | exact (Kd.R_reads' HO_3.out).2.2 | (with_reducible refine Kd.C_alloc ?_ _) | (with_reducible refine Kd.C_drewN ?_ _) | (with_reducible refine Kd.C_drew ?_))); (case side4 => exact (Kd.R_reads' HO_3.out).2.1); rintro e w39 ⟨rfl, hb⟩; have n0_ := Aside0.mk (Kd.R_below (by (with_reducible repeat (first | apply Kd.R_alloc | apply Kd.R_drewN | apply Kd.R_drew)); exact HO_3.out) hb); have n1_ := Aside0.mk (Kd.R_below (by (with_reducible repeat (first | apply Kd.R_alloc | apply Kd.R_drewN | apply Kd.R_drew)); exact HO_5.out) hb); have n2_ := Aside0.mk (Kd.R_below (by (with_reducible repeat (first | apply Kd.R_alloc | apply Kd.R_drewN | apply Kd.R_drew)); exact HO_6.out) hb); have n3_ := Aside0.mk (Kd.R_below (by (with_reducible repeat (first | apply Kd.R_alloc | apply Kd.R_drewN | apply Kd.R_drew)); exact HO297.out) hb); have n4_ := Aside0.mk (below_step (by repeat (first | (with_reducible first | exact HB.out | apply below_alloc | apply pw_below_drewN | apply below_drew1) | exact HB.out)) hb); clear HO_3; clear HO_5; clear HO_6; clear HO297; clear HB; have HO_3 := n0_; have HO_5 := n1_; have HO_6 := n2_; have HO297 := n3_; have HB := n4_; clear n0_ n1_ n2_ n3_ n4_; (try clear hb); (try clear hb2); (try clear hk); (try clear hi)))
                  go_meet
                  case rel => exact ⟨_, (true), (by first | rfl | (simp; done) | (simp [*]; done)), H', ⟨by have := HJ6.out; first | omega | exact Nat.le_refl _⟩, ⟨by (with_reducible repeat (first | apply Kd.R_alloc | apply Kd.R_drewN | apply Kd.R_drew)); exact HO_3.out⟩, ⟨by (with_reducible repeat (first | apply Kd.R_alloc | apply Kd.R_drewN | apply Kd.R_drew)); exact HO_6.out⟩, ⟨by repeat (first | (with_reducible first | exact HB.out | apply below_alloc | apply pw_below_drewN | apply below_drew1) | exact HB.out)⟩⟩
            case rest =>
              clear HC27
              try clear c1
              try clear c2
              try clear c2b0
              try clear c2b1
              try clear p2
              try clear c3
              try clear c7
              try clear c15
              try clear c22
              try clear c25
              try clear c28
              try clear c29
              try clear c31
              try clear c31b0
              try clear c33
              try clear c37
              try clear c38
              try clear c39
              try clear p2
              obtain ⟨kq, x58_26, rfl, HA, HJ26, HO_3, HO_6, HB⟩ := hcut
              cases kq with
              | zero => exact absurd HA.out (by simp [laws_FnExactExportRead.j1])
              | succ kj26 =>
                have H := HA.out
                clear HA
                simp only [laws_FnExactExportRead.j1] at H
                by_cases c40 : x58_26 = true
                · subst c40
                  have H1 : (some false) = some r := by rw [if_pos rfl] at H; exact H
                  clear H
                  have H := H1
                  clear H1
                  obtain rfl := Option.some.inj H
                  go_wp2
                  go_ret
                  exact ⟨by first | rfl | (simp [errW_none, errW_some] <;> rfl) | (simp [*, errW_none, errW_some] <;> rfl), by repeat (first | (with_reducible first | exact HB.out | apply below_alloc | apply pw_below_drewN | apply below_drew1) | exact HB.out)⟩
                · replace c40 := Bool.eq_false_iff.mpr c40
                  subst c40
                  have H1 : ((laws_markEntryS.f kj26 t290 1).bind fun bt302 => ((laws_heldEntryS.f kj26 bt302.2 1).bind fun t304 => (if t304 < 0 then (some false) else (if t304 = bt302.1 then ((laws_toByteS.f kj26 l0).bind fun t305 => ((impl_ExportRead.f kj26 t305).bind fun bt308 => ((laws_eqEntryS.f kj26 bt308.1 t283).bind fun t312 => (if t312 = true then (laws_FnExactExportRead.j2 kj26 bt302.2 bt302.1 (bt308.2 != t284)) else (laws_FnExactExportRead.j2 kj26 bt302.2 bt302.1 true))))) else (some false))))) = some r := by rw [if_neg (show ¬ (false = true) by decide)] at H; exact H
                  clear H
                  have H := H1
                  clear H1
                  replace H := Option.bind_eq_some_iff.mp H
                  obtain ⟨⟨t302, t303⟩, A410, H⟩ := H
                  replace H : ((laws_heldEntryS.f kj26 t303 1).bind fun t304 => (if t304 < 0 then (some false) else (if t304 = t302 then ((laws_toByteS.f kj26 l0).bind fun t305 => ((impl_ExportRead.f kj26 t305).bind fun bt308 => ((laws_eqEntryS.f kj26 bt308.1 t283).bind fun t312 => (if t312 = true then (laws_FnExactExportRead.j2 kj26 t303 t302 (bt308.2 != t284)) else (laws_FnExactExportRead.j2 kj26 t303 t302 true))))) else (some false)))) = some r := H
                  have A41 := Aside0.mk A410
                  clear A410
                  replace H := Option.bind_eq_some_iff.mp H
                  obtain ⟨t304, A420, H⟩ := H
                  replace H : (if t304 < 0 then (some false) else (if t304 = t302 then ((laws_toByteS.f kj26 l0).bind fun t305 => ((impl_ExportRead.f kj26 t305).bind fun bt308 => ((laws_eqEntryS.f kj26 bt308.1 t283).bind fun t312 => (if t312 = true then (laws_FnExactExportRead.j2 kj26 t303 t302 (bt308.2 != t284)) else (laws_FnExactExportRead.j2 kj26 t303 t302 true))))) else (some false))) = some r := H
                  have A42 := Aside0.mk A420
                  clear A420
                  by_cases c43 : t304 < 0
                  · rw [if_pos c43] at H
                    have c43b0 : decide (t304 < 0) = true := decide_eq_true c43
                    clear c43
                    obtain rfl := Option.some.inj H
                    obtain ⟨Ao44, co44, eo44⟩ := Kd.R_slice HO_6.out
                    subst eo44
                    go_wp2_with (first | ((with_reducible refine gate_callee (f := 30) rfl ?_); refine goesL_ (some 61) rfl rfl Try.func30 (by kernel_rfl) rfl #[.slice Ao44 t290.length co44, .int .i64 1] rfl (by (try simp only [List.map_toArray, List.map_cons, List.map_nil]); first | done | rfl | (simp only [List.length_drop, List.length_take]; rfl)) ?_; (with_reducible refine (laws_markEntryS.calls kj26 (fun k_ => some k_ = (.slice Ao44 t290.length co44 : Value).ownBlock) (.slice Ao44 t290.length co44) t290 1 t302 t303 w _ ?side1 ?side2 A41.out).mono ?_); (case side1 => repeat (first | (with_reducible first | exact HB.out | apply below_alloc | apply pw_below_drewN | apply below_drew1) | exact HB.out)); (case side2 => exact Kd.R_tight rfl HO_6.out); rintro e w45 ⟨rfl, hy0, hb, hkp⟩; refine ⟨_, rfl, ?_⟩; have n0_ := Aside0.mk (Kd.R_mono (ok' := fun k_ => some k_ ≠ (.slice Ao44 t290.length co44 : Value).ownBlock) (Kd.R_keptB (HO_3.out) hkp (fun k_ hk_ hs_ => (hk_) hs_)) (fun k_ hk_ => hk_.1)); have n1_ := Aside0.mk (Kd.R_reok rfl hy0 (fun k_ e_ => HO_6.out.1 k_ e_)); have n2_ := Aside0.mk (hb); clear HO_3; clear HO_6; clear HB; have HO_3 := n0_; have HO_6 := n1_; have HB := n2_; clear n0_ n1_ n2_; (try clear hb); (try clear hkp); (try clear hy0)) | ((with_reducible refine gate_callee (f := 40) rfl ?_); refine goesL_ (some 64) rfl rfl Try.func40 (by kernel_rfl) rfl #[.slice Ao44 t303.length co44, .int .i64 1] rfl (by (try simp only [List.map_toArray, List.map_cons, List.map_nil]); first | done | (rw [show t303.length = t290.length from (Kd.R_reads' HO_6.out).1.symm] <;> rfl) | rfl | (simp only [List.length_drop, List.length_take]; rfl)) ?_; (with_reducible refine (laws_heldEntryS.calls kj26 _ _ t303 1 t304 _ ?side1 ?side2 A42.out).mono ?_); (case side1 => repeat (first | exact (Kd.R_reads' HO_6.out).2.2 | (with_reducible refine Kd.C_alloc ?_ _) | (with_reducible refine Kd.C_drewN ?_ _) | (with_reducible refine Kd.C_drew ?_))); (case side2 => rw [show t303.length = t290.length from (Kd.R_reads' HO_6.out).1.symm]; exact (Kd.R_reads' HO_6.out).2.1); rintro e w46 ⟨rfl, hb⟩; refine ⟨_, rfl, ?_⟩; have n0_ := Aside0.mk (Kd.R_below (by (with_reducible repeat (first | apply Kd.R_alloc | apply Kd.R_drewN | apply Kd.R_drew)); exact HO_3.out) hb); have n1_ := Aside0.mk (Kd.R_below (by (with_reducible repeat (first | apply Kd.R_alloc | apply Kd.R_drewN | apply Kd.R_drew)); exact HO_6.out) hb); have n2_ := Aside0.mk (below_step (by repeat (first | (with_reducible first | exact HB.out | apply below_alloc | apply pw_below_drewN | apply below_drew1) | exact HB.out)) hb); clear HO_3; clear HO_6; clear HB; have HO_3 := n0_; have HO_6 := n1_; have HB := n2_; clear n0_ n1_ n2_; (try clear hb); (try clear hb2); (try clear hk); (try clear hi)))
                    go_ret
                    exact ⟨by first | rfl | (simp [errW_none, errW_some] <;> rfl) | (simp [*, errW_none, errW_some] <;> rfl), by repeat (first | (with_reducible first | exact HB.out | apply below_alloc | apply pw_below_drewN | apply below_drew1) | exact HB.out)⟩
                  · rw [if_neg c43] at H
                    have c43b0 : decide (t304 < 0) = false := decide_eq_false c43
                    clear c43
                    by_cases c47 : t304 = t302
                    · rw [if_pos c47] at H
                      have c47b0 : (t304 == t302) = true := beq_iff_eq.mpr c47
                      have c47b1 : (t304 != t302) = false := bne_eq_false_iff_eq.mpr c47
                      clear c47
                      replace H := Option.bind_eq_some_iff.mp H
                      obtain ⟨t305, A480, H⟩ := H
                      replace H : ((impl_ExportRead.f kj26 t305).bind fun bt308 => ((laws_eqEntryS.f kj26 bt308.1 t283).bind fun t312 => (if t312 = true then (laws_FnExactExportRead.j2 kj26 t303 t302 (bt308.2 != t284)) else (laws_FnExactExportRead.j2 kj26 t303 t302 true)))) = some r := H
                      have A48 := Aside0.mk A480
                      clear A480
                      replace H := Option.bind_eq_some_iff.mp H
                      obtain ⟨⟨t308, t309⟩, A490, H⟩ := H
                      replace H : ((laws_eqEntryS.f kj26 t308 t283).bind fun t312 => (if t312 = true then (laws_FnExactExportRead.j2 kj26 t303 t302 (t309 != t284)) else (laws_FnExactExportRead.j2 kj26 t303 t302 true))) = some r := H
                      have A49 := Aside0.mk A490
                      clear A490
                      have HC50 := Aside0.mk H
                      clear H
                      obtain ⟨Ao51, co51, eo51⟩ := Kd.R_slice HO_6.out
                      subst eo51
                      go_upto_region 23 with (first | ((with_reducible refine gate_callee (f := 30) rfl ?_); refine goesL_ (some 61) rfl rfl Try.func30 (by kernel_rfl) rfl #[.slice Ao51 t290.length co51, .int .i64 1] rfl (by (try simp only [List.map_toArray, List.map_cons, List.map_nil]); first | done | rfl | (simp only [List.length_drop, List.length_take]; rfl)) ?_; (with_reducible refine (laws_markEntryS.calls kj26 (fun k_ => some k_ = (.slice Ao51 t290.length co51 : Value).ownBlock) (.slice Ao51 t290.length co51) t290 1 t302 t303 w _ ?side1 ?side2 A41.out).mono ?_); (case side1 => repeat (first | (with_reducible first | exact HB.out | apply below_alloc | apply pw_below_drewN | apply below_drew1) | exact HB.out)); (case side2 => exact Kd.R_tight rfl HO_6.out); rintro e w52 ⟨rfl, hy0, hb, hkp⟩; refine ⟨_, rfl, ?_⟩; have n0_ := Aside0.mk (Kd.R_mono (ok' := fun k_ => some k_ ≠ (.slice Ao51 t290.length co51 : Value).ownBlock) (Kd.R_keptB (HO_3.out) hkp (fun k_ hk_ hs_ => (hk_) hs_)) (fun k_ hk_ => hk_.1)); have n1_ := Aside0.mk (Kd.R_reok rfl hy0 (fun k_ e_ => HO_6.out.1 k_ e_)); have n2_ := Aside0.mk (hb); clear HO_3; clear HO_6; clear HB; have HO_3 := n0_; have HO_6 := n1_; have HB := n2_; clear n0_ n1_ n2_; (try clear hb); (try clear hkp); (try clear hy0)) | ((with_reducible refine gate_callee (f := 40) rfl ?_); refine goesL_ (some 64) rfl rfl Try.func40 (by kernel_rfl) rfl #[.slice Ao51 t303.length co51, .int .i64 1] rfl (by (try simp only [List.map_toArray, List.map_cons, List.map_nil]); first | done | (rw [show t303.length = t290.length from (Kd.R_reads' HO_6.out).1.symm] <;> rfl) | rfl | (simp only [List.length_drop, List.length_take]; rfl)) ?_; (with_reducible refine (laws_heldEntryS.calls kj26 _ _ t303 1 t304 _ ?side1 ?side2 A42.out).mono ?_); (case side1 => repeat (first | exact (Kd.R_reads' HO_6.out).2.2 | (with_reducible refine Kd.C_alloc ?_ _) | (with_reducible refine Kd.C_drewN ?_ _) | (with_reducible refine Kd.C_drew ?_))); (case side2 => rw [show t303.length = t290.length from (Kd.R_reads' HO_6.out).1.symm]; exact (Kd.R_reads' HO_6.out).2.1); rintro e w53 ⟨rfl, hb⟩; refine ⟨_, rfl, ?_⟩; have n0_ := Aside0.mk (Kd.R_below (by (with_reducible repeat (first | apply Kd.R_alloc | apply Kd.R_drewN | apply Kd.R_drew)); exact HO_3.out) hb); have n1_ := Aside0.mk (Kd.R_below (by (with_reducible repeat (first | apply Kd.R_alloc | apply Kd.R_drewN | apply Kd.R_drew)); exact HO_6.out) hb); have n2_ := Aside0.mk (below_step (by repeat (first | (with_reducible first | exact HB.out | apply below_alloc | apply pw_below_drewN | apply below_drew1) | exact HB.out)) hb); clear HO_3; clear HO_6; clear HB; have HO_3 := n0_; have HO_6 := n1_; have HB := n2_; clear n0_ n1_ n2_; (try clear hb); (try clear hb2); (try clear hk); (try clear hi)) | ((with_reducible refine gate_callee (f := 38) rfl ?_); refine goesL_ (some 72) rfl rfl Try.func38 (by kernel_rfl) rfl #[.slice A0 l0.length c0] rfl (by (try simp only [List.map_toArray, List.map_cons, List.map_nil]); first | done | rfl | (simp only [List.length_drop, List.length_take]; rfl)) ?_; (with_reducible refine (laws_toByteS.calls kj26 _ _ l0 t305 _ ?side1 ?side2 A48.out).mono ?_); (case side1 => repeat (first | exact (Kd.C_below HR0.out HB.out) | (with_reducible refine Kd.C_alloc ?_ _) | (with_reducible refine Kd.C_drewN ?_ _) | (with_reducible refine Kd.C_drew ?_))); (case side2 => exact HC0.out); rintro e w54 ⟨v306, rfl, ho0, hb⟩; refine ⟨_, rfl, ?_⟩; have n0_ := Aside0.mk (Kd.R_below (by (with_reducible repeat (first | apply Kd.R_alloc | apply Kd.R_drewN | apply Kd.R_drew)); exact HO_3.out) hb); have n1_ := Aside0.mk (Kd.R_below (by (with_reducible repeat (first | apply Kd.R_alloc | apply Kd.R_drewN | apply Kd.R_drew)); exact HO_6.out) hb); have n2_ := Aside0.mk (Kd.R_lower ho0 (below_size (by repeat (first | (with_reducible first | exact HB.out | apply below_alloc | apply pw_below_drewN | apply below_drew1) | exact HB.out)))); have n3_ := Aside0.mk (below_step (by repeat (first | (with_reducible first | exact HB.out | apply below_alloc | apply pw_below_drewN | apply below_drew1) | exact HB.out)) hb); clear HO_3; clear HO_6; clear HB; have HO_3 := n0_; have HO_6 := n1_; have HO307 := n2_; have HB := n3_; clear n0_ n1_ n2_ n3_; (try clear hb); (try clear hb2); (try clear hk); (try clear hi); (try clear ho0); obtain ⟨Ao55, co55, eo55⟩ := Kd.R_slice HO307.out; subst eo55) | ((with_reducible refine gate_callee (f := 39) rfl ?_); refine goesL_ (some 73) rfl rfl Try.func39 (by kernel_rfl) rfl #[.slice Ao55 t305.length co55] rfl (by (try simp only [List.map_toArray, List.map_cons, List.map_nil]); first | done | rfl | (simp only [List.length_drop, List.length_take]; rfl)) ?_; (with_reducible refine (impl_ExportRead.calls kj26 _ _ t305 t308 t309 _ ?side1 ?side2 A49.out).mono ?_); (case side1 => repeat (first | exact (Kd.R_reads' HO307.out).2.2 | (with_reducible refine Kd.C_alloc ?_ _) | (with_reducible refine Kd.C_drewN ?_ _) | (with_reducible refine Kd.C_drew ?_))); (case side2 => exact (Kd.R_reads' HO307.out).2.1); rintro e w56 ⟨v310, rfl, ho0, hb⟩; refine ⟨_, rfl, ?_⟩; have n0_ := Aside0.mk (Kd.R_elder' (by (with_reducible repeat (first | apply Kd.R_alloc | apply Kd.R_drewN | apply Kd.R_drew)); exact HO_3.out) (Kd.R_base ho0) hb); have n1_ := Aside0.mk (Kd.R_elder' (by (with_reducible repeat (first | apply Kd.R_alloc | apply Kd.R_drewN | apply Kd.R_drew)); exact HO_6.out) (Kd.R_base ho0) hb); have n2_ := Aside0.mk (Kd.R_below (by (with_reducible repeat (first | apply Kd.R_alloc | apply Kd.R_drewN | apply Kd.R_drew)); exact HO307.out) hb); have n3_ := Aside0.mk (Kd.R_lower (Kd.R_new' (Kd.R_new' ho0 (Kd.R_lt (by (with_reducible repeat (first | apply Kd.R_alloc | apply Kd.R_drewN | apply Kd.R_drew)); exact HO_3.out))) (Kd.R_lt (by (with_reducible repeat (first | apply Kd.R_alloc | apply Kd.R_drewN | apply Kd.R_drew)); exact HO_6.out))) (below_size (by repeat (first | (with_reducible first | exact HB.out | apply below_alloc | apply pw_below_drewN | apply below_drew1) | exact HB.out)))); have n4_ := Aside0.mk (below_step (by repeat (first | (with_reducible first | exact HB.out | apply below_alloc | apply pw_below_drewN | apply below_drew1) | exact HB.out)) hb); clear HO_3; clear HO_6; clear HO307; clear HB; have HO_3 := n0_; have HO_6 := n1_; have HO307 := n2_; have HO311 := n3_; have HB := n4_; clear n0_ n1_ n2_ n3_ n4_; (try clear hb); (try clear hb2); (try clear hk); (try clear hi); (try clear ho0)))
                      (try simp only [Act.put, List.setIfInBounds_toArray, List.set_cons_zero, List.set_cons_succ])
                      go_cut [84] (fun v84 wc => ∃ (kq : Nat) (x84_49 : Bool), v84 = .bool x84_49 ∧ Aside0 (laws_FnExactExportRead.j2 kq t303 t302 x84_49 = some r) ∧ Aside0 (kq ≤ kj26) ∧ Aside0 (Kd.R k85 85 wc w.heap.size (fun _ => True) (.slice Ao51 t290.length co51) t303) ∧ Aside0 (Below w.heap.size w wc))
                      case first =>
                        have H := HC50.out
                        clear HC50
                        replace H := Option.bind_eq_some_iff.mp H
                        obtain ⟨t312, A570, H⟩ := H
                        replace H : (if t312 = true then (laws_FnExactExportRead.j2 kj26 t303 t302 (t309 != t284)) else (laws_FnExactExportRead.j2 kj26 t303 t302 true)) = some r := H
                        have A57 := Aside0.mk A570
                        clear A570
                        by_cases c58 : t312 = true
                        · subst c58
                          have H1 : (laws_FnExactExportRead.j2 kj26 t303 t302 (t309 != t284)) = some r := by rw [if_pos rfl] at H; exact H
                          clear H
                          have H := H1
                          clear H1
                          have H' := Aside0.mk H
                          clear H
                          obtain ⟨Ao59, co59, eo59⟩ := Kd.R_slice HO311.out
                          subst eo59
                          obtain ⟨Ao60, co60, eo60⟩ := Kd.R_slice HO_3.out
                          subst eo60
                          go_wp2_with (first | ((with_reducible refine gate_callee (f := 29) rfl ?_); refine goesL_ (some 78) rfl rfl Try.func29 (by kernel_rfl) rfl #[.slice Ao59 t308.length co59, .slice Ao60 t283.length co60] rfl (by (try simp only [List.map_toArray, List.map_cons, List.map_nil]); first | done | rfl | (simp only [List.length_drop, List.length_take]; rfl)) ?_; (with_reducible refine (laws_eqEntryS.calls kj26 _ _ t308 _ _ t283 true _ ?side1 ?side2 ?side3 ?side4 A57.out).mono ?_); (case side1 => repeat (first | exact (Kd.R_reads' HO311.out).2.2 | (with_reducible refine Kd.C_alloc ?_ _) | (with_reducible refine Kd.C_drewN ?_ _) | (with_reducible refine Kd.C_drew ?_))); (case side2 => exact (Kd.R_reads' HO311.out).2.1); (case side3 => repeat (first | exact (Kd.R_reads' HO_3.out).2.2 | (with_reducible refine Kd.C_alloc ?_ _) | (with_reducible refine Kd.C_drewN ?_ _) | (with_reducible refine Kd.C_drew ?_))); (case side4 => exact (Kd.R_reads' HO_3.out).2.1); rintro e w61 ⟨rfl, hb⟩; refine ⟨_, rfl, ?_⟩; have n0_ := Aside0.mk (Kd.R_below (by (with_reducible repeat (first | apply Kd.R_alloc | apply Kd.R_drewN | apply Kd.R_drew)); exact HO_3.out) hb); have n1_ := Aside0.mk (Kd.R_below (by (with_reducible repeat (first | apply Kd.R_alloc | apply Kd.R_drewN | apply Kd.R_drew)); exact HO_6.out) hb); have n2_ := Aside0.mk (Kd.R_below (by (with_reducible repeat (first | apply Kd.R_alloc | apply Kd.R_drewN | apply Kd.R_drew)); exact HO307.out) hb); have n3_ := Aside0.mk (Kd.R_below (by (with_reducible repeat (first | apply Kd.R_alloc | apply Kd.R_drewN | apply Kd.R_drew)); exact HO311.out) hb); have n4_ := Aside0.mk (below_step (by repeat (first | (with_reducible first | exact HB.out | apply below_alloc | apply pw_below_drewN | apply below_drew1) | exact HB.out)) hb); clear HO_3; clear HO_6; clear HO307; clear HO311; clear HB; have HO_3 := n0_; have HO_6 := n1_; have HO307 := n2_; have HO311 := n3_; have HB := n4_; clear n0_ n1_ n2_ n3_ n4_; (try clear hb); (try clear hb2); (try clear hk); (try clear hi)))
                          go_meet
                          case rel => exact ⟨_, ((t309 != t284)), (by first | rfl | (simp; done) | (simp [*]; done)), H', ⟨by have := HJ6.out; have := HJ26.out; first | omega | exact Nat.le_refl _⟩, ⟨by (with_reducible repeat (first | apply Kd.R_alloc | apply Kd.R_drewN | apply Kd.R_drew)); exact Kd.R_mono HO_6.out (fun _ hk => trivial)⟩, ⟨by repeat (first | (with_reducible first | exact HB.out | apply below_alloc | apply pw_below_drewN | apply below_drew1) | exact HB.out)⟩⟩
                        · replace c58 := Bool.eq_false_iff.mpr c58
                          subst c58
                          have H1 : (laws_FnExactExportRead.j2 kj26 t303 t302 true) = some r := by rw [if_neg (show ¬ (false = true) by decide)] at H; exact H
                          clear H
                          have H := H1
                          clear H1
                          have H' := Aside0.mk H
                          clear H
                          obtain ⟨Ao62, co62, eo62⟩ := Kd.R_slice HO311.out
                          subst eo62
                          obtain ⟨Ao63, co63, eo63⟩ := Kd.R_slice HO_3.out
                          subst eo63
                          go_wp2_with (first | ((with_reducible refine gate_callee (f := 29) rfl ?_); refine goesL_ (some 78) rfl rfl Try.func29 (by kernel_rfl) rfl #[.slice Ao62 t308.length co62, .slice Ao63 t283.length co63] rfl (by (try simp only [List.map_toArray, List.map_cons, List.map_nil]); first | done | rfl | (simp only [List.length_drop, List.length_take]; rfl)) ?_; (with_reducible refine (laws_eqEntryS.calls kj26 _ _ t308 _ _ t283 false _ ?side1 ?side2 ?side3 ?side4 A57.out).mono ?_); (case side1 => repeat (first | exact (Kd.R_reads' HO311.out).2.2 | (with_reducible refine Kd.C_alloc ?_ _) | (with_reducible refine Kd.C_drewN ?_ _) | (with_reducible refine Kd.C_drew ?_))); (case side2 => exact (Kd.R_reads' HO311.out).2.1); (case side3 => repeat (first | exact (Kd.R_reads' HO_3.out).2.2 | (with_reducible refine Kd.C_alloc ?_ _) | (with_reducible refine Kd.C_drewN ?_ _) | (with_reducible refine Kd.C_drew ?_))); (case side4 => exact (Kd.R_reads' HO_3.out).2.1); rintro e w64 ⟨rfl, hb⟩; refine ⟨_, rfl, ?_⟩; have n0_ := Aside0.mk (Kd.R_below (by (with_reducible repeat (first | apply Kd.R_alloc | apply Kd.R_drewN | apply Kd.R_drew)); exact HO_3.out) hb); have n1_ := Aside0.mk (Kd.R_below (by (with_reducible repeat (first | apply Kd.R_alloc | apply Kd.R_drewN | apply Kd.R_drew)); exact HO_6.out) hb); have n2_ := Aside0.mk (Kd.R_below (by (with_reducible repeat (first | apply Kd.R_alloc | apply Kd.R_drewN | apply Kd.R_drew)); exact HO307.out) hb); have n3_ := Aside0.mk (Kd.R_below (by (with_reducible repeat (first | apply Kd.R_alloc | apply Kd.R_drewN | apply Kd.R_drew)); exact HO311.out) hb); have n4_ := Aside0.mk (below_step (by repeat (first | (with_reducible first | exact HB.out | apply below_alloc | apply pw_below_drewN | apply below_drew1) | exact HB.out)) hb); clear HO_3; clear HO_6; clear HO307; clear HO311; clear HB; have HO_3 := n0_; have HO_6 := n1_; have HO307 := n2_; have HO311 := n3_; have HB := n4_; clear n0_ n1_ n2_ n3_ n4_; (try clear hb); (try clear hb2); (try clear hk); (try clear hi)))
                          go_meet
                          case rel => exact ⟨_, (true), (by first | rfl | (simp; done) | (simp [*]; done)), H', ⟨by have := HJ6.out; have := HJ26.out; first | omega | exact Nat.le_refl _⟩, ⟨by (with_reducible repeat (first | apply Kd.R_alloc | apply Kd.R_drewN | apply Kd.R_drew)); exact Kd.R_mono HO_6.out (fun _ hk => trivial)⟩, ⟨by repeat (first | (with_reducible first | exact HB.out | apply below_alloc | apply pw_below_drewN | apply below_drew1) | exact HB.out)⟩⟩
                      case rest =>
                        clear HC50
                        try clear c1
                        try clear c2
                        try clear c2b0
                        try clear c2b1
                        try clear p2
                        try clear c3
                        try clear c4
                        try clear c5
                        try clear c7
                        try clear c15
                        try clear c22
                        try clear c25
                        try clear c28
                        try clear c29
                        try clear c30
                        try clear c31
                        try clear c31b0
                        try clear c33
                        try clear c37
                        try clear c38
                        try clear c39
                        try clear c40
                        try clear c43
                        try clear c43b0
                        try clear c47
                        try clear c47b0
                        try clear c47b1
                        try clear c58
                        try clear p2
                        obtain ⟨kq, x84_49, rfl, HA, HJ49, HO_6, HB⟩ := hcut
                        have hl6_49 := (Kd.R_reads' HO_6.out).1
                        rw [hl6_49] at HO_6
                        (try simp only [hl6_49])
                        cases kq with
                        | zero => exact absurd HA.out (by simp [laws_FnExactExportRead.j2])
                        | succ kj49 =>
                          have H := HA.out
                          clear HA
                          simp only [laws_FnExactExportRead.j2] at H
                          by_cases c65 : x84_49 = true
                          · subst c65
                            have H1 : (some false) = some r := by rw [if_pos rfl] at H; exact H
                            clear H
                            have H := H1
                            clear H1
                            obtain rfl := Option.some.inj H
                            go_wp2
                            go_ret
                            exact ⟨by first | rfl | (simp [errW_none, errW_some] <;> rfl) | (simp [*, errW_none, errW_some] <;> rfl), by repeat (first | (with_reducible first | exact HB.out | apply below_alloc | apply pw_below_drewN | apply below_drew1) | exact HB.out)⟩
                          · replace c65 := Bool.eq_false_iff.mpr c65
                            subst c65
                            have H1 : ((laws_heldEntryS.f kj49 t303 1).bind fun t313 => (if t313 < 0 then (some false) else (if t313 = t302 then (some true) else (some false)))) = some r := by rw [if_neg (show ¬ (false = true) by decide)] at H; exact H
                            clear H
                            have H := H1
                            clear H1
                            replace H := Option.bind_eq_some_iff.mp H
                            obtain ⟨t313, A660, H⟩ := H
                            replace H : (if t313 < 0 then (some false) else (if t313 = t302 then (some true) else (some false))) = some r := H
                            have A66 := Aside0.mk A660
                            clear A660
                            by_cases c67 : t313 < 0
                            · rw [if_pos c67] at H
                              have c67b0 : decide (t313 < 0) = true := decide_eq_true c67
                              clear c67
                              obtain rfl := Option.some.inj H
                              go_wp2_with (first | ((with_reducible refine gate_callee (f := 40) rfl ?_); refine goesL_ (some 87) rfl rfl Try.func40 (by kernel_rfl) rfl #[.slice Ao51 t303.length co51, .int .i64 1] rfl (by (try simp only [List.map_toArray, List.map_cons, List.map_nil]); first | done | rfl | (simp only [List.length_drop, List.length_take]; rfl)) ?_; (with_reducible refine (laws_heldEntryS.calls kj49 _ _ t303 1 t313 _ ?side1 ?side2 A66.out).mono ?_); (case side1 => repeat (first | exact (Kd.R_reads' HO_6.out).2.2 | (with_reducible refine Kd.C_alloc ?_ _) | (with_reducible refine Kd.C_drewN ?_ _) | (with_reducible refine Kd.C_drew ?_))); (case side2 => exact (Kd.R_reads' HO_6.out).2.1); rintro e w68 ⟨rfl, hb⟩; refine ⟨_, rfl, ?_⟩; have n0_ := Aside0.mk (Kd.R_below (by (with_reducible repeat (first | apply Kd.R_alloc | apply Kd.R_drewN | apply Kd.R_drew)); exact HO_6.out) hb); have n1_ := Aside0.mk (below_step (by repeat (first | (with_reducible first | exact HB.out | apply below_alloc | apply pw_below_drewN | apply below_drew1) | exact HB.out)) hb); clear HO_6; clear HB; have HO_6 := n0_; have HB := n1_; clear n0_ n1_; (try clear hb); (try clear hb2); (try clear hk); (try clear hi)))
                              go_ret
                              exact ⟨by first | rfl | (simp [errW_none, errW_some] <;> rfl) | (simp [*, errW_none, errW_some] <;> rfl), by repeat (first | (with_reducible first | exact HB.out | apply below_alloc | apply pw_below_drewN | apply below_drew1) | exact HB.out)⟩
                            · rw [if_neg c67] at H
                              have c67b0 : decide (t313 < 0) = false := decide_eq_false c67
                              clear c67
                              by_cases c69 : t313 = t302
                              · rw [if_pos c69] at H
                                have c69b0 : (t313 == t302) = true := beq_iff_eq.mpr c69
                                have c69b1 : (t313 != t302) = false := bne_eq_false_iff_eq.mpr c69
                                clear c69
                                obtain rfl := Option.some.inj H
                                go_wp2_with (first | ((with_reducible refine gate_callee (f := 40) rfl ?_); refine goesL_ (some 87) rfl rfl Try.func40 (by kernel_rfl) rfl #[.slice Ao51 t303.length co51, .int .i64 1] rfl (by (try simp only [List.map_toArray, List.map_cons, List.map_nil]); first | done | rfl | (simp only [List.length_drop, List.length_take]; rfl)) ?_; (with_reducible refine (laws_heldEntryS.calls kj49 _ _ t303 1 t313 _ ?side1 ?side2 A66.out).mono ?_); (case side1 => repeat (first | exact (Kd.R_reads' HO_6.out).2.2 | (with_reducible refine Kd.C_alloc ?_ _) | (with_reducible refine Kd.C_drewN ?_ _) | (with_reducible refine Kd.C_drew ?_))); (case side2 => exact (Kd.R_reads' HO_6.out).2.1); rintro e w70 ⟨rfl, hb⟩; refine ⟨_, rfl, ?_⟩; have n0_ := Aside0.mk (Kd.R_below (by (with_reducible repeat (first | apply Kd.R_alloc | apply Kd.R_drewN | apply Kd.R_drew)); exact HO_6.out) hb); have n1_ := Aside0.mk (below_step (by repeat (first | (with_reducible first | exact HB.out | apply below_alloc | apply pw_below_drewN | apply below_drew1) | exact HB.out)) hb); clear HO_6; clear HB; have HO_6 := n0_; have HB := n1_; clear n0_ n1_; (try clear hb); (try clear hb2); (try clear hk); (try clear hi)))
                                go_ret
                                exact ⟨by first | rfl | (simp [errW_none, errW_some] <;> rfl) | (simp [*, errW_none, errW_some] <;> rfl), by repeat (first | (with_reducible first | exact HB.out | apply below_alloc | apply pw_below_drewN | apply below_drew1) | exact HB.out)⟩
                              · rw [if_neg c69] at H
                                have c69b0 : (t313 == t302) = false := beq_eq_false_iff_ne.mpr c69
                                have c69b1 : (t313 != t302) = true := bne_iff_ne.mpr c69
                                obtain rfl := Option.some.inj H
                                go_wp2_with (first | ((with_reducible refine gate_callee (f := 40) rfl ?_); refine goesL_ (some 87) rfl rfl Try.func40 (by kernel_rfl) rfl #[.slice Ao51 t303.length co51, .int .i64 1] rfl (by (try simp only [List.map_toArray, List.map_cons, List.map_nil]); first | done | rfl | (simp only [List.length_drop, List.length_take]; rfl)) ?_; (with_reducible refine (laws_heldEntryS.calls kj49 _ _ t303 1 t313 _ ?side1 ?side2 A66.out).mono ?_); (case side1 => repeat (first | exact (Kd.R_reads' HO_6.out).2.2 | (with_reducible refine Kd.C_alloc ?_ _) | (with_reducible refine Kd.C_drewN ?_ _) | (with_reducible refine Kd.C_drew ?_))); (case side2 => exact (Kd.R_reads' HO_6.out).2.1); rintro e w71 ⟨rfl, hb⟩; refine ⟨_, rfl, ?_⟩; have n0_ := Aside0.mk (Kd.R_below (by (with_reducible repeat (first | apply Kd.R_alloc | apply Kd.R_drewN | apply Kd.R_drew)); exact HO_6.out) hb); have n1_ := Aside0.mk (below_step (by repeat (first | (with_reducible first | exact HB.out | apply below_alloc | apply pw_below_drewN | apply below_drew1) | exact HB.out)) hb); clear HO_6; clear HB; have HO_6 := n0_; have HB := n1_; clear n0_ n1_; (try clear hb); (try clear hb2); (try clear hk); (try clear hi)))
                                go_ret
                                exact ⟨by first | rfl | (simp [errW_none, errW_some] <;> rfl) | (simp [*, errW_none, errW_some] <;> rfl), by repeat (first | (with_reducible first | exact HB.out | apply below_alloc | apply pw_below_drewN | apply below_drew1) | exact HB.out)⟩
                    · rw [if_neg c47] at H
                      have c47b0 : (t304 == t302) = false := beq_eq_false_iff_ne.mpr c47
                      have c47b1 : (t304 != t302) = true := bne_iff_ne.mpr c47
                      obtain rfl := Option.some.inj H
                      obtain ⟨Ao72, co72, eo72⟩ := Kd.R_slice HO_6.out
                      subst eo72
                      go_wp2_with (first | ((with_reducible refine gate_callee (f := 30) rfl ?_); refine goesL_ (some 61) rfl rfl Try.func30 (by kernel_rfl) rfl #[.slice Ao72 t290.length co72, .int .i64 1] rfl (by (try simp only [List.map_toArray, List.map_cons, List.map_nil]); first | done | rfl | (simp only [List.length_drop, List.length_take]; rfl)) ?_; (with_reducible refine (laws_markEntryS.calls kj26 (fun k_ => some k_ = (.slice Ao72 t290.length co72 : Value).ownBlock) (.slice Ao72 t290.length co72) t290 1 t302 t303 w _ ?side1 ?side2 A41.out).mono ?_); (case side1 => repeat (first | (with_reducible first | exact HB.out | apply below_alloc | apply pw_below_drewN | apply below_drew1) | exact HB.out)); (case side2 => exact Kd.R_tight rfl HO_6.out); rintro e w73 ⟨rfl, hy0, hb, hkp⟩; refine ⟨_, rfl, ?_⟩; have n0_ := Aside0.mk (Kd.R_mono (ok' := fun k_ => some k_ ≠ (.slice Ao72 t290.length co72 : Value).ownBlock) (Kd.R_keptB (HO_3.out) hkp (fun k_ hk_ hs_ => (hk_) hs_)) (fun k_ hk_ => hk_.1)); have n1_ := Aside0.mk (Kd.R_reok rfl hy0 (fun k_ e_ => HO_6.out.1 k_ e_)); have n2_ := Aside0.mk (hb); clear HO_3; clear HO_6; clear HB; have HO_3 := n0_; have HO_6 := n1_; have HB := n2_; clear n0_ n1_ n2_; (try clear hb); (try clear hkp); (try clear hy0)) | ((with_reducible refine gate_callee (f := 40) rfl ?_); refine goesL_ (some 64) rfl rfl Try.func40 (by kernel_rfl) rfl #[.slice Ao72 t303.length co72, .int .i64 1] rfl (by (try simp only [List.map_toArray, List.map_cons, List.map_nil]); first | done | (rw [show t303.length = t290.length from (Kd.R_reads' HO_6.out).1.symm] <;> rfl) | rfl | (simp only [List.length_drop, List.length_take]; rfl)) ?_; (with_reducible refine (laws_heldEntryS.calls kj26 _ _ t303 1 t304 _ ?side1 ?side2 A42.out).mono ?_); (case side1 => repeat (first | exact (Kd.R_reads' HO_6.out).2.2 | (with_reducible refine Kd.C_alloc ?_ _) | (with_reducible refine Kd.C_drewN ?_ _) | (with_reducible refine Kd.C_drew ?_))); (case side2 => rw [show t303.length = t290.length from (Kd.R_reads' HO_6.out).1.symm]; exact (Kd.R_reads' HO_6.out).2.1); rintro e w74 ⟨rfl, hb⟩; refine ⟨_, rfl, ?_⟩; have n0_ := Aside0.mk (Kd.R_below (by (with_reducible repeat (first | apply Kd.R_alloc | apply Kd.R_drewN | apply Kd.R_drew)); exact HO_3.out) hb); have n1_ := Aside0.mk (Kd.R_below (by (with_reducible repeat (first | apply Kd.R_alloc | apply Kd.R_drewN | apply Kd.R_drew)); exact HO_6.out) hb); have n2_ := Aside0.mk (below_step (by repeat (first | (with_reducible first | exact HB.out | apply below_alloc | apply pw_below_drewN | apply below_drew1) | exact HB.out)) hb); clear HO_3; clear HO_6; clear HB; have HO_3 := n0_; have HO_6 := n1_; have HB := n2_; clear n0_ n1_ n2_; (try clear hb); (try clear hb2); (try clear hk); (try clear hi)))
                      go_ret
                      exact ⟨by first | rfl | (simp [errW_none, errW_some] <;> rfl) | (simp [*, errW_none, errW_some] <;> rfl), by repeat (first | (with_reducible first | exact HB.out | apply below_alloc | apply pw_below_drewN | apply below_drew1) | exact HB.out)⟩
          · replace c25 := Bool.eq_false_iff.mpr c25
            subst c25
            have H1 : (some false) = some r := by rw [if_neg (show ¬ (false = true) by decide)] at H; exact H
            clear H
            have H := H1
            clear H1
            obtain rfl := Option.some.inj H
            go_wp2_with (first | ((with_reducible refine gate_callee (f := 38) rfl ?_); refine goesL_ (some 40) rfl rfl Try.func38 (by kernel_rfl) rfl #[.slice A0 l0.length c0] rfl (by (try simp only [List.map_toArray, List.map_cons, List.map_nil]); first | done | rfl | (simp only [List.length_drop, List.length_take]; rfl)) ?_; (with_reducible refine (laws_toByteS.calls kj6 _ _ l0 t295 _ ?side1 ?side2 A23.out).mono ?_); (case side1 => repeat (first | exact (Kd.C_below HR0.out HB.out) | (with_reducible refine Kd.C_alloc ?_ _) | (with_reducible refine Kd.C_drewN ?_ _) | (with_reducible refine Kd.C_drew ?_))); (case side2 => exact HC0.out); rintro e w75 ⟨v296, rfl, ho0, hb⟩; refine ⟨_, rfl, ?_⟩; have n0_ := Aside0.mk (Kd.R_below (by (with_reducible repeat (first | apply Kd.R_alloc | apply Kd.R_drewN | apply Kd.R_drew)); exact HO_3.out) hb); have n1_ := Aside0.mk (Kd.R_elder' (by (with_reducible repeat (first | apply Kd.R_alloc | apply Kd.R_drewN | apply Kd.R_drew)); exact HO_5.out) (Kd.R_base ho0) hb); have n2_ := Aside0.mk (Kd.R_below (by (with_reducible repeat (first | apply Kd.R_alloc | apply Kd.R_drewN | apply Kd.R_drew)); exact HO_6.out) hb); have n3_ := Aside0.mk (Kd.R_lower (Kd.R_new' ho0 (Kd.R_lt (by (with_reducible repeat (first | apply Kd.R_alloc | apply Kd.R_drewN | apply Kd.R_drew)); exact HO_5.out))) (below_size (by repeat (first | (with_reducible first | exact HB.out | apply below_alloc | apply pw_below_drewN | apply below_drew1) | exact HB.out)))); have n4_ := Aside0.mk (below_step (by repeat (first | (with_reducible first | exact HB.out | apply below_alloc | apply pw_below_drewN | apply below_drew1) | exact HB.out)) hb); clear HO_3; clear HO_5; clear HO_6; clear HB; have HO_3 := n0_; have HO_5 := n1_; have HO_6 := n2_; have HO297 := n3_; have HB := n4_; clear n0_ n1_ n2_ n3_ n4_; (try clear hb); (try clear hb2); (try clear hk); (try clear hi); (try clear ho0); obtain ⟨Ao76, co76, eo76⟩ := Kd.R_slice HO297.out; subst eo76) | ((with_reducible refine gate_callee (f := 28) rfl ?_); refine goesL_ (some 41) rfl rfl Try.func28 (by kernel_rfl) rfl #[.slice Ao12 t287.length co12, .slice Ao76 t295.length co76] rfl (by (try simp only [List.map_toArray, List.map_cons, List.map_nil]); first | done | rfl | (simp only [List.length_drop, List.length_take]; rfl)) ?_; (with_reducible refine (laws_eqByteS.calls kj6 _ _ t287 _ _ t295 false _ ?side1 ?side2 ?side3 ?side4 A24.out).mono ?_); (case side1 => repeat (first | exact (Kd.R_reads' HO_5.out).2.2 | (with_reducible refine Kd.C_alloc ?_ _) | (with_reducible refine Kd.C_drewN ?_ _) | (with_reducible refine Kd.C_drew ?_))); (case side2 => exact (Kd.R_reads' HO_5.out).2.1); (case side3 => repeat (first | exact (Kd.R_reads' HO297.out).2.2 | (with_reducible refine Kd.C_alloc ?_ _) | (with_reducible refine Kd.C_drewN ?_ _) | (with_reducible refine Kd.C_drew ?_))); (case side4 => exact (Kd.R_reads' HO297.out).2.1); rintro e w' ⟨rfl, ⟨nd, rfl⟩⟩; refine ⟨_, rfl, ?_⟩))
            go_ret
            exact ⟨by first | rfl | (simp [errW_none, errW_some] <;> rfl) | (simp [*, errW_none, errW_some] <;> rfl), by repeat (first | (with_reducible first | exact HB.out | apply below_alloc | apply pw_below_drewN | apply below_drew1) | exact HB.out)⟩
end Go.Proofs.Ytpkmhdeimedhgaa.QB
namespace Go.Proofs.Ytpkmhdeimedhgaa.Open
open Go.RowKit Go.Proofs.YtpkmhdeimedhgaaW.PrintWords
open Go.ChangeShapes Go.WideShapes
set_option linter.unusedVariables false
def InK (k : IntKind) (n : Int) : Prop := (Lit.int k n).wf = true
def InL {α : Type} (W : α → Prop) (xs : List α) : Prop := xs.length ≤ 9223372036854775807 ∧ ∀ x, x ∈ xs → W x
structure Opens {α : Type} (P : Program) (t : TypeId) (d : Kd α) (W : α → Prop) : Prop where
  cells : P.cellsOf t = d.sz
  reads : ∀ {H : Type} (enc : TypeId × Value → H) (w : World) (base fuel : Nat) (held : Bool) (cs : List Value) (x : DataW H × List MemPlace),
    DataW.trod enc P w base (fun _ => true) held fuel t cs = some x → ∃ y, d.K w y cs ∧ W y
theorem opens_int {P : Program} {t : TypeId} {k : IntKind} (ht : P.underlying t = some (.int k)) (hc : P.cellsOf t = 1) : Opens P t (Kd.int k) (InK k) := by
  refine ⟨hc, ?_⟩
  intro H enc w base fuel held cs x h
  cases fuel with
  | zero => simp [DataW.trod] at h
  | succ n =>
    unfold DataW.trod at h
    rw [ht] at h
    split at h <;> simp_all
    rename_i h2
    obtain ⟨⟨rfl, h3⟩, _⟩ := h
    exact ⟨_, rfl, h3⟩
theorem opens_slice {α : Type} {P : Program} {t e : TypeId} {d : Kd α} {W : α → Prop} (ht : P.underlying t = some (.slice e)) (hc : P.cellsOf t = 1) (z : α) (he : Opens P e d W) : Opens P t (Kd.slice e d) (InL W) := by
  refine ⟨hc, ?_⟩
  intro H enc w base fuel held cs x h
  rcases Go.Deep.open_slice ht h with ⟨rfl, _⟩ | ⟨a, len, cap, m, n, D, Pl, rfl, hb, hl, hm, hmm, rfl, hx⟩
  · exact ⟨[], ⟨none, 0, rfl, Nat.le_refl _, rfl, by simp, fun h0 => absurd h0 (by simp)⟩, by simp, by simp⟩
  · simp only [if_true] at hmm
    subst hmm
    have hm' : m ≤ 9223372036854775807 := by simpa [maxLen] using hm
    have each : ∀ i, i < m → ∃ y : α, ∃ c : List Value, c.length = d.sz ∧ d.K w y c ∧ W y ∧ ∀ j u, c[j]? = some u → w.cell? (a.add (i * d.sz + j)) = some u := by
      intro i hi
      obtain ⟨cs', h1, h2⟩ := hx i hi
      obtain ⟨y, hK, hW⟩ := he.reads enc w base n held cs' _ h2
      obtain ⟨_, hlen, hcell⟩ := World.cells?_some h1
      refine ⟨y, cs', d.K_len hK, hK, hW, fun j u hu => ?_⟩
      have hj : j < P.cellsOf e := by
        rw [← hlen]
        exact (List.getElem?_eq_some_iff.1 hu).1
      have := hcell j hj
      rw [Go.Deep.add_add, he.cells] at this
      rw [this]; exact hu
    haveI : Inhabited α := ⟨z⟩
    obtain ⟨f, hf⟩ := Go.Deep.choose_lt each
    refine ⟨(List.range len).map f, ⟨some a, m, ?_, ?_, ?_⟩, ?_, ?_⟩
    · simp
    · simp; exact hl
    · refine ⟨by simp, by simp; omega, fun _ => ⟨a, rfl, fun j p hj => ?_⟩⟩
      have hj1 : j < len := by have := (List.getElem?_eq_some_iff.1 hj).1; simpa using this
      have hp : f j = p := by simpa [hj1] using hj
      obtain ⟨c, h1, h2, _, h3⟩ := hf j (by omega)
      exact ⟨c, h1, hp ▸ h2, h3⟩
    · simp; omega
    · intro y hy
      obtain ⟨i, hi, rfl⟩ := List.mem_map.1 hy
      obtain ⟨c, _, _, hW, _⟩ := hf i (by have := List.mem_range.1 hi; omega)
      exact hW
theorem open_arg {α : Type} {H : Type} {enc : TypeId × Value → H} {P : Program} {w : World} {t : TypeId} {d : Kd α} {W : α → Prop} (ho : Opens P t d W) {v : Value} {dd : DataW H} {ps : List MemPlace}
    (h : DataW.Trod enc P w 0 (fun _ => true) true t v dd ps) : ∃ y, d.K w y v.cells.toList ∧ W y := by
  obtain ⟨fuel, hf⟩ := h
  exact ho.reads enc w 0 fuel true _ _ hf
end Go.Proofs.Ytpkmhdeimedhgaa.Open
namespace Go.Proofs.Ytpkmhdeimedhgaa.QB
open Go.RowKit Go.Proofs.YtpkmhdeimedhgaaW.PrintWords Go.Proofs.YtpkmhdeimedhgaaW.PrintLast Go.Proofs.Ytpkmhdeimedhgaa
def laws_FnExactExportRead.Pure : Prop := ∀ (y0 : List Int), Open.InL (fun z => Open.InK .u8 z) y0 → ∃ k, laws_FnExactExportRead.f k y0 = some true
end Go.Proofs.Ytpkmhdeimedhgaa.QB
namespace Go.Proofs.Ytpkmhdeimedhgaa.L
open Go.RowKit Go.Proofs.YtpkmhdeimedhgaaW.PrintWords Go.Proofs.YtpkmhdeimedhgaaW.PrintMore
set_option linter.unusedVariables false
set_option linter.unusedSimpArgs false
theorem wrap_id {x : Int} (h0 : -9223372036854775808 ≤ x) (h1 : x ≤ 9223372036854775807) : wrap64 x = x := by unfold wrap64; omega
theorem wrap_nat_succ {i : Nat} (h : i < 9223372036854775807) : wrap64 ((i : Int) + 1) = ((i + 1 : Nat) : Int) := by unfold wrap64; omega
theorem evVal {α : Type} {g : Nat → Option α} {r r' : α} (h : Ev g r) (e : r = r') : Ev g r' := e ▸ h
theorem loop_ev {σ ρ : Type} (n : Nat) (G : Nat → σ → Int → Option ρ) (s : Nat → σ) (r : ρ)
    (hstep : ∀ i, i < n → Ev (fun k => G k (s (i + 1)) ((i + 1 : Nat) : Int)) r → Ev (fun k => G k (s i) (i : Int)) r)
    (hend : Ev (fun k => G k (s n) (n : Int)) r) : Ev (fun k => G k (s 0) 0) r := by
  have key : ∀ d i, i + d = n → Ev (fun k => G k (s i) (i : Int)) r := by
    intro d
    induction d with
    | zero => intro i h; obtain rfl : i = n := by omega
              exact hend
    | succ d ih => intro i h; exact hstep i (by omega) (ih (i + 1) (by omega))
  exact key n 0 (by omega)
theorem search_ev {ρ : Type} (n : Nat) (G : Nat → Int → Option ρ) (p : Nat → Bool) (rno ryes : ρ)
    (hgo : ∀ i, i < n → p i = true → ∀ r, Ev (fun k => G k ((i + 1 : Nat) : Int)) r → Ev (fun k => G k (i : Int)) r)
    (hstop : ∀ i, i < n → p i = false → Ev (fun k => G k (i : Int)) rno)
    (hend : Ev (fun k => G k (n : Int)) ryes) : Ev (fun k => G k 0) (if (List.range n).all p then ryes else rno) := by
  have key : ∀ d i, i + d = n → Ev (fun k => G k (i : Int)) (if ((List.range n).drop i).all p then ryes else rno) := by
    intro d
    induction d with
    | zero =>
      intro i h
      obtain rfl : i = n := by omega
      rw [List.drop_of_length_le (by simp)]
      exact hend
    | succ d ih =>
      intro i h
      have hi : i < n := by omega
      rw [List.drop_eq_getElem_cons (by simpa using hi), List.getElem_range, List.all_cons]
      cases hp : p i with
      | true => simpa using hgo i hi hp _ (ih (i + 1) (by omega))
      | false => simpa using hstop i hi hp
  have := key n 0 (by omega)
  simpa using this
theorem fill_ev {β : Type} (n : Nat) (z : β) (G : Nat → List β → Int → Option (List β)) (b : Nat → β)
    (hstep : ∀ i x3, i < n → x3.length = n → ∀ r, Ev (fun k => G k (x3.set i (b i)) ((i + 1 : Nat) : Int)) r → Ev (fun k => G k x3 (i : Int)) r)
    (hend : ∀ x3 : List β, x3.length = n → Ev (fun k => G k x3 (n : Int)) x3) : Ev (fun k => G k (List.replicate n z) 0) ((List.range n).map b) := by
  have key : ∀ d i x3, i + d = n → x3.length = n → (∀ j, j < i → x3[j]? = some (b j)) → Ev (fun k => G k x3 (i : Int)) ((List.range n).map b) := by
    intro d
    induction d with
    | zero =>
      intro i x3 h hl hx
      obtain rfl : i = n := by omega
      refine evVal (hend x3 hl) ?_
      apply List.ext_getElem?
      intro j
      by_cases hj : j < i
      · rw [hx j hj]; simp [hj]
      · rw [List.getElem?_eq_none (by omega), List.getElem?_eq_none (by simp; omega)]
    | succ d ih =>
      intro i x3 h hl hx
      refine hstep i x3 (by omega) hl _ (ih (i + 1) _ (by omega) (by simpa using hl) (fun j hj => ?_))
      by_cases e : j = i
      · subst e; rw [List.getElem?_set_self (by omega)]
      · rw [List.getElem?_set_ne (by omega)]; exact hx j (by omega)
  exact key n 0 _ (by omega) (by simp) (fun j hj => absurd hj (Nat.not_lt_zero _))
theorem map_range {α β : Type} (l : List α) (z : α) (t : α → β) : (List.range l.length).map (fun i => t (l.getD i z)) = l.map t := by
  apply List.ext_getElem?
  intro i
  by_cases hi : i < l.length
  · simp [hi, List.getD]
  · simp [hi]
theorem getD_lt {α : Type} {l : List α} {i : Nat} (z : α) (h : i < l.length) : l.getD i z = l[i] := by simp [List.getD, h]
end Go.Proofs.Ytpkmhdeimedhgaa.L
namespace Go.Proofs.Ytpkmhdeimedhgaa.L
open Go.RowKit Go.Proofs.Ytpkmhdeimedhgaa.QB Go.Proofs.YtpkmhdeimedhgaaW.PrintWords Go.Proofs.YtpkmhdeimedhgaaW.PrintLast
set_option linter.unusedVariables false
set_option linter.unusedSimpArgs false
theorem within_eq (n lo hi : Int) : impl_within.f n lo hi = some (decide (lo ≤ n ∧ n ≤ hi)) := by
  unfold impl_within.f
  by_cases h : n ≥ lo
  · rw [if_pos h]
    by_cases h2 : n ≤ hi <;> simp [h2] <;> omega
  · rw [if_neg h]
    simp
    omega
end Go.Proofs.Ytpkmhdeimedhgaa.L
namespace Go.Proofs.Ytpkmhdeimedhgaa.L
open Go.RowKit Go.Proofs.Ytpkmhdeimedhgaa.QB Go.Proofs.YtpkmhdeimedhgaaW.PrintWords Go.Proofs.YtpkmhdeimedhgaaW.PrintLast Go.Proofs.YtpkmhdeimedhgaaW.PrintMore
set_option linter.unusedVariables false
set_option linter.unusedSimpArgs false
def letB (s : ByteArray) (i : Nat) : Bool := decide (97 ≤ bt s (i : Int)) && decide (bt s (i : Int) ≤ 122)
def lettersB (s : ByteArray) : Bool := (List.range s.size).all (letB s)
def wordB (s : ByteArray) : Bool := decide (1 ≤ s.size ∧ s.size ≤ 32) && lettersB s
theorem specWordOk_ev (s : ByteArray) (hs : s.size ≤ 9223372036854775807) : Ev (fun k => spec_WordOk.f k s) (wordB s) := by
  unfold spec_WordOk.f wordB
  by_cases h1 : s.size < 1
  · simp only [if_pos (show (s.size : Int) < 1 by omega), show ¬ (1 ≤ s.size ∧ s.size ≤ 32) by omega, decide_false, Bool.false_and]
    refine Ev.step (fun k => rfl) ?_
    simp only [spec_WordOk.j0, if_true]
    exact Ev.now _
  · simp only [if_neg (show ¬ (s.size : Int) < 1 by omega)]
    refine Ev.step (fun k => rfl) ?_
    by_cases h2 : s.size ≤ 32
    · simp only [spec_WordOk.j0, show ¬ ((s.size : Int) > 32) by omega, decide_false, Bool.false_eq_true, if_false, show (1 ≤ s.size ∧ s.size ≤ 32) by omega, decide_true, Bool.true_and]
      refine evVal (search_ev s.size (fun k i => spec_WordOk.l0 k s i) (letB s) false true ?_ ?_ ?_) ?_
      · intro i hi hp r hr
        unfold letB at hp
        simp only [Bool.and_eq_true, decide_eq_true_eq] at hp
        refine Ev.step (fun k => ?_) hr
        simp only [spec_WordOk.l0]
        rw [if_pos (by omega), if_pos (by omega), if_neg (by omega), if_neg (by omega), wrap_nat_succ (by omega)]
      · intro i hi hp
        unfold letB at hp
        refine Ev.step (f := fun _ => some false) (fun k => ?_) (Ev.now _)
        simp only [spec_WordOk.l0]
        rw [if_pos (by omega), if_pos (by omega)]
        by_cases h97 : bt s (i : Int) < 97
        · rw [if_pos h97]
        · rw [if_neg h97, if_pos (by simp at hp; omega)]
      · refine Ev.step (f := fun _ => some true) (fun k => ?_) (Ev.now _)
        simp only [spec_WordOk.l0]
        rw [if_neg (by omega)]
      · unfold lettersB
        cases (List.range s.size).all (letB s) <;> rfl
    · simp only [spec_WordOk.j0, show ((s.size : Int) > 32) by omega, decide_true, if_true, show ¬ (1 ≤ s.size ∧ s.size ≤ 32) by omega, decide_false, Bool.false_and]
      exact Ev.now _
theorem isWord_ev (s : ByteArray) (hs : s.size ≤ 9223372036854775807) : Ev (fun k => impl_isWord.f k s) (wordB s) := by
  unfold impl_isWord.f wordB
  refine evVal (search_ev s.size (fun k i => impl_isWord.l0 k s (s.size : Int) i) (letB s) false (decide (1 ≤ s.size ∧ s.size ≤ 32)) ?_ ?_ ?_) ?_
  · intro i hi hp r hr
    unfold letB at hp
    simp only [Bool.and_eq_true, decide_eq_true_eq] at hp
    refine Ev.step (fun k => ?_) hr
    simp only [impl_isWord.l0]
    rw [if_pos (by omega), if_pos (by omega), if_pos (by omega), if_neg (by omega), if_neg (by omega), wrap_nat_succ (by omega)]
  · intro i hi hp
    unfold letB at hp
    refine Ev.step (f := fun _ => some false) (fun k => ?_) (Ev.now _)
    simp only [impl_isWord.l0]
    rw [if_pos (by omega), if_pos (by omega), if_pos (by omega)]
    by_cases h97 : bt s (i : Int) < 97
    · rw [if_pos h97]
    · rw [if_neg h97, if_pos (by simp at hp; omega)]
  · refine Ev.step (f := fun _ => some (decide (1 ≤ s.size ∧ s.size ≤ 32))) (fun k => ?_) (Ev.now _)
    simp only [impl_isWord.l0, within_eq, Option.bind_some]
    rw [if_neg (by omega)]
    congr 2
    apply propext
    omega
  · unfold lettersB
    cases (List.range s.size).all (letB s) <;> simp
theorem wordB_size {s : ByteArray} (h : wordB s = true) : 1 ≤ s.size ∧ s.size ≤ 32 := by
  unfold wordB at h
  rw [Bool.and_eq_true] at h
  exact of_decide_eq_true h.1
def padW (s : ByteArray) : List Int := (s.size : Int) :: (bytesOf s ++ List.replicate (32 - s.size) 0)
def padL (s : ByteArray) : List Int := if wordB s then padW s else List.replicate 33 0
theorem padL_length (s : ByteArray) : (padL s).length = 33 := by
  unfold padL padW
  split
  · rename_i h
    have := wordB_size h
    simp [bytesOf_length]
    omega
  · simp
theorem implPad_ev (s : ByteArray) (hs : s.size ≤ 9223372036854775807) : Ev (fun k => impl_pad.f k s) (padL s) := by
  unfold impl_pad.f padL
  refine Ev.bind (isWord_ev s hs) ?_
  cases h : wordB s with
  | false => simp only [Bool.false_eq_true, if_false]; exact Ev.now _
  | true =>
    simp only [if_true, if_pos (wordB_size h).2]
    exact Ev.now _
theorem specPad_ev (s : ByteArray) (hs : s.size ≤ 9223372036854775807) : Ev (fun k => spec_Pad.f k s) (padL s) := by
  unfold spec_Pad.f padL
  simp only [show 33 ≤ 281474976710656 by omega, if_true, Option.bind_some]
  refine Ev.bind (specWordOk_ev s hs) ?_
  cases h : wordB s with
  | false => simp only [Bool.false_eq_true, if_false]; exact Ev.now _
  | true =>
    have hb := wordB_size h
    have e0 : (List.replicate 33 (0 : Int)).set (0 : Int).toNat ((s.size : Int) % 256) = (s.size : Int) :: List.replicate 32 0 := by
      rw [show (0 : Int).toNat = 0 from rfl, List.replicate_succ, List.set_cons_zero]
      congr 1
      omega
    simp only [if_true, List.length_replicate, if_pos (show (0 : Int) < ((33 : Nat) : Int) by omega), e0]
    have key : ∀ d i, i + d = s.size → Ev (fun k => spec_Pad.l0 k s ((s.size : Int) :: ((bytesOf s).take i ++ List.replicate (32 - i) 0)) (i : Int)) (padW s) := by
      intro d
      induction d with
      | zero =>
        intro i hi
        refine evVal (Ev.step (f := fun _ => some ((s.size : Int) :: ((bytesOf s).take i ++ List.replicate (32 - i) 0))) (fun k => ?_) (Ev.now _)) ?_
        · simp only [spec_Pad.l0]
          rw [if_neg (by omega)]
        · unfold padW
          rw [List.take_of_length_le (by rw [bytesOf_length]; omega), show i = s.size by omega]
      | succ d ih =>
        intro i hi
        refine Ev.step (fun k => ?_) (ih (i + 1) (by omega))
        have hl : (((s.size : Int) :: ((bytesOf s).take i ++ List.replicate (32 - i) 0)).length : Int) = 33 := by simp [bytesOf_length]; omega
        simp only [spec_Pad.l0]
        rw [if_pos (by omega), if_pos (by omega), wrap_nat_succ (by omega), if_pos (by omega), if_pos (by rw [hl]; omega)]
        congr 1
        rw [Int.toNat_natCast, List.set_cons_succ, List.set_append_right _ _ (by rw [List.length_take, bytesOf_length]; omega), List.length_take, bytesOf_length, Nat.min_eq_left (by omega), Nat.sub_self, show 32 - i = (32 - (i + 1)) + 1 by omega, List.replicate_succ, List.set_cons_zero, List.take_succ_eq_append_getElem (by rw [bytesOf_length]; omega), List.append_assoc]
        congr 3
        have := rd_bytesOf s (i : Int)
        unfold rd at this
        rw [Int.toNat_natCast, List.getD_eq_getElem?_getD, List.getElem?_eq_getElem (by rw [bytesOf_length]; omega)] at this
        exact this.symm
    have := key s.size 0 (by omega)
    simpa using this
end Go.Proofs.Ytpkmhdeimedhgaa.L
namespace Go.Proofs.Ytpkmhdeimedhgaa.L
open Go.RowKit Go.Proofs.Ytpkmhdeimedhgaa.QB Go.Proofs.YtpkmhdeimedhgaaW.PrintWords Go.Proofs.YtpkmhdeimedhgaaW.PrintLast Go.Proofs.YtpkmhdeimedhgaaW.PrintMore
set_option linter.unusedVariables false
set_option linter.unusedSimpArgs false
def Byt (l : List Int) : Prop := ∀ x, x ∈ l → 0 ≤ x ∧ x ≤ 255
theorem strL_inj {a b : List Int} (ha : Byt a) (hb : Byt b) : (strOfNums a).toList = (strOfNums b).toList ↔ a = b := by
  constructor
  · intro h
    rw [ByteArray.toList_eq, ByteArray.toList_eq, strOfNums_data, strOfNums_data] at h
    induction a generalizing b with
    | nil => cases b with
      | nil => rfl
      | cons y ys => simp at h
    | cons x xs ih => cases b with
      | nil => simp at h
      | cons y ys =>
        rw [List.map_cons, List.map_cons, List.cons.injEq] at h
        have hx := ha x (List.mem_cons_self)
        have hy := hb y (List.mem_cons_self)
        have e := congrArg UInt8.toNat h.1
        rw [UInt8.toNat_ofNat', UInt8.toNat_ofNat'] at e
        rw [ih (fun z hz => ha z (List.mem_cons_of_mem _ hz)) (fun z hz => hb z (List.mem_cons_of_mem _ hz)) h.2]
        congr 1
        omega
  · rintro rfl; rfl
theorem bytesOf_byt (s : ByteArray) : Byt (bytesOf s) := by
  intro x hx
  unfold bytesOf at hx
  obtain ⟨b, _, rfl⟩ := List.mem_map.1 hx
  have := b.toNat_lt
  omega
theorem strOf_bytesOf (s : ByteArray) : strOfNums (bytesOf s) = s := by
  unfold strOfNums bytesOf
  cases s with
  | mk d =>
    congr 1
    rw [List.map_map]
    have : (fun n : Int => UInt8.ofNat n.toNat) ∘ (fun b : UInt8 => (b.toNat : Int)) = id := by
      funext b
      simp
    rw [this]
    simp
theorem padL_byt (s : ByteArray) : Byt (padL s) := by
  intro x hx
  unfold padL at hx
  split at hx
  · rename_i h
    have := wordB_size h
    unfold padW at hx
    rcases List.mem_cons.1 hx with rfl | hx
    · omega
    · rcases List.mem_append.1 hx with hx | hx
      · exact bytesOf_byt s x hx
      · have := List.eq_of_mem_replicate hx; omega
  · have := List.eq_of_mem_replicate hx; omega
theorem bytEq_eq {a b : List Int} (ha : Byt a) (hb : Byt b) : bytes_Equal.f a b = some (decide (a = b)) := by
  unfold bytes_Equal.f
  congr 1
  by_cases e : a = b
  · subst e; simp
  · have h : ¬ (strOfNums a).toList = (strOfNums b).toList := fun h => e ((strL_inj ha hb).1 h)
    rw [beq_eq_false_iff_ne.2 h, decide_eq_false e]
def unW (l : List Int) : ByteArray := strOfNums ((l.take (1 + (rd l 0)).toNat).drop 1)
def unB (l : List Int) : Bool := decide (l.length = 33 ∧ rd l 0 ≤ 32) && (wordB (unW l) && decide (padL (unW l) = l))
def unR (l : List Int) : ByteArray × Bool := if unB l then (unW l, true) else (⟨#[]⟩, false)
theorem unW_size (l : List Int) : (unW l).size ≤ l.length := by
  unfold unW
  rw [strOfNums_size, List.length_drop, List.length_take]
  omega
theorem rd_byt {l : List Int} (h : Byt l) (i : Int) : 0 ≤ rd l i ∧ rd l i ≤ 255 := by
  unfold rd
  rw [List.getD_eq_getElem?_getD]
  cases e : l[i.toNat]? with
  | none => simp
  | some x => exact h x (List.mem_of_getElem? e)
theorem wordB_nil : wordB (strOfNums []) = false := by
  unfold wordB
  rw [strOfNums_size]
  rfl
theorem implUnpad_ev (l : List Int) (h : Byt l) (hl : l.length ≤ 1048576) : Ev (fun k => impl_Unpad.f k l) (unR l) := by
  unfold impl_Unpad.f unR unB
  have h0 := rd_byt h 0
  by_cases h1 : l.length = 33
  · simp only [if_pos (show (l.length : Int) = 33 by omega), if_pos (show (0 : Int) < (l.length : Int) by omega)]
    refine Ev.step (fun k => rfl) ?_
    by_cases h2 : rd l 0 ≤ 32
    · have e : (1 + rd l 0) % 256 = 1 + rd l 0 := by omega
      simp only [impl_Unpad.j0, show ¬ (rd l 0 > 32) by omega, decide_false, Bool.false_eq_true, if_false, h1, if_pos (show (0 : Int) < ((33 : Nat) : Int) by omega), e, if_pos (show (1 : Int) ≤ 1 + rd l 0 by omega), if_pos (show 1 + rd l 0 ≤ ((33 : Nat) : Int) by omega), h2, and_self, decide_true, Bool.true_and]
      refine Ev.bind (isWord_ev (unW l) (by have := unW_size l; omega)) ?_
      cases hw : wordB (unW l) with
      | false => simp only [Bool.false_eq_true, if_false, Bool.false_and]; exact Ev.now _
      | true =>
        simp only [if_true, Bool.true_and]
        refine Ev.bind (implPad_ev (unW l) (by have := unW_size l; omega)) ?_
        simp only [bytEq_eq (padL_byt _) h, Option.bind_some]
        by_cases h3 : padL (unW l) = l
        · simp only [h3, decide_true, if_true]; exact Ev.now _
        · simp only [h3, decide_false, Bool.false_eq_true, if_false]; exact Ev.now _
    · simp only [impl_Unpad.j0, show (rd l 0 > 32) by omega, decide_true, if_true, h2, and_false, decide_false, Bool.false_and, Bool.false_eq_true, if_false]
      exact Ev.now _
  · simp only [if_neg (show ¬ (l.length : Int) = 33 by omega), h1, false_and, decide_false, Bool.false_and, Bool.false_eq_true, if_false]
    refine Ev.step (fun k => rfl) ?_
    simp only [impl_Unpad.j0, if_true]
    exact Ev.now _
theorem specUnpad_ev (l : List Int) (h : Byt l) (hl : l.length ≤ 1048576) : Ev (fun k => spec_Unpad.f k l) (unR l) := by
  unfold spec_Unpad.f unR unB
  have h0 := rd_byt h 0
  have hno : ∀ r, r = (((⟨#[]⟩ : ByteArray), false) : ByteArray × Bool) → Ev (fun k => spec_Unpad.j0 k l true) r := by
    rintro r rfl
    refine Ev.step (fun k => rfl) ?_
    simp only [spec_Unpad.j0, if_true]
    exact Ev.now _
  by_cases h1 : l.length = 33
  · simp only [if_pos (show (l.length : Int) = 33 by omega), if_pos (show (0 : Int) < (l.length : Int) by omega)]
    by_cases h4 : rd l 0 < 1
    · simp only [if_pos h4]
      refine hno _ ?_
      rw [if_neg]
      have e : unW l = strOfNums [] := by
        unfold unW
        rw [show (1 + rd l 0).toNat = 1 by omega, List.drop_of_length_le (by rw [List.length_take]; omega)]
      rw [e, wordB_nil]
      simp
    · simp only [if_neg h4]
      by_cases h2 : rd l 0 ≤ 32
      · have e : wrap64 (1 + (wrap64 (rd l 0))) = 1 + rd l 0 := by rw [wrap_id (x := rd l 0) (by omega) (by omega), wrap_id (by omega) (by omega)]
        refine Ev.step (fun k => rfl) ?_
        simp only [spec_Unpad.j0, show ¬ (rd l 0 > 32) by omega, decide_false, Bool.false_eq_true, if_false, h1, if_pos (show (0 : Int) < ((33 : Nat) : Int) by omega), e, if_pos (show (1 : Int) ≤ 1 + rd l 0 by omega), if_pos (show 1 + rd l 0 ≤ ((33 : Nat) : Int) by omega), h2, and_self, decide_true, Bool.true_and]
        refine Ev.bind (specWordOk_ev (unW l) (by have := unW_size l; omega)) ?_
        cases hw : wordB (unW l) with
        | false => simp only [Bool.false_eq_true, if_false, Bool.false_and]; exact Ev.now _
        | true =>
          simp only [if_true, Bool.true_and]
          refine Ev.bind (specPad_ev (unW l) (by have := unW_size l; omega)) ?_
          simp only [strL_inj (padL_byt _) h]
          by_cases h3 : padL (unW l) = l
          · simp only [h3, decide_true, if_true]; exact Ev.now _
          · simp only [h3, decide_false, Bool.false_eq_true, if_false]; exact Ev.now _
      · simp only [show (rd l 0 > 32) by omega, decide_true]
        exact hno _ (by simp only [h2, and_false, decide_false, Bool.false_and, Bool.false_eq_true, if_false])
  · simp only [if_neg (show ¬ (l.length : Int) = 33 by omega)]
    exact hno _ (by simp only [h1, false_and, decide_false, Bool.false_and, Bool.false_eq_true, if_false])
theorem unB_pad {w : ByteArray} (h : wordB w = true) : unB (padL w) = true ∧ unW (padL w) = w := by
  have hs := wordB_size h
  have e : padL w = padW w := by unfold padL; rw [if_pos h]
  have e0 : rd (padL w) 0 = (w.size : Int) := by rw [e]; rfl
  have e1 : unW (padL w) = w := by
    unfold unW
    rw [e0, e]
    unfold padW
    rw [show (1 + (w.size : Int)).toNat = w.size + 1 by omega, List.take_succ_cons, List.drop_succ_cons, List.drop_zero, List.take_left' (bytesOf_length w), strOf_bytesOf]
  refine ⟨?_, e1⟩
  unfold unB
  rw [e1, e0, h, padL_length]
  simp
  omega
theorem unB_zero : unB (List.replicate 33 0) = false := by
  unfold unB unW
  rw [show rd (List.replicate 33 0) 0 = 0 from rfl, show ((List.replicate 33 (0 : Int)).take (1 + 0 : Int).toNat).drop 1 = [] from rfl, wordB_nil]
  simp
end Go.Proofs.Ytpkmhdeimedhgaa.L
namespace Go.Proofs.Ytpkmhdeimedhgaa.L
open Go.RowKit Go.Proofs.Ytpkmhdeimedhgaa.QB Go.Proofs.YtpkmhdeimedhgaaW.PrintWords Go.Proofs.YtpkmhdeimedhgaaW.PrintLast Go.Proofs.YtpkmhdeimedhgaaW.PrintMore
set_option linter.unusedVariables false
set_option linter.unusedSimpArgs false
def cmpL : List UInt8 → List UInt8 → Int
  | [], [] => 0
  | [], _ :: _ => -1
  | _ :: _, [] => 1
  | a :: x, b :: y => if a < b then -1 else if b < a then 1 else cmpL x y
theorem cmpL_less : ∀ x y : List UInt8, (decide (cmpL x y ≥ 0)) = !(Op.bytesLess x y)
  | [], [] => rfl
  | [], _ :: _ => rfl
  | _ :: _, [] => rfl
  | a :: x, b :: y => by
    unfold cmpL Op.bytesLess
    by_cases h : a < b
    · simp [h]
    · by_cases h' : b < a
      · have hne : ¬ a = b := fun e => by subst e; exact h h'
        simp [h, h', hne]
      · have he : a = b := by
          have h1 : ¬ a.toNat < b.toNat := fun hh => h (UInt8.lt_iff_toNat_lt.mpr hh)
          have h2 : ¬ b.toNat < a.toNat := fun hh => h' (UInt8.lt_iff_toNat_lt.mpr hh)
          exact UInt8.toNat_inj.mp (by omega)
        subst he
        have := cmpL_less x y
        simp only [h, if_false, this]
        simp
theorem bt_get (s : ByteArray) (i : Nat) (h : i < s.data.toList.length) : bt s (i : Int) = (s.data.toList[i].toNat : Int) := by
  have hs : i < s.size := by rw [data_length] at h; exact h
  unfold bt
  rw [dif_pos (by simpa using hs)]
  rfl
theorem drop_cons_get {α : Type} (l : List α) (i : Nat) (h : i < l.length) : l.drop i = l[i] :: l.drop (i + 1) := List.drop_eq_getElem_cons h
theorem wordCmp_ev (a b : ByteArray) (ha : a.size ≤ 9223372036854775806) (hb : b.size ≤ 9223372036854775806) : Ev (fun k => spec_WordCmp.f k a b) (cmpL a.toList b.toList) := by
  unfold spec_WordCmp.f
  rw [ByteArray.toList_eq, ByteArray.toList_eq]
  have key : ∀ d i, i + d = a.size → i ≤ b.size → Ev (fun k => spec_WordCmp.l0 k a b (i : Int)) (cmpL (a.data.toList.drop i) (b.data.toList.drop i)) := by
    intro d
    induction d with
    | zero =>
      intro i hi hib
      have ea : a.data.toList.drop i = [] := List.drop_of_length_le (by rw [data_length]; omega)
      refine Ev.step (fun k => rfl) ?_
      simp only [spec_WordCmp.l0, if_neg (show ¬ (i : Int) < (a.size : Int) by omega)]
      refine Ev.step (fun k => rfl) ?_
      simp only [spec_WordCmp.j1, Bool.false_eq_true, if_false]
      by_cases h : i < b.size
      · simp only [if_pos (show (a.size : Int) < (b.size : Int) by omega)]
        rw [ea, drop_cons_get b.data.toList i (by rw [data_length]; omega)]
        exact Ev.now _
      · simp only [if_neg (show ¬ (a.size : Int) < (b.size : Int) by omega), if_neg (show ¬ (a.size : Int) > (b.size : Int) by omega)]
        rw [ea, List.drop_of_length_le (by rw [data_length]; omega)]
        exact Ev.now _
    | succ d ih =>
      intro i hi hib
      have hla : i < a.data.toList.length := by rw [data_length]; omega
      refine Ev.step (fun k => rfl) ?_
      simp only [spec_WordCmp.l0, if_pos (show (i : Int) < (a.size : Int) by omega)]
      refine Ev.step (fun k => rfl) ?_
      by_cases h : i < b.size
      · have hlb : i < b.data.toList.length := by rw [data_length]; omega
        simp only [spec_WordCmp.j1, show (i : Int) < (b.size : Int) by omega, decide_true, if_true, if_pos (show (0 : Int) ≤ (i : Int) by omega), if_pos (show (i : Int) < (a.size : Int) by omega), wrap_nat_succ (show i < 9223372036854775807 by omega), bt_get a i hla, bt_get b i hlb]
        rw [drop_cons_get a.data.toList i hla, drop_cons_get b.data.toList i hlb]
        unfold cmpL
        by_cases h1 : a.data.toList[i] < b.data.toList[i]
        · have h1' : (a.data.toList[i].toNat : Int) < (b.data.toList[i].toNat : Int) := by have := UInt8.lt_iff_toNat_lt.mp h1; omega
          simp only [if_pos h1', if_pos h1]
          exact Ev.now _
        · have h1' : ¬ (a.data.toList[i].toNat : Int) < (b.data.toList[i].toNat : Int) := fun hh => h1 (UInt8.lt_iff_toNat_lt.mpr (by omega))
          simp only [if_neg h1', if_neg h1]
          by_cases h2 : b.data.toList[i] < a.data.toList[i]
          · have h2' : (a.data.toList[i].toNat : Int) > (b.data.toList[i].toNat : Int) := by have := UInt8.lt_iff_toNat_lt.mp h2; omega
            simp only [if_pos h2', if_pos h2]
            exact Ev.now _
          · have h2' : ¬ (a.data.toList[i].toNat : Int) > (b.data.toList[i].toNat : Int) := fun hh => h2 (UInt8.lt_iff_toNat_lt.mpr (by omega))
            simp only [if_neg h2', if_neg h2]
            exact ih (i + 1) (by omega) (by omega)
      · simp only [spec_WordCmp.j1, show ¬ (i : Int) < (b.size : Int) by omega, decide_false, Bool.false_eq_true, if_false, if_neg (show ¬ (a.size : Int) < (b.size : Int) by omega), if_pos (show (a.size : Int) > (b.size : Int) by omega)]
        rw [drop_cons_get a.data.toList i hla, List.drop_of_length_le (show b.data.toList.length ≤ i by rw [data_length]; omega)]
        exact Ev.now _
  have := key a.size 0 (by omega) (by omega)
  simpa using this
end Go.Proofs.Ytpkmhdeimedhgaa.L
namespace Go.Proofs.Ytpkmhdeimedhgaa.L
open Go.RowKit Go.Proofs.Ytpkmhdeimedhgaa.QB Go.Proofs.YtpkmhdeimedhgaaW.PrintWords Go.Proofs.YtpkmhdeimedhgaaW.PrintLast Go.Proofs.YtpkmhdeimedhgaaW.PrintMore
set_option linter.unusedVariables false
set_option linter.unusedSimpArgs false
abbrev Ent := S85
def entryB (e : Ent) : Bool := wordB e.f0 && decide (0 ≤ e.f1 ∧ e.f1 ≤ 65535)
theorem isEntry_ev (e : Ent) (h : e.f0.size ≤ 9223372036854775807) : Ev (fun k => impl_isEntry.f k e.f0 e.f1) (entryB e) := by
  unfold impl_isEntry.f entryB
  refine Ev.bind (isWord_ev _ h) ?_
  cases wordB e.f0 with
  | false => simp only [Bool.false_eq_true, if_false, Bool.false_and]; exact Ev.now _
  | true => simp only [if_true, within_eq, Option.bind_some, Bool.true_and]; exact Ev.now _
theorem full_ev (e : Ent) (h : e.f0.size ≤ 9223372036854775807) : Ev (fun k => spec_l17Full.f k e.f0 e.f1) (entryB e) := by
  unfold spec_l17Full.f entryB
  refine Ev.bind (specWordOk_ev _ h) ?_
  cases wordB e.f0 with
  | false => simp only [Bool.false_eq_true, if_false, Bool.false_and]; exact Ev.now _
  | true =>
    simp only [if_true, Bool.true_and]
    by_cases h0 : e.f1 ≥ 0
    · simp only [if_pos h0]
      refine evVal (Ev.now _) ?_
      congr 1
      apply propext
      omega
    · simp only [if_neg h0]
      refine evVal (Ev.now _) ?_
      simp
      omega
def stepB (l : List Ent) (i : Nat) : Bool := entryB (rd_T85 l (i : Int)) && (decide (i = 0) || Op.bytesLess (rd_T85 l ((i - 1 : Nat) : Int)).f0.toList (rd_T85 l (i : Int)).f0.toList)
def exportedB (l : List Ent) (n : Int) : Bool := (List.range l.length).all (stepB l) && decide ((l.length : Int) ≤ n)
theorem rd_size {l : List Ent} {m : Nat} (h : ∀ x, x ∈ l → x.f0.size ≤ m) (i : Nat) : (rd_T85 l (i : Int)).f0.size ≤ m := by
  unfold rd_T85
  rw [Int.toNat_natCast]
  by_cases hi : i < l.length
  · rw [getD_lt _ hi]; exact h _ (List.getElem_mem _)
  · rw [List.getD_eq_getElem?_getD, List.getElem?_eq_none (by omega)]
    exact Nat.zero_le _
theorem areExported_ev (l : List Ent) (n : Int) (hl : l.length ≤ 9223372036854775807) (hs : ∀ x, x ∈ l → x.f0.size ≤ 1048576) : Ev (fun k => impl_areExported.f k l n) (exportedB l n) := by
  unfold impl_areExported.f exportedB
  refine evVal (search_ev l.length (fun k i => impl_areExported.l0 k l n l (l.length : Int) i) (stepB l) false (decide ((l.length : Int) ≤ n)) ?_ ?_ ?_) ?_
  · intro i hi hp r hr
    unfold stepB at hp
    rw [Bool.and_eq_true] at hp
    refine Ev.step (fun k => rfl) ?_
    simp only [impl_areExported.l0, if_pos (show (i : Int) < (l.length : Int) by omega), if_pos (show (0 : Int) ≤ (i : Int) by omega)]
    refine Ev.bind (isEntry_ev _ (by have := rd_size hs i; omega)) ?_
    simp only [hp.1, if_true, wrap_nat_succ (show i < 9223372036854775807 by omega)]
    by_cases h0 : i = 0
    · subst h0
      simp only [if_neg (show ¬ ((0 : Nat) : Int) > 0 by omega)]
      exact hr
    · have e1 : wrap64 ((i : Int) - 1) = ((i - 1 : Nat) : Int) := by rw [wrap_id (by omega) (by omega)]; omega
      have h2 := hp.2
      simp only [h0, decide_false, Bool.false_or] at h2
      simp only [if_pos (show (i : Int) > 0 by omega), e1, if_pos (show (0 : Int) ≤ ((i - 1 : Nat) : Int) by omega), if_pos (show ((i - 1 : Nat) : Int) < (l.length : Int) by omega), h2, if_true]
      exact hr
  · intro i hi hp
    unfold stepB at hp
    refine Ev.step (fun k => rfl) ?_
    simp only [impl_areExported.l0, if_pos (show (i : Int) < (l.length : Int) by omega), if_pos (show (0 : Int) ≤ (i : Int) by omega)]
    refine Ev.bind (isEntry_ev _ (by have := rd_size hs i; omega)) ?_
    cases he : entryB (rd_T85 l (i : Int)) with
    | false => simp only [Bool.false_eq_true, if_false]; exact Ev.now _
    | true =>
      rw [he, Bool.true_and] at hp
      by_cases h0 : i = 0
      · simp [h0] at hp
      · have e1 : wrap64 ((i : Int) - 1) = ((i - 1 : Nat) : Int) := by rw [wrap_id (by omega) (by omega)]; omega
        simp only [h0, decide_false, Bool.false_or] at hp
        simp only [if_true, if_pos (show (i : Int) > 0 by omega), e1, if_pos (show (0 : Int) ≤ ((i - 1 : Nat) : Int) by omega), if_pos (show ((i - 1 : Nat) : Int) < (l.length : Int) by omega), hp, Bool.false_eq_true, if_false]
        exact Ev.now _
  · refine Ev.step (f := fun _ => some _) (fun k => ?_) (Ev.now _)
    simp only [impl_areExported.l0]
    rw [if_neg (by omega)]
  · cases (List.range l.length).all (stepB l) <;> simp
def ebL (e : Ent) : List Int := [(e.f1 / 256) % 256, e.f1 % 256] ++ padL e.f0
theorem ebL_length (e : Ent) : (ebL e).length = 35 := by unfold ebL; rw [List.length_append, padL_length]; rfl
def ebsL (l : List Ent) : List Int := l.flatMap ebL
theorem ebsL_length (l : List Ent) : (ebsL l).length = 35 * l.length := by
  induction l with
  | nil => rfl
  | cons x xs ih =>
    have h := ebL_length x
    unfold ebsL at ih ⊢
    rw [List.flatMap_cons, List.length_append, ih, h, List.length_cons]
    omega
theorem ebsL_take (l : List Ent) (i : Nat) (h : i < l.length) : ebsL (l.take (i + 1)) = ebsL (l.take i) ++ ebL (rd_T85 l (i : Int)) := by
  unfold ebsL rd_T85
  rw [List.take_succ_eq_append_getElem h, List.flatMap_append, Int.toNat_natCast, getD_lt _ h]
  simp
def exportL (l : List Ent) (n : Int) : List Int := ebsL l ++ List.replicate (35 * n.toNat - 35 * l.length) 0
theorem exportOf_ev (l : List Ent) (n : Int) (hn : n ≤ 64) (hl : (l.length : Int) ≤ n) (hs : ∀ x, x ∈ l → x.f0.size ≤ 1048576) : Ev (fun k => impl_exportOf.f k l n) (exportL l n) := by
  unfold impl_exportOf.f
  have := loop_ev l.length (fun k s i => impl_exportOf.l0 k n s l (l.length : Int) i) (fun i => ebsL (l.take i)) (exportL l n) ?_ ?_
  · simpa [ebsL] using this
  · intro i hi hr
    have hx := ebsL_length (l.take i)
    have hx2 : (l.take i).length = i := by rw [List.length_take]; omega
    rw [ebsL_take l i hi] at hr
    generalize ebsL (l.take i) = X at hr hx
    refine Ev.step (fun k => rfl) ?_
    simp only [impl_exportOf.l0, if_pos (show (i : Int) < (l.length : Int) by omega), if_pos (show (0 : Int) ≤ (i : Int) by omega), Option.bind_some, List.length_append, List.length_cons, List.length_nil, if_pos (show X.length + (0 + 1 + 1) < 140737488355328 by omega), wrap_nat_succ (show i < 9223372036854775807 by omega)]
    refine Ev.bind (implPad_ev _ (by have := rd_size hs i; omega)) ?_
    simp only [padL_length, if_pos (show X.length + (0 + 1 + 1) + 33 < 140737488355328 by omega)]
    unfold ebL at hr
    rw [← List.append_assoc] at hr
    exact hr
  · have hx := ebsL_length l
    refine Ev.step (fun k => rfl) ?_
    simp only [List.take_length, impl_exportOf.l0, if_neg (show ¬ (l.length : Int) < (l.length : Int) by omega), wrap_id (x := n * 35) (by omega) (by omega), wrap_id (x := n * 35 - ((ebsL l).length : Int)) (by omega) (by omega), if_pos (show (0 : Int) ≤ n * 35 - ((ebsL l).length : Int) by omega), if_pos (show (ebsL l).length + (n * 35 - ((ebsL l).length : Int)).toNat < 140737488355328 by omega)]
    refine evVal (Ev.now _) ?_
    unfold exportL
    congr 2
    omega
def exportR (l : List Ent) (n : Int) : List Int := if decide (1 ≤ n ∧ n ≤ 64) && exportedB l n then exportL l n else []
theorem two_eq (a : Int) (h : 0 ≤ a ∧ a ≤ 65535) : spec_l09Two.f a = some [(a / 256) % 256, a % 256] := by
  unfold spec_l09Two.f
  rw [Int.tdiv_eq_ediv_of_nonneg h.1, Int.tmod_eq_emod_of_nonneg h.1, wrap_id (x := a / 256) (by omega) (by omega)]
  congr 3
  simp
theorem specExportOf_ev (l : List Ent) (n : Int) (hl : l.length ≤ 9223372036854775807) (hs : ∀ x, x ∈ l → x.f0.size ≤ 1048576) : Ev (fun k => spec_ExportOf.f k l n) (exportR l n) := by
  unfold spec_ExportOf.f exportR
  have hno : ∀ r, r = ([] : List Int) → Ev (fun k => spec_ExportOf.j0 k l n true) r := by
    intro r hr
    subst hr
    refine Ev.step (fun k => rfl) ?_
    simp only [spec_ExportOf.j0, if_true]
    exact Ev.now _
  by_cases h1 : n < 1
  · simp only [if_pos h1]
    exact hno _ (by rw [if_neg]; simp; omega)
  · simp only [if_neg h1]
    by_cases h2 : n > 64
    · simp only [if_pos h2]
      exact hno _ (by rw [if_neg]; simp; omega)
    · simp only [if_neg h2]
      by_cases h3 : (l.length : Int) > n
      · simp only [h3, decide_true]
        exact hno _ (by rw [if_neg]; simp [exportedB]; omega)
      · have hn : 1 ≤ n ∧ n ≤ 64 := by omega
        have h3' : (l.length : Int) ≤ n := by omega
        simp only [h3, decide_false]
        refine Ev.step (fun k => rfl) ?_
        simp only [spec_ExportOf.j0, Bool.false_eq_true, if_false]
        have hval : (if (decide (1 ≤ n ∧ n ≤ 64) && exportedB l n) = true then exportL l n else []) = (if (List.range l.length).all (stepB l) then exportL l n else []) := by
          unfold exportedB
          simp only [hn, and_self, decide_true, h3', Bool.and_true, Bool.true_and]
        rw [hval]
        have hj2 : ∀ i, i < l.length → entryB (rd_T85 l (i : Int)) = true → ∀ r, Ev (fun k => spec_ExportOf.l0 k l n (ebsL (l.take (i + 1))) ((i + 1 : Nat) : Int)) r → Ev (fun k => spec_ExportOf.j2 k l n (ebsL (l.take i)) (i : Int) false) r := by
          intro i hi he r hr
          unfold entryB at he
          simp only [Bool.and_eq_true, decide_eq_true_eq] at he
          have hx := ebsL_length (l.take i)
          have hx2 : (l.take i).length = i := by rw [List.length_take]; omega
          rw [ebsL_take l i hi] at hr
          generalize ebsL (l.take i) = X at hr hx
          refine Ev.step (fun k => rfl) ?_
          simp only [spec_ExportOf.j2, Bool.false_eq_true, if_false, if_pos (show (i : Int) < (l.length : Int) by omega), if_pos (show (0 : Int) ≤ (i : Int) by omega), two_eq _ he.2, Option.bind_some, List.length_append, List.length_cons, List.length_nil, if_pos (show X.length + (0 + 1 + 1) < 140737488355328 by omega), wrap_nat_succ (show i < 9223372036854775807 by omega)]
          refine Ev.bind (specPad_ev _ (by have := rd_size hs i; omega)) ?_
          simp only [padL_length, if_pos (show X.length + (0 + 1 + 1) + 33 < 140737488355328 by omega)]
          unfold ebL at hr
          rw [← List.append_assoc] at hr
          exact hr
        have hj2f : ∀ X i, Ev (fun k => spec_ExportOf.j2 k l n X i true) ([] : List Int) := by
          intro X i
          refine Ev.step (fun k => rfl) ?_
          simp only [spec_ExportOf.j2, if_true]
          exact Ev.now _
        have := search_ev l.length (fun k i => spec_ExportOf.l0 k l n (ebsL (l.take i.toNat)) i) (stepB l) [] (exportL l n) ?_ ?_ ?_
        · simpa [ebsL] using this
        · intro i hi hp r hr
          unfold stepB at hp
          rw [Bool.and_eq_true] at hp
          simp only [Int.toNat_natCast] at hr ⊢
          refine Ev.step (fun k => rfl) ?_
          simp only [spec_ExportOf.l0, if_pos (show (i : Int) < (l.length : Int) by omega), if_pos (show (0 : Int) ≤ (i : Int) by omega)]
          refine Ev.bind (full_ev _ (by have := rd_size hs i; omega)) ?_
          simp only [hp.1, if_true]
          by_cases h0 : i = 0
          · simp only [if_neg (show ¬ (i : Int) > 0 by omega)]
            exact hj2 i hi hp.1 r hr
          · have e1 : wrap64 ((i : Int) - 1) = ((i - 1 : Nat) : Int) := by rw [wrap_id (by omega) (by omega)]; omega
            have h2 := hp.2
            simp only [h0, decide_false, Bool.false_or] at h2
            simp only [if_pos (show (i : Int) > 0 by omega), e1, if_pos (show (0 : Int) ≤ ((i - 1 : Nat) : Int) by omega), if_pos (show ((i - 1 : Nat) : Int) < (l.length : Int) by omega)]
            refine Ev.bind (wordCmp_ev _ _ (by have := rd_size hs (i - 1); omega) (by have := rd_size hs i; omega)) ?_
            simp only [cmpL_less, h2, Bool.not_true]
            exact hj2 i hi hp.1 r hr
        · intro i hi hp
          unfold stepB at hp
          simp only [Int.toNat_natCast]
          refine Ev.step (fun k => rfl) ?_
          simp only [spec_ExportOf.l0, if_pos (show (i : Int) < (l.length : Int) by omega), if_pos (show (0 : Int) ≤ (i : Int) by omega)]
          refine Ev.bind (full_ev _ (by have := rd_size hs i; omega)) ?_
          cases he : entryB (rd_T85 l (i : Int)) with
          | false => simp only [Bool.false_eq_true, if_false]; exact hj2f _ _
          | true =>
            rw [he, Bool.true_and] at hp
            by_cases h0 : i = 0
            · simp [h0] at hp
            · have e1 : wrap64 ((i : Int) - 1) = ((i - 1 : Nat) : Int) := by rw [wrap_id (by omega) (by omega)]; omega
              simp only [h0, decide_false, Bool.false_or] at hp
              simp only [if_true, if_pos (show (i : Int) > 0 by omega), e1, if_pos (show (0 : Int) ≤ ((i - 1 : Nat) : Int) by omega), if_pos (show ((i - 1 : Nat) : Int) < (l.length : Int) by omega)]
              refine Ev.bind (wordCmp_ev _ _ (by have := rd_size hs (i - 1); omega) (by have := rd_size hs i; omega)) ?_
              simp only [cmpL_less, hp, Bool.not_false]
              exact hj2f _ _
        · have hx := ebsL_length l
          refine Ev.step (fun k => rfl) ?_
          simp only [Int.toNat_natCast, List.take_length, spec_ExportOf.l0, if_neg (show ¬ (l.length : Int) < (l.length : Int) by omega), wrap_id (x := n * 35) (by omega) (by omega), wrap_id (x := n * 35 - ((ebsL l).length : Int)) (by omega) (by omega), if_pos (show (0 : Int) ≤ n * 35 - ((ebsL l).length : Int) by omega), if_pos (show (ebsL l).length + (n * 35 - ((ebsL l).length : Int)).toNat < 140737488355328 by omega)]
          refine evVal (Ev.now _) ?_
          unfold exportL
          congr 2
          omega
end Go.Proofs.Ytpkmhdeimedhgaa.L
namespace Go.Proofs.Ytpkmhdeimedhgaa.L
open Go.RowKit Go.Proofs.Ytpkmhdeimedhgaa.QB Go.Proofs.YtpkmhdeimedhgaaW.PrintWords Go.Proofs.YtpkmhdeimedhgaaW.PrintLast Go.Proofs.YtpkmhdeimedhgaaW.PrintMore
set_option linter.unusedVariables false
set_option linter.unusedSimpArgs false
def wdL (d : List Int) (i : Nat) : List Int := (d.take (35 * i + 35)).drop (35 * i + 2)
def entO (d : List Int) (i : Nat) : Option Ent := if unB (wdL d i) then some ⟨unW (wdL d i), 256 * rd d ((35 * i : Nat) : Int) + rd d ((35 * i + 1 : Nat) : Int)⟩ else none
def takeSome {α : Type} : List (Option α) → List α
  | some a :: t => a :: takeSome t
  | _ => []
def okR (d : List Int) (n : Nat) (out : List Ent) : List Ent × Bool := if exportedB out (n : Int) && decide (exportL out (n : Int) = d) then (out, true) else ([], false)
def optsL (d : List Int) (i m : Nat) : List (Option Ent) := (List.range' i m).map (entO d)
theorem optsL_succ (d : List Int) (i m : Nat) : optsL d i (m + 1) = entO d i :: optsL d (i + 1) m := by
  unfold optsL
  rw [List.range'_succ, List.map_cons]
theorem ebsL_byt (l : List Ent) : Byt (ebsL l) := by
  intro x hx
  unfold ebsL at hx
  obtain ⟨e, _, he⟩ := List.mem_flatMap.1 hx
  unfold ebL at he
  rcases List.mem_append.1 he with h | h
  · simp only [List.mem_cons, List.not_mem_nil, or_false] at h
    omega
  · exact padL_byt _ x h
theorem exportL_byt (l : List Ent) (n : Int) : Byt (exportL l n) := by
  intro x hx
  unfold exportL at hx
  rcases List.mem_append.1 hx with h | h
  · exact ebsL_byt l x h
  · have := List.eq_of_mem_replicate h; omega
theorem byt_cut {d : List Int} (h : Byt d) (a b : Nat) : Byt ((d.take a).drop b) := fun x hx => h x (List.mem_of_mem_take (List.mem_of_mem_drop hx))
theorem wdL_len {d : List Int} {n i : Nat} (hd : d.length = 35 * n) (hi : i < n) : (wdL d i).length = 33 := by
  unfold wdL
  rw [List.length_drop, List.length_take]
  omega
theorem split_at (L : List Ent) (i : Nat) (h : i < L.length) : ebsL L = ebsL (L.take i) ++ ([(L[i].f1 / 256) % 256, L[i].f1 % 256] ++ (padL L[i].f0 ++ ebsL (L.drop (i + 1)))) := by
  have e : L = L.take i ++ L[i] :: L.drop (i + 1) := by rw [← List.drop_eq_getElem_cons h, List.take_append_drop]
  unfold ebsL
  conv => lhs; rw [e]
  rw [List.flatMap_append, List.flatMap_cons]
  unfold ebL
  simp only [List.append_assoc]
theorem entO_full (L : List Ent) (n i : Nat) (h : i < L.length) (he : entryB L[i] = true) : entO (exportL L (n : Int)) i = some L[i] := by
  have hx : (ebsL (L.take i)).length = 35 * i := by rw [ebsL_length, List.length_take, Nat.min_eq_left (by omega)]
  have hw : wordB L[i].f0 = true ∧ (0 ≤ L[i].f1 ∧ L[i].f1 ≤ 65535) := by
    unfold entryB at he
    rw [Bool.and_eq_true, decide_eq_true_eq] at he
    exact he
  have hp := padL_length L[i].f0
  have key : ∀ (X P Y : List Int) (a b : Int), X.length = 35 * i → P.length = 33 → wdL (X ++ ([a, b] ++ (P ++ Y))) i = P ∧ rd (X ++ ([a, b] ++ (P ++ Y))) ((35 * i : Nat) : Int) = a ∧ rd (X ++ ([a, b] ++ (P ++ Y))) ((35 * i + 1 : Nat) : Int) = b := by
    intro X P Y a b hX hP
    refine ⟨?_, ?_, ?_⟩
    · unfold wdL
      rw [List.drop_take, show 35 * i + 35 - (35 * i + 2) = 33 by omega, ← List.append_assoc, List.drop_left' (by simp [hX]), List.take_left' hP]
    · unfold rd
      rw [Int.toNat_natCast, List.getD_eq_getElem?_getD, List.getElem?_append_right (by omega), hX, Nat.sub_self]
      rfl
    · unfold rd
      rw [Int.toNat_natCast, List.getD_eq_getElem?_getD, List.getElem?_append_right (by omega), hX, show 35 * i + 1 - 35 * i = 1 by omega]
      rfl
  have e : exportL L (n : Int) = ebsL (L.take i) ++ ([(L[i].f1 / 256) % 256, L[i].f1 % 256] ++ (padL L[i].f0 ++ (ebsL (L.drop (i + 1)) ++ List.replicate (35 * (n : Int).toNat - 35 * L.length) 0))) := by
    unfold exportL
    rw [split_at L i h]
    simp only [List.append_assoc]
  obtain ⟨k1, k2, k3⟩ := key (ebsL (L.take i)) (padL L[i].f0) (ebsL (L.drop (i + 1)) ++ List.replicate (35 * (n : Int).toNat - 35 * L.length) 0) ((L[i].f1 / 256) % 256) (L[i].f1 % 256) hx hp
  obtain ⟨u1, u2⟩ := unB_pad hw.1
  unfold entO
  rw [e, k1, k2, k3, u1, u2, if_pos rfl]
  congr 1
  have : 256 * (L[i].f1 / 256 % 256) + L[i].f1 % 256 = L[i].f1 := by omega
  rw [this]
theorem entO_none (L : List Ent) (n i : Nat) (h : L.length ≤ i) (hi : i < n) : entO (exportL L (n : Int)) i = none := by
  unfold entO
  have e : wdL (exportL L (n : Int)) i = List.replicate 33 0 := by
    unfold wdL exportL
    have hx := ebsL_length L
    rw [List.drop_take, show 35 * i + 35 - (35 * i + 2) = 33 by omega, List.drop_append, List.drop_of_length_le (by omega), List.nil_append, List.drop_replicate, List.take_replicate, Int.toNat_natCast]
    congr 1
    omega
  rw [e, unB_zero, if_neg (by decide)]
theorem filter_somes {α : Type} (L : List α) (m : Nat) : (L.map some ++ List.replicate m none).filterMap id = L := by
  induction L with
  | nil =>
    induction m with
    | zero => rfl
    | succ m ih => exact ih
  | cons x xs ih => rw [List.map_cons, List.cons_append, List.filterMap_cons]; simp only [id]; rw [ih]
theorem takeSome_somes {α : Type} (L : List α) (m : Nat) : takeSome (L.map some ++ List.replicate m none) = L := by
  induction L with
  | nil => cases m <;> rfl
  | cons x xs ih => rw [List.map_cons, List.cons_append, takeSome, ih]
theorem opts_export (L : List Ent) (n : Nat) (h : exportedB L (n : Int) = true) : optsL (exportL L (n : Int)) 0 n = L.map some ++ List.replicate (n - L.length) none := by
  unfold exportedB at h
  rw [Bool.and_eq_true, decide_eq_true_eq, List.all_eq_true] at h
  apply List.ext_getElem?
  intro i
  unfold optsL
  rw [List.getElem?_map]
  by_cases hi : i < n
  · rw [List.getElem?_range' (by omega)]
    simp only [Option.map_some, Nat.zero_add, Nat.one_mul]
    by_cases hl : i < L.length
    · rw [List.getElem?_append_left (by simpa using hl), List.getElem?_map, List.getElem?_eq_getElem hl]
      have he := h.1 i (List.mem_range.2 hl)
      unfold stepB at he
      rw [Bool.and_eq_true] at he
      have e2 : rd_T85 L (i : Int) = L[i] := by unfold rd_T85; rw [Int.toNat_natCast, getD_lt _ hl]
      rw [e2] at he
      rw [entO_full L n i hl he.1]
      rfl
    · rw [List.getElem?_append_right (by simpa using Nat.le_of_not_lt hl), entO_none L n i (by omega) hi, List.length_map, List.getElem?_replicate, if_pos (by omega)]
  · rw [List.getElem?_eq_none (by simpa using Nat.le_of_not_lt hi), List.getElem?_eq_none (by rw [List.length_append, List.length_map, List.length_replicate]; omega)]
    rfl
theorem ok_of (d : List Int) (n : Nat) (L : List Ent) (h : (exportedB L (n : Int) && decide (exportL L (n : Int) = d)) = true) : takeSome (optsL d 0 n) = L ∧ (optsL d 0 n).filterMap id = L := by
  rw [Bool.and_eq_true, decide_eq_true_eq] at h
  have e := opts_export L n h.1
  rw [h.2] at e
  rw [e]
  exact ⟨takeSome_somes L _, filter_somes L _⟩
theorem okR_same (d : List Int) (n : Nat) : okR d n (takeSome (optsL d 0 n)) = okR d n ((optsL d 0 n).filterMap id) := by
  unfold okR
  by_cases h1 : (exportedB (takeSome (optsL d 0 n)) (n : Int) && decide (exportL (takeSome (optsL d 0 n)) (n : Int) = d)) = true
  · rw [(ok_of d n _ h1).2]
  · by_cases h2 : (exportedB ((optsL d 0 n).filterMap id) (n : Int) && decide (exportL ((optsL d 0 n).filterMap id) (n : Int) = d)) = true
    · rw [(ok_of d n _ h2).1]
    · rw [if_neg h1, if_neg h2]
def readR (d : List Int) : List Ent × Bool := if (1 ≤ d.length / 35 ∧ d.length / 35 ≤ 64) ∧ d.length % 35 = 0 then okR d (d.length / 35) (takeSome (optsL d 0 (d.length / 35))) else ([], false)
theorem okR_ev (d : List Int) (n : Nat) (out : List Ent) (hd : Byt d) (hn : n ≤ 64) (hl : out.length ≤ 64) (hs : ∀ x, x ∈ out → x.f0.size ≤ 1048576) : Ev (fun k => impl_ExportRead.j2 k d (n : Int) out) (okR d n out) := by
  refine Ev.step (fun k => rfl) ?_
  unfold okR
  simp only [impl_ExportRead.j2]
  refine Ev.bind (areExported_ev out (n : Int) (by omega) hs) ?_
  cases h : exportedB out (n : Int) with
  | false => simp only [Bool.false_eq_true, if_false, Bool.false_and]; exact Ev.now _
  | true =>
    have h3 : (out.length : Int) ≤ (n : Int) := by
      unfold exportedB at h
      rw [Bool.and_eq_true, decide_eq_true_eq] at h
      exact h.2
    simp only [if_true, Bool.true_and]
    refine Ev.bind (exportOf_ev out (n : Int) (by omega) h3 hs) ?_
    simp only [bytEq_eq (exportL_byt out (n : Int)) hd, Option.bind_some]
    cases decide (exportL out (n : Int) = d) with
    | true => simp only [if_true]; exact Ev.now _
    | false => simp only [Bool.false_eq_true, if_false]; exact Ev.now _
theorem i64_16 (n : Int) (h0 : 0 ≤ n) (h1 : n < 2 ^ 16) : IntKind.i64.wrap n = n := by
  rw [IntKind.wrap_i64]
  have : (2 : Int) ^ 16 = 65536 := by decide
  omega
theorem join_eq {a b : Int} (ha : 0 ≤ a ∧ a ≤ 255) (hb : 0 ≤ b ∧ b ≤ 255) : Go.bits .or .i64 (wrap64 (wrap64 a * 256)) (wrap64 b) = 256 * a + b := by
  have e1 : wrap64 (wrap64 a * 256) = 256 * a := by unfold wrap64; omega
  have e2 : wrap64 b = b := by unfold wrap64; omega
  have e3 : (2 : Int) ^ 16 = 65536 := by decide
  have e4 : (2 : Int) ^ 8 = 256 := by decide
  rw [e1, e2]
  exact bits_join .i64 16 (by decide) i64_16 8 (256 * a) b (by omega) (by rw [e4]; omega) (by rw [e3]; omega) (by omega) (by rw [e4]; omega) (by rw [e3]; omega)
theorem unW_wdL_size {d : List Int} {n i : Nat} (hd : d.length = 35 * n) (hi : i < n) : (unW (wdL d i)).size ≤ 1048576 := by
  have := unW_size (wdL d i)
  rw [wdL_len hd hi] at this
  omega
theorem implLoop_ev (d : List Int) (n : Nat) (hd : d.length = 35 * n) (hb : Byt d) (hn : n ≤ 64) : ∀ m i out, i + m = n → out.length ≤ i → (∀ x, x ∈ out → x.f0.size ≤ 1048576) →
    Ev (fun k => impl_ExportRead.l0 k d (n : Int) out ((35 * i : Nat) : Int)) (okR d n (out ++ takeSome (optsL d i m))) := by
  intro m
  induction m with
  | zero =>
    intro i out h ho hs
    refine Ev.step (fun k => rfl) ?_
    simp only [impl_ExportRead.l0, if_neg (show ¬ ((35 * i : Nat) : Int) < (d.length : Int) by omega)]
    have := okR_ev d n out hb hn (by omega) hs
    simpa [optsL, takeSome] using this
  | succ m ih =>
    intro i out h ho hs
    have hi : i < n := by omega
    refine Ev.step (fun k => rfl) ?_
    have e2 : wrap64 (((35 * i : Nat) : Int) + 2) = ((35 * i + 2 : Nat) : Int) := by rw [wrap_id (by omega) (by omega)]; omega
    have e1 : wrap64 (((35 * i : Nat) : Int) + 1) = ((35 * i + 1 : Nat) : Int) := by rw [wrap_id (by omega) (by omega)]; omega
    have e35 : wrap64 (((35 * i : Nat) : Int) + 35) = ((35 * i + 35 : Nat) : Int) := by rw [wrap_id (by omega) (by omega)]; omega
    simp only [impl_ExportRead.l0, e2, e1, e35, if_pos (show ((35 * i : Nat) : Int) < (d.length : Int) by omega), if_pos (show (0 : Int) ≤ ((35 * i + 2 : Nat) : Int) by omega), if_pos (show ((35 * i + 2 : Nat) : Int) ≤ ((35 * i + 35 : Nat) : Int) by omega), if_pos (show ((35 * i + 35 : Nat) : Int) ≤ (d.length : Int) by omega), Int.toNat_natCast]
    refine Ev.bind (implUnpad_ev (wdL d i) (byt_cut hb _ _) (by rw [wdL_len hd hi]; omega)) ?_
    rw [optsL_succ]
    unfold entO unR
    cases hu : unB (wdL d i) with
    | false =>
      simp only [Bool.false_eq_true, if_false]
      have := okR_ev d n out hb hn (by omega) hs
      simpa [takeSome] using this
    | true =>
      simp only [if_true, if_pos (show (0 : Int) ≤ ((35 * i : Nat) : Int) by omega), if_pos (show (0 : Int) ≤ ((35 * i + 1 : Nat) : Int) by omega), if_pos (show ((35 * i + 1 : Nat) : Int) < (d.length : Int) by omega), if_pos (show out.length < 5864062014805 by omega), join_eq (rd_byt hb ((35 * i : Nat) : Int)) (rd_byt hb ((35 * i + 1 : Nat) : Int))]
      have hr := ih (i + 1) (out ++ [⟨unW (wdL d i), 256 * rd d ((35 * i : Nat) : Int) + rd d ((35 * i + 1 : Nat) : Int)⟩]) (by omega) (by rw [List.length_append]; simp only [List.length_cons, List.length_nil]; omega) (by
        intro x hx
        rcases List.mem_append.1 hx with hx | hx
        · exact hs x hx
        · rw [List.mem_singleton.1 hx]; exact unW_wdL_size hd hi)
      rw [show 35 * (i + 1) = 35 * i + 35 by omega] at hr
      simpa [takeSome, List.append_assoc] using hr
theorem rd_cut (d : List Int) (a b j : Nat) (h : a + j < b) : rd ((d.take b).drop a) (j : Int) = rd d ((a + j : Nat) : Int) := by
  unfold rd
  rw [Int.toNat_natCast, Int.toNat_natCast, List.getD_eq_getElem?_getD, List.getD_eq_getElem?_getD, List.getElem?_drop, List.getElem?_take, if_pos h]
theorem specLoop_ev (d : List Int) (n : Nat) (hd : d.length = 35 * n) (hb : Byt d) (h1 : 1 ≤ n) (hn : n ≤ 64) : ∀ m i out, i + m = n → out.length ≤ i → (∀ x, x ∈ out → x.f0.size ≤ 1048576) →
    Ev (fun k => spec_ExportRead.l0 k d (n : Int) out (i : Int)) (okR d n (out ++ (optsL d i m).filterMap id)) := by
  intro m
  induction m with
  | zero =>
    intro i out h ho hs
    refine Ev.step (fun k => rfl) ?_
    simp only [spec_ExportRead.l0, if_neg (show ¬ (i : Int) < (n : Int) by omega)]
    refine Ev.bind (specExportOf_ev out (n : Int) (by omega) hs) ?_
    rw [show out ++ (optsL d i 0).filterMap id = out by simp [optsL]]
    have hby : Byt (exportR out (n : Int)) := by
      unfold exportR
      split
      · exact exportL_byt out (n : Int)
      · intro x hx; exact absurd hx (List.not_mem_nil)
    simp only [strL_inj hby hb]
    unfold okR exportR
    rw [show decide (1 ≤ (n : Int) ∧ (n : Int) ≤ 64) = true from decide_eq_true (by omega), Bool.true_and]
    cases he : exportedB out (n : Int) with
    | false =>
      have hne : ¬ (([] : List Int) = d) := by
        intro e
        rw [← e, List.length_nil] at hd
        omega
      simp only [Bool.false_eq_true, if_false, Bool.false_and, if_neg hne]
      exact Ev.now _
    | true =>
      simp only [if_true, Bool.true_and]
      by_cases hx : exportL out (n : Int) = d
      · simp only [hx, if_true, decide_true]; exact Ev.now _
      · simp only [hx, if_false, decide_false, Bool.false_eq_true]; exact Ev.now _
  | succ m ih =>
    intro i out h ho hs
    have hi : i < n := by omega
    refine Ev.step (fun k => rfl) ?_
    have e0 : wrap64 ((i : Int) * 35) = ((35 * i : Nat) : Int) := by rw [wrap_id (by omega) (by omega)]; omega
    have e1 : wrap64 ((i : Int) + 1) = ((i + 1 : Nat) : Int) := wrap_nat_succ (by omega)
    have e35 : wrap64 (((i + 1 : Nat) : Int) * 35) = ((35 * i + 35 : Nat) : Int) := by rw [wrap_id (by omega) (by omega)]; omega
    have ec : cutL d ((35 * i : Nat) : Int) ((35 * i + 35 : Nat) : Int) = (d.take (35 * i + 35)).drop (35 * i) := by unfold cutL; rw [Int.toNat_natCast, Int.toNat_natCast]
    have hc : ((d.take (35 * i + 35)).drop (35 * i)).length = 35 := by rw [List.length_drop, List.length_take]; omega
    have r0 : rd ((d.take (35 * i + 35)).drop (35 * i)) 0 = rd d ((35 * i : Nat) : Int) := rd_cut d (35 * i) (35 * i + 35) 0 (by omega)
    have r1 : rd ((d.take (35 * i + 35)).drop (35 * i)) 1 = rd d ((35 * i + 1 : Nat) : Int) := rd_cut d (35 * i) (35 * i + 35) 1 (by omega)
    have b0 := rd_byt hb ((35 * i : Nat) : Int)
    have b1 := rd_byt hb ((35 * i + 1 : Nat) : Int)
    have ew : wrap64 (wrap64 (256 * wrap64 (rd d ((35 * i : Nat) : Int))) + wrap64 (rd d ((35 * i + 1 : Nat) : Int))) = 256 * rd d ((35 * i : Nat) : Int) + rd d ((35 * i + 1 : Nat) : Int) := by
      generalize rd d ((35 * i : Nat) : Int) = a at b0
      generalize rd d ((35 * i + 1 : Nat) : Int) = b at b1
      unfold wrap64
      omega
    simp only [spec_ExportRead.l0, e0, e1, e35, ec, hc, r0, r1, ew, List.drop_drop, if_pos (show (i : Int) < (n : Int) by omega), if_pos (show (0 : Int) ≤ ((35 * i : Nat) : Int) by omega), if_pos (show ((35 * i : Nat) : Int) ≤ ((35 * i + 35 : Nat) : Int) by omega), if_pos (show ((35 * i + 35 : Nat) : Int) ≤ (d.length : Int) by omega), if_pos (show (2 : Int) ≤ ((35 : Nat) : Int) by omega), if_pos (show (0 : Int) < ((35 : Nat) : Int) by omega), if_pos (show (1 : Int) < ((35 : Nat) : Int) by omega), if_pos (show out.length < 5864062014805 by omega)]
    refine Ev.bind (specUnpad_ev (wdL d i) (byt_cut hb _ _) (by rw [wdL_len hd hi]; omega)) ?_
    rw [optsL_succ]
    unfold entO unR
    cases hu : unB (wdL d i) with
    | false =>
      simp only [Bool.false_eq_true, if_false]
      have := ih (i + 1) out (by omega) (by omega) hs
      simpa using this
    | true =>
      simp only [if_true]
      have hr := ih (i + 1) (out ++ [⟨unW (wdL d i), 256 * rd d ((35 * i : Nat) : Int) + rd d ((35 * i + 1 : Nat) : Int)⟩]) (by omega) (by rw [List.length_append]; simp only [List.length_cons, List.length_nil]; omega) (by
        intro x hx
        rcases List.mem_append.1 hx with hx | hx
        · exact hs x hx
        · rw [List.mem_singleton.1 hx]; exact unW_wdL_size hd hi)
      simpa [List.append_assoc] using hr
theorem implRead_ev (d : List Int) (hb : Byt d) (hl : d.length ≤ 1048576) : Ev (fun k => impl_ExportRead.f k d) (readR d) := by
  unfold impl_ExportRead.f readR
  have e0 : wrap64 ((d.length : Int) / 35) = ((d.length / 35 : Nat) : Int) := by rw [wrap_id (by omega) (by omega)]; omega
  simp only [within_eq, Option.bind_some, e0]
  have hno : ∀ n, Ev (fun k => impl_ExportRead.j0 k d n true) (([], false) : List Ent × Bool) := by
    intro n
    refine Ev.step (fun k => rfl) ?_
    simp only [impl_ExportRead.j0, if_true]
    exact Ev.now _
  by_cases h1 : 1 ≤ d.length / 35 ∧ d.length / 35 ≤ 64
  · simp only [show (1 : Int) ≤ ((d.length / 35 : Nat) : Int) ∧ ((d.length / 35 : Nat) : Int) ≤ 64 from by omega, and_self, decide_true, if_true]
    by_cases h2 : d.length % 35 = 0
    · have e2 : (((d.length : Int) % 35) != 0) = false := by rw [bne_eq_false_iff_eq]; omega
      rw [if_pos ⟨h1, h2⟩]
      simp only [e2]
      refine Ev.step (fun k => rfl) ?_
      simp only [impl_ExportRead.j0, Bool.false_eq_true, if_false]
      have := implLoop_ev d (d.length / 35) (by omega) hb h1.2 (d.length / 35) 0 [] (by omega) (by simp) (fun x hx => absurd hx List.not_mem_nil)
      simpa using this
    · have e2 : (((d.length : Int) % 35) != 0) = true := by rw [bne_iff_ne]; omega
      rw [if_neg (fun h => h2 h.2)]
      simp only [e2]
      exact hno _
  · simp only [show ¬ ((1 : Int) ≤ ((d.length / 35 : Nat) : Int) ∧ ((d.length / 35 : Nat) : Int) ≤ 64) from by omega, decide_false, Bool.false_eq_true, if_false]
    rw [if_neg (fun h => h1 h.1)]
    exact hno _
theorem specRead_ev (d : List Int) (hb : Byt d) (hl : d.length ≤ 1048576) : Ev (fun k => spec_ExportRead.f k d) (readR d) := by
  unfold spec_ExportRead.f readR
  have e0 : wrap64 ((d.length : Int) / 35) = ((d.length / 35 : Nat) : Int) := by rw [wrap_id (by omega) (by omega)]; omega
  simp only [e0]
  have hno : ∀ n, Ev (fun k => spec_ExportRead.j0 k d n true) (([], false) : List Ent × Bool) := by
    intro n
    refine Ev.step (fun k => rfl) ?_
    simp only [spec_ExportRead.j0, if_true]
    exact Ev.now _
  by_cases h1 : d.length / 35 < 1
  · simp only [if_pos (show ((d.length / 35 : Nat) : Int) < 1 by omega)]
    rw [if_neg (fun h => absurd h.1.1 (by omega))]
    exact hno _
  · simp only [if_neg (show ¬ ((d.length / 35 : Nat) : Int) < 1 by omega)]
    by_cases h3 : d.length / 35 > 64
    · simp only [if_pos (show ((d.length / 35 : Nat) : Int) > 64 by omega)]
      rw [if_neg (fun h => absurd h.1.2 (by omega))]
      exact hno _
    · simp only [if_neg (show ¬ ((d.length / 35 : Nat) : Int) > 64 by omega)]
      by_cases h2 : d.length % 35 = 0
      · have e2 : (((d.length : Int) % 35) != 0) = false := by rw [bne_eq_false_iff_eq]; omega
        rw [if_pos ⟨⟨by omega, by omega⟩, h2⟩]
        simp only [e2]
        refine Ev.step (fun k => rfl) ?_
        simp only [spec_ExportRead.j0, Bool.false_eq_true, if_false]
        rw [okR_same]
        have := specLoop_ev d (d.length / 35) (by omega) hb (by omega) (by omega) (d.length / 35) 0 [] (by omega) (by simp) (fun x hx => absurd hx List.not_mem_nil)
        simpa using this
      · have e2 : (((d.length : Int) % 35) != 0) = true := by rw [bne_iff_ne]; omega
        rw [if_neg (fun h => h2 h.2)]
        simp only [e2]
        exact hno _
theorem readR_ok (d : List Int) : ((readR d).1.length ≤ 64) := by
  unfold readR okR
  split
  · rename_i h
    split
    · rename_i h2
      rw [Bool.and_eq_true] at h2
      have h3 := h2.1
      unfold exportedB at h3
      rw [Bool.and_eq_true, decide_eq_true_eq] at h3
      have := h3.2
      simp only
      omega
    · simp
  · simp
end Go.Proofs.Ytpkmhdeimedhgaa.L
