/- Part of the proof of the law FnExportBack: what it uses of the texts that this session and the kit's print wrote. -/
import Derived.Test.YtpkmhdeimedhgaaZFnExportBackx0
import Derived.Test.YtpkmhdeimedhgaaZFnExportBackx1
import Derived.Test.YtpkmhdeimedhgaaZFnExportBackx2
import Derived.Test.YtpkmhdeimedhgaaZFnExportBackx3
import Derived.Test.YtpkmhdeimedhgaaZFnExportBackx4
import Derived.Test.YtpkmhdeimedhgaaZFnExportBackx5
import Derived.Test.YtpkmhdeimedhgaaZFnExportBackx6
import Derived.Test.YtpkmhdeimedhgaaZFnExportBackx7
import Derived.Test.YtpkmhdeimedhgaaZFnExportBackx8
import Derived.Deep.Slices
import Derived.WideShapes
import Derived.ProofKit
import Derived.KernelRfl
import Derived.Laws.BytesArg
import Derived.Laws.Strings
import Derived.Laws.BitsLemmas
namespace Go.Proofs.Ytpkmhdeimedhgaa.QB
open Go.RowKit Go.Proofs.YtpkmhdeimedhgaaW.PrintWords Go.Proofs.YtpkmhdeimedhgaaW.PrintLast Go.Proofs.YtpkmhdeimedhgaaW.PrintMore
attribute [local go_sem] max2_int min2_int max_two min_two max_three min_three max_four min_four   -- for this text's walks alone
set_option linter.unusedVariables false
set_option linter.unusedSimpArgs false
def laws_FnExportBack.j0 : Nat → List (S85) → Int → List Int → List Int → Bool → Option (Bool)
  | 0, _, _, _, _, _ => none
  | k + 1, x3, x4, x5, x6, x31 => if x31 = true then (some ((x6.length : Int) == (x5.length : Int))) else ((laws_bytesOf.f x6).bind fun t501 => ((impl_ExportRead.f k t501).bind fun bt504 => (if bt504.2 = true then (if (x6.length : Int) = (wrap64 (x4 * 35)) then ((laws_sameEntries.f k bt504.1 x3).bind fun t508 => (some t508)) else (some false)) else (some false))))
def laws_FnExportBack.f (k : Nat) (l0 : List Int) : Option (Bool) := (laws_big.f l0).bind fun t490 => (if t490 = true then (some true) else ((spec_DrawExportOf.f k l0).bind fun bt491 => ((spec_ExportOf.f k bt491.1 bt491.2).bind fun t495 => ((impl_ExportOf.f k bt491.1 bt491.2).bind fun t498 => (if (t495.length : Int) = 0 then (laws_FnExportBack.j0 k bt491.1 bt491.2 t495 t498 true) else (laws_FnExportBack.j0 k bt491.1 bt491.2 t495 t498 ((t498.length : Int) != (t495.length : Int))))))))
set_option maxHeartbeats 8000000 in
set_option maxRecDepth 100000 in
theorem laws_FnExportBack.calls (k : Nat) (A0 : Option Addr) (c0 : Nat) (l0 : List Int) (r : Bool) (w : World) (hr0 : Kd.C (Kd.int .u8) w A0 l0.length l0) (hc0 : l0.length ≤ c0) (h : laws_FnExportBack.f k l0 = some r) :
    Calls Try.prog 8 #[.slice A0 l0.length c0] w fun e w' => e = .returned (.bool r) ∧ Below w.heap.size w w' := by
  have HR0 := Aside0.mk hr0
  have HC0 := Aside0.mk hc0
  clear hr0 hc0
  have HB := Aside0.mk (Below.refl w.heap.size w)
  have H : ((laws_big.f l0).bind fun t490 => (if t490 = true then (some true) else ((spec_DrawExportOf.f k l0).bind fun bt491 => ((spec_ExportOf.f k bt491.1 bt491.2).bind fun t495 => ((impl_ExportOf.f k bt491.1 bt491.2).bind fun t498 => (if (t495.length : Int) = 0 then (laws_FnExportBack.j0 k bt491.1 bt491.2 t495 t498 true) else (laws_FnExportBack.j0 k bt491.1 bt491.2 t495 t498 ((t498.length : Int) != (t495.length : Int))))))))) = some r := h
  clear h
  replace H := Option.bind_eq_some_iff.mp H
  obtain ⟨t490, A20, H⟩ := H
  replace H : (if t490 = true then (some true) else ((spec_DrawExportOf.f k l0).bind fun bt491 => ((spec_ExportOf.f k bt491.1 bt491.2).bind fun t495 => ((impl_ExportOf.f k bt491.1 bt491.2).bind fun t498 => (if (t495.length : Int) = 0 then (laws_FnExportBack.j0 k bt491.1 bt491.2 t495 t498 true) else (laws_FnExportBack.j0 k bt491.1 bt491.2 t495 t498 ((t498.length : Int) != (t495.length : Int)))))))) = some r := H
  have A2 := Aside0.mk A20
  clear A20
  by_cases c3 : t490 = true
  · subst c3
    have H1 : (some true) = some r := by rw [if_pos rfl] at H; exact H
    clear H
    have H := H1
    clear H1
    obtain rfl := Option.some.inj H
    go_enter Try.func8, Try.ntmps8
    go_wp2_with (first | ((with_reducible refine gate_callee (f := 41) rfl ?_); refine goesL_ (some 10) rfl rfl Try.func41 (by kernel_rfl) rfl #[.slice A0 l0.length c0] rfl (by (try simp only [List.map_toArray, List.map_cons, List.map_nil]); first | done | rfl | (simp only [List.length_drop, List.length_take]; rfl)) ?_; (with_reducible refine (laws_big.calls _ _ l0 true _ ?side1 ?side2 A2.out).mono ?_); (case side1 => repeat (first | exact HR0.out | (with_reducible refine Kd.C_alloc ?_ _) | (with_reducible refine Kd.C_drewN ?_ _) | (with_reducible refine Kd.C_drew ?_))); (case side2 => exact HC0.out); rintro e w' ⟨rfl, ⟨nd, rfl⟩⟩; refine ⟨_, rfl, ?_⟩))
    go_ret
    exact ⟨by first | rfl | (simp [errW_none, errW_some] <;> rfl) | (simp [*, errW_none, errW_some] <;> rfl), by repeat (first | (with_reducible first | exact HB.out | apply below_alloc | apply pw_below_drewN | apply below_drew1) | exact HB.out)⟩
  · replace c3 := Bool.eq_false_iff.mpr c3
    subst c3
    have H1 : ((spec_DrawExportOf.f k l0).bind fun bt491 => ((spec_ExportOf.f k bt491.1 bt491.2).bind fun t495 => ((impl_ExportOf.f k bt491.1 bt491.2).bind fun t498 => (if (t495.length : Int) = 0 then (laws_FnExportBack.j0 k bt491.1 bt491.2 t495 t498 true) else (laws_FnExportBack.j0 k bt491.1 bt491.2 t495 t498 ((t498.length : Int) != (t495.length : Int))))))) = some r := by rw [if_neg (show ¬ (false = true) by decide)] at H; exact H
    clear H
    have H := H1
    clear H1
    replace H := Option.bind_eq_some_iff.mp H
    obtain ⟨⟨t491, t492⟩, A40, H⟩ := H
    replace H : ((spec_ExportOf.f k t491 t492).bind fun t495 => ((impl_ExportOf.f k t491 t492).bind fun t498 => (if (t495.length : Int) = 0 then (laws_FnExportBack.j0 k t491 t492 t495 t498 true) else (laws_FnExportBack.j0 k t491 t492 t495 t498 ((t498.length : Int) != (t495.length : Int)))))) = some r := H
    have A4 := Aside0.mk A40
    clear A40
    replace H := Option.bind_eq_some_iff.mp H
    obtain ⟨t495, A50, H⟩ := H
    replace H : ((impl_ExportOf.f k t491 t492).bind fun t498 => (if (t495.length : Int) = 0 then (laws_FnExportBack.j0 k t491 t492 t495 t498 true) else (laws_FnExportBack.j0 k t491 t492 t495 t498 ((t498.length : Int) != (t495.length : Int))))) = some r := H
    have A5 := Aside0.mk A50
    clear A50
    replace H := Option.bind_eq_some_iff.mp H
    obtain ⟨t498, A60, H⟩ := H
    replace H : (if (t495.length : Int) = 0 then (laws_FnExportBack.j0 k t491 t492 t495 t498 true) else (laws_FnExportBack.j0 k t491 t492 t495 t498 ((t498.length : Int) != (t495.length : Int)))) = some r := H
    have A6 := Aside0.mk A60
    clear A60
    have HC7 := Aside0.mk H
    clear H
    go_enter Try.func8, Try.ntmps8
    go_upto_region 6 with (first | ((with_reducible refine gate_callee (f := 41) rfl ?_); refine goesL_ (some 10) rfl rfl Try.func41 (by kernel_rfl) rfl #[.slice A0 l0.length c0] rfl (by (try simp only [List.map_toArray, List.map_cons, List.map_nil]); first | done | rfl | (simp only [List.length_drop, List.length_take]; rfl)) ?_; (with_reducible refine (laws_big.calls _ _ l0 false _ ?side1 ?side2 A2.out).mono ?_); (case side1 => repeat (first | exact HR0.out | (with_reducible refine Kd.C_alloc ?_ _) | (with_reducible refine Kd.C_drewN ?_ _) | (with_reducible refine Kd.C_drew ?_))); (case side2 => exact HC0.out); rintro e w' ⟨rfl, ⟨nd, rfl⟩⟩; refine ⟨_, rfl, ?_⟩) | ((with_reducible refine gate_callee (f := 42) rfl ?_); refine goesL_ (some 13) rfl rfl Try.func42 (by kernel_rfl) rfl #[.slice A0 l0.length c0] rfl (by (try simp only [List.map_toArray, List.map_cons, List.map_nil]); first | done | rfl | (simp only [List.length_drop, List.length_take]; rfl)) ?_; (with_reducible refine (spec_DrawExportOf.calls k _ _ l0 t491 t492 _ ?side1 ?side2 A4.out).mono ?_); (case side1 => repeat (first | exact HR0.out | (with_reducible refine Kd.C_alloc ?_ _) | (with_reducible refine Kd.C_drewN ?_ _) | (with_reducible refine Kd.C_drew ?_))); (case side2 => exact HC0.out); rintro e w8 ⟨v493, rfl, ho0, hb⟩; refine ⟨_, rfl, ?_⟩; have n0_ := Aside0.mk (Kd.R_lower ho0 (below_size (by repeat (first | (with_reducible first | exact HB.out | apply below_alloc | apply pw_below_drewN | apply below_drew1) | exact HB.out)))); have n1_ := Aside0.mk (below_step (by repeat (first | (with_reducible first | exact HB.out | apply below_alloc | apply pw_below_drewN | apply below_drew1) | exact HB.out)) hb); clear HB; have HO494 := n0_; have HB := n1_; clear n0_ n1_; (try clear hb); (try clear hb2); (try clear hk); (try clear hi); (try clear ho0); obtain ⟨Ao9, co9, eo9⟩ := Kd.R_slice HO494.out; subst eo9) | ((with_reducible refine gate_callee (f := 25) rfl ?_); refine goesL_ (some 18) rfl rfl Try.func25 (by kernel_rfl) rfl #[.slice Ao9 t491.length co9, .int .i64 t492] rfl (by (try simp only [List.map_toArray, List.map_cons, List.map_nil]); first | done | rfl | (simp only [List.length_drop, List.length_take]; rfl)) ?_; (with_reducible refine (spec_ExportOf.calls k _ _ t491 t492 t495 _ ?side1 ?side2 A5.out).mono ?_); (case side1 => repeat (first | exact (Kd.R_reads' HO494.out).2.2 | (with_reducible refine Kd.C_alloc ?_ _) | (with_reducible refine Kd.C_drewN ?_ _) | (with_reducible refine Kd.C_drew ?_))); (case side2 => exact (Kd.R_reads' HO494.out).2.1); rintro e w10 ⟨v496, rfl, ho0, hb⟩; refine ⟨_, rfl, ?_⟩; have n0_ := Aside0.mk (Kd.R_below (by (with_reducible repeat (first | apply Kd.R_alloc | apply Kd.R_drewN | apply Kd.R_drew)); exact HO494.out) hb); have n1_ := Aside0.mk (Kd.R_lower ho0 (below_size (by repeat (first | (with_reducible first | exact HB.out | apply below_alloc | apply pw_below_drewN | apply below_drew1) | exact HB.out)))); have n2_ := Aside0.mk (below_step (by repeat (first | (with_reducible first | exact HB.out | apply below_alloc | apply pw_below_drewN | apply below_drew1) | exact HB.out)) hb); clear HO494; clear HB; have HO494 := n0_; have HO497 := n1_; have HB := n2_; clear n0_ n1_ n2_; (try clear hb); (try clear hb2); (try clear hk); (try clear hi); (try clear ho0)) | ((with_reducible refine gate_callee (f := 27) rfl ?_); refine goesL_ (some 21) rfl rfl Try.func27 (by kernel_rfl) rfl #[.slice Ao9 t491.length co9, .int .i64 t492] rfl (by (try simp only [List.map_toArray, List.map_cons, List.map_nil]); first | done | rfl | (simp only [List.length_drop, List.length_take]; rfl)) ?_; (with_reducible refine (impl_ExportOf.calls k _ _ t491 t492 t498 _ ?side1 ?side2 A6.out).mono ?_); (case side1 => repeat (first | exact (Kd.R_reads' HO494.out).2.2 | (with_reducible refine Kd.C_alloc ?_ _) | (with_reducible refine Kd.C_drewN ?_ _) | (with_reducible refine Kd.C_drew ?_))); (case side2 => exact (Kd.R_reads' HO494.out).2.1); rintro e w11 ⟨v499, rfl, ho0, hb⟩; refine ⟨_, rfl, ?_⟩; have n0_ := Aside0.mk (Kd.R_below (by (with_reducible repeat (first | apply Kd.R_alloc | apply Kd.R_drewN | apply Kd.R_drew)); exact HO494.out) hb); have n1_ := Aside0.mk (Kd.R_elder' (by (with_reducible repeat (first | apply Kd.R_alloc | apply Kd.R_drewN | apply Kd.R_drew)); exact HO497.out) (Kd.R_base ho0) hb); have n2_ := Aside0.mk (Kd.R_lower (Kd.R_new' ho0 (Kd.R_lt (by (with_reducible repeat (first | apply Kd.R_alloc | apply Kd.R_drewN | apply Kd.R_drew)); exact HO497.out))) (below_size (by repeat (first | (with_reducible first | exact HB.out | apply below_alloc | apply pw_below_drewN | apply below_drew1) | exact HB.out)))); have n3_ := Aside0.mk (below_step (by repeat (first | (with_reducible first | exact HB.out | apply below_alloc | apply pw_below_drewN | apply below_drew1) | exact HB.out)) hb); clear HO494; clear HO497; clear HB; have HO494 := n0_; have HO497 := n1_; have HO500 := n2_; have HB := n3_; clear n0_ n1_ n2_ n3_; (try clear hb); (try clear hb2); (try clear hk); (try clear hi); (try clear ho0)))
    (try simp only [Act.put, List.setIfInBounds_toArray, List.set_cons_zero, List.set_cons_succ])
    go_cut [31] (fun v31 wc => ∃ (kq : Nat) (x31_6 : Bool), v31 = .bool x31_6 ∧ Aside0 (laws_FnExportBack.j0 kq t491 t492 t495 t498 x31_6 = some r) ∧ Aside0 (kq ≤ k) ∧ Aside0 (Kd.R k85 85 wc w.heap.size (fun _ => True) (.slice Ao9 t491.length co9) t491) ∧ Aside0 (Kd.R (Kd.int .u8) 5 wc w.heap.size (fun k_ => some k_ ≠ (v499 : Value).ownBlock) v496 t495) ∧ Aside0 (Kd.R (Kd.int .u8) 5 wc w.heap.size (fun k_ => some k_ ≠ (v496 : Value).ownBlock) v499 t498) ∧ Aside0 (Below w.heap.size w wc))
    case first =>
      have H := HC7.out
      clear HC7
      by_cases c12 : (t495.length : Int) = 0
      · rw [if_pos c12] at H
        have c12b0 : ((t495.length : Int) == 0) = true := beq_iff_eq.mpr c12
        have c12b1 : ((t495.length : Int) != 0) = false := bne_eq_false_iff_eq.mpr c12
        clear c12
        (first | rw [c12b0] | (simp only [i64_w, i32_w]; rw [c12b0]) | skip)
        have H' := Aside0.mk H
        clear H
        obtain ⟨Ao13, co13, eo13⟩ := Kd.R_slice HO497.out
        subst eo13
        go_wp2
        go_meet
        case rel => exact ⟨_, (true), (by first | rfl | (simp; done) | (simp [*]; done)), H', ⟨by first | omega | exact Nat.le_refl _⟩, ⟨by (with_reducible repeat (first | apply Kd.R_alloc | apply Kd.R_drewN | apply Kd.R_drew)); exact HO494.out⟩, ⟨by (with_reducible repeat (first | apply Kd.R_alloc | apply Kd.R_drewN | apply Kd.R_drew)); exact Kd.R_mono HO497.out (fun _ hk => hk.2)⟩, ⟨by (with_reducible repeat (first | apply Kd.R_alloc | apply Kd.R_drewN | apply Kd.R_drew)); exact Kd.R_mono HO500.out (fun _ hk => hk.2)⟩, ⟨by repeat (first | (with_reducible first | exact HB.out | apply below_alloc | apply pw_below_drewN | apply below_drew1) | exact HB.out)⟩⟩
      · rw [if_neg c12] at H
        have c12b0 : ((t495.length : Int) == 0) = false := beq_eq_false_iff_ne.mpr c12
        have c12b1 : ((t495.length : Int) != 0) = true := bne_iff_ne.mpr c12
        have c12b2 : ¬ (t495 = []) := fun h_ => c12 (by rw [h_]; rfl)
        (first | rw [c12b0] | (simp only [i64_w, i32_w]; rw [c12b0]) | skip)
        have H' := Aside0.mk H
        clear H
        obtain ⟨Ao14, co14, eo14⟩ := Kd.R_slice HO497.out
        subst eo14
        obtain ⟨Ao15, co15, eo15⟩ := Kd.R_slice HO500.out
        subst eo15
        go_wp2
        go_meet
        case rel => exact ⟨_, (((t498.length : Int) != (t495.length : Int))), (by first | rfl | (simp; done) | (simp [*]; done)), H', ⟨by first | omega | exact Nat.le_refl _⟩, ⟨by (with_reducible repeat (first | apply Kd.R_alloc | apply Kd.R_drewN | apply Kd.R_drew)); exact HO494.out⟩, ⟨by (with_reducible repeat (first | apply Kd.R_alloc | apply Kd.R_drewN | apply Kd.R_drew)); exact Kd.R_mono HO497.out (fun _ hk => hk.2)⟩, ⟨by (with_reducible repeat (first | apply Kd.R_alloc | apply Kd.R_drewN | apply Kd.R_drew)); exact Kd.R_mono HO500.out (fun _ hk => hk.2)⟩, ⟨by repeat (first | (with_reducible first | exact HB.out | apply below_alloc | apply pw_below_drewN | apply below_drew1) | exact HB.out)⟩⟩
    case rest =>
      clear HC7
      try clear c1
      try clear c2
      try clear p2
      try clear c3
      try clear c4
      try clear c8
      try clear c12
      try clear c12b0
      try clear c12b1
      try clear c12b2
      obtain ⟨kq, x31_6, rfl, HA, HJ6, HO_3, HO_5, HO_6, HB⟩ := hcut
      cases kq with
      | zero => exact absurd HA.out (by simp [laws_FnExportBack.j0])
      | succ kj6 =>
        have H := HA.out
        clear HA
        simp only [laws_FnExportBack.j0] at H
        by_cases c16 : x31_6 = true
        · subst c16
          have H1 : (some ((t498.length : Int) == (t495.length : Int))) = some r := by rw [if_pos rfl] at H; exact H
          clear H
          have H := H1
          clear H1
          obtain rfl := Option.some.inj H
          obtain ⟨Ao17, co17, eo17⟩ := Kd.R_slice HO_6.out
          subst eo17
          obtain ⟨Ao18, co18, eo18⟩ := Kd.R_slice HO_5.out
          subst eo18
          go_wp2
          go_ret
          exact ⟨by first | rfl | (simp [errW_none, errW_some] <;> rfl) | (simp [*, errW_none, errW_some] <;> rfl), by repeat (first | (with_reducible first | exact HB.out | apply below_alloc | apply pw_below_drewN | apply below_drew1) | exact HB.out)⟩
        · replace c16 := Bool.eq_false_iff.mpr c16
          subst c16
          have H1 : ((laws_bytesOf.f t498).bind fun t501 => ((impl_ExportRead.f kj6 t501).bind fun bt504 => (if bt504.2 = true then (if (t498.length : Int) = (wrap64 (t492 * 35)) then ((laws_sameEntries.f kj6 bt504.1 t491).bind fun t508 => (some t508)) else (some false)) else (some false)))) = some r := by rw [if_neg (show ¬ (false = true) by decide)] at H; exact H
          clear H
          have H := H1
          clear H1
          replace H := Option.bind_eq_some_iff.mp H
          obtain ⟨t501, A190, H⟩ := H
          replace H : ((impl_ExportRead.f kj6 t501).bind fun bt504 => (if bt504.2 = true then (if (t498.length : Int) = (wrap64 (t492 * 35)) then ((laws_sameEntries.f kj6 bt504.1 t491).bind fun t508 => (some t508)) else (some false)) else (some false))) = some r := H
          have A19 := Aside0.mk A190
          clear A190
          replace H := Option.bind_eq_some_iff.mp H
          obtain ⟨⟨t504, t505⟩, A200, H⟩ := H
          replace H : (if t505 = true then (if (t498.length : Int) = (wrap64 (t492 * 35)) then ((laws_sameEntries.f kj6 t504 t491).bind fun t508 => (some t508)) else (some false)) else (some false)) = some r := H
          have A20 := Aside0.mk A200
          clear A200
          by_cases c21 : t505 = true
          · subst c21
            have H1 : (if (t498.length : Int) = (wrap64 (t492 * 35)) then ((laws_sameEntries.f kj6 t504 t491).bind fun t508 => (some t508)) else (some false)) = some r := by rw [if_pos rfl] at H; exact H
            clear H
            have H := H1
            clear H1
            by_cases c22 : (t498.length : Int) = (wrap64 (t492 * 35))
            · rw [if_pos c22] at H
              have c22b0 : ((t498.length : Int) == (wrap64 (t492 * 35))) = true := beq_iff_eq.mpr c22
              have c22b1 : ((t498.length : Int) != (wrap64 (t492 * 35))) = false := bne_eq_false_iff_eq.mpr c22
              clear c22
              replace H := Option.bind_eq_some_iff.mp H
              obtain ⟨t508, A230, H⟩ := H
              replace H : (some t508) = some r := H
              have A23 := Aside0.mk A230
              clear A230
              obtain rfl := Option.some.inj H
              obtain ⟨Ao24, co24, eo24⟩ := Kd.R_slice HO_6.out
              subst eo24
              go_wp2_with (first | ((with_reducible refine gate_callee (f := 43) rfl ?_); refine goesL_ (some 39) rfl rfl Try.func43 (by kernel_rfl) rfl #[.slice Ao24 t498.length co24] rfl (by (try simp only [List.map_toArray, List.map_cons, List.map_nil]); first | done | rfl | (simp only [List.length_drop, List.length_take]; rfl)) ?_; (with_reducible refine (laws_bytesOf.calls _ _ t498 t501 _ ?side1 ?side2 A19.out).mono ?_); (case side1 => repeat (first | exact (Kd.R_reads' HO_6.out).2.2 | (with_reducible refine Kd.C_alloc ?_ _) | (with_reducible refine Kd.C_drewN ?_ _) | (with_reducible refine Kd.C_drew ?_))); (case side2 => exact (Kd.R_reads' HO_6.out).2.1); rintro e w25 ⟨v502, rfl, ho0, hb⟩; refine ⟨_, rfl, ?_⟩; have n0_ := Aside0.mk (Kd.R_below (by (with_reducible repeat (first | apply Kd.R_alloc | apply Kd.R_drewN | apply Kd.R_drew)); exact HO_3.out) hb); have n1_ := Aside0.mk (Kd.R_elder' (by (with_reducible repeat (first | apply Kd.R_alloc | apply Kd.R_drewN | apply Kd.R_drew)); exact HO_5.out) (Kd.R_base ho0) hb); have n2_ := Aside0.mk (Kd.R_elder' (by (with_reducible repeat (first | apply Kd.R_alloc | apply Kd.R_drewN | apply Kd.R_drew)); exact HO_6.out) (Kd.R_base ho0) hb); have n3_ := Aside0.mk (Kd.R_lower (Kd.R_new' (Kd.R_new' ho0 (Kd.R_lt (by (with_reducible repeat (first | apply Kd.R_alloc | apply Kd.R_drewN | apply Kd.R_drew)); exact HO_5.out))) (Kd.R_lt (by (with_reducible repeat (first | apply Kd.R_alloc | apply Kd.R_drewN | apply Kd.R_drew)); exact HO_6.out))) (below_size (by repeat (first | (with_reducible first | exact HB.out | apply below_alloc | apply pw_below_drewN | apply below_drew1) | exact HB.out)))); have n4_ := Aside0.mk (below_step (by repeat (first | (with_reducible first | exact HB.out | apply below_alloc | apply pw_below_drewN | apply below_drew1) | exact HB.out)) hb); clear HO_3; clear HO_5; clear HO_6; clear HB; have HO_3 := n0_; have HO_5 := n1_; have HO_6 := n2_; have HO503 := n3_; have HB := n4_; clear n0_ n1_ n2_ n3_ n4_; (try clear hb); (try clear hb2); (try clear hk); (try clear hi); (try clear ho0); obtain ⟨Ao26, co26, eo26⟩ := Kd.R_slice HO503.out; subst eo26) | ((with_reducible refine gate_callee (f := 39) rfl ?_); refine goesL_ (some 40) rfl rfl Try.func39 (by kernel_rfl) rfl #[.slice Ao26 t501.length co26] rfl (by (try simp only [List.map_toArray, List.map_cons, List.map_nil]); first | done | rfl | (simp only [List.length_drop, List.length_take]; rfl)) ?_; (with_reducible refine (impl_ExportRead.calls kj6 _ _ t501 t504 true _ ?side1 ?side2 A20.out).mono ?_); (case side1 => repeat (first | exact (Kd.R_reads' HO503.out).2.2 | (with_reducible refine Kd.C_alloc ?_ _) | (with_reducible refine Kd.C_drewN ?_ _) | (with_reducible refine Kd.C_drew ?_))); (case side2 => exact (Kd.R_reads' HO503.out).2.1); rintro e w27 ⟨v506, rfl, ho0, hb⟩; refine ⟨_, rfl, ?_⟩; have n0_ := Aside0.mk (Kd.R_elder' (by (with_reducible repeat (first | apply Kd.R_alloc | apply Kd.R_drewN | apply Kd.R_drew)); exact HO_3.out) (Kd.R_base ho0) hb); have n1_ := Aside0.mk (Kd.R_below (by (with_reducible repeat (first | apply Kd.R_alloc | apply Kd.R_drewN | apply Kd.R_drew)); exact HO_5.out) hb); have n2_ := Aside0.mk (Kd.R_below (by (with_reducible repeat (first | apply Kd.R_alloc | apply Kd.R_drewN | apply Kd.R_drew)); exact HO_6.out) hb); have n3_ := Aside0.mk (Kd.R_below (by (with_reducible repeat (first | apply Kd.R_alloc | apply Kd.R_drewN | apply Kd.R_drew)); exact HO503.out) hb); have n4_ := Aside0.mk (Kd.R_lower (Kd.R_new' ho0 (Kd.R_lt (by (with_reducible repeat (first | apply Kd.R_alloc | apply Kd.R_drewN | apply Kd.R_drew)); exact HO_3.out))) (below_size (by repeat (first | (with_reducible first | exact HB.out | apply below_alloc | apply pw_below_drewN | apply below_drew1) | exact HB.out)))); have n5_ := Aside0.mk (below_step (by repeat (first | (with_reducible first | exact HB.out | apply below_alloc | apply pw_below_drewN | apply below_drew1) | exact HB.out)) hb); clear HO_3; clear HO_5; clear HO_6; clear HO503; clear HB; have HO_3 := n0_; have HO_5 := n1_; have HO_6 := n2_; have HO503 := n3_; have HO507 := n4_; have HB := n5_; clear n0_ n1_ n2_ n3_ n4_ n5_; (try clear hb); (try clear hb2); (try clear hk); (try clear hi); (try clear ho0); obtain ⟨Ao28, co28, eo28⟩ := Kd.R_slice HO507.out; subst eo28) | (go_at_call 44; (with_reducible refine (laws_sameEntries.calls kj6 _ _ t504 _ _ t491 t508 _ ?side1 ?side2 ?side3 ?side4 A23.out).mono ?_); (case side1 => repeat (first | exact (Kd.R_reads' HO507.out).2.2 | (with_reducible refine Kd.C_alloc ?_ _) | (with_reducible refine Kd.C_drewN ?_ _) | (with_reducible refine Kd.C_drew ?_))); (case side2 => exact (Kd.R_reads' HO507.out).2.1); (case side3 => repeat (first | exact (Kd.R_reads' HO_3.out).2.2 | (with_reducible refine Kd.C_alloc ?_ _) | (with_reducible refine Kd.C_drewN ?_ _) | (with_reducible refine Kd.C_drew ?_))); (case side4 => exact (Kd.R_reads' HO_3.out).2.1); rintro e w' ⟨rfl, ⟨nd, rfl⟩⟩))
              go_ret
              exact ⟨by first | rfl | (simp [errW_none, errW_some] <;> rfl) | (simp [*, errW_none, errW_some] <;> rfl), by repeat (first | (with_reducible first | exact HB.out | apply below_alloc | apply pw_below_drewN | apply below_drew1) | exact HB.out)⟩
            · rw [if_neg c22] at H
              have c22b0 : ((t498.length : Int) == (wrap64 (t492 * 35))) = false := beq_eq_false_iff_ne.mpr c22
              have c22b1 : ((t498.length : Int) != (wrap64 (t492 * 35))) = true := bne_iff_ne.mpr c22
              obtain rfl := Option.some.inj H
              obtain ⟨Ao29, co29, eo29⟩ := Kd.R_slice HO_6.out
              subst eo29
              go_wp2_with (first | ((with_reducible refine gate_callee (f := 43) rfl ?_); refine goesL_ (some 39) rfl rfl Try.func43 (by kernel_rfl) rfl #[.slice Ao29 t498.length co29] rfl (by (try simp only [List.map_toArray, List.map_cons, List.map_nil]); first | done | rfl | (simp only [List.length_drop, List.length_take]; rfl)) ?_; (with_reducible refine (laws_bytesOf.calls _ _ t498 t501 _ ?side1 ?side2 A19.out).mono ?_); (case side1 => repeat (first | exact (Kd.R_reads' HO_6.out).2.2 | (with_reducible refine Kd.C_alloc ?_ _) | (with_reducible refine Kd.C_drewN ?_ _) | (with_reducible refine Kd.C_drew ?_))); (case side2 => exact (Kd.R_reads' HO_6.out).2.1); rintro e w30 ⟨v502, rfl, ho0, hb⟩; refine ⟨_, rfl, ?_⟩; have n0_ := Aside0.mk (Kd.R_below (by (with_reducible repeat (first | apply Kd.R_alloc | apply Kd.R_drewN | apply Kd.R_drew)); exact HO_3.out) hb); have n1_ := Aside0.mk (Kd.R_elder' (by (with_reducible repeat (first | apply Kd.R_alloc | apply Kd.R_drewN | apply Kd.R_drew)); exact HO_5.out) (Kd.R_base ho0) hb); have n2_ := Aside0.mk (Kd.R_elder' (by (with_reducible repeat (first | apply Kd.R_alloc | apply Kd.R_drewN | apply Kd.R_drew)); exact HO_6.out) (Kd.R_base ho0) hb); have n3_ := Aside0.mk (Kd.R_lower (Kd.R_new' (Kd.R_new' ho0 (Kd.R_lt (by (with_reducible repeat (first | apply Kd.R_alloc | apply Kd.R_drewN | apply Kd.R_drew)); exact HO_5.out))) (Kd.R_lt (by (with_reducible repeat (first | apply Kd.R_alloc | apply Kd.R_drewN | apply Kd.R_drew)); exact HO_6.out))) (below_size (by repeat (first | (with_reducible first | exact HB.out | apply below_alloc | apply pw_below_drewN | apply below_drew1) | exact HB.out)))); have n4_ := Aside0.mk (below_step (by repeat (first | (with_reducible first | exact HB.out | apply below_alloc | apply pw_below_drewN | apply below_drew1) | exact HB.out)) hb); clear HO_3; clear HO_5; clear HO_6; clear HB; have HO_3 := n0_; have HO_5 := n1_; have HO_6 := n2_; have HO503 := n3_; have HB := n4_; clear n0_ n1_ n2_ n3_ n4_; (try clear hb); (try clear hb2); (try clear hk); (try clear hi); (try clear ho0); obtain ⟨Ao31, co31, eo31⟩ := Kd.R_slice HO503.out; subst eo31) | ((with_reducible refine gate_callee (f := 39) rfl ?_); refine goesL_ (some 40) rfl rfl Try.func39 (by kernel_rfl) rfl #[.slice Ao31 t501.length co31] rfl (by (try simp only [List.map_toArray, List.map_cons, List.map_nil]); first | done | rfl | (simp only [List.length_drop, List.length_take]; rfl)) ?_; (with_reducible refine (impl_ExportRead.calls kj6 _ _ t501 t504 true _ ?side1 ?side2 A20.out).mono ?_); (case side1 => repeat (first | exact (Kd.R_reads' HO503.out).2.2 | (with_reducible refine Kd.C_alloc ?_ _) | (with_reducible refine Kd.C_drewN ?_ _) | (with_reducible refine Kd.C_drew ?_))); (case side2 => exact (Kd.R_reads' HO503.out).2.1); rintro e w32 ⟨v506, rfl, ho0, hb⟩; refine ⟨_, rfl, ?_⟩; have n0_ := Aside0.mk (Kd.R_elder' (by (with_reducible repeat (first | apply Kd.R_alloc | apply Kd.R_drewN | apply Kd.R_drew)); exact HO_3.out) (Kd.R_base ho0) hb); have n1_ := Aside0.mk (Kd.R_below (by (with_reducible repeat (first | apply Kd.R_alloc | apply Kd.R_drewN | apply Kd.R_drew)); exact HO_5.out) hb); have n2_ := Aside0.mk (Kd.R_below (by (with_reducible repeat (first | apply Kd.R_alloc | apply Kd.R_drewN | apply Kd.R_drew)); exact HO_6.out) hb); have n3_ := Aside0.mk (Kd.R_below (by (with_reducible repeat (first | apply Kd.R_alloc | apply Kd.R_drewN | apply Kd.R_drew)); exact HO503.out) hb); have n4_ := Aside0.mk (Kd.R_lower (Kd.R_new' ho0 (Kd.R_lt (by (with_reducible repeat (first | apply Kd.R_alloc | apply Kd.R_drewN | apply Kd.R_drew)); exact HO_3.out))) (below_size (by repeat (first | (with_reducible first | exact HB.out | apply below_alloc | apply pw_below_drewN | apply below_drew1) | exact HB.out)))); have n5_ := Aside0.mk (below_step (by repeat (first | (with_reducible first | exact HB.out | apply below_alloc | apply pw_below_drewN | apply below_drew1) | exact HB.out)) hb); clear HO_3; clear HO_5; clear HO_6; clear HO503; clear HB; have HO_3 := n0_; have HO_5 := n1_; have HO_6 := n2_; have HO503 := n3_; have HO507 := n4_; have HB := n5_; clear n0_ n1_ n2_ n3_ n4_ n5_; (try clear hb); (try clear hb2); (try clear hk); (try clear hi); (try clear ho0)))
              go_ret
              exact ⟨by first | rfl | (simp [errW_none, errW_some] <;> rfl) | (simp [*, errW_none, errW_some] <;> rfl), by repeat (first | (with_reducible first | exact HB.out | apply below_alloc | apply pw_below_drewN | apply below_drew1) | exact HB.out)⟩
          · replace c21 := Bool.eq_false_iff.mpr c21
            subst c21
            have H1 : (some false) = some r := by rw [if_neg (show ¬ (false = true) by decide)] at H; exact H
            clear H
            have H := H1
            clear H1
            obtain rfl := Option.some.inj H
            obtain ⟨Ao33, co33, eo33⟩ := Kd.R_slice HO_6.out
            subst eo33
            go_wp2_with (first | ((with_reducible refine gate_callee (f := 43) rfl ?_); refine goesL_ (some 39) rfl rfl Try.func43 (by kernel_rfl) rfl #[.slice Ao33 t498.length co33] rfl (by (try simp only [List.map_toArray, List.map_cons, List.map_nil]); first | done | rfl | (simp only [List.length_drop, List.length_take]; rfl)) ?_; (with_reducible refine (laws_bytesOf.calls _ _ t498 t501 _ ?side1 ?side2 A19.out).mono ?_); (case side1 => repeat (first | exact (Kd.R_reads' HO_6.out).2.2 | (with_reducible refine Kd.C_alloc ?_ _) | (with_reducible refine Kd.C_drewN ?_ _) | (with_reducible refine Kd.C_drew ?_))); (case side2 => exact (Kd.R_reads' HO_6.out).2.1); rintro e w34 ⟨v502, rfl, ho0, hb⟩; refine ⟨_, rfl, ?_⟩; have n0_ := Aside0.mk (Kd.R_below (by (with_reducible repeat (first | apply Kd.R_alloc | apply Kd.R_drewN | apply Kd.R_drew)); exact HO_3.out) hb); have n1_ := Aside0.mk (Kd.R_elder' (by (with_reducible repeat (first | apply Kd.R_alloc | apply Kd.R_drewN | apply Kd.R_drew)); exact HO_5.out) (Kd.R_base ho0) hb); have n2_ := Aside0.mk (Kd.R_elder' (by (with_reducible repeat (first | apply Kd.R_alloc | apply Kd.R_drewN | apply Kd.R_drew)); exact HO_6.out) (Kd.R_base ho0) hb); have n3_ := Aside0.mk (Kd.R_lower (Kd.R_new' (Kd.R_new' ho0 (Kd.R_lt (by (with_reducible repeat (first | apply Kd.R_alloc | apply Kd.R_drewN | apply Kd.R_drew)); exact HO_5.out))) (Kd.R_lt (by (with_reducible repeat (first | apply Kd.R_alloc | apply Kd.R_drewN | apply Kd.R_drew)); exact HO_6.out))) (below_size (by repeat (first | (with_reducible first | exact HB.out | apply below_alloc | apply pw_below_drewN | apply below_drew1) | exact HB.out)))); have n4_ := Aside0.mk (below_step (by repeat (first | (with_reducible first | exact HB.out | apply below_alloc | apply pw_below_drewN | apply below_drew1) | exact HB.out)) hb); clear HO_3; clear HO_5; clear HO_6; clear HB; have HO_3 := n0_; have HO_5 := n1_; have HO_6 := n2_; have HO503 := n3_; have HB := n4_; clear n0_ n1_ n2_ n3_ n4_; (try clear hb); (try clear hb2); (try clear hk); (try clear hi); (try clear ho0); obtain ⟨Ao35, co35, eo35⟩ := Kd.R_slice HO503.out; subst eo35) | ((with_reducible refine gate_callee (f := 39) rfl ?_); refine goesL_ (some 40) rfl rfl Try.func39 (by kernel_rfl) rfl #[.slice Ao35 t501.length co35] rfl (by (try simp only [List.map_toArray, List.map_cons, List.map_nil]); first | done | rfl | (simp only [List.length_drop, List.length_take]; rfl)) ?_; (with_reducible refine (impl_ExportRead.calls kj6 _ _ t501 t504 false _ ?side1 ?side2 A20.out).mono ?_); (case side1 => repeat (first | exact (Kd.R_reads' HO503.out).2.2 | (with_reducible refine Kd.C_alloc ?_ _) | (with_reducible refine Kd.C_drewN ?_ _) | (with_reducible refine Kd.C_drew ?_))); (case side2 => exact (Kd.R_reads' HO503.out).2.1); rintro e w36 ⟨v506, rfl, ho0, hb⟩; refine ⟨_, rfl, ?_⟩; have n0_ := Aside0.mk (Kd.R_elder' (by (with_reducible repeat (first | apply Kd.R_alloc | apply Kd.R_drewN | apply Kd.R_drew)); exact HO_3.out) (Kd.R_base ho0) hb); have n1_ := Aside0.mk (Kd.R_below (by (with_reducible repeat (first | apply Kd.R_alloc | apply Kd.R_drewN | apply Kd.R_drew)); exact HO_5.out) hb); have n2_ := Aside0.mk (Kd.R_below (by (with_reducible repeat (first | apply Kd.R_alloc | apply Kd.R_drewN | apply Kd.R_drew)); exact HO_6.out) hb); have n3_ := Aside0.mk (Kd.R_below (by (with_reducible repeat (first | apply Kd.R_alloc | apply Kd.R_drewN | apply Kd.R_drew)); exact HO503.out) hb); have n4_ := Aside0.mk (Kd.R_lower (Kd.R_new' ho0 (Kd.R_lt (by (with_reducible repeat (first | apply Kd.R_alloc | apply Kd.R_drewN | apply Kd.R_drew)); exact HO_3.out))) (below_size (by repeat (first | (with_reducible first | exact HB.out | apply below_alloc | apply pw_below_drewN | apply below_drew1) | exact HB.out)))); have n5_ := Aside0.mk (below_step (by repeat (first | (with_reducible first | exact HB.out | apply below_alloc | apply pw_below_drewN | apply below_drew1) | exact HB.out)) hb); clear HO_3; clear HO_5; clear HO_6; clear HO503; clear HB; have HO_3 := n0_; have HO_5 := n1_; have HO_6 := n2_; have HO503 := n3_; have HO507 := n4_; have HB := n5_; clear n0_ n1_ n2_ n3_ n4_ n5_; (try clear hb); (try clear hb2); (try clear hk); (try clear hi); (try clear ho0)))
            go_ret
            exact ⟨by first | rfl | (simp [errW_none, errW_some] <;> rfl) | (simp [*, errW_none, errW_some] <;> rfl), by repeat (first | (with_reducible first | exact HB.out | apply below_alloc | apply pw_below_drewN | apply below_drew1) | exact HB.out)⟩
end Go.Proofs.Ytpkmhdeimedhgaa.QB
namespace Go.Proofs.Ytpkmhdeimedhgaa.Open
open Go.RowKit Go.Proofs.YtpkmhdeimedhgaaW.PrintWords
open Go.ChangeShapes Go.WideShapes
set_option linter.unusedVariables false
def InK (k : IntKind) (n : Int) : Prop := (Lit.int k n).wf = true
def InL {α : Type} (W : α → Prop) (xs : List α) : Prop := xs.length ≤ 9223372036854775807 ∧ ∀ x, x ∈ xs → W x
structure Opens {α : Type} (P : Program) (t : TypeId) (d : Kd α) (W : α → Prop) : Prop where
  cells : P.cellsOf t = d.sz
  reads : ∀ {H : Type} (enc : TypeId × Value → H) (w : World) (base fuel : Nat) (held : Bool) (cs : List Value) (x : DataW H × List MemPlace),
    DataW.trod enc P w base (fun _ => true) held fuel t cs = some x → ∃ y, d.K w y cs ∧ W y
theorem opens_int {P : Program} {t : TypeId} {k : IntKind} (ht : P.underlying t = some (.int k)) (hc : P.cellsOf t = 1) : Opens P t (Kd.int k) (InK k) := by
  refine ⟨hc, ?_⟩
  intro H enc w base fuel held cs x h
  cases fuel with
  | zero => simp [DataW.trod] at h
  | succ n =>
    unfold DataW.trod at h
    rw [ht] at h
    split at h <;> simp_all
    rename_i h2
    obtain ⟨⟨rfl, h3⟩, _⟩ := h
    exact ⟨_, rfl, h3⟩
theorem opens_slice {α : Type} {P : Program} {t e : TypeId} {d : Kd α} {W : α → Prop} (ht : P.underlying t = some (.slice e)) (hc : P.cellsOf t = 1) (z : α) (he : Opens P e d W) : Opens P t (Kd.slice e d) (InL W) := by
  refine ⟨hc, ?_⟩
  intro H enc w base fuel held cs x h
  rcases Go.Deep.open_slice ht h with ⟨rfl, _⟩ | ⟨a, len, cap, m, n, D, Pl, rfl, hb, hl, hm, hmm, rfl, hx⟩
  · exact ⟨[], ⟨none, 0, rfl, Nat.le_refl _, rfl, by simp, fun h0 => absurd h0 (by simp)⟩, by simp, by simp⟩
  · simp only [if_true] at hmm
    subst hmm
    have hm' : m ≤ 9223372036854775807 := by simpa [maxLen] using hm
    have each : ∀ i, i < m → ∃ y : α, ∃ c : List Value, c.length = d.sz ∧ d.K w y c ∧ W y ∧ ∀ j u, c[j]? = some u → w.cell? (a.add (i * d.sz + j)) = some u := by
      intro i hi
      obtain ⟨cs', h1, h2⟩ := hx i hi
      obtain ⟨y, hK, hW⟩ := he.reads enc w base n held cs' _ h2
      obtain ⟨_, hlen, hcell⟩ := World.cells?_some h1
      refine ⟨y, cs', d.K_len hK, hK, hW, fun j u hu => ?_⟩
      have hj : j < P.cellsOf e := by
        rw [← hlen]
        exact (List.getElem?_eq_some_iff.1 hu).1
      have := hcell j hj
      rw [Go.Deep.add_add, he.cells] at this
      rw [this]; exact hu
    haveI : Inhabited α := ⟨z⟩
    obtain ⟨f, hf⟩ := Go.Deep.choose_lt each
    refine ⟨(List.range len).map f, ⟨some a, m, ?_, ?_, ?_⟩, ?_, ?_⟩
    · simp
    · simp; exact hl
    · refine ⟨by simp, by simp; omega, fun _ => ⟨a, rfl, fun j p hj => ?_⟩⟩
      have hj1 : j < len := by have := (List.getElem?_eq_some_iff.1 hj).1; simpa using this
      have hp : f j = p := by simpa [hj1] using hj
      obtain ⟨c, h1, h2, _, h3⟩ := hf j (by omega)
      exact ⟨c, h1, hp ▸ h2, h3⟩
    · simp; omega
    · intro y hy
      obtain ⟨i, hi, rfl⟩ := List.mem_map.1 hy
      obtain ⟨c, _, _, hW, _⟩ := hf i (by have := List.mem_range.1 hi; omega)
      exact hW
theorem open_arg {α : Type} {H : Type} {enc : TypeId × Value → H} {P : Program} {w : World} {t : TypeId} {d : Kd α} {W : α → Prop} (ho : Opens P t d W) {v : Value} {dd : DataW H} {ps : List MemPlace}
    (h : DataW.Trod enc P w 0 (fun _ => true) true t v dd ps) : ∃ y, d.K w y v.cells.toList ∧ W y := by
  obtain ⟨fuel, hf⟩ := h
  exact ho.reads enc w 0 fuel true _ _ hf
end Go.Proofs.Ytpkmhdeimedhgaa.Open
namespace Go.Proofs.Ytpkmhdeimedhgaa.QB
open Go.RowKit Go.Proofs.YtpkmhdeimedhgaaW.PrintWords Go.Proofs.YtpkmhdeimedhgaaW.PrintLast Go.Proofs.Ytpkmhdeimedhgaa
def laws_FnExportBack.Pure : Prop := ∀ (y0 : List Int), Open.InL (fun z => Open.InK .u8 z) y0 → ∃ k, laws_FnExportBack.f k y0 = some true
end Go.Proofs.Ytpkmhdeimedhgaa.QB
namespace Go.Proofs.Ytpkmhdeimedhgaa.L
open Go.RowKit Go.Proofs.YtpkmhdeimedhgaaW.PrintWords Go.Proofs.YtpkmhdeimedhgaaW.PrintMore
set_option linter.unusedVariables false
set_option linter.unusedSimpArgs false
theorem wrap_id {x : Int} (h0 : -9223372036854775808 ≤ x) (h1 : x ≤ 9223372036854775807) : wrap64 x = x := by unfold wrap64; omega
theorem wrap_nat_succ {i : Nat} (h : i < 9223372036854775807) : wrap64 ((i : Int) + 1) = ((i + 1 : Nat) : Int) := by unfold wrap64; omega
theorem evVal {α : Type} {g : Nat → Option α} {r r' : α} (h : Ev g r) (e : r = r') : Ev g r' := e ▸ h
theorem evConst {α : Type} {o : Option α} {r : α} (h : o = some r) : Ev (fun _ => o) r := ⟨0, fun _ _ => h⟩
theorem loop_ev {σ ρ : Type} (n : Nat) (G : Nat → σ → Int → Option ρ) (s : Nat → σ) (r : ρ)
    (hstep : ∀ i, i < n → Ev (fun k => G k (s (i + 1)) ((i + 1 : Nat) : Int)) r → Ev (fun k => G k (s i) (i : Int)) r)
    (hend : Ev (fun k => G k (s n) (n : Int)) r) : Ev (fun k => G k (s 0) 0) r := by
  have key : ∀ d i, i + d = n → Ev (fun k => G k (s i) (i : Int)) r := by
    intro d
    induction d with
    | zero => intro i h; obtain rfl : i = n := by omega
              exact hend
    | succ d ih => intro i h; exact hstep i (by omega) (ih (i + 1) (by omega))
  exact key n 0 (by omega)
theorem search_ev {ρ : Type} (n : Nat) (G : Nat → Int → Option ρ) (p : Nat → Bool) (rno ryes : ρ)
    (hgo : ∀ i, i < n → p i = true → ∀ r, Ev (fun k => G k ((i + 1 : Nat) : Int)) r → Ev (fun k => G k (i : Int)) r)
    (hstop : ∀ i, i < n → p i = false → Ev (fun k => G k (i : Int)) rno)
    (hend : Ev (fun k => G k (n : Int)) ryes) : Ev (fun k => G k 0) (if (List.range n).all p then ryes else rno) := by
  have key : ∀ d i, i + d = n → Ev (fun k => G k (i : Int)) (if ((List.range n).drop i).all p then ryes else rno) := by
    intro d
    induction d with
    | zero =>
      intro i h
      obtain rfl : i = n := by omega
      rw [List.drop_of_length_le (by simp)]
      exact hend
    | succ d ih =>
      intro i h
      have hi : i < n := by omega
      rw [List.drop_eq_getElem_cons (by simpa using hi), List.getElem_range, List.all_cons]
      cases hp : p i with
      | true => simpa using hgo i hi hp _ (ih (i + 1) (by omega))
      | false => simpa using hstop i hi hp
  have := key n 0 (by omega)
  simpa using this
theorem getD_lt {α : Type} {l : List α} {i : Nat} (z : α) (h : i < l.length) : l.getD i z = l[i] := by simp [List.getD, h]
end Go.Proofs.Ytpkmhdeimedhgaa.L
namespace Go.Proofs.Ytpkmhdeimedhgaa.L
open Go.RowKit Go.Proofs.Ytpkmhdeimedhgaa.QB Go.Proofs.YtpkmhdeimedhgaaW.PrintWords Go.Proofs.YtpkmhdeimedhgaaW.PrintLast
set_option linter.unusedVariables false
set_option linter.unusedSimpArgs false
theorem within_eq (n lo hi : Int) : impl_within.f n lo hi = some (decide (lo ≤ n ∧ n ≤ hi)) := by
  unfold impl_within.f
  by_cases h : n ≥ lo
  · rw [if_pos h]
    by_cases h2 : n ≤ hi <;> simp [h2] <;> omega
  · rw [if_neg h]
    simp
    omega
end Go.Proofs.Ytpkmhdeimedhgaa.L
namespace Go.Proofs.Ytpkmhdeimedhgaa.L
open Go.RowKit Go.Proofs.Ytpkmhdeimedhgaa.QB Go.Proofs.YtpkmhdeimedhgaaW.PrintWords Go.Proofs.YtpkmhdeimedhgaaW.PrintLast Go.Proofs.YtpkmhdeimedhgaaW.PrintMore
set_option linter.unusedVariables false
set_option linter.unusedSimpArgs false
def letB (s : ByteArray) (i : Nat) : Bool := decide (97 ≤ bt s (i : Int)) && decide (bt s (i : Int) ≤ 122)
def lettersB (s : ByteArray) : Bool := (List.range s.size).all (letB s)
def wordB (s : ByteArray) : Bool := decide (1 ≤ s.size ∧ s.size ≤ 32) && lettersB s
theorem specWordOk_ev (s : ByteArray) (hs : s.size ≤ 9223372036854775807) : Ev (fun k => spec_WordOk.f k s) (wordB s) := by
  unfold spec_WordOk.f wordB
  by_cases h1 : s.size < 1
  · simp only [if_pos (show (s.size : Int) < 1 by omega), show ¬ (1 ≤ s.size ∧ s.size ≤ 32) by omega, decide_false, Bool.false_and]
    refine Ev.step (fun k => rfl) ?_
    simp only [spec_WordOk.j0, if_true]
    exact Ev.now _
  · simp only [if_neg (show ¬ (s.size : Int) < 1 by omega)]
    refine Ev.step (fun k => rfl) ?_
    by_cases h2 : s.size ≤ 32
    · simp only [spec_WordOk.j0, show ¬ ((s.size : Int) > 32) by omega, decide_false, Bool.false_eq_true, if_false, show (1 ≤ s.size ∧ s.size ≤ 32) by omega, decide_true, Bool.true_and]
      refine evVal (search_ev s.size (fun k i => spec_WordOk.l0 k s i) (letB s) false true ?_ ?_ ?_) ?_
      · intro i hi hp r hr
        unfold letB at hp
        simp only [Bool.and_eq_true, decide_eq_true_eq] at hp
        refine Ev.step (fun k => ?_) hr
        simp only [spec_WordOk.l0]
        rw [if_pos (by omega), if_pos (by omega), if_neg (by omega), if_neg (by omega), wrap_nat_succ (by omega)]
      · intro i hi hp
        unfold letB at hp
        refine Ev.step (f := fun _ => some false) (fun k => ?_) (Ev.now _)
        simp only [spec_WordOk.l0]
        rw [if_pos (by omega), if_pos (by omega)]
        by_cases h97 : bt s (i : Int) < 97
        · rw [if_pos h97]
        · rw [if_neg h97, if_pos (by simp at hp; omega)]
      · refine Ev.step (f := fun _ => some true) (fun k => ?_) (Ev.now _)
        simp only [spec_WordOk.l0]
        rw [if_neg (by omega)]
      · unfold lettersB
        cases (List.range s.size).all (letB s) <;> rfl
    · simp only [spec_WordOk.j0, show ((s.size : Int) > 32) by omega, decide_true, if_true, show ¬ (1 ≤ s.size ∧ s.size ≤ 32) by omega, decide_false, Bool.false_and]
      exact Ev.now _
theorem isWord_ev (s : ByteArray) (hs : s.size ≤ 9223372036854775807) : Ev (fun k => impl_isWord.f k s) (wordB s) := by
  unfold impl_isWord.f wordB
  refine evVal (search_ev s.size (fun k i => impl_isWord.l0 k s (s.size : Int) i) (letB s) false (decide (1 ≤ s.size ∧ s.size ≤ 32)) ?_ ?_ ?_) ?_
  · intro i hi hp r hr
    unfold letB at hp
    simp only [Bool.and_eq_true, decide_eq_true_eq] at hp
    refine Ev.step (fun k => ?_) hr
    simp only [impl_isWord.l0]
    rw [if_pos (by omega), if_pos (by omega), if_pos (by omega), if_neg (by omega), if_neg (by omega), wrap_nat_succ (by omega)]
  · intro i hi hp
    unfold letB at hp
    refine Ev.step (f := fun _ => some false) (fun k => ?_) (Ev.now _)
    simp only [impl_isWord.l0]
    rw [if_pos (by omega), if_pos (by omega), if_pos (by omega)]
    by_cases h97 : bt s (i : Int) < 97
    · rw [if_pos h97]
    · rw [if_neg h97, if_pos (by simp at hp; omega)]
  · refine Ev.step (f := fun _ => some (decide (1 ≤ s.size ∧ s.size ≤ 32))) (fun k => ?_) (Ev.now _)
    simp only [impl_isWord.l0, within_eq, Option.bind_some]
    rw [if_neg (by omega)]
    congr 2
    apply propext
    omega
  · unfold lettersB
    cases (List.range s.size).all (letB s) <;> simp
theorem wordB_size {s : ByteArray} (h : wordB s = true) : 1 ≤ s.size ∧ s.size ≤ 32 := by
  unfold wordB at h
  rw [Bool.and_eq_true] at h
  exact of_decide_eq_true h.1
def padW (s : ByteArray) : List Int := (s.size : Int) :: (bytesOf s ++ List.replicate (32 - s.size) 0)
def padL (s : ByteArray) : List Int := if wordB s then padW s else List.replicate 33 0
theorem padL_length (s : ByteArray) : (padL s).length = 33 := by
  unfold padL padW
  split
  · rename_i h
    have := wordB_size h
    simp [bytesOf_length]
    omega
  · simp
theorem implPad_ev (s : ByteArray) (hs : s.size ≤ 9223372036854775807) : Ev (fun k => impl_pad.f k s) (padL s) := by
  unfold impl_pad.f padL
  refine Ev.bind (isWord_ev s hs) ?_
  cases h : wordB s with
  | false => simp only [Bool.false_eq_true, if_false]; exact Ev.now _
  | true =>
    simp only [if_true, if_pos (wordB_size h).2]
    exact Ev.now _
theorem specPad_ev (s : ByteArray) (hs : s.size ≤ 9223372036854775807) : Ev (fun k => spec_Pad.f k s) (padL s) := by
  unfold spec_Pad.f padL
  simp only [show 33 ≤ 281474976710656 by omega, if_true, Option.bind_some]
  refine Ev.bind (specWordOk_ev s hs) ?_
  cases h : wordB s with
  | false => simp only [Bool.false_eq_true, if_false]; exact Ev.now _
  | true =>
    have hb := wordB_size h
    have e0 : (List.replicate 33 (0 : Int)).set (0 : Int).toNat ((s.size : Int) % 256) = (s.size : Int) :: List.replicate 32 0 := by
      rw [show (0 : Int).toNat = 0 from rfl, List.replicate_succ, List.set_cons_zero]
      congr 1
      omega
    simp only [if_true, List.length_replicate, if_pos (show (0 : Int) < ((33 : Nat) : Int) by omega), e0]
    have key : ∀ d i, i + d = s.size → Ev (fun k => spec_Pad.l0 k s ((s.size : Int) :: ((bytesOf s).take i ++ List.replicate (32 - i) 0)) (i : Int)) (padW s) := by
      intro d
      induction d with
      | zero =>
        intro i hi
        refine evVal (Ev.step (f := fun _ => some ((s.size : Int) :: ((bytesOf s).take i ++ List.replicate (32 - i) 0))) (fun k => ?_) (Ev.now _)) ?_
        · simp only [spec_Pad.l0]
          rw [if_neg (by omega)]
        · unfold padW
          rw [List.take_of_length_le (by rw [bytesOf_length]; omega), show i = s.size by omega]
      | succ d ih =>
        intro i hi
        refine Ev.step (fun k => ?_) (ih (i + 1) (by omega))
        have hl : (((s.size : Int) :: ((bytesOf s).take i ++ List.replicate (32 - i) 0)).length : Int) = 33 := by simp [bytesOf_length]; omega
        simp only [spec_Pad.l0]
        rw [if_pos (by omega), if_pos (by omega), wrap_nat_succ (by omega), if_pos (by omega), if_pos (by rw [hl]; omega)]
        congr 1
        rw [Int.toNat_natCast, List.set_cons_succ, List.set_append_right _ _ (by rw [List.length_take, bytesOf_length]; omega), List.length_take, bytesOf_length, Nat.min_eq_left (by omega), Nat.sub_self, show 32 - i = (32 - (i + 1)) + 1 by omega, List.replicate_succ, List.set_cons_zero, List.take_succ_eq_append_getElem (by rw [bytesOf_length]; omega), List.append_assoc]
        congr 3
        have := rd_bytesOf s (i : Int)
        unfold rd at this
        rw [Int.toNat_natCast, List.getD_eq_getElem?_getD, List.getElem?_eq_getElem (by rw [bytesOf_length]; omega)] at this
        exact this.symm
    have := key s.size 0 (by omega)
    simpa using this
end Go.Proofs.Ytpkmhdeimedhgaa.L
namespace Go.Proofs.Ytpkmhdeimedhgaa.L
open Go.RowKit Go.Proofs.Ytpkmhdeimedhgaa.QB Go.Proofs.YtpkmhdeimedhgaaW.PrintWords Go.Proofs.YtpkmhdeimedhgaaW.PrintLast Go.Proofs.YtpkmhdeimedhgaaW.PrintMore
set_option linter.unusedVariables false
set_option linter.unusedSimpArgs false
def Byt (l : List Int) : Prop := ∀ x, x ∈ l → 0 ≤ x ∧ x ≤ 255
theorem strL_inj {a b : List Int} (ha : Byt a) (hb : Byt b) : (strOfNums a).toList = (strOfNums b).toList ↔ a = b := by
  constructor
  · intro h
    rw [ByteArray.toList_eq, ByteArray.toList_eq, strOfNums_data, strOfNums_data] at h
    induction a generalizing b with
    | nil => cases b with
      | nil => rfl
      | cons y ys => simp at h
    | cons x xs ih => cases b with
      | nil => simp at h
      | cons y ys =>
        rw [List.map_cons, List.map_cons, List.cons.injEq] at h
        have hx := ha x (List.mem_cons_self)
        have hy := hb y (List.mem_cons_self)
        have e := congrArg UInt8.toNat h.1
        rw [UInt8.toNat_ofNat', UInt8.toNat_ofNat'] at e
        rw [ih (fun z hz => ha z (List.mem_cons_of_mem _ hz)) (fun z hz => hb z (List.mem_cons_of_mem _ hz)) h.2]
        congr 1
        omega
  · rintro rfl; rfl
theorem bytesOf_byt (s : ByteArray) : Byt (bytesOf s) := by
  intro x hx
  unfold bytesOf at hx
  obtain ⟨b, _, rfl⟩ := List.mem_map.1 hx
  have := b.toNat_lt
  omega
theorem strOf_bytesOf (s : ByteArray) : strOfNums (bytesOf s) = s := by
  unfold strOfNums bytesOf
  cases s with
  | mk d =>
    congr 1
    rw [List.map_map]
    have : (fun n : Int => UInt8.ofNat n.toNat) ∘ (fun b : UInt8 => (b.toNat : Int)) = id := by
      funext b
      simp
    rw [this]
    simp
theorem padL_byt (s : ByteArray) : Byt (padL s) := by
  intro x hx
  unfold padL at hx
  split at hx
  · rename_i h
    have := wordB_size h
    unfold padW at hx
    rcases List.mem_cons.1 hx with rfl | hx
    · omega
    · rcases List.mem_append.1 hx with hx | hx
      · exact bytesOf_byt s x hx
      · have := List.eq_of_mem_replicate hx; omega
  · have := List.eq_of_mem_replicate hx; omega
theorem bytEq_eq {a b : List Int} (ha : Byt a) (hb : Byt b) : bytes_Equal.f a b = some (decide (a = b)) := by
  unfold bytes_Equal.f
  congr 1
  by_cases e : a = b
  · subst e; simp
  · have h : ¬ (strOfNums a).toList = (strOfNums b).toList := fun h => e ((strL_inj ha hb).1 h)
    rw [beq_eq_false_iff_ne.2 h, decide_eq_false e]
def unW (l : List Int) : ByteArray := strOfNums ((l.take (1 + (rd l 0)).toNat).drop 1)
def unB (l : List Int) : Bool := decide (l.length = 33 ∧ rd l 0 ≤ 32) && (wordB (unW l) && decide (padL (unW l) = l))
def unR (l : List Int) : ByteArray × Bool := if unB l then (unW l, true) else (⟨#[]⟩, false)
theorem unW_size (l : List Int) : (unW l).size ≤ l.length := by
  unfold unW
  rw [strOfNums_size, List.length_drop, List.length_take]
  omega
theorem rd_byt {l : List Int} (h : Byt l) (i : Int) : 0 ≤ rd l i ∧ rd l i ≤ 255 := by
  unfold rd
  rw [List.getD_eq_getElem?_getD]
  cases e : l[i.toNat]? with
  | none => simp
  | some x => exact h x (List.mem_of_getElem? e)
theorem wordB_nil : wordB (strOfNums []) = false := by
  unfold wordB
  rw [strOfNums_size]
  rfl
theorem implUnpad_ev (l : List Int) (h : Byt l) (hl : l.length ≤ 1048576) : Ev (fun k => impl_Unpad.f k l) (unR l) := by
  unfold impl_Unpad.f unR unB
  have h0 := rd_byt h 0
  by_cases h1 : l.length = 33
  · simp only [if_pos (show (l.length : Int) = 33 by omega), if_pos (show (0 : Int) < (l.length : Int) by omega)]
    refine Ev.step (fun k => rfl) ?_
    by_cases h2 : rd l 0 ≤ 32
    · have e : (1 + rd l 0) % 256 = 1 + rd l 0 := by omega
      simp only [impl_Unpad.j0, show ¬ (rd l 0 > 32) by omega, decide_false, Bool.false_eq_true, if_false, h1, if_pos (show (0 : Int) < ((33 : Nat) : Int) by omega), e, if_pos (show (1 : Int) ≤ 1 + rd l 0 by omega), if_pos (show 1 + rd l 0 ≤ ((33 : Nat) : Int) by omega), h2, and_self, decide_true, Bool.true_and]
      refine Ev.bind (isWord_ev (unW l) (by have := unW_size l; omega)) ?_
      cases hw : wordB (unW l) with
      | false => simp only [Bool.false_eq_true, if_false, Bool.false_and]; exact Ev.now _
      | true =>
        simp only [if_true, Bool.true_and]
        refine Ev.bind (implPad_ev (unW l) (by have := unW_size l; omega)) ?_
        simp only [bytEq_eq (padL_byt _) h, Option.bind_some]
        by_cases h3 : padL (unW l) = l
        · simp only [h3, decide_true, if_true]; exact Ev.now _
        · simp only [h3, decide_false, Bool.false_eq_true, if_false]; exact Ev.now _
    · simp only [impl_Unpad.j0, show (rd l 0 > 32) by omega, decide_true, if_true, h2, and_false, decide_false, Bool.false_and, Bool.false_eq_true, if_false]
      exact Ev.now _
  · simp only [if_neg (show ¬ (l.length : Int) = 33 by omega), h1, false_and, decide_false, Bool.false_and, Bool.false_eq_true, if_false]
    refine Ev.step (fun k => rfl) ?_
    simp only [impl_Unpad.j0, if_true]
    exact Ev.now _
theorem unB_pad {w : ByteArray} (h : wordB w = true) : unB (padL w) = true ∧ unW (padL w) = w := by
  have hs := wordB_size h
  have e : padL w = padW w := by unfold padL; rw [if_pos h]
  have e0 : rd (padL w) 0 = (w.size : Int) := by rw [e]; rfl
  have e1 : unW (padL w) = w := by
    unfold unW
    rw [e0, e]
    unfold padW
    rw [show (1 + (w.size : Int)).toNat = w.size + 1 by omega, List.take_succ_cons, List.drop_succ_cons, List.drop_zero, List.take_left' (bytesOf_length w), strOf_bytesOf]
  refine ⟨?_, e1⟩
  unfold unB
  rw [e1, e0, h, padL_length]
  simp
  omega
theorem unB_zero : unB (List.replicate 33 0) = false := by
  unfold unB unW
  rw [show rd (List.replicate 33 0) 0 = 0 from rfl, show ((List.replicate 33 (0 : Int)).take (1 + 0 : Int).toNat).drop 1 = [] from rfl, wordB_nil]
  simp
end Go.Proofs.Ytpkmhdeimedhgaa.L
namespace Go.Proofs.Ytpkmhdeimedhgaa.L
open Go.RowKit Go.Proofs.Ytpkmhdeimedhgaa.QB Go.Proofs.YtpkmhdeimedhgaaW.PrintWords Go.Proofs.YtpkmhdeimedhgaaW.PrintLast Go.Proofs.YtpkmhdeimedhgaaW.PrintMore
set_option linter.unusedVariables false
set_option linter.unusedSimpArgs false
def cmpL : List UInt8 → List UInt8 → Int
  | [], [] => 0
  | [], _ :: _ => -1
  | _ :: _, [] => 1
  | a :: x, b :: y => if a < b then -1 else if b < a then 1 else cmpL x y
theorem cmpL_less : ∀ x y : List UInt8, (decide (cmpL x y ≥ 0)) = !(Op.bytesLess x y)
  | [], [] => rfl
  | [], _ :: _ => rfl
  | _ :: _, [] => rfl
  | a :: x, b :: y => by
    unfold cmpL Op.bytesLess
    by_cases h : a < b
    · simp [h]
    · by_cases h' : b < a
      · have hne : ¬ a = b := fun e => by subst e; exact h h'
        simp [h, h', hne]
      · have he : a = b := by
          have h1 : ¬ a.toNat < b.toNat := fun hh => h (UInt8.lt_iff_toNat_lt.mpr hh)
          have h2 : ¬ b.toNat < a.toNat := fun hh => h' (UInt8.lt_iff_toNat_lt.mpr hh)
          exact UInt8.toNat_inj.mp (by omega)
        subst he
        have := cmpL_less x y
        simp only [h, if_false, this]
        simp
theorem bt_get (s : ByteArray) (i : Nat) (h : i < s.data.toList.length) : bt s (i : Int) = (s.data.toList[i].toNat : Int) := by
  have hs : i < s.size := by rw [data_length] at h; exact h
  unfold bt
  rw [dif_pos (by simpa using hs)]
  rfl
theorem drop_cons_get {α : Type} (l : List α) (i : Nat) (h : i < l.length) : l.drop i = l[i] :: l.drop (i + 1) := List.drop_eq_getElem_cons h
theorem wordCmp_ev (a b : ByteArray) (ha : a.size ≤ 9223372036854775806) (hb : b.size ≤ 9223372036854775806) : Ev (fun k => spec_WordCmp.f k a b) (cmpL a.toList b.toList) := by
  unfold spec_WordCmp.f
  rw [ByteArray.toList_eq, ByteArray.toList_eq]
  have key : ∀ d i, i + d = a.size → i ≤ b.size → Ev (fun k => spec_WordCmp.l0 k a b (i : Int)) (cmpL (a.data.toList.drop i) (b.data.toList.drop i)) := by
    intro d
    induction d with
    | zero =>
      intro i hi hib
      have ea : a.data.toList.drop i = [] := List.drop_of_length_le (by rw [data_length]; omega)
      refine Ev.step (fun k => rfl) ?_
      simp only [spec_WordCmp.l0, if_neg (show ¬ (i : Int) < (a.size : Int) by omega)]
      refine Ev.step (fun k => rfl) ?_
      simp only [spec_WordCmp.j1, Bool.false_eq_true, if_false]
      by_cases h : i < b.size
      · simp only [if_pos (show (a.size : Int) < (b.size : Int) by omega)]
        rw [ea, drop_cons_get b.data.toList i (by rw [data_length]; omega)]
        exact Ev.now _
      · simp only [if_neg (show ¬ (a.size : Int) < (b.size : Int) by omega), if_neg (show ¬ (a.size : Int) > (b.size : Int) by omega)]
        rw [ea, List.drop_of_length_le (by rw [data_length]; omega)]
        exact Ev.now _
    | succ d ih =>
      intro i hi hib
      have hla : i < a.data.toList.length := by rw [data_length]; omega
      refine Ev.step (fun k => rfl) ?_
      simp only [spec_WordCmp.l0, if_pos (show (i : Int) < (a.size : Int) by omega)]
      refine Ev.step (fun k => rfl) ?_
      by_cases h : i < b.size
      · have hlb : i < b.data.toList.length := by rw [data_length]; omega
        simp only [spec_WordCmp.j1, show (i : Int) < (b.size : Int) by omega, decide_true, if_true, if_pos (show (0 : Int) ≤ (i : Int) by omega), if_pos (show (i : Int) < (a.size : Int) by omega), wrap_nat_succ (show i < 9223372036854775807 by omega), bt_get a i hla, bt_get b i hlb]
        rw [drop_cons_get a.data.toList i hla, drop_cons_get b.data.toList i hlb]
        unfold cmpL
        by_cases h1 : a.data.toList[i] < b.data.toList[i]
        · have h1' : (a.data.toList[i].toNat : Int) < (b.data.toList[i].toNat : Int) := by have := UInt8.lt_iff_toNat_lt.mp h1; omega
          simp only [if_pos h1', if_pos h1]
          exact Ev.now _
        · have h1' : ¬ (a.data.toList[i].toNat : Int) < (b.data.toList[i].toNat : Int) := fun hh => h1 (UInt8.lt_iff_toNat_lt.mpr (by omega))
          simp only [if_neg h1', if_neg h1]
          by_cases h2 : b.data.toList[i] < a.data.toList[i]
          · have h2' : (a.data.toList[i].toNat : Int) > (b.data.toList[i].toNat : Int) := by have := UInt8.lt_iff_toNat_lt.mp h2; omega
            simp only [if_pos h2', if_pos h2]
            exact Ev.now _
          · have h2' : ¬ (a.data.toList[i].toNat : Int) > (b.data.toList[i].toNat : Int) := fun hh => h2 (UInt8.lt_iff_toNat_lt.mpr (by omega))
            simp only [if_neg h2', if_neg h2]
            exact ih (i + 1) (by omega) (by omega)
      · simp only [spec_WordCmp.j1, show ¬ (i : Int) < (b.size : Int) by omega, decide_false, Bool.false_eq_true, if_false, if_neg (show ¬ (a.size : Int) < (b.size : Int) by omega), if_pos (show (a.size : Int) > (b.size : Int) by omega)]
        rw [drop_cons_get a.data.toList i hla, List.drop_of_length_le (show b.data.toList.length ≤ i by rw [data_length]; omega)]
        exact Ev.now _
  have := key a.size 0 (by omega) (by omega)
  simpa using this
end Go.Proofs.Ytpkmhdeimedhgaa.L
namespace Go.Proofs.Ytpkmhdeimedhgaa.L
open Go.RowKit Go.Proofs.Ytpkmhdeimedhgaa.QB Go.Proofs.YtpkmhdeimedhgaaW.PrintWords Go.Proofs.YtpkmhdeimedhgaaW.PrintLast Go.Proofs.YtpkmhdeimedhgaaW.PrintMore
set_option linter.unusedVariables false
set_option linter.unusedSimpArgs false
abbrev Ent := S85
def entryB (e : Ent) : Bool := wordB e.f0 && decide (0 ≤ e.f1 ∧ e.f1 ≤ 65535)
theorem isEntry_ev (e : Ent) (h : e.f0.size ≤ 9223372036854775807) : Ev (fun k => impl_isEntry.f k e.f0 e.f1) (entryB e) := by
  unfold impl_isEntry.f entryB
  refine Ev.bind (isWord_ev _ h) ?_
  cases wordB e.f0 with
  | false => simp only [Bool.false_eq_true, if_false, Bool.false_and]; exact Ev.now _
  | true => simp only [if_true, within_eq, Option.bind_some, Bool.true_and]; exact Ev.now _
theorem full_ev (e : Ent) (h : e.f0.size ≤ 9223372036854775807) : Ev (fun k => spec_l17Full.f k e.f0 e.f1) (entryB e) := by
  unfold spec_l17Full.f entryB
  refine Ev.bind (specWordOk_ev _ h) ?_
  cases wordB e.f0 with
  | false => simp only [Bool.false_eq_true, if_false, Bool.false_and]; exact Ev.now _
  | true =>
    simp only [if_true, Bool.true_and]
    by_cases h0 : e.f1 ≥ 0
    · simp only [if_pos h0]
      refine evVal (Ev.now _) ?_
      congr 1
      apply propext
      omega
    · simp only [if_neg h0]
      refine evVal (Ev.now _) ?_
      simp
      omega
def stepB (l : List Ent) (i : Nat) : Bool := entryB (rd_T85 l (i : Int)) && (decide (i = 0) || Op.bytesLess (rd_T85 l ((i - 1 : Nat) : Int)).f0.toList (rd_T85 l (i : Int)).f0.toList)
def exportedB (l : List Ent) (n : Int) : Bool := (List.range l.length).all (stepB l) && decide ((l.length : Int) ≤ n)
theorem rd_size {l : List Ent} {m : Nat} (h : ∀ x, x ∈ l → x.f0.size ≤ m) (i : Nat) : (rd_T85 l (i : Int)).f0.size ≤ m := by
  unfold rd_T85
  rw [Int.toNat_natCast]
  by_cases hi : i < l.length
  · rw [getD_lt _ hi]; exact h _ (List.getElem_mem _)
  · rw [List.getD_eq_getElem?_getD, List.getElem?_eq_none (by omega)]
    exact Nat.zero_le _
theorem areExported_ev (l : List Ent) (n : Int) (hl : l.length ≤ 9223372036854775807) (hs : ∀ x, x ∈ l → x.f0.size ≤ 1048576) : Ev (fun k => impl_areExported.f k l n) (exportedB l n) := by
  unfold impl_areExported.f exportedB
  refine evVal (search_ev l.length (fun k i => impl_areExported.l0 k l n l (l.length : Int) i) (stepB l) false (decide ((l.length : Int) ≤ n)) ?_ ?_ ?_) ?_
  · intro i hi hp r hr
    unfold stepB at hp
    rw [Bool.and_eq_true] at hp
    refine Ev.step (fun k => rfl) ?_
    simp only [impl_areExported.l0, if_pos (show (i : Int) < (l.length : Int) by omega), if_pos (show (0 : Int) ≤ (i : Int) by omega)]
    refine Ev.bind (isEntry_ev _ (by have := rd_size hs i; omega)) ?_
    simp only [hp.1, if_true, wrap_nat_succ (show i < 9223372036854775807 by omega)]
    by_cases h0 : i = 0
    · subst h0
      simp only [if_neg (show ¬ ((0 : Nat) : Int) > 0 by omega)]
      exact hr
    · have e1 : wrap64 ((i : Int) - 1) = ((i - 1 : Nat) : Int) := by rw [wrap_id (by omega) (by omega)]; omega
      have h2 := hp.2
      simp only [h0, decide_false, Bool.false_or] at h2
      simp only [if_pos (show (i : Int) > 0 by omega), e1, if_pos (show (0 : Int) ≤ ((i - 1 : Nat) : Int) by omega), if_pos (show ((i - 1 : Nat) : Int) < (l.length : Int) by omega), h2, if_true]
      exact hr
  · intro i hi hp
    unfold stepB at hp
    refine Ev.step (fun k => rfl) ?_
    simp only [impl_areExported.l0, if_pos (show (i : Int) < (l.length : Int) by omega), if_pos (show (0 : Int) ≤ (i : Int) by omega)]
    refine Ev.bind (isEntry_ev _ (by have := rd_size hs i; omega)) ?_
    cases he : entryB (rd_T85 l (i : Int)) with
    | false => simp only [Bool.false_eq_true, if_false]; exact Ev.now _
    | true =>
      rw [he, Bool.true_and] at hp
      by_cases h0 : i = 0
      · simp [h0] at hp
      · have e1 : wrap64 ((i : Int) - 1) = ((i - 1 : Nat) : Int) := by rw [wrap_id (by omega) (by omega)]; omega
        simp only [h0, decide_false, Bool.false_or] at hp
        simp only [if_true, if_pos (show (i : Int) > 0 by omega), e1, if_pos (show (0 : Int) ≤ ((i - 1 : Nat) : Int) by omega), if_pos (show ((i - 1 : Nat) : Int) < (l.length : Int) by omega), hp, Bool.false_eq_true, if_false]
        exact Ev.now _
  · refine Ev.step (f := fun _ => some _) (fun k => ?_) (Ev.now _)
    simp only [impl_areExported.l0]
    rw [if_neg (by omega)]
  · cases (List.range l.length).all (stepB l) <;> simp
def ebL (e : Ent) : List Int := [(e.f1 / 256) % 256, e.f1 % 256] ++ padL e.f0
theorem ebL_length (e : Ent) : (ebL e).length = 35 := by unfold ebL; rw [List.length_append, padL_length]; rfl
def ebsL (l : List Ent) : List Int := l.flatMap ebL
theorem ebsL_length (l : List Ent) : (ebsL l).length = 35 * l.length := by
  induction l with
  | nil => rfl
  | cons x xs ih =>
    have h := ebL_length x
    unfold ebsL at ih ⊢
    rw [List.flatMap_cons, List.length_append, ih, h, List.length_cons]
    omega
theorem ebsL_take (l : List Ent) (i : Nat) (h : i < l.length) : ebsL (l.take (i + 1)) = ebsL (l.take i) ++ ebL (rd_T85 l (i : Int)) := by
  unfold ebsL rd_T85
  rw [List.take_succ_eq_append_getElem h, List.flatMap_append, Int.toNat_natCast, getD_lt _ h]
  simp
def exportL (l : List Ent) (n : Int) : List Int := ebsL l ++ List.replicate (35 * n.toNat - 35 * l.length) 0
theorem exportL_length (l : List Ent) (n : Int) (h : (l.length : Int) ≤ n) : (exportL l n).length = 35 * n.toNat := by
  unfold exportL
  rw [List.length_append, ebsL_length, List.length_replicate]
  omega
theorem exportOf_ev (l : List Ent) (n : Int) (hn : n ≤ 64) (hl : (l.length : Int) ≤ n) (hs : ∀ x, x ∈ l → x.f0.size ≤ 1048576) : Ev (fun k => impl_exportOf.f k l n) (exportL l n) := by
  unfold impl_exportOf.f
  have := loop_ev l.length (fun k s i => impl_exportOf.l0 k n s l (l.length : Int) i) (fun i => ebsL (l.take i)) (exportL l n) ?_ ?_
  · simpa [ebsL] using this
  · intro i hi hr
    have hx := ebsL_length (l.take i)
    have hx2 : (l.take i).length = i := by rw [List.length_take]; omega
    rw [ebsL_take l i hi] at hr
    generalize ebsL (l.take i) = X at hr hx
    refine Ev.step (fun k => rfl) ?_
    simp only [impl_exportOf.l0, if_pos (show (i : Int) < (l.length : Int) by omega), if_pos (show (0 : Int) ≤ (i : Int) by omega), Option.bind_some, List.length_append, List.length_cons, List.length_nil, if_pos (show X.length + (0 + 1 + 1) < 140737488355328 by omega), wrap_nat_succ (show i < 9223372036854775807 by omega)]
    refine Ev.bind (implPad_ev _ (by have := rd_size hs i; omega)) ?_
    simp only [padL_length, if_pos (show X.length + (0 + 1 + 1) + 33 < 140737488355328 by omega)]
    unfold ebL at hr
    rw [← List.append_assoc] at hr
    exact hr
  · have hx := ebsL_length l
    refine Ev.step (fun k => rfl) ?_
    simp only [List.take_length, impl_exportOf.l0, if_neg (show ¬ (l.length : Int) < (l.length : Int) by omega), wrap_id (x := n * 35) (by omega) (by omega), wrap_id (x := n * 35 - ((ebsL l).length : Int)) (by omega) (by omega), if_pos (show (0 : Int) ≤ n * 35 - ((ebsL l).length : Int) by omega), if_pos (show (ebsL l).length + (n * 35 - ((ebsL l).length : Int)).toNat < 140737488355328 by omega)]
    refine evVal (Ev.now _) ?_
    unfold exportL
    congr 2
    omega
def exportR (l : List Ent) (n : Int) : List Int := if decide (1 ≤ n ∧ n ≤ 64) && exportedB l n then exportL l n else []
theorem implExportOf_ev (l : List Ent) (n : Int) (hl : l.length ≤ 9223372036854775807) (hs : ∀ x, x ∈ l → x.f0.size ≤ 1048576) : Ev (fun k => impl_ExportOf.f k l n) (exportR l n) := by
  unfold impl_ExportOf.f exportR
  simp only [within_eq, Option.bind_some]
  by_cases h1 : 1 ≤ n ∧ n ≤ 64
  · simp only [h1, and_self, decide_true, if_true, Bool.true_and]
    refine Ev.bind (areExported_ev l n hl hs) ?_
    cases h2 : exportedB l n with
    | false => simp only [Bool.false_eq_true, if_false]; exact Ev.now _
    | true =>
      have h3 : (l.length : Int) ≤ n := by
        unfold exportedB at h2
        rw [Bool.and_eq_true] at h2
        exact of_decide_eq_true h2.2
      simp only [if_true]
      exact Ev.bind (exportOf_ev l n h1.2 h3 hs) (Ev.now _)
  · simp only [h1, decide_false, Bool.false_eq_true, if_false, Bool.false_and]
    exact Ev.now _
theorem two_eq (a : Int) (h : 0 ≤ a ∧ a ≤ 65535) : spec_l09Two.f a = some [(a / 256) % 256, a % 256] := by
  unfold spec_l09Two.f
  rw [Int.tdiv_eq_ediv_of_nonneg h.1, Int.tmod_eq_emod_of_nonneg h.1, wrap_id (x := a / 256) (by omega) (by omega)]
  congr 3
  simp
theorem specExportOf_ev (l : List Ent) (n : Int) (hl : l.length ≤ 9223372036854775807) (hs : ∀ x, x ∈ l → x.f0.size ≤ 1048576) : Ev (fun k => spec_ExportOf.f k l n) (exportR l n) := by
  unfold spec_ExportOf.f exportR
  have hno : ∀ r, r = ([] : List Int) → Ev (fun k => spec_ExportOf.j0 k l n true) r := by
    intro r hr
    subst hr
    refine Ev.step (fun k => rfl) ?_
    simp only [spec_ExportOf.j0, if_true]
    exact Ev.now _
  by_cases h1 : n < 1
  · simp only [if_pos h1]
    exact hno _ (by rw [if_neg]; simp; omega)
  · simp only [if_neg h1]
    by_cases h2 : n > 64
    · simp only [if_pos h2]
      exact hno _ (by rw [if_neg]; simp; omega)
    · simp only [if_neg h2]
      by_cases h3 : (l.length : Int) > n
      · simp only [h3, decide_true]
        exact hno _ (by rw [if_neg]; simp [exportedB]; omega)
      · have hn : 1 ≤ n ∧ n ≤ 64 := by omega
        have h3' : (l.length : Int) ≤ n := by omega
        simp only [h3, decide_false]
        refine Ev.step (fun k => rfl) ?_
        simp only [spec_ExportOf.j0, Bool.false_eq_true, if_false]
        have hval : (if (decide (1 ≤ n ∧ n ≤ 64) && exportedB l n) = true then exportL l n else []) = (if (List.range l.length).all (stepB l) then exportL l n else []) := by
          unfold exportedB
          simp only [hn, and_self, decide_true, h3', Bool.and_true, Bool.true_and]
        rw [hval]
        have hj2 : ∀ i, i < l.length → entryB (rd_T85 l (i : Int)) = true → ∀ r, Ev (fun k => spec_ExportOf.l0 k l n (ebsL (l.take (i + 1))) ((i + 1 : Nat) : Int)) r → Ev (fun k => spec_ExportOf.j2 k l n (ebsL (l.take i)) (i : Int) false) r := by
          intro i hi he r hr
          unfold entryB at he
          simp only [Bool.and_eq_true, decide_eq_true_eq] at he
          have hx := ebsL_length (l.take i)
          have hx2 : (l.take i).length = i := by rw [List.length_take]; omega
          rw [ebsL_take l i hi] at hr
          generalize ebsL (l.take i) = X at hr hx
          refine Ev.step (fun k => rfl) ?_
          simp only [spec_ExportOf.j2, Bool.false_eq_true, if_false, if_pos (show (i : Int) < (l.length : Int) by omega), if_pos (show (0 : Int) ≤ (i : Int) by omega), two_eq _ he.2, Option.bind_some, List.length_append, List.length_cons, List.length_nil, if_pos (show X.length + (0 + 1 + 1) < 140737488355328 by omega), wrap_nat_succ (show i < 9223372036854775807 by omega)]
          refine Ev.bind (specPad_ev _ (by have := rd_size hs i; omega)) ?_
          simp only [padL_length, if_pos (show X.length + (0 + 1 + 1) + 33 < 140737488355328 by omega)]
          unfold ebL at hr
          rw [← List.append_assoc] at hr
          exact hr
        have hj2f : ∀ X i, Ev (fun k => spec_ExportOf.j2 k l n X i true) ([] : List Int) := by
          intro X i
          refine Ev.step (fun k => rfl) ?_
          simp only [spec_ExportOf.j2, if_true]
          exact Ev.now _
        have := search_ev l.length (fun k i => spec_ExportOf.l0 k l n (ebsL (l.take i.toNat)) i) (stepB l) [] (exportL l n) ?_ ?_ ?_
        · simpa [ebsL] using this
        · intro i hi hp r hr
          unfold stepB at hp
          rw [Bool.and_eq_true] at hp
          simp only [Int.toNat_natCast] at hr ⊢
          refine Ev.step (fun k => rfl) ?_
          simp only [spec_ExportOf.l0, if_pos (show (i : Int) < (l.length : Int) by omega), if_pos (show (0 : Int) ≤ (i : Int) by omega)]
          refine Ev.bind (full_ev _ (by have := rd_size hs i; omega)) ?_
          simp only [hp.1, if_true]
          by_cases h0 : i = 0
          · simp only [if_neg (show ¬ (i : Int) > 0 by omega)]
            exact hj2 i hi hp.1 r hr
          · have e1 : wrap64 ((i : Int) - 1) = ((i - 1 : Nat) : Int) := by rw [wrap_id (by omega) (by omega)]; omega
            have h2 := hp.2
            simp only [h0, decide_false, Bool.false_or] at h2
            simp only [if_pos (show (i : Int) > 0 by omega), e1, if_pos (show (0 : Int) ≤ ((i - 1 : Nat) : Int) by omega), if_pos (show ((i - 1 : Nat) : Int) < (l.length : Int) by omega)]
            refine Ev.bind (wordCmp_ev _ _ (by have := rd_size hs (i - 1); omega) (by have := rd_size hs i; omega)) ?_
            simp only [cmpL_less, h2, Bool.not_true]
            exact hj2 i hi hp.1 r hr
        · intro i hi hp
          unfold stepB at hp
          simp only [Int.toNat_natCast]
          refine Ev.step (fun k => rfl) ?_
          simp only [spec_ExportOf.l0, if_pos (show (i : Int) < (l.length : Int) by omega), if_pos (show (0 : Int) ≤ (i : Int) by omega)]
          refine Ev.bind (full_ev _ (by have := rd_size hs i; omega)) ?_
          cases he : entryB (rd_T85 l (i : Int)) with
          | false => simp only [Bool.false_eq_true, if_false]; exact hj2f _ _
          | true =>
            rw [he, Bool.true_and] at hp
            by_cases h0 : i = 0
            · simp [h0] at hp
            · have e1 : wrap64 ((i : Int) - 1) = ((i - 1 : Nat) : Int) := by rw [wrap_id (by omega) (by omega)]; omega
              simp only [h0, decide_false, Bool.false_or] at hp
              simp only [if_true, if_pos (show (i : Int) > 0 by omega), e1, if_pos (show (0 : Int) ≤ ((i - 1 : Nat) : Int) by omega), if_pos (show ((i - 1 : Nat) : Int) < (l.length : Int) by omega)]
              refine Ev.bind (wordCmp_ev _ _ (by have := rd_size hs (i - 1); omega) (by have := rd_size hs i; omega)) ?_
              simp only [cmpL_less, hp, Bool.not_false]
              exact hj2f _ _
        · have hx := ebsL_length l
          refine Ev.step (fun k => rfl) ?_
          simp only [Int.toNat_natCast, List.take_length, spec_ExportOf.l0, if_neg (show ¬ (l.length : Int) < (l.length : Int) by omega), wrap_id (x := n * 35) (by omega) (by omega), wrap_id (x := n * 35 - ((ebsL l).length : Int)) (by omega) (by omega), if_pos (show (0 : Int) ≤ n * 35 - ((ebsL l).length : Int) by omega), if_pos (show (ebsL l).length + (n * 35 - ((ebsL l).length : Int)).toNat < 140737488355328 by omega)]
          refine evVal (Ev.now _) ?_
          unfold exportL
          congr 2
          omega
end Go.Proofs.Ytpkmhdeimedhgaa.L
namespace Go.Proofs.Ytpkmhdeimedhgaa.L
open Go.RowKit Go.Proofs.Ytpkmhdeimedhgaa.QB Go.Proofs.YtpkmhdeimedhgaaW.PrintWords Go.Proofs.YtpkmhdeimedhgaaW.PrintLast Go.Proofs.YtpkmhdeimedhgaaW.PrintMore
set_option linter.unusedVariables false
set_option linter.unusedSimpArgs false
def wdL (d : List Int) (i : Nat) : List Int := (d.take (35 * i + 35)).drop (35 * i + 2)
def entO (d : List Int) (i : Nat) : Option Ent := if unB (wdL d i) then some ⟨unW (wdL d i), 256 * rd d ((35 * i : Nat) : Int) + rd d ((35 * i + 1 : Nat) : Int)⟩ else none
def takeSome {α : Type} : List (Option α) → List α
  | some a :: t => a :: takeSome t
  | _ => []
def okR (d : List Int) (n : Nat) (out : List Ent) : List Ent × Bool := if exportedB out (n : Int) && decide (exportL out (n : Int) = d) then (out, true) else ([], false)
def optsL (d : List Int) (i m : Nat) : List (Option Ent) := (List.range' i m).map (entO d)
theorem optsL_succ (d : List Int) (i m : Nat) : optsL d i (m + 1) = entO d i :: optsL d (i + 1) m := by
  unfold optsL
  rw [List.range'_succ, List.map_cons]
theorem ebsL_byt (l : List Ent) : Byt (ebsL l) := by
  intro x hx
  unfold ebsL at hx
  obtain ⟨e, _, he⟩ := List.mem_flatMap.1 hx
  unfold ebL at he
  rcases List.mem_append.1 he with h | h
  · simp only [List.mem_cons, List.not_mem_nil, or_false] at h
    omega
  · exact padL_byt _ x h
theorem exportL_byt (l : List Ent) (n : Int) : Byt (exportL l n) := by
  intro x hx
  unfold exportL at hx
  rcases List.mem_append.1 hx with h | h
  · exact ebsL_byt l x h
  · have := List.eq_of_mem_replicate h; omega
theorem byt_cut {d : List Int} (h : Byt d) (a b : Nat) : Byt ((d.take a).drop b) := fun x hx => h x (List.mem_of_mem_take (List.mem_of_mem_drop hx))
theorem wdL_len {d : List Int} {n i : Nat} (hd : d.length = 35 * n) (hi : i < n) : (wdL d i).length = 33 := by
  unfold wdL
  rw [List.length_drop, List.length_take]
  omega
theorem split_at (L : List Ent) (i : Nat) (h : i < L.length) : ebsL L = ebsL (L.take i) ++ ([(L[i].f1 / 256) % 256, L[i].f1 % 256] ++ (padL L[i].f0 ++ ebsL (L.drop (i + 1)))) := by
  have e : L = L.take i ++ L[i] :: L.drop (i + 1) := by rw [← List.drop_eq_getElem_cons h, List.take_append_drop]
  unfold ebsL
  conv => lhs; rw [e]
  rw [List.flatMap_append, List.flatMap_cons]
  unfold ebL
  simp only [List.append_assoc]
theorem entO_full (L : List Ent) (n i : Nat) (h : i < L.length) (he : entryB L[i] = true) : entO (exportL L (n : Int)) i = some L[i] := by
  have hx : (ebsL (L.take i)).length = 35 * i := by rw [ebsL_length, List.length_take, Nat.min_eq_left (by omega)]
  have hw : wordB L[i].f0 = true ∧ (0 ≤ L[i].f1 ∧ L[i].f1 ≤ 65535) := by
    unfold entryB at he
    rw [Bool.and_eq_true, decide_eq_true_eq] at he
    exact he
  have hp := padL_length L[i].f0
  have key : ∀ (X P Y : List Int) (a b : Int), X.length = 35 * i → P.length = 33 → wdL (X ++ ([a, b] ++ (P ++ Y))) i = P ∧ rd (X ++ ([a, b] ++ (P ++ Y))) ((35 * i : Nat) : Int) = a ∧ rd (X ++ ([a, b] ++ (P ++ Y))) ((35 * i + 1 : Nat) : Int) = b := by
    intro X P Y a b hX hP
    refine ⟨?_, ?_, ?_⟩
    · unfold wdL
      rw [List.drop_take, show 35 * i + 35 - (35 * i + 2) = 33 by omega, ← List.append_assoc, List.drop_left' (by simp [hX]), List.take_left' hP]
    · unfold rd
      rw [Int.toNat_natCast, List.getD_eq_getElem?_getD, List.getElem?_append_right (by omega), hX, Nat.sub_self]
      rfl
    · unfold rd
      rw [Int.toNat_natCast, List.getD_eq_getElem?_getD, List.getElem?_append_right (by omega), hX, show 35 * i + 1 - 35 * i = 1 by omega]
      rfl
  have e : exportL L (n : Int) = ebsL (L.take i) ++ ([(L[i].f1 / 256) % 256, L[i].f1 % 256] ++ (padL L[i].f0 ++ (ebsL (L.drop (i + 1)) ++ List.replicate (35 * (n : Int).toNat - 35 * L.length) 0))) := by
    unfold exportL
    rw [split_at L i h]
    simp only [List.append_assoc]
  obtain ⟨k1, k2, k3⟩ := key (ebsL (L.take i)) (padL L[i].f0) (ebsL (L.drop (i + 1)) ++ List.replicate (35 * (n : Int).toNat - 35 * L.length) 0) ((L[i].f1 / 256) % 256) (L[i].f1 % 256) hx hp
  obtain ⟨u1, u2⟩ := unB_pad hw.1
  unfold entO
  rw [e, k1, k2, k3, u1, u2, if_pos rfl]
  congr 1
  have : 256 * (L[i].f1 / 256 % 256) + L[i].f1 % 256 = L[i].f1 := by omega
  rw [this]
theorem entO_none (L : List Ent) (n i : Nat) (h : L.length ≤ i) (hi : i < n) : entO (exportL L (n : Int)) i = none := by
  unfold entO
  have e : wdL (exportL L (n : Int)) i = List.replicate 33 0 := by
    unfold wdL exportL
    have hx := ebsL_length L
    rw [List.drop_take, show 35 * i + 35 - (35 * i + 2) = 33 by omega, List.drop_append, List.drop_of_length_le (by omega), List.nil_append, List.drop_replicate, List.take_replicate, Int.toNat_natCast]
    congr 1
    omega
  rw [e, unB_zero, if_neg (by decide)]
theorem takeSome_somes {α : Type} (L : List α) (m : Nat) : takeSome (L.map some ++ List.replicate m none) = L := by
  induction L with
  | nil => cases m <;> rfl
  | cons x xs ih => rw [List.map_cons, List.cons_append, takeSome, ih]
theorem opts_export (L : List Ent) (n : Nat) (h : exportedB L (n : Int) = true) : optsL (exportL L (n : Int)) 0 n = L.map some ++ List.replicate (n - L.length) none := by
  unfold exportedB at h
  rw [Bool.and_eq_true, decide_eq_true_eq, List.all_eq_true] at h
  apply List.ext_getElem?
  intro i
  unfold optsL
  rw [List.getElem?_map]
  by_cases hi : i < n
  · rw [List.getElem?_range' (by omega)]
    simp only [Option.map_some, Nat.zero_add, Nat.one_mul]
    by_cases hl : i < L.length
    · rw [List.getElem?_append_left (by simpa using hl), List.getElem?_map, List.getElem?_eq_getElem hl]
      have he := h.1 i (List.mem_range.2 hl)
      unfold stepB at he
      rw [Bool.and_eq_true] at he
      have e2 : rd_T85 L (i : Int) = L[i] := by unfold rd_T85; rw [Int.toNat_natCast, getD_lt _ hl]
      rw [e2] at he
      rw [entO_full L n i hl he.1]
      rfl
    · rw [List.getElem?_append_right (by simpa using Nat.le_of_not_lt hl), entO_none L n i (by omega) hi, List.length_map, List.getElem?_replicate, if_pos (by omega)]
  · rw [List.getElem?_eq_none (by simpa using Nat.le_of_not_lt hi), List.getElem?_eq_none (by rw [List.length_append, List.length_map, List.length_replicate]; omega)]
    rfl
def readR (d : List Int) : List Ent × Bool := if (1 ≤ d.length / 35 ∧ d.length / 35 ≤ 64) ∧ d.length % 35 = 0 then okR d (d.length / 35) (takeSome (optsL d 0 (d.length / 35))) else ([], false)
theorem readR_export (L : List Ent) (n : Nat) (hn : 1 ≤ n ∧ n ≤ 64) (h : exportedB L (n : Int) = true) : readR (exportL L (n : Int)) = (L, true) := by
  have h3 : (L.length : Int) ≤ (n : Int) := by
    unfold exportedB at h
    rw [Bool.and_eq_true, decide_eq_true_eq] at h
    exact h.2
  have hl := exportL_length L (n : Int) h3
  rw [Int.toNat_natCast] at hl
  unfold readR
  rw [hl, show 35 * n / 35 = n by omega, if_pos ⟨hn, by omega⟩, opts_export L n h, takeSome_somes]
  unfold okR
  rw [h, Bool.true_and, if_pos (by simp)]
theorem okR_ev (d : List Int) (n : Nat) (out : List Ent) (hd : Byt d) (hn : n ≤ 64) (hl : out.length ≤ 64) (hs : ∀ x, x ∈ out → x.f0.size ≤ 1048576) : Ev (fun k => impl_ExportRead.j2 k d (n : Int) out) (okR d n out) := by
  refine Ev.step (fun k => rfl) ?_
  unfold okR
  simp only [impl_ExportRead.j2]
  refine Ev.bind (areExported_ev out (n : Int) (by omega) hs) ?_
  cases h : exportedB out (n : Int) with
  | false => simp only [Bool.false_eq_true, if_false, Bool.false_and]; exact Ev.now _
  | true =>
    have h3 : (out.length : Int) ≤ (n : Int) := by
      unfold exportedB at h
      rw [Bool.and_eq_true, decide_eq_true_eq] at h
      exact h.2
    simp only [if_true, Bool.true_and]
    refine Ev.bind (exportOf_ev out (n : Int) (by omega) h3 hs) ?_
    simp only [bytEq_eq (exportL_byt out (n : Int)) hd, Option.bind_some]
    cases decide (exportL out (n : Int) = d) with
    | true => simp only [if_true]; exact Ev.now _
    | false => simp only [Bool.false_eq_true, if_false]; exact Ev.now _
theorem i64_16 (n : Int) (h0 : 0 ≤ n) (h1 : n < 2 ^ 16) : IntKind.i64.wrap n = n := by
  rw [IntKind.wrap_i64]
  have : (2 : Int) ^ 16 = 65536 := by decide
  omega
theorem join_eq {a b : Int} (ha : 0 ≤ a ∧ a ≤ 255) (hb : 0 ≤ b ∧ b ≤ 255) : Go.bits .or .i64 (wrap64 (wrap64 a * 256)) (wrap64 b) = 256 * a + b := by
  have e1 : wrap64 (wrap64 a * 256) = 256 * a := by unfold wrap64; omega
  have e2 : wrap64 b = b := by unfold wrap64; omega
  have e3 : (2 : Int) ^ 16 = 65536 := by decide
  have e4 : (2 : Int) ^ 8 = 256 := by decide
  rw [e1, e2]
  exact bits_join .i64 16 (by decide) i64_16 8 (256 * a) b (by omega) (by rw [e4]; omega) (by rw [e3]; omega) (by omega) (by rw [e4]; omega) (by rw [e3]; omega)
theorem unW_wdL_size {d : List Int} {n i : Nat} (hd : d.length = 35 * n) (hi : i < n) : (unW (wdL d i)).size ≤ 1048576 := by
  have := unW_size (wdL d i)
  rw [wdL_len hd hi] at this
  omega
theorem implLoop_ev (d : List Int) (n : Nat) (hd : d.length = 35 * n) (hb : Byt d) (hn : n ≤ 64) : ∀ m i out, i + m = n → out.length ≤ i → (∀ x, x ∈ out → x.f0.size ≤ 1048576) →
    Ev (fun k => impl_ExportRead.l0 k d (n : Int) out ((35 * i : Nat) : Int)) (okR d n (out ++ takeSome (optsL d i m))) := by
  intro m
  induction m with
  | zero =>
    intro i out h ho hs
    refine Ev.step (fun k => rfl) ?_
    simp only [impl_ExportRead.l0, if_neg (show ¬ ((35 * i : Nat) : Int) < (d.length : Int) by omega)]
    have := okR_ev d n out hb hn (by omega) hs
    simpa [optsL, takeSome] using this
  | succ m ih =>
    intro i out h ho hs
    have hi : i < n := by omega
    refine Ev.step (fun k => rfl) ?_
    have e2 : wrap64 (((35 * i : Nat) : Int) + 2) = ((35 * i + 2 : Nat) : Int) := by rw [wrap_id (by omega) (by omega)]; omega
    have e1 : wrap64 (((35 * i : Nat) : Int) + 1) = ((35 * i + 1 : Nat) : Int) := by rw [wrap_id (by omega) (by omega)]; omega
    have e35 : wrap64 (((35 * i : Nat) : Int) + 35) = ((35 * i + 35 : Nat) : Int) := by rw [wrap_id (by omega) (by omega)]; omega
    simp only [impl_ExportRead.l0, e2, e1, e35, if_pos (show ((35 * i : Nat) : Int) < (d.length : Int) by omega), if_pos (show (0 : Int) ≤ ((35 * i + 2 : Nat) : Int) by omega), if_pos (show ((35 * i + 2 : Nat) : Int) ≤ ((35 * i + 35 : Nat) : Int) by omega), if_pos (show ((35 * i + 35 : Nat) : Int) ≤ (d.length : Int) by omega), Int.toNat_natCast]
    refine Ev.bind (implUnpad_ev (wdL d i) (byt_cut hb _ _) (by rw [wdL_len hd hi]; omega)) ?_
    rw [optsL_succ]
    unfold entO unR
    cases hu : unB (wdL d i) with
    | false =>
      simp only [Bool.false_eq_true, if_false]
      have := okR_ev d n out hb hn (by omega) hs
      simpa [takeSome] using this
    | true =>
      simp only [if_true, if_pos (show (0 : Int) ≤ ((35 * i : Nat) : Int) by omega), if_pos (show (0 : Int) ≤ ((35 * i + 1 : Nat) : Int) by omega), if_pos (show ((35 * i + 1 : Nat) : Int) < (d.length : Int) by omega), if_pos (show out.length < 5864062014805 by omega), join_eq (rd_byt hb ((35 * i : Nat) : Int)) (rd_byt hb ((35 * i + 1 : Nat) : Int))]
      have hr := ih (i + 1) (out ++ [⟨unW (wdL d i), 256 * rd d ((35 * i : Nat) : Int) + rd d ((35 * i + 1 : Nat) : Int)⟩]) (by omega) (by rw [List.length_append]; simp only [List.length_cons, List.length_nil]; omega) (by
        intro x hx
        rcases List.mem_append.1 hx with hx | hx
        · exact hs x hx
        · rw [List.mem_singleton.1 hx]; exact unW_wdL_size hd hi)
      rw [show 35 * (i + 1) = 35 * i + 35 by omega] at hr
      simpa [takeSome, List.append_assoc] using hr
theorem implRead_ev (d : List Int) (hb : Byt d) (hl : d.length ≤ 1048576) : Ev (fun k => impl_ExportRead.f k d) (readR d) := by
  unfold impl_ExportRead.f readR
  have e0 : wrap64 ((d.length : Int) / 35) = ((d.length / 35 : Nat) : Int) := by rw [wrap_id (by omega) (by omega)]; omega
  simp only [within_eq, Option.bind_some, e0]
  have hno : ∀ n, Ev (fun k => impl_ExportRead.j0 k d n true) (([], false) : List Ent × Bool) := by
    intro n
    refine Ev.step (fun k => rfl) ?_
    simp only [impl_ExportRead.j0, if_true]
    exact Ev.now _
  by_cases h1 : 1 ≤ d.length / 35 ∧ d.length / 35 ≤ 64
  · simp only [show (1 : Int) ≤ ((d.length / 35 : Nat) : Int) ∧ ((d.length / 35 : Nat) : Int) ≤ 64 from by omega, and_self, decide_true, if_true]
    by_cases h2 : d.length % 35 = 0
    · have e2 : (((d.length : Int) % 35) != 0) = false := by rw [bne_eq_false_iff_eq]; omega
      rw [if_pos ⟨h1, h2⟩]
      simp only [e2]
      refine Ev.step (fun k => rfl) ?_
      simp only [impl_ExportRead.j0, Bool.false_eq_true, if_false]
      have := implLoop_ev d (d.length / 35) (by omega) hb h1.2 (d.length / 35) 0 [] (by omega) (by simp) (fun x hx => absurd hx List.not_mem_nil)
      simpa using this
    · have e2 : (((d.length : Int) % 35) != 0) = true := by rw [bne_iff_ne]; omega
      rw [if_neg (fun h => h2 h.2)]
      simp only [e2]
      exact hno _
  · simp only [show ¬ ((1 : Int) ≤ ((d.length / 35 : Nat) : Int) ∧ ((d.length / 35 : Nat) : Int) ≤ 64) from by omega, decide_false, Bool.false_eq_true, if_false]
    rw [if_neg (fun h => h1 h.1)]
    exact hno _
end Go.Proofs.Ytpkmhdeimedhgaa.L
namespace Go.Proofs.Ytpkmhdeimedhgaa.L
open Go.RowKit Go.Proofs.Ytpkmhdeimedhgaa.QB Go.Proofs.YtpkmhdeimedhgaaW.PrintWords Go.Proofs.YtpkmhdeimedhgaaW.PrintLast Go.Proofs.YtpkmhdeimedhgaaW.PrintMore
set_option linter.unusedVariables false
set_option linter.unusedSimpArgs false
def Cur (p s b : Int) : Prop := 0 ≤ p ∧ p ≤ b ∧ 0 ≤ s ∧ s ≤ 65521
theorem Cur.le {p s b b' : Int} (h : Cur p s b) (hb : b ≤ b') : Cur p s b' := ⟨h.1, Int.le_trans h.2.1 hb, h.2.2⟩
theorem tmod_range {a n : Int} (ha : 0 ≤ a) (hn : 0 < n) : 0 ≤ Int.tmod a n ∧ Int.tmod a n < n := by
  rw [Int.tmod_eq_emod_of_nonneg ha]
  exact ⟨Int.emod_nonneg _ (by omega), Int.emod_lt_of_pos _ hn⟩
theorem pick_ok {c : List Int} (hc : Byt c) (hl : c.length ≤ 1048576) {p s b : Int} (h : Cur p s b) (hb : b ≤ 4611686018427387904) (n : Int) :
    ∃ x p' s', spec_l01Cur_pick.f c p s n = some (x, p', s') ∧ 0 ≤ x ∧ (1 ≤ n → x < n) ∧ Cur p' s' (b + 1) := by
  obtain ⟨h1, h2, h3, h4⟩ := h
  unfold spec_l01Cur_pick.f
  by_cases hn : n < 2
  · exact ⟨0, p, s, if_pos hn, by omega, by omega, h1, by omega, h3, h4⟩
  · rw [if_neg hn]
    have e1 : wrap64 (p + 1) = p + 1 := wrap_id (by omega) (by omega)
    have hs := tmod_range (a := wrap64 ((wrap64 (s * 1103)) + 12345)) (n := 65521) (by rw [wrap_id (x := s * 1103) (by omega) (by omega), wrap_id (by omega) (by omega)]; omega) (by omega)
    by_cases h5 : p < (c.length : Int)
    · rw [if_pos h5, if_pos h1, if_neg (by omega), e1]
      have hr := rd_byt hc p
      have ht := tmod_range (a := wrap64 (rd c p)) (n := n) (by rw [wrap_id (by omega) (by omega)]; omega) (by omega)
      exact ⟨_, _, _, rfl, ht.1, fun _ => ht.2, by omega, by omega, h3, h4⟩
    · rw [if_neg h5, e1]
      by_cases h6 : (c.length : Int) > 0
      · have hq := tmod_range (a := p) (n := (c.length : Int)) h1 h6
        rw [if_pos h6, if_neg (by omega), if_pos hq.1, if_pos hq.2, if_neg (by omega)]
        have hr := rd_byt hc (Int.tmod p (c.length : Int))
        have ht := tmod_range (a := wrap64 ((wrap64 (Int.tdiv (Int.tmod (wrap64 ((wrap64 (s * 1103)) + 12345)) 65521) 7)) + (wrap64 (rd c (Int.tmod p (c.length : Int)))))) (n := n) (by
          generalize rd c (Int.tmod p (c.length : Int)) = r at hr
          generalize Int.tmod (wrap64 ((wrap64 (s * 1103)) + 12345)) 65521 = t at hs
          rw [Int.tdiv_eq_ediv_of_nonneg hs.1]
          unfold wrap64
          omega) (by omega)
        exact ⟨_, _, _, rfl, ht.1, fun _ => ht.2, by omega, by omega, hs.1, by omega⟩
      · rw [if_neg h6, if_neg (by omega)]
        exact ⟨_, _, _, rfl, by rw [Int.zero_emod]; omega, fun _ => by rw [Int.zero_emod]; omega, by omega, by omega, hs.1, by omega⟩
theorem size_ok {c : List Int} (hc : Byt c) (hl : c.length ≤ 1048576) {p s b : Int} (h : Cur p s b) (hb : b ≤ 4611686018427387904) (n : Int) (hn0 : 0 ≤ n) (hn : n ≤ 4611686018427387904) :
    ∃ x p' s', spec_l01Cur_size.f c p s n = some (x, p', s') ∧ 0 ≤ x ∧ x ≤ n ∧ Cur p' s' (b + 1) := by
  unfold spec_l01Cur_size.f
  have em : 0 ≤ mn n (wrap64 (1 + wrap64 ((c.length : Int) / 8))) ∧ mn n (wrap64 (1 + wrap64 ((c.length : Int) / 8))) ≤ n := by
    have e2 : wrap64 (1 + wrap64 ((c.length : Int) / 8)) = 1 + (c.length : Int) / 8 := by unfold wrap64; omega
    rw [e2]
    unfold mn
    split <;> omega
  generalize mn n (wrap64 (1 + wrap64 ((c.length : Int) / 8))) = m at em
  have e3 : wrap64 (m + 1) = m + 1 := wrap_id (by omega) (by omega)
  rw [e3]
  obtain ⟨x, p', s', e, hx0, hx1, hcur⟩ := pick_ok hc hl h hb (m + 1)
  exact ⟨x, p', s', by rw [e]; rfl, hx0, by have := hx1 (by omega); omega, hcur⟩
theorem wide_ok {c : List Int} (hc : Byt c) (hl : c.length ≤ 1048576) {p s b : Int} (h : Cur p s b) (hb : b ≤ 4611686018427387000) (n : Int) (hn : 1 ≤ n) :
    ∃ x p' s', spec_l01Cur_wide.f c p s n = some (x, p', s') ∧ 0 ≤ x ∧ x < n ∧ Cur p' s' (b + 3) := by
  unfold spec_l01Cur_wide.f
  obtain ⟨x1, p1, s1, e1, a1, b1, c1⟩ := pick_ok hc hl h (by omega) 256
  obtain ⟨x2, p2, s2, e2, a2, b2, c2⟩ := pick_ok hc hl c1 (by omega) 256
  obtain ⟨x3, p3, s3, e3, a3, b3, c3⟩ := pick_ok hc hl c2 (by omega) 256
  have b1 := b1 (by omega)
  have b2 := b2 (by omega)
  have b3 := b3 (by omega)
  have hp : 0 ≤ wrap64 (wrap64 (wrap64 (65536 * x1) + wrap64 (256 * x2)) + x3) := by unfold wrap64; omega
  have ht := tmod_range (n := n) hp (by omega)
  refine ⟨_, p3, s3, ?_, ht.1, ht.2, c3.le (by omega)⟩
  simp only [e1, e2, e3, Option.bind_some]
  rw [if_neg (by omega)]
theorem raw_ok {c : List Int} (hc : Byt c) (hl : c.length ≤ 1048576) {p s b : Int} (h : Cur p s b) (hb : b ≤ 4611686018427387000) :
    ∃ x p' s', spec_l01Cur_raw.f c p s = some (x, p', s') ∧ Cur p' s' (b + 2) := by
  unfold spec_l01Cur_raw.f
  obtain ⟨x1, p1, s1, e1, a1, b1, c1⟩ := pick_ok hc hl h (by omega) 8
  simp only [e1, Option.bind_some]
  by_cases h0 : x1 = 0
  · obtain ⟨x2, p2, s2, e2, a2, b2, c2⟩ := pick_ok hc hl c1 (by omega) 256
    simp only [if_pos h0, e2, Option.bind_some]
    exact ⟨_, _, _, rfl, c2.le (by omega)⟩
  · by_cases h1 : x1 = 1
    · obtain ⟨x2, p2, s2, e2, a2, b2, c2⟩ := pick_ok hc hl c1 (by omega) 8
      have b2 := b2 (by omega)
      simp only [if_neg h0, if_pos h1, e2, Option.bind_some, if_pos a2]
      rw [if_pos (by simp only [List.length_cons, List.length_nil]; omega)]
      exact ⟨_, _, _, rfl, c2.le (by omega)⟩
    · obtain ⟨x2, p2, s2, e2, a2, b2, c2⟩ := pick_ok hc hl c1 (by omega) 14
      simp only [if_neg h0, if_neg h1, e2, Option.bind_some]
      exact ⟨_, _, _, rfl, c2.le (by omega)⟩
theorem wordLoop_ok {c : List Int} (hc : Byt c) (hl : c.length ≤ 1048576) (n : Int) (hn : n ≤ 32) : ∀ (d : Nat) (x4 : List Int) (p s b : Int), (x4.length : Int) + d = n → Cur p s b → b + 2 * d ≤ 4611686018427387000 →
    ∃ w p' s', Ev (fun k => spec_l01Cur_word.l0 k n x4 c p s) (w, p', s') ∧ w.size ≤ 32 ∧ Cur p' s' (b + 2 * d) := by
  intro d
  induction d with
  | zero =>
    intro x4 p s b hd h hb
    refine ⟨strOfNums x4, p, s, Ev.step (fun k => rfl) ?_, by rw [strOfNums_size]; omega, h.le (by omega)⟩
    simp only [spec_l01Cur_word.l0, if_neg (show ¬ (x4.length : Int) < n by omega)]
    exact Ev.now _
  | succ d ih =>
    intro x4 p s b hd h hb
    obtain ⟨x1, p1, s1, e1, a1, b1, c1⟩ := pick_ok hc hl h (by omega) 3
    have b1 := b1 (by omega)
    obtain ⟨x2, p2, s2, e2, a2, b2, c2⟩ := pick_ok hc hl c1 (by omega) (rd [2, 3, 26] x1)
    obtain ⟨w, p', s', hw, hs, hcur⟩ := ih (x4 ++ [(wrap64 (97 + x2)) % 256]) p2 s2 (b + 1 + 1) (by rw [List.length_append]; simp only [List.length_cons, List.length_nil]; omega) c2 (by omega)
    refine ⟨w, p', s', Ev.step (fun k => rfl) ?_, hs, hcur.le (by omega)⟩
    simp only [spec_l01Cur_word.l0, if_pos (show (x4.length : Int) < n by omega), Option.bind_some, e1, if_pos a1, if_pos (show x1 < (([2, 3, 26] : List Int).length : Int) by simp only [List.length_cons, List.length_nil]; omega), e2, if_pos (show x4.length < 140737488355328 by omega)]
    exact hw
theorem word_ok {c : List Int} (hc : Byt c) (hl : c.length ≤ 1048576) {p s b : Int} (h : Cur p s b) (hb : b ≤ 4611686018427380000) :
    ∃ w p' s', Ev (fun k => spec_l01Cur_word.f k c p s) (w, p', s') ∧ w.size ≤ 32 ∧ Cur p' s' (b + 66) := by
  unfold spec_l01Cur_word.f
  obtain ⟨x1, p1, s1, e1, a1, b1, c1⟩ := pick_ok hc hl h (by omega) 4
  have b1 := b1 (by omega)
  have hr : 1 ≤ rd [3, 5, 8, 32] x1 ∧ rd [3, 5, 8, 32] x1 ≤ 32 := by
    have : x1 = 0 ∨ x1 = 1 ∨ x1 = 2 ∨ x1 = 3 := by omega
    rcases this with rfl | rfl | rfl | rfl <;> decide
  obtain ⟨x2, p2, s2, e2, a2, b2, c2⟩ := pick_ok hc hl c1 (by omega) (rd [3, 5, 8, 32] x1)
  have b2 := b2 hr.1
  have e3 : wrap64 (1 + x2) = 1 + x2 := wrap_id (by omega) (by omega)
  obtain ⟨w, p', s', hw, hs, hcur⟩ := wordLoop_ok hc hl (1 + x2) (by omega) (1 + x2).toNat [] p2 s2 (b + 1 + 1) (by simp only [List.length_nil]; omega) c2 (by omega)
  refine ⟨w, p', s', ?_, hs, hcur.le (by omega)⟩
  simp only [Option.bind_some, e1, if_pos a1, if_pos (show x1 < (([3, 5, 8, 32] : List Int).length : Int) by simp only [List.length_cons, List.length_nil]; omega), e2, e3]
  exact hw
theorem open_ok (c : List Int) : ∃ s, spec_l01Open.f c = some (c, 0, s) ∧ Cur 0 s 0 := ⟨_, rfl, by omega, by omega, by omega, by omega⟩
end Go.Proofs.Ytpkmhdeimedhgaa.L
namespace Go.Proofs.Ytpkmhdeimedhgaa.L
open Go.RowKit Go.Proofs.Ytpkmhdeimedhgaa.QB Go.Proofs.YtpkmhdeimedhgaaW.PrintWords Go.Proofs.YtpkmhdeimedhgaaW.PrintLast Go.Proofs.YtpkmhdeimedhgaaW.PrintMore
set_option linter.unusedVariables false
set_option linter.unusedSimpArgs false
theorem entry_ok {c : List Int} (hc : Byt c) (hl : c.length ≤ 1048576) {p s b : Int} (h : Cur p s b) (hb : b ≤ 4611686018427300000) :
    ∃ w x p' s', Ev (fun k => spec_l01Cur_entry.f k c p s) (w, x, p', s') ∧ w.size ≤ 32 ∧ Cur p' s' (b + 80) := by
  unfold spec_l01Cur_entry.f
  obtain ⟨w, p0, s0, e0, hw, c0⟩ := word_ok hc hl h (by omega)
  obtain ⟨x1, p1, s1, e1, a1, b1, c1⟩ := pick_ok hc hl c0 (by omega) 4
  obtain ⟨x2, p2, s2, e2, a2, b2, c2⟩ := wide_ok hc hl c1 (by omega) 65536 (by omega)
  obtain ⟨x3, p3, s3, e3, a3, b3, c3⟩ := pick_ok hc hl c2 (by omega) 3
  have b3 := b3 (by omega)
  refine ⟨w, rd [x1, x2, 65535] x3, p3, s3, Ev.bind e0 ?_, hw, c3.le (by omega)⟩
  simp only [e1, e2, e3, Option.bind_some, if_pos a3, if_pos (show x3 < (([x1, x2, 65535] : List Int).length : Int) by simp only [List.length_cons, List.length_nil]; omega)]
  exact Ev.now _
def Small (l : List Ent) : Prop := ∀ x, x ∈ l → x.f0.size ≤ 32
theorem small_add {l : List Ent} (h : Small l) {e : Ent} (he : e.f0.size ≤ 32) : Small (l ++ [e]) := by
  intro x hx
  rcases List.mem_append.1 hx with hx | hx
  · exact h x hx
  · rw [List.mem_singleton.1 hx]; exact he
theorem without_ok (a b c n : Int) (l : List Ent) (w : ByteArray) (hl : l.length ≤ 1000) (hs : Small l) :
    ∃ l', Ev (fun k => spec_l19Without.f k a b c n l w) (a, b, c, n, l') ∧ l'.length ≤ l.length ∧ Small l' := by
  unfold spec_l19Without.f
  have key : ∀ (d i : Nat) (acc : List Ent), i + d = l.length → acc.length ≤ i → Small acc → ∃ l', Ev (fun k => spec_l19Without.l0 k w (i : Int) a b c n l a b c n acc) (a, b, c, n, l') ∧ l'.length ≤ l.length ∧ Small l' := by
    intro d
    induction d with
    | zero =>
      intro i acc h ha hx
      refine ⟨acc, Ev.step (fun k => rfl) ?_, by omega, hx⟩
      simp only [spec_l19Without.l0, if_neg (show ¬ (i : Int) < (l.length : Int) by omega)]
      exact Ev.now _
    | succ d ih =>
      intro i acc h ha hx
      by_cases hq : (rd_T85 l (i : Int)).f0.toList = w.toList
      · obtain ⟨l', h1, h2, h3⟩ := ih (i + 1) acc (by omega) (by omega) hx
        refine ⟨l', Ev.step (fun k => rfl) ?_, h2, h3⟩
        simp only [spec_l19Without.l0, if_pos (show (i : Int) < (l.length : Int) by omega), if_pos (show (0 : Int) ≤ (i : Int) by omega), if_pos hq, wrap_nat_succ (show i < 9223372036854775807 by omega)]
        exact h1
      · obtain ⟨l', h1, h2, h3⟩ := ih (i + 1) (acc ++ [⟨(rd_T85 l (i : Int)).f0, (rd_T85 l (i : Int)).f1⟩]) (by omega) (by rw [List.length_append]; simp only [List.length_cons, List.length_nil]; omega) (small_add hx (rd_size hs i))
        refine ⟨l', Ev.step (fun k => rfl) ?_, h2, h3⟩
        simp only [spec_l19Without.l0, if_pos (show (i : Int) < (l.length : Int) by omega), if_pos (show (0 : Int) ≤ (i : Int) by omega), if_neg hq, wrap_nat_succ (show i < 9223372036854775807 by omega), if_pos (show acc.length < 5864062014805 by omega)]
        exact h1
  exact key l.length 0 [] (by omega) (by simp) (fun x hx => absurd hx List.not_mem_nil)
theorem with_ok (a b c n : Int) (l : List Ent) (w : ByteArray) (wt : Int) (hl : l.length ≤ 1000) (hs : Small l) (hw : w.size ≤ 32) :
    ∃ l', Ev (fun k => spec_l19With.f k a b c n l w wt) (a, b, c, n, l') ∧ l'.length ≤ l.length + 1 ∧ Small l' := by
  unfold spec_l19With.f
  obtain ⟨r, h1, h2, h3⟩ := without_ok a b c n l w hl hs
  have key : ∀ (d i : Nat) (inn : Bool) (acc : List Ent), i + d = r.length → acc.length ≤ i + (if inn then 1 else 0) → Small acc → ∃ l', Ev (fun k => spec_l19With.l0 k inn (i : Int) w wt a b c n r a b c n acc) (a, b, c, n, l') ∧ l'.length ≤ r.length + 1 ∧ Small l' := by
    intro d
    induction d with
    | zero =>
      intro i inn acc h ha hx
      cases inn with
      | true =>
        simp only [if_true] at ha
        refine ⟨acc, Ev.step (fun k => rfl) ?_, by omega, hx⟩
        simp only [spec_l19With.l0, if_neg (show ¬ (i : Int) < (r.length : Int) by omega), if_true]
        exact Ev.now _
      | false =>
        simp only [Bool.false_eq_true, if_false] at ha
        refine ⟨acc ++ [⟨w, wt⟩], Ev.step (fun k => rfl) ?_, by rw [List.length_append]; simp only [List.length_cons, List.length_nil]; omega, small_add hx hw⟩
        simp only [spec_l19With.l0, if_neg (show ¬ (i : Int) < (r.length : Int) by omega), Bool.false_eq_true, if_false, if_pos (show acc.length < 5864062014805 by omega)]
        exact Ev.now _
    | succ d ih =>
      intro i inn acc h ha hx
      have hrs := rd_size h3 i
      cases inn with
      | true =>
        simp only [if_true] at ha
        obtain ⟨l', g1, g2, g3⟩ := ih (i + 1) true (acc ++ [⟨(rd_T85 r (i : Int)).f0, (rd_T85 r (i : Int)).f1⟩]) (by omega) (by rw [List.length_append]; simp only [List.length_cons, List.length_nil, if_true]; omega) (small_add hx hrs)
        refine ⟨l', Ev.step (fun k => rfl) ?_, g2, g3⟩
        simp only [spec_l19With.l0, if_pos (show (i : Int) < (r.length : Int) by omega), if_pos (show (0 : Int) ≤ (i : Int) by omega), if_true, wrap_nat_succ (show i < 9223372036854775807 by omega), if_pos (show acc.length < 5864062014805 by omega)]
        exact g1
      | false =>
        simp only [Bool.false_eq_true, if_false] at ha
        have hcmp := wordCmp_ev w (rd_T85 r (i : Int)).f0 (by omega) (by omega)
        by_cases hq : cmpL w.data.toList (rd_T85 r (i : Int)).f0.data.toList < 0
        · obtain ⟨l', g1, g2, g3⟩ := ih (i + 1) true (acc ++ [⟨w, wt⟩] ++ [⟨(rd_T85 r (i : Int)).f0, (rd_T85 r (i : Int)).f1⟩]) (by omega) (by rw [List.length_append, List.length_append]; simp only [List.length_cons, List.length_nil, if_true]; omega) (small_add (small_add hx hw) hrs)
          refine ⟨l', Ev.step (fun k => rfl) ?_, g2, g3⟩
          have e2 : (acc ++ [(⟨w, wt⟩ : Ent)]).length < 5864062014805 := by rw [List.length_append]; simp only [List.length_cons, List.length_nil]; omega
          simp only [spec_l19With.l0, if_pos (show (i : Int) < (r.length : Int) by omega), if_pos (show (0 : Int) ≤ (i : Int) by omega), Bool.false_eq_true, if_false, wrap_nat_succ (show i < 9223372036854775807 by omega), if_pos (show acc.length < 5864062014805 by omega), Option.bind_some, if_pos e2]
          refine Ev.bind hcmp ?_
          simp only [ByteArray.toList_eq, if_pos hq]
          exact g1
        · obtain ⟨l', g1, g2, g3⟩ := ih (i + 1) false (acc ++ [⟨(rd_T85 r (i : Int)).f0, (rd_T85 r (i : Int)).f1⟩]) (by omega) (by rw [List.length_append]; simp only [List.length_cons, List.length_nil, Bool.false_eq_true, if_false]; omega) (small_add hx hrs)
          refine ⟨l', Ev.step (fun k => rfl) ?_, g2, g3⟩
          simp only [spec_l19With.l0, if_pos (show (i : Int) < (r.length : Int) by omega), if_pos (show (0 : Int) ≤ (i : Int) by omega), Bool.false_eq_true, if_false, wrap_nat_succ (show i < 9223372036854775807 by omega), if_pos (show acc.length < 5864062014805 by omega), Option.bind_some]
          refine Ev.bind hcmp ?_
          simp only [ByteArray.toList_eq, if_neg hq]
          exact g1
  obtain ⟨l', g1, g2, g3⟩ := key r.length 0 false [] (by omega) (by simp) (fun x hx => absurd hx List.not_mem_nil)
  exact ⟨l', Ev.bind h1 g1, by omega, g3⟩
theorem entries_ok {c : List Int} (hc : Byt c) (hl : c.length ≤ 1048576) {p s b : Int} (h : Cur p s b) (hb : b ≤ 1000000000000) (n : Int) (hn0 : 0 ≤ n) (hn : n ≤ 900) :
    ∃ l p' s', Ev (fun k => spec_l01Cur_entries.f k c p s n) (l, p', s') ∧ (l.length : Int) ≤ n ∧ Small l ∧ Cur p' s' (b + 100000) := by
  unfold spec_l01Cur_entries.f
  obtain ⟨x, p0, s0, e0, a0, b0, c0⟩ := size_ok hc hl h (by omega) n hn0 (by omega)
  have key : ∀ (d : Nat) (p s b : Int) (l : List Ent), Cur p s b → b ≤ 4611686018427200000 - 80 * (d : Int) → l.length + d ≤ 900 → Small l → ∃ l' p' s', Ev (fun k => spec_l01Cur_entries.l0 k (d : Int) c p s 0 0 0 64 l) (l', p', s') ∧ l'.length ≤ l.length + d ∧ Small l' ∧ Cur p' s' (b + 80 * d) := by
    intro d
    induction d with
    | zero =>
      intro p s b l h hb hl hs
      refine ⟨l, p, s, Ev.step (fun k => rfl) ?_, by omega, hs, h.le (by omega)⟩
      simp only [spec_l01Cur_entries.l0, if_neg (show ¬ ((0 : Nat) : Int) > 0 by omega)]
      exact Ev.now _
    | succ d ih =>
      intro p s b l h hb hl' hs
      obtain ⟨w, wt, p1, s1, h1, hw, c1⟩ := entry_ok hc hl h (by omega)
      obtain ⟨l1, h2, k2, k3⟩ := with_ok 0 0 0 64 l w wt (by omega) hs hw
      obtain ⟨l', p', s', g1, g2, g3, g4⟩ := ih p1 s1 (b + 80) l1 c1 (by omega) (by omega) k3
      refine ⟨l', p', s', Ev.step (fun k => rfl) ?_, by omega, g3, g4.le (by omega)⟩
      have e : wrap64 (((d + 1 : Nat) : Int) - 1) = (d : Int) := by rw [wrap_id (by omega) (by omega)]; omega
      simp only [spec_l01Cur_entries.l0, if_pos (show ((d + 1 : Nat) : Int) > 0 by omega), e]
      exact Ev.bind h1 (Ev.bind h2 g1)
  obtain ⟨l', p', s', g1, g2, g3, g4⟩ := key x.toNat p0 s0 (b + 1) [] c0 (by omega) (by simp only [List.length_nil]; omega) (fun x hx => absurd hx List.not_mem_nil)
  rw [Int.toNat_of_nonneg a0] at g1
  refine ⟨l', p', s', ?_, by simp only [List.length_nil] at g2; omega, g3, g4.le (by omega)⟩
  simp only [e0, Option.bind_some]
  exact g1
theorem small_set {l : List Ent} (h : Small l) (i : Nat) {e : Ent} (he : e.f0.size ≤ 32) : Small (l.set i e) := by
  intro x hx
  rcases List.mem_or_eq_of_mem_set hx with hx | rfl
  · exact h x hx
  · exact he
end Go.Proofs.Ytpkmhdeimedhgaa.L
namespace Go.Proofs.Ytpkmhdeimedhgaa.L
open Go.RowKit Go.Proofs.Ytpkmhdeimedhgaa.QB Go.Proofs.YtpkmhdeimedhgaaW.PrintWords Go.Proofs.YtpkmhdeimedhgaaW.PrintLast Go.Proofs.YtpkmhdeimedhgaaW.PrintMore
set_option linter.unusedVariables false
set_option linter.unusedSimpArgs false
theorem drawExportOf_ok {c : List Int} (hc : Byt c) (hl : c.length ≤ 1048576) : ∃ l n, Ev (fun k => spec_DrawExportOf.f k c) (l, n) ∧ l.length ≤ 11 ∧ Small l := by
  obtain ⟨s, e, c0⟩ := open_ok c
  obtain ⟨l, p1, s1, h1, k1, k2, c1⟩ := entries_ok hc hl c0 (by omega) 10 (by omega) (by omega)
  obtain ⟨x2, p2, s2, e2, a2, b2, c2⟩ := pick_ok hc hl c1 (by omega) 4
  obtain ⟨x3, p3, s3, e3, a3, b3, c3⟩ := pick_ok hc hl c2 (by omega) 9
  unfold spec_DrawExportOf.f
  by_cases h0 : x3 = 0
  · obtain ⟨w, wt, p4, s4, h4, hw, c4⟩ := entry_ok hc hl c3 (by omega)
    refine ⟨l ++ [⟨w, wt⟩], wrap64 ((l.length : Int) + x2), ?_, by rw [List.length_append]; simp only [List.length_cons, List.length_nil]; omega, small_add k2 hw⟩
    refine Ev.bind (evConst e) (Ev.bind h1 (Ev.bind (evConst e2) (Ev.bind (evConst e3) ?_)))
    simp only [if_pos h0]
    refine Ev.bind h4 ?_
    simp only [if_pos (show l.length < 5864062014805 by omega)]
    exact Ev.now _
  · by_cases h1' : x3 = 1
    · obtain ⟨x4, p4, s4, e4, c4⟩ := raw_ok hc hl c3 (by omega)
      obtain ⟨x5, p5, s5, e5, a5, b5, c5⟩ := pick_ok hc hl c4 (by omega) 4
      have b5 := b5 (by omega)
      refine ⟨l, rd [x4, 64, 65, wrap64 ((l.length : Int) - 1)] x5, ?_, by omega, k2⟩
      refine Ev.bind (evConst e) (Ev.bind h1 (Ev.bind (evConst e2) (Ev.bind (evConst e3) ?_)))
      simp only [if_neg h0, if_pos h1']
      refine Ev.bind (evConst e4) (Ev.bind (evConst rfl) (Ev.bind (evConst e5) ?_))
      simp only [if_pos a5, if_pos (show x5 < (([x4, 64, 65, wrap64 ((l.length : Int) - 1)] : List Int).length : Int) by simp only [List.length_cons, List.length_nil]; omega)]
      exact Ev.now _
    · by_cases h2' : x3 = 2
      · by_cases hz : (l.length : Int) > 0
        · obtain ⟨x4, p4, s4, e4, a4, b4, c4⟩ := pick_ok hc hl c3 (by omega) (l.length : Int)
          have b4 := b4 (by omega)
          obtain ⟨x5, p5, s5, e5, c5⟩ := raw_ok hc hl c4 (by omega)
          refine ⟨l.set x4.toNat ⟨(rd_T85 l x4).f0, x5⟩, wrap64 ((l.length : Int) + x2), ?_, by rw [List.length_set]; omega, small_set k2 _ (by have := rd_size k2 x4.toNat; rwa [Int.toNat_of_nonneg a4] at this)⟩
          refine Ev.bind (evConst e) (Ev.bind h1 (Ev.bind (evConst e2) (Ev.bind (evConst e3) ?_)))
          simp only [if_neg h0, if_neg h1', if_pos h2', if_pos hz]
          refine Ev.bind (evConst e4) (Ev.bind (evConst e5) ?_)
          simp only [if_pos a4, if_pos b4]
          exact Ev.now _
        · refine ⟨l, wrap64 ((l.length : Int) + x2), ?_, by omega, k2⟩
          refine Ev.bind (evConst e) (Ev.bind h1 (Ev.bind (evConst e2) (Ev.bind (evConst e3) ?_)))
          simp only [if_neg h0, if_neg h1', if_pos h2', if_neg hz]
          exact Ev.now _
      · refine ⟨l, wrap64 ((l.length : Int) + x2), ?_, by omega, k2⟩
        refine Ev.bind (evConst e) (Ev.bind h1 (Ev.bind (evConst e2) (Ev.bind (evConst e3) ?_)))
        simp only [if_neg h0, if_neg h1', if_neg h2']
        exact Ev.now _
end Go.Proofs.Ytpkmhdeimedhgaa.L
namespace Go.Proofs.Ytpkmhdeimedhgaa.Pure
open Go.RowKit Go.Proofs.Ytpkmhdeimedhgaa.QB Go.Proofs.YtpkmhdeimedhgaaW.PrintWords Go.Proofs.YtpkmhdeimedhgaaW.PrintLast Go.Proofs.Ytpkmhdeimedhgaa.L
set_option linter.unusedVariables false
set_option linter.unusedSimpArgs false
theorem inK_byteB {z : Int} (h : Open.InK .u8 z) : 0 ≤ z ∧ z ≤ 255 := by
  have h' : (Lit.int .u8 z).wf = true := h
  have e1 : IntKind.u8.min = 0 := by decide
  have e2 : IntKind.u8.max = 255 := by decide
  simp only [Lit.wf, e1, e2, Bool.and_eq_true, decide_eq_true_eq] at h'
  exact h'
theorem sameEntries_ev (l : List Ent) (hl : l.length ≤ 1048576) : Ev (fun k => laws_sameEntries.f k l l) true := by
  unfold laws_sameEntries.f
  simp only [if_true]
  have key : ∀ d i, i + d = l.length → Ev (fun k => laws_sameEntries.l0 k l l (i : Int)) true := by
    intro d
    induction d with
    | zero =>
      intro i h
      refine Ev.step (fun k => rfl) ?_
      simp only [laws_sameEntries.l0, if_neg (show ¬ (i : Int) < (l.length : Int) by omega)]
      exact Ev.now _
    | succ d ih =>
      intro i h
      refine Ev.step (fun k => rfl) ?_
      simp only [laws_sameEntries.l0, if_pos (show (i : Int) < (l.length : Int) by omega), if_pos (show (0 : Int) ≤ (i : Int) by omega), beq_self_eq_true, Bool.not_true, Bool.or_self, Bool.false_eq_true, if_false, wrap_nat_succ (show i < 9223372036854775807 by omega)]
      exact ih (i + 1) (by omega)
  exact key l.length 0 (by omega)
theorem FnExportBack : laws_FnExportBack.Pure := by
  rintro c ⟨hl, hx⟩
  apply Ev.rounds
  unfold laws_FnExportBack.f laws_big.f
  have hby : Byt c := fun x hm => inK_byteB (hx x hm)
  by_cases hb : (c.length : Int) > 1048576
  · refine Ev.bind (evConst rfl) ?_
    simp only [hb, decide_true, if_true]
    exact Ev.now _
  refine Ev.bind (evConst rfl) ?_
  simp only [hb, decide_false, Bool.false_eq_true, if_false]
  obtain ⟨l, n, h1, k1, k2⟩ := drawExportOf_ok hby (by omega)
  have hs : ∀ x, x ∈ l → x.f0.size ≤ 1048576 := fun x hm => by have := k2 x hm; omega
  refine Ev.bind h1 (Ev.bind (specExportOf_ev l n (by omega) hs) (Ev.bind (implExportOf_ev l n (by omega) hs) ?_))
  by_cases hz : (exportR l n).length = 0
  · simp only [if_pos (show ((exportR l n).length : Int) = 0 by omega)]
    refine Ev.step (fun k => rfl) ?_
    simp only [laws_FnExportBack.j0, if_true, beq_self_eq_true]
    exact Ev.now _
  · simp only [if_neg (show ¬ ((exportR l n).length : Int) = 0 by omega), bne_self_eq_false]
    have hc : (decide (1 ≤ n ∧ n ≤ 64) && exportedB l n) = true := by
      cases h : (decide (1 ≤ n ∧ n ≤ 64) && exportedB l n) with
      | true => rfl
      | false => exact absurd (by unfold exportR; rw [h]; rfl) hz
    have hR : exportR l n = exportL l n := by unfold exportR; rw [hc, if_pos rfl]
    rw [Bool.and_eq_true, decide_eq_true_eq] at hc
    obtain ⟨hn, he⟩ := hc
    have h3 : (l.length : Int) ≤ n := by
      have h4 := he
      unfold exportedB at h4
      rw [Bool.and_eq_true, decide_eq_true_eq] at h4
      exact h4.2
    have hlen := exportL_length l n h3
    have hnn : ((n.toNat : Nat) : Int) = n := by omega
    have hread := readR_export l n.toNat (by omega) (by rw [hnn]; exact he)
    rw [hnn] at hread
    have hw : wrap64 (n * 35) = n * 35 := wrap_id (by omega) (by omega)
    rw [hR]
    refine Ev.step (fun k => rfl) ?_
    simp only [laws_FnExportBack.j0, Bool.false_eq_true, if_false]
    have hbo : laws_bytesOf.f (exportL l n) = some (exportL l n) := by
      unfold laws_bytesOf.f
      simp only [Option.bind_some, List.length_nil, List.nil_append]
      rw [if_pos (by omega)]
    refine Ev.bind (evConst hbo) ?_
    have hi := implRead_ev (exportL l n) (exportL_byt l n) (by omega)
    rw [hread] at hi
    refine Ev.bind hi ?_
    simp only [if_true, hw, if_pos (show ((exportL l n).length : Int) = n * 35 by omega)]
    exact Ev.bind (sameEntries_ev l (by omega)) (Ev.now _)
end Go.Proofs.Ytpkmhdeimedhgaa.Pure
