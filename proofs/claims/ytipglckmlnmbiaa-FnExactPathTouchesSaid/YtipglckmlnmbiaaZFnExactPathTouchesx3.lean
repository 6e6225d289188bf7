/- Part of the proof of the law FnExactPathTouches: what it uses of the texts that this session and the kit's print wrote. -/
import Derived.Test.YtipglckmlnmbiaaZFnExactPathTouchesx0
import Derived.Test.YtipglckmlnmbiaaZFnExactPathTouchesx1
import Derived.Test.YtipglckmlnmbiaaZFnExactPathTouchesx2
import Derived.Deep.Slices
import Derived.WideShapes
import Derived.ProofKit
import Derived.KernelRfl
namespace Go.Proofs.Ytipglckmlnmbiaa.QA
open Go.RowKit Go.Proofs.YtipglckmlnmbiaaW.PrintWords Go.Proofs.YtipglckmlnmbiaaW.PrintLast Go.Proofs.YtipglckmlnmbiaaW.PrintMore
attribute [local go_sem] max2_int min2_int max_two min_two max_three min_three max_four min_four
set_option linter.unusedVariables false
set_option linter.unusedSimpArgs false
def laws_FnExactPathTouches.j0 : Nat → Int → Int → List Int → List (S35) → List (S35) → Bool → Option (Bool)
  | 0, _, _, _, _, _, _ => none
  | k + 1, x0, x1, x2, x7, x9, x47 => if x47 = true then (some false) else ((laws_markTouchS.f k x9 1).bind fun bt178 => ((laws_heldTouchS.f k bt178.2 1).bind fun t180 => (if t180 < 0 then (some false) else (if t180 = bt178.1 then ((laws_toIntS.f k x2).bind fun t181 => ((impl_PathTouches.f k x0 x1 t181).bind fun t184 => ((laws_eqTouchS.f k t184 x7).bind fun t187 => (if t187 = true then ((laws_heldTouchS.f k bt178.2 1).bind fun t188 => (if t188 < 0 then (some false) else (if t188 = bt178.1 then (some true) else (some false)))) else (some false))))) else (some false)))))
def laws_FnExactPathTouches.f (k : Nat) (a0 : Int) (a1 : Int) (l2 : List Int) : Option (Bool) := if (l2.length : Int) > 1048576 then (some true) else ((laws_toIntS.f k l2).bind fun t158 => ((spec_PathTouches.f k a0 a1 t158).bind fun t161 => ((laws_toIntS.f k l2).bind fun t164 => ((impl_PathTouches.f k a0 a1 t164).bind fun t167 => ((laws_eqTouchS.f k t167 t161).bind fun t170 => (if t170 = true then ((laws_toIntS.f k l2).bind fun t171 => ((laws_eqIntS.f k t164 t171).bind fun t174 => (if t174 = true then ((laws_markIntS.f k t164 1).bind fun bt175 => (if bt175.1 < 0 then (laws_FnExactPathTouches.j0 k a0 a1 l2 t161 t167 true) else ((laws_eqTouchS.f k t167 t161).bind fun t177 => (laws_FnExactPathTouches.j0 k a0 a1 l2 t161 t167 (!t177))))) else (some false)))) else (some false)))))))
set_option maxHeartbeats 8000000 in
set_option maxRecDepth 100000 in
theorem laws_FnExactPathTouches.calls (k : Nat) (a0 : Int) (a1 : Int) (A2 : Option Addr) (c2 : Nat) (l2 : List Int) (r : Bool) (w : World) (hr2 : Kd.C (Kd.int .i64) w A2 l2.length l2) (hc2 : l2.length ≤ c2) (h : laws_FnExactPathTouches.f k a0 a1 l2 = some r) :
    Calls Try.prog 3 #[.int .i64 a0, .int .i64 a1, .slice A2 l2.length c2] w fun e w' => e = .returned (.bool r) ∧ Below w.heap.size w w' := by
  have HR2 := Aside0.mk hr2
  have HC2 := Aside0.mk hc2
  clear hr2 hc2
  have HB := Aside0.mk (Below.refl w.heap.size w)
  have H : (if (l2.length : Int) > 1048576 then (some true) else ((laws_toIntS.f k l2).bind fun t158 => ((spec_PathTouches.f k a0 a1 t158).bind fun t161 => ((laws_toIntS.f k l2).bind fun t164 => ((impl_PathTouches.f k a0 a1 t164).bind fun t167 => ((laws_eqTouchS.f k t167 t161).bind fun t170 => (if t170 = true then ((laws_toIntS.f k l2).bind fun t171 => ((laws_eqIntS.f k t164 t171).bind fun t174 => (if t174 = true then ((laws_markIntS.f k t164 1).bind fun bt175 => (if bt175.1 < 0 then (laws_FnExactPathTouches.j0 k a0 a1 l2 t161 t167 true) else ((laws_eqTouchS.f k t167 t161).bind fun t177 => (laws_FnExactPathTouches.j0 k a0 a1 l2 t161 t167 (!t177))))) else (some false)))) else (some false)))))))) = some r := h
  clear h
  by_cases c4 : (l2.length : Int) > 1048576
  · rw [if_pos c4] at H
    have c4b0 : decide (1048576 < (l2.length : Int)) = true := decide_eq_true c4
    have c4b1 : decide (1048576 < l2.length) = true := decide_eq_true (by omega)
    clear c4
    obtain rfl := Option.some.inj H
    go_enter Try.func3, Try.ntmps3
    go_wp2
    go_ret
    exact ⟨by first | rfl | (simp [errW_none, errW_some] <;> rfl) | (simp [*, errW_none, errW_some] <;> rfl), by repeat (first | (with_reducible first | exact HB.out | apply below_alloc | apply pw_below_drewN | apply below_drew1) | exact HB.out)⟩
  · rw [if_neg c4] at H
    have c4b0 : decide (1048576 < (l2.length : Int)) = false := decide_eq_false c4
    have c4b1 : decide (1048576 < l2.length) = false := decide_eq_false (by omega)
    clear c4
    replace H := Option.bind_eq_some_iff.mp H
    obtain ⟨t158, A50, H⟩ := H
    replace H : ((spec_PathTouches.f k a0 a1 t158).bind fun t161 => ((laws_toIntS.f k l2).bind fun t164 => ((impl_PathTouches.f k a0 a1 t164).bind fun t167 => ((laws_eqTouchS.f k t167 t161).bind fun t170 => (if t170 = true then ((laws_toIntS.f k l2).bind fun t171 => ((laws_eqIntS.f k t164 t171).bind fun t174 => (if t174 = true then ((laws_markIntS.f k t164 1).bind fun bt175 => (if bt175.1 < 0 then (laws_FnExactPathTouches.j0 k a0 a1 l2 t161 t167 true) else ((laws_eqTouchS.f k t167 t161).bind fun t177 => (laws_FnExactPathTouches.j0 k a0 a1 l2 t161 t167 (!t177))))) else (some false)))) else (some false)))))) = some r := H
    have A5 := Aside0.mk A50
    clear A50
    replace H := Option.bind_eq_some_iff.mp H
    obtain ⟨t161, A60, H⟩ := H
    replace H : ((laws_toIntS.f k l2).bind fun t164 => ((impl_PathTouches.f k a0 a1 t164).bind fun t167 => ((laws_eqTouchS.f k t167 t161).bind fun t170 => (if t170 = true then ((laws_toIntS.f k l2).bind fun t171 => ((laws_eqIntS.f k t164 t171).bind fun t174 => (if t174 = true then ((laws_markIntS.f k t164 1).bind fun bt175 => (if bt175.1 < 0 then (laws_FnExactPathTouches.j0 k a0 a1 l2 t161 t167 true) else ((laws_eqTouchS.f k t167 t161).bind fun t177 => (laws_FnExactPathTouches.j0 k a0 a1 l2 t161 t167 (!t177))))) else (some false)))) else (some false))))) = some r := H
    have A6 := Aside0.mk A60
    clear A60
    replace H := Option.bind_eq_some_iff.mp H
    obtain ⟨t164, A70, H⟩ := H
    replace H : ((impl_PathTouches.f k a0 a1 t164).bind fun t167 => ((laws_eqTouchS.f k t167 t161).bind fun t170 => (if t170 = true then ((laws_toIntS.f k l2).bind fun t171 => ((laws_eqIntS.f k t164 t171).bind fun t174 => (if t174 = true then ((laws_markIntS.f k t164 1).bind fun bt175 => (if bt175.1 < 0 then (laws_FnExactPathTouches.j0 k a0 a1 l2 t161 t167 true) else ((laws_eqTouchS.f k t167 t161).bind fun t177 => (laws_FnExactPathTouches.j0 k a0 a1 l2 t161 t167 (!t177))))) else (some false)))) else (some false)))) = some r := H
    have A7 := Aside0.mk A70
    clear A70
    replace H := Option.bind_eq_some_iff.mp H
    obtain ⟨t167, A80, H⟩ := H
    replace H : ((laws_eqTouchS.f k t167 t161).bind fun t170 => (if t170 = true then ((laws_toIntS.f k l2).bind fun t171 => ((laws_eqIntS.f k t164 t171).bind fun t174 => (if t174 = true then ((laws_markIntS.f k t164 1).bind fun bt175 => (if bt175.1 < 0 then (laws_FnExactPathTouches.j0 k a0 a1 l2 t161 t167 true) else ((laws_eqTouchS.f k t167 t161).bind fun t177 => (laws_FnExactPathTouches.j0 k a0 a1 l2 t161 t167 (!t177))))) else (some false)))) else (some false))) = some r := H
    have A8 := Aside0.mk A80
    clear A80
    replace H := Option.bind_eq_some_iff.mp H
    obtain ⟨t170, A90, H⟩ := H
    replace H : (if t170 = true then ((laws_toIntS.f k l2).bind fun t171 => ((laws_eqIntS.f k t164 t171).bind fun t174 => (if t174 = true then ((laws_markIntS.f k t164 1).bind fun bt175 => (if bt175.1 < 0 then (laws_FnExactPathTouches.j0 k a0 a1 l2 t161 t167 true) else ((laws_eqTouchS.f k t167 t161).bind fun t177 => (laws_FnExactPathTouches.j0 k a0 a1 l2 t161 t167 (!t177))))) else (some false)))) else (some false)) = some r := H
    have A9 := Aside0.mk A90
    clear A90
    by_cases c10 : t170 = true
    · subst c10
      have H1 : ((laws_toIntS.f k l2).bind fun t171 => ((laws_eqIntS.f k t164 t171).bind fun t174 => (if t174 = true then ((laws_markIntS.f k t164 1).bind fun bt175 => (if bt175.1 < 0 then (laws_FnExactPathTouches.j0 k a0 a1 l2 t161 t167 true) else ((laws_eqTouchS.f k t167 t161).bind fun t177 => (laws_FnExactPathTouches.j0 k a0 a1 l2 t161 t167 (!t177))))) else (some false)))) = some r := by rw [if_pos rfl] at H; exact H
      clear H
      have H := H1
      clear H1
      replace H := Option.bind_eq_some_iff.mp H
      obtain ⟨t171, A110, H⟩ := H
      replace H : ((laws_eqIntS.f k t164 t171).bind fun t174 => (if t174 = true then ((laws_markIntS.f k t164 1).bind fun bt175 => (if bt175.1 < 0 then (laws_FnExactPathTouches.j0 k a0 a1 l2 t161 t167 true) else ((laws_eqTouchS.f k t167 t161).bind fun t177 => (laws_FnExactPathTouches.j0 k a0 a1 l2 t161 t167 (!t177))))) else (some false))) = some r := H
      have A11 := Aside0.mk A110
      clear A110
      replace H := Option.bind_eq_some_iff.mp H
      obtain ⟨t174, A120, H⟩ := H
      replace H : (if t174 = true then ((laws_markIntS.f k t164 1).bind fun bt175 => (if bt175.1 < 0 then (laws_FnExactPathTouches.j0 k a0 a1 l2 t161 t167 true) else ((laws_eqTouchS.f k t167 t161).bind fun t177 => (laws_FnExactPathTouches.j0 k a0 a1 l2 t161 t167 (!t177))))) else (some false)) = some r := H
      have A12 := Aside0.mk A120
      clear A120
      by_cases c13 : t174 = true
      · subst c13
        have H1 : ((laws_markIntS.f k t164 1).bind fun bt175 => (if bt175.1 < 0 then (laws_FnExactPathTouches.j0 k a0 a1 l2 t161 t167 true) else ((laws_eqTouchS.f k t167 t161).bind fun t177 => (laws_FnExactPathTouches.j0 k a0 a1 l2 t161 t167 (!t177))))) = some r := by rw [if_pos rfl] at H; exact H
        clear H
        have H := H1
        clear H1
        replace H := Option.bind_eq_some_iff.mp H
        obtain ⟨⟨t175, t176⟩, A140, H⟩ := H
        replace H : (if t175 < 0 then (laws_FnExactPathTouches.j0 k a0 a1 l2 t161 t167 true) else ((laws_eqTouchS.f k t167 t161).bind fun t177 => (laws_FnExactPathTouches.j0 k a0 a1 l2 t161 t167 (!t177)))) = some r := H
        have A14 := Aside0.mk A140
        clear A140
        have HC15 := Aside0.mk H
        clear H
        go_enter Try.func3, Try.ntmps3
        go_upto_region 12 with (first | ((with_reducible refine gate_callee (f := 5) rfl ?_); refine goesL_ (some 20) rfl rfl Try.func5 (by kernel_rfl) rfl #[.slice A2 l2.length c2] rfl (by (try simp only [List.map_toArray, List.map_cons, List.map_nil]); first | done | rfl | (simp only [List.length_drop, List.length_take]; rfl)) ?_; (with_reducible refine (laws_toIntS.calls k _ _ l2 t158 _ ?side1 ?side2 A5.out).mono ?_); (case side1 => repeat (first | exact HR2.out | (with_reducible refine Kd.C_alloc ?_ _) | (with_reducible refine Kd.C_drewN ?_ _) | (with_reducible refine Kd.C_drew ?_))); (case side2 => exact HC2.out); rintro e w16 ⟨v159, rfl, ho0, hb⟩; refine ⟨_, rfl, ?_⟩; have n0_ := Aside0.mk (Kd.R_lower ho0 (below_size (by repeat (first | (with_reducible first | exact HB.out | apply below_alloc | apply pw_below_drewN | apply below_drew1) | exact HB.out)))); have n1_ := Aside0.mk (below_step (by repeat (first | (with_reducible first | exact HB.out | apply below_alloc | apply pw_below_drewN | apply below_drew1) | exact HB.out)) hb); clear HB; have HO160 := n0_; have HB := n1_; clear n0_ n1_; (try clear hb); (try clear hb2); (try clear hk); (try clear hi); (try clear ho0); obtain ⟨Ao17, co17, eo17⟩ := Kd.R_slice HO160.out; subst eo17) | ((with_reducible refine gate_callee (f := 4) rfl ?_); refine goesL_ (some 21) rfl rfl Try.func4 (by kernel_rfl) rfl #[.int .i64 a0, .int .i64 a1, .slice Ao17 t158.length co17] rfl (by (try simp only [List.map_toArray, List.map_cons, List.map_nil]); first | done | rfl | (simp only [List.length_drop, List.length_take]; rfl)) ?_; (with_reducible refine (spec_PathTouches.calls k a0 a1 _ _ t158 t161 _ ?side1 ?side2 A6.out).mono ?_); (case side1 => repeat (first | exact (Kd.R_reads' HO160.out).2.2 | (with_reducible refine Kd.C_alloc ?_ _) | (with_reducible refine Kd.C_drewN ?_ _) | (with_reducible refine Kd.C_drew ?_))); (case side2 => exact (Kd.R_reads' HO160.out).2.1); rintro e w18 ⟨v162, rfl, ho0, hb⟩; refine ⟨_, rfl, ?_⟩; have n0_ := Aside0.mk (Kd.R_below (by (with_reducible repeat (first | apply Kd.R_alloc | apply Kd.R_drewN | apply Kd.R_drew)); exact HO160.out) hb); have n1_ := Aside0.mk (Kd.R_lower ho0 (below_size (by repeat (first | (with_reducible first | exact HB.out | apply below_alloc | apply pw_below_drewN | apply below_drew1) | exact HB.out)))); have n2_ := Aside0.mk (below_step (by repeat (first | (with_reducible first | exact HB.out | apply below_alloc | apply pw_below_drewN | apply below_drew1) | exact HB.out)) hb); clear HO160; clear HB; have HO160 := n0_; have HO163 := n1_; have HB := n2_; clear n0_ n1_ n2_; (try clear hb); (try clear hb2); (try clear hk); (try clear hi); (try clear ho0)) | ((with_reducible refine gate_callee (f := 5) rfl ?_); refine goesL_ (some 23) rfl rfl Try.func5 (by kernel_rfl) rfl #[.slice A2 l2.length c2] rfl (by (try simp only [List.map_toArray, List.map_cons, List.map_nil]); first | done | rfl | (simp only [List.length_drop, List.length_take]; rfl)) ?_; (with_reducible refine (laws_toIntS.calls k _ _ l2 t164 _ ?side1 ?side2 A7.out).mono ?_); (case side1 => repeat (first | exact (Kd.C_below HR2.out HB.out) | (with_reducible refine Kd.C_alloc ?_ _) | (with_reducible refine Kd.C_drewN ?_ _) | (with_reducible refine Kd.C_drew ?_))); (case side2 => exact HC2.out); rintro e w19 ⟨v165, rfl, ho0, hb⟩; refine ⟨_, rfl, ?_⟩; have n0_ := Aside0.mk (Kd.R_elder' (by (with_reducible repeat (first | apply Kd.R_alloc | apply Kd.R_drewN | apply Kd.R_drew)); exact HO160.out) (Kd.R_base ho0) hb); have n1_ := Aside0.mk (Kd.R_below (by (with_reducible repeat (first | apply Kd.R_alloc | apply Kd.R_drewN | apply Kd.R_drew)); exact HO163.out) hb); have n2_ := Aside0.mk (Kd.R_lower (Kd.R_new' ho0 (Kd.R_lt (by (with_reducible repeat (first | apply Kd.R_alloc | apply Kd.R_drewN | apply Kd.R_drew)); exact HO160.out))) (below_size (by repeat (first | (with_reducible first | exact HB.out | apply below_alloc | apply pw_below_drewN | apply below_drew1) | exact HB.out)))); have n3_ := Aside0.mk (below_step (by repeat (first | (with_reducible first | exact HB.out | apply below_alloc | apply pw_below_drewN | apply below_drew1) | exact HB.out)) hb); clear HO160; clear HO163; clear HB; have HO160 := n0_; have HO163 := n1_; have HO166 := n2_; have HB := n3_; clear n0_ n1_ n2_ n3_; (try clear hb); (try clear hb2); (try clear hk); (try clear hi); (try clear ho0); obtain ⟨Ao20, co20, eo20⟩ := Kd.R_slice HO166.out; subst eo20) | ((with_reducible refine gate_callee (f := 6) rfl ?_); refine goesL_ (some 27) rfl rfl Try.func6 (by kernel_rfl) rfl #[.int .i64 a0, .int .i64 a1, .slice Ao20 t164.length co20] rfl (by (try simp only [List.map_toArray, List.map_cons, List.map_nil]); first | done | rfl | (simp only [List.length_drop, List.length_take]; rfl)) ?_; (with_reducible refine (impl_PathTouches.calls k a0 a1 _ _ t164 t167 _ ?side1 ?side2 A8.out).mono ?_); (case side1 => repeat (first | exact (Kd.R_reads' HO166.out).2.2 | (with_reducible refine Kd.C_alloc ?_ _) | (with_reducible refine Kd.C_drewN ?_ _) | (with_reducible refine Kd.C_drew ?_))); (case side2 => exact (Kd.R_reads' HO166.out).2.1); rintro e w21 ⟨v168, rfl, ho0, hb⟩; refine ⟨_, rfl, ?_⟩; have n0_ := Aside0.mk (Kd.R_below (by (with_reducible repeat (first | apply Kd.R_alloc | apply Kd.R_drewN | apply Kd.R_drew)); exact HO160.out) hb); have n1_ := Aside0.mk (Kd.R_elder' (by (with_reducible repeat (first | apply Kd.R_alloc | apply Kd.R_drewN | apply Kd.R_drew)); exact HO163.out) (Kd.R_base ho0) hb); have n2_ := Aside0.mk (Kd.R_below (by (with_reducible repeat (first | apply Kd.R_alloc | apply Kd.R_drewN | apply Kd.R_drew)); exact HO166.out) hb); have n3_ := Aside0.mk (Kd.R_lower (Kd.R_new' ho0 (Kd.R_lt (by (with_reducible repeat (first | apply Kd.R_alloc | apply Kd.R_drewN | apply Kd.R_drew)); exact HO163.out))) (below_size (by repeat (first | (with_reducible first | exact HB.out | apply below_alloc | apply pw_below_drewN | apply below_drew1) | exact HB.out)))); have n4_ := Aside0.mk (below_step (by repeat (first | (with_reducible first | exact HB.out | apply below_alloc | apply pw_below_drewN | apply below_drew1) | exact HB.out)) hb); clear HO160; clear HO163; clear HO166; clear HB; have HO160 := n0_; have HO163 := n1_; have HO166 := n2_; have HO169 := n3_; have HB := n4_; clear n0_ n1_ n2_ n3_ n4_; (try clear hb); (try clear hb2); (try clear hk); (try clear hi); (try clear ho0); obtain ⟨Ao22, co22, eo22⟩ := Kd.R_slice HO169.out; subst eo22; obtain ⟨Ao23, co23, eo23⟩ := Kd.R_slice HO163.out; subst eo23) | ((with_reducible refine gate_callee (f := 7) rfl ?_); refine goesL_ (some 30) rfl rfl Try.func7 (by kernel_rfl) rfl #[.slice Ao22 t167.length co22, .slice Ao23 t161.length co23] rfl (by (try simp only [List.map_toArray, List.map_cons, List.map_nil]); first | done | rfl | (simp only [List.length_drop, List.length_take]; rfl)) ?_; (with_reducible refine (laws_eqTouchS.calls k _ _ t167 _ _ t161 true _ ?side1 ?side2 ?side3 ?side4 A9.out).mono ?_); (case side1 => repeat (first | exact (Kd.R_reads' HO169.out).2.2 | (with_reducible refine Kd.C_alloc ?_ _) | (with_reducible refine Kd.C_drewN ?_ _) | (with_reducible refine Kd.C_drew ?_))); (case side2 => exact (Kd.R_reads' HO169.out).2.1); (case side3 => repeat (first | exact (Kd.R_reads' HO163.out).2.2 | (with_reducible refine Kd.C_alloc ?_ _) | (with_reducible refine Kd.C_drewN ?_ _) | (with_reducible refine Kd.C_drew ?_))); (case side4 => exact (Kd.R_reads' HO163.out).2.1); rintro e w24 ⟨rfl, hb⟩; refine ⟨_, rfl, ?_⟩; have n0_ := Aside0.mk (Kd.R_below (by (with_reducible repeat (first | apply Kd.R_alloc | apply Kd.R_drewN | apply Kd.R_drew)); exact HO160.out) hb); have n1_ := Aside0.mk (Kd.R_below (by (with_reducible repeat (first | apply Kd.R_alloc | apply Kd.R_drewN | apply Kd.R_drew)); exact HO163.out) hb); have n2_ := Aside0.mk (Kd.R_below (by (with_reducible repeat (first | apply Kd.R_alloc | apply Kd.R_drewN | apply Kd.R_drew)); exact HO166.out) hb); have n3_ := Aside0.mk (Kd.R_below (by (with_reducible repeat (first | apply Kd.R_alloc | apply Kd.R_drewN | apply Kd.R_drew)); exact HO169.out) hb); have n4_ := Aside0.mk (below_step (by repeat (first | (with_reducible first | exact HB.out | apply below_alloc | apply pw_below_drewN | apply below_drew1) | exact HB.out)) hb); clear HO160; clear HO163; clear HO166; clear HO169; clear HB; have HO160 := n0_; have HO163 := n1_; have HO166 := n2_; have HO169 := n3_; have HB := n4_; clear n0_ n1_ n2_ n3_ n4_; (try clear hb); (try clear hb2); (try clear hk); (try clear hi)) | ((with_reducible refine gate_callee (f := 5) rfl ?_); refine goesL_ (some 34) rfl rfl Try.func5 (by kernel_rfl) rfl #[.slice A2 l2.length c2] rfl (by (try simp only [List.map_toArray, List.map_cons, List.map_nil]); first | done | rfl | (simp only [List.length_drop, List.length_take]; rfl)) ?_; (with_reducible refine (laws_toIntS.calls k _ _ l2 t171 _ ?side1 ?side2 A11.out).mono ?_); (case side1 => repeat (first | exact (Kd.C_below HR2.out HB.out) | (with_reducible refine Kd.C_alloc ?_ _) | (with_reducible refine Kd.C_drewN ?_ _) | (with_reducible refine Kd.C_drew ?_))); (case side2 => exact HC2.out); rintro e w25 ⟨v172, rfl, ho0, hb⟩; refine ⟨_, rfl, ?_⟩; have n0_ := Aside0.mk (Kd.R_elder' (by (with_reducible repeat (first | apply Kd.R_alloc | apply Kd.R_drewN | apply Kd.R_drew)); exact HO160.out) (Kd.R_base ho0) hb); have n1_ := Aside0.mk (Kd.R_below (by (with_reducible repeat (first | apply Kd.R_alloc | apply Kd.R_drewN | apply Kd.R_drew)); exact HO163.out) hb); have n2_ := Aside0.mk (Kd.R_elder' (by (with_reducible repeat (first | apply Kd.R_alloc | apply Kd.R_drewN | apply Kd.R_drew)); exact HO166.out) (Kd.R_base ho0) hb); have n3_ := Aside0.mk (Kd.R_below (by (with_reducible repeat (first | apply Kd.R_alloc | apply Kd.R_drewN | apply Kd.R_drew)); exact HO169.out) hb); have n4_ := Aside0.mk (Kd.R_lower (Kd.R_new' (Kd.R_new' ho0 (Kd.R_lt (by (with_reducible repeat (first | apply Kd.R_alloc | apply Kd.R_drewN | apply Kd.R_drew)); exact HO160.out))) (Kd.R_lt (by (with_reducible repeat (first | apply Kd.R_alloc | apply Kd.R_drewN | apply Kd.R_drew)); exact HO166.out))) (below_size (by repeat (first | (with_reducible first | exact HB.out | apply below_alloc | apply pw_below_drewN | apply below_drew1) | exact HB.out)))); have n5_ := Aside0.mk (below_step (by repeat (first | (with_reducible first | exact HB.out | apply below_alloc | apply pw_below_drewN | apply below_drew1) | exact HB.out)) hb); clear HO160; clear HO163; clear HO166; clear HO169; clear HB; have HO160 := n0_; have HO163 := n1_; have HO166 := n2_; have HO169 := n3_; have HO173 := n4_; have HB := n5_; clear n0_ n1_ n2_ n3_ n4_ n5_; (try clear hb); (try clear hb2); (try clear hk); (try clear hi); (try clear ho0); obtain ⟨Ao26, co26, eo26⟩ := Kd.R_slice HO173.out; subst eo26) | ((with_reducible refine gate_callee (f := 8) rfl ?_); refine goesL_ (some 35) rfl rfl Try.func8 (by kernel_rfl) rfl #[.slice Ao20 t164.length co20, .slice Ao26 t171.length co26] rfl (by (try simp only [List.map_toArray, List.map_cons, List.map_nil]); first | done | rfl | (simp only [List.length_drop, List.length_take]; rfl)) ?_; (with_reducible refine (laws_eqIntS.calls k _ _ t164 _ _ t171 true _ ?side1 ?side2 ?side3 ?side4 A12.out).mono ?_); (case side1 => repeat (first | exact (Kd.R_reads' HO166.out).2.2 | (with_reducible refine Kd.C_alloc ?_ _) | (with_reducible refine Kd.C_drewN ?_ _) | (with_reducible refine Kd.C_drew ?_))); (case side2 => exact (Kd.R_reads' HO166.out).2.1); (case side3 => repeat (first | exact (Kd.R_reads' HO173.out).2.2 | (with_reducible refine Kd.C_alloc ?_ _) | (with_reducible refine Kd.C_drewN ?_ _) | (with_reducible refine Kd.C_drew ?_))); (case side4 => exact (Kd.R_reads' HO173.out).2.1); rintro e w' ⟨rfl, ⟨nd, rfl⟩⟩; refine ⟨_, rfl, ?_⟩) | ((with_reducible refine gate_callee (f := 9) rfl ?_); refine goesL_ (some 39) rfl rfl Try.func9 (by kernel_rfl) rfl #[.slice Ao20 t164.length co20, .int .i64 1] rfl (by (try simp only [List.map_toArray, List.map_cons, List.map_nil]); first | done | rfl | (simp only [List.length_drop, List.length_take]; rfl)) ?_; (with_reducible refine (laws_markIntS.calls k (fun k_ => some k_ = (.slice Ao20 t164.length co20 : Value).ownBlock) (.slice Ao20 t164.length co20) t164 1 t175 t176 w _ ?side1 ?side2 A14.out).mono ?_); (case side1 => repeat (first | (with_reducible first | exact HB.out | apply below_alloc | apply pw_below_drewN | apply below_drew1) | exact HB.out)); (case side2 => exact Kd.R_tight rfl HO166.out); rintro e w27 ⟨rfl, hy0, hb, hkp⟩; refine ⟨_, rfl, ?_⟩; have n0_ := Aside0.mk (Kd.R_mono (ok' := fun k_ => some k_ ≠ (.slice Ao20 t164.length co20 : Value).ownBlock ∧ some k_ ≠ (.slice Ao26 t171.length co26 : Value).ownBlock) (Kd.R_keptB (HO160.out) hkp (fun k_ hk_ hs_ => (hk_.1.2) hs_)) (fun k_ hk_ => ⟨hk_.1.1.2, hk_.1.2⟩)); have n1_ := Aside0.mk (Kd.R_mono (ok' := fun k_ => some k_ ≠ (.slice Ao22 t167.length co22 : Value).ownBlock) (Kd.R_keptB ((Kd.R_apart' HO163.out (Kd.R_typed HO166.out) (by decide))) hkp (fun k_ hk_ hs_ => (hk_.2) hs_)) (fun k_ hk_ => hk_.1.1.2)); have n2_ := Aside0.mk (Kd.R_reok rfl hy0 (fun k_ e_ => HO166.out.1 k_ e_)); have n3_ := Aside0.mk (Kd.R_mono (ok' := fun k_ => some k_ ≠ (.slice Ao23 t161.length co23 : Value).ownBlock) (Kd.R_keptB ((Kd.R_apart' HO169.out (Kd.R_typed HO166.out) (by decide))) hkp (fun k_ hk_ hs_ => (hk_.2) hs_)) (fun k_ hk_ => hk_.1.1.2)); have n4_ := Aside0.mk (Kd.R_mono (ok' := fun k_ => some k_ ≠ (.slice Ao17 t158.length co17 : Value).ownBlock ∧ some k_ ≠ (.slice Ao20 t164.length co20 : Value).ownBlock) (Kd.R_keptB (HO173.out) hkp (fun k_ hk_ hs_ => (hk_.2) hs_)) (fun k_ hk_ => ⟨hk_.1.1.2, hk_.1.2⟩)); have n5_ := Aside0.mk (hb); clear HO160; clear HO163; clear HO166; clear HO169; clear HO173; clear HB; have HO160 := n0_; have HO163 := n1_; have HO166 := n2_; have HO169 := n3_; have HO173 := n4_; have HB := n5_; clear n0_ n1_ n2_ n3_ n4_ n5_; (try clear hb); (try clear hkp); (try clear hy0)))
        (try simp only [Act.put, List.setIfInBounds_toArray, List.set_cons_zero, List.set_cons_succ])
        go_cut [47] (fun v47 wc => ∃ (kq : Nat) (x47_14 : Bool), v47 = .bool x47_14 ∧ Aside0 (laws_FnExactPathTouches.j0 kq a0 a1 l2 t161 t167 x47_14 = some r) ∧ Aside0 (kq ≤ k) ∧ Aside0 (Kd.R k35 35 wc w.heap.size (fun k_ => some k_ ≠ ((.slice Ao22 t167.length co22) : Value).ownBlock) (.slice Ao23 t161.length co23) t161) ∧ Aside0 (Kd.R k35 35 wc w.heap.size (fun k_ => some k_ ≠ ((.slice Ao23 t161.length co23) : Value).ownBlock) (.slice Ao22 t167.length co22) t167) ∧ Aside0 (Below w.heap.size w wc))
        case first =>
          have H := HC15.out
          clear HC15
          by_cases c28 : t175 < 0
          · rw [if_pos c28] at H
            have c28b0 : decide (t175 < 0) = true := decide_eq_true c28
            clear c28
            (first | rw [c28b0] | (simp only [i64_w, i32_w]; rw [c28b0]) | skip)
            have H' := Aside0.mk H
            clear H
            go_wp2
            go_meet
            case rel => exact ⟨_, (true), (by first | rfl | (simp; done) | (simp [*]; done)), H', ⟨by first | omega | exact Nat.le_refl _⟩, ⟨by (with_reducible repeat (first | apply Kd.R_alloc | apply Kd.R_drewN | apply Kd.R_drew)); exact HO163.out⟩, ⟨by (with_reducible repeat (first | apply Kd.R_alloc | apply Kd.R_drewN | apply Kd.R_drew)); exact HO169.out⟩, ⟨by repeat (first | (with_reducible first | exact HB.out | apply below_alloc | apply pw_below_drewN | apply below_drew1) | exact HB.out)⟩⟩
          · rw [if_neg c28] at H
            have c28b0 : decide (t175 < 0) = false := decide_eq_false c28
            clear c28
            (first | rw [c28b0] | (simp only [i64_w, i32_w]; rw [c28b0]) | skip)
            replace H := Option.bind_eq_some_iff.mp H
            obtain ⟨t177, A290, H⟩ := H
            replace H : (laws_FnExactPathTouches.j0 k a0 a1 l2 t161 t167 (!t177)) = some r := H
            have A29 := Aside0.mk A290
            clear A290
            have H' := Aside0.mk H
            clear H
            go_wp2_with (first | (go_at_call 7; (with_reducible refine (laws_eqTouchS.calls k _ _ t167 _ _ t161 t177 _ ?side1 ?side2 ?side3 ?side4 A29.out).mono ?_); (case side1 => repeat (first | exact (Kd.R_reads' HO169.out).2.2 | (with_reducible refine Kd.C_alloc ?_ _) | (with_reducible refine Kd.C_drewN ?_ _) | (with_reducible refine Kd.C_drew ?_))); (case side2 => exact (Kd.R_reads' HO169.out).2.1); (case side3 => repeat (first | exact (Kd.R_reads' HO163.out).2.2 | (with_reducible refine Kd.C_alloc ?_ _) | (with_reducible refine Kd.C_drewN ?_ _) | (with_reducible refine Kd.C_drew ?_))); (case side4 => exact (Kd.R_reads' HO163.out).2.1); rintro e w30 ⟨rfl, hb⟩; have n0_ := Aside0.mk (Kd.R_below (by (with_reducible repeat (first | apply Kd.R_alloc | apply Kd.R_drewN | apply Kd.R_drew)); exact HO160.out) hb); have n1_ := Aside0.mk (Kd.R_below (by (with_reducible repeat (first | apply Kd.R_alloc | apply Kd.R_drewN | apply Kd.R_drew)); exact HO163.out) hb); have n2_ := Aside0.mk (Kd.R_below (by (with_reducible repeat (first | apply Kd.R_alloc | apply Kd.R_drewN | apply Kd.R_drew)); exact HO166.out) hb); have n3_ := Aside0.mk (Kd.R_below (by (with_reducible repeat (first | apply Kd.R_alloc | apply Kd.R_drewN | apply Kd.R_drew)); exact HO169.out) hb); have n4_ := Aside0.mk (Kd.R_below (by (with_reducible repeat (first | apply Kd.R_alloc | apply Kd.R_drewN | apply Kd.R_drew)); exact HO173.out) hb); have n5_ := Aside0.mk (below_step (by repeat (first | (with_reducible first | exact HB.out | apply below_alloc | apply pw_below_drewN | apply below_drew1) | exact HB.out)) hb); clear HO160; clear HO163; clear HO166; clear HO169; clear HO173; clear HB; have HO160 := n0_; have HO163 := n1_; have HO166 := n2_; have HO169 := n3_; have HO173 := n4_; have HB := n5_; clear n0_ n1_ n2_ n3_ n4_ n5_; (try clear hb); (try clear hb2); (try clear hk); (try clear hi)))
            go_meet
            case rel => exact ⟨_, (!t177), (by first | rfl | (simp; done) | (simp [*]; done)), H', ⟨by first | omega | exact Nat.le_refl _⟩, ⟨by (with_reducible repeat (first | apply Kd.R_alloc | apply Kd.R_drewN | apply Kd.R_drew)); exact HO163.out⟩, ⟨by (with_reducible repeat (first | apply Kd.R_alloc | apply Kd.R_drewN | apply Kd.R_drew)); exact HO169.out⟩, ⟨by repeat (first | (with_reducible first | exact HB.out | apply below_alloc | apply pw_below_drewN | apply below_drew1) | exact HB.out)⟩⟩
        case rest =>
          clear HC15
          try clear c1
          try clear c2
          try clear p2
          try clear c3
          try clear c4
          try clear c4b0
          try clear c4b1
          try clear c5
          try clear c6
          try clear c7
          try clear c8
          try clear c9
          try clear c10
          try clear c13
          try clear c28
          try clear c28b0
          obtain ⟨kq, x47_14, rfl, HA, HJ14, HO_7, HO_9, HB⟩ := hcut
          cases kq with
          | zero => exact absurd HA.out (by simp [laws_FnExactPathTouches.j0])
          | succ kj14 =>
            have H := HA.out
            clear HA
            simp only [laws_FnExactPathTouches.j0] at H
            by_cases c31 : x47_14 = true
            · subst c31
              have H1 : (some false) = some r := by rw [if_pos rfl] at H; exact H
              clear H
              have H := H1
              clear H1
              obtain rfl := Option.some.inj H
              go_wp2
              go_ret
              exact ⟨by first | rfl | (simp [errW_none, errW_some] <;> rfl) | (simp [*, errW_none, errW_some] <;> rfl), by repeat (first | (with_reducible first | exact HB.out | apply below_alloc | apply pw_below_drewN | apply below_drew1) | exact HB.out)⟩
            · replace c31 := Bool.eq_false_iff.mpr c31
              subst c31
              have H1 : ((laws_markTouchS.f kj14 t167 1).bind fun bt178 => ((laws_heldTouchS.f kj14 bt178.2 1).bind fun t180 => (if t180 < 0 then (some false) else (if t180 = bt178.1 then ((laws_toIntS.f kj14 l2).bind fun t181 => ((impl_PathTouches.f kj14 a0 a1 t181).bind fun t184 => ((laws_eqTouchS.f kj14 t184 t161).bind fun t187 => (if t187 = true then ((laws_heldTouchS.f kj14 bt178.2 1).bind fun t188 => (if t188 < 0 then (some false) else (if t188 = bt178.1 then (some true) else (some false)))) else (some false))))) else (some false))))) = some r := by rw [if_neg (show ¬ (false = true) by decide)] at H; exact H
              clear H
              have H := H1
              clear H1
              replace H := Option.bind_eq_some_iff.mp H
              obtain ⟨⟨t178, t179⟩, A320, H⟩ := H
              replace H : ((laws_heldTouchS.f kj14 t179 1).bind fun t180 => (if t180 < 0 then (some false) else (if t180 = t178 then ((laws_toIntS.f kj14 l2).bind fun t181 => ((impl_PathTouches.f kj14 a0 a1 t181).bind fun t184 => ((laws_eqTouchS.f kj14 t184 t161).bind fun t187 => (if t187 = true then ((laws_heldTouchS.f kj14 t179 1).bind fun t188 => (if t188 < 0 then (some false) else (if t188 = t178 then (some true) else (some false)))) else (some false))))) else (some false)))) = some r := H
              have A32 := Aside0.mk A320
              clear A320
              replace H := Option.bind_eq_some_iff.mp H
              obtain ⟨t180, A330, H⟩ := H
              replace H : (if t180 < 0 then (some false) else (if t180 = t178 then ((laws_toIntS.f kj14 l2).bind fun t181 => ((impl_PathTouches.f kj14 a0 a1 t181).bind fun t184 => ((laws_eqTouchS.f kj14 t184 t161).bind fun t187 => (if t187 = true then ((laws_heldTouchS.f kj14 t179 1).bind fun t188 => (if t188 < 0 then (some false) else (if t188 = t178 then (some true) else (some false)))) else (some false))))) else (some false))) = some r := H
              have A33 := Aside0.mk A330
              clear A330
              by_cases c34 : t180 < 0
              · rw [if_pos c34] at H
                have c34b0 : decide (t180 < 0) = true := decide_eq_true c34
                clear c34
                obtain rfl := Option.some.inj H
                go_wp2_with (first | ((with_reducible refine gate_callee (f := 10) rfl ?_); refine goesL_ (some 50) rfl rfl Try.func10 (by kernel_rfl) rfl #[.slice Ao22 t167.length co22, .int .i64 1] rfl (by (try simp only [List.map_toArray, List.map_cons, List.map_nil]); first | done | rfl | (simp only [List.length_drop, List.length_take]; rfl)) ?_; (with_reducible refine (laws_markTouchS.calls kj14 (fun k_ => some k_ = (.slice Ao22 t167.length co22 : Value).ownBlock) (.slice Ao22 t167.length co22) t167 1 t178 t179 w _ ?side1 ?side2 A32.out).mono ?_); (case side1 => repeat (first | (with_reducible first | exact HB.out | apply below_alloc | apply pw_below_drewN | apply below_drew1) | exact HB.out)); (case side2 => exact Kd.R_tight rfl HO_9.out); rintro e w35 ⟨rfl, hy0, hb, hkp⟩; refine ⟨_, rfl, ?_⟩; have n0_ := Aside0.mk (Kd.R_mono (ok' := fun k_ => some k_ ≠ (.slice Ao22 t167.length co22 : Value).ownBlock) (Kd.R_keptB (HO_7.out) hkp (fun k_ hk_ hs_ => (hk_) hs_)) (fun k_ hk_ => hk_.1)); have n1_ := Aside0.mk (Kd.R_reok rfl hy0 (fun k_ e_ => HO_9.out.1 k_ e_)); have n2_ := Aside0.mk (hb); clear HO_7; clear HO_9; clear HB; have HO_7 := n0_; have HO_9 := n1_; have HB := n2_; clear n0_ n1_ n2_; (try clear hb); (try clear hkp); (try clear hy0)) | ((with_reducible refine gate_callee (f := 11) rfl ?_); refine goesL_ (some 53) rfl rfl Try.func11 (by kernel_rfl) rfl #[.slice Ao22 t179.length co22, .int .i64 1] rfl (by (try simp only [List.map_toArray, List.map_cons, List.map_nil]); first | done | (rw [show t179.length = t167.length from (Kd.R_reads' HO_9.out).1.symm] <;> rfl) | rfl | (simp only [List.length_drop, List.length_take]; rfl)) ?_; (with_reducible refine (laws_heldTouchS.calls kj14 _ _ t179 1 t180 _ ?side1 ?side2 A33.out).mono ?_); (case side1 => repeat (first | exact (Kd.R_reads' HO_9.out).2.2 | (with_reducible refine Kd.C_alloc ?_ _) | (with_reducible refine Kd.C_drewN ?_ _) | (with_reducible refine Kd.C_drew ?_))); (case side2 => rw [show t179.length = t167.length from (Kd.R_reads' HO_9.out).1.symm]; exact (Kd.R_reads' HO_9.out).2.1); rintro e w' ⟨rfl, ⟨nd, rfl⟩⟩; refine ⟨_, rfl, ?_⟩))
                go_ret
                exact ⟨by first | rfl | (simp [errW_none, errW_some] <;> rfl) | (simp [*, errW_none, errW_some] <;> rfl), by repeat (first | (with_reducible first | exact HB.out | apply below_alloc | apply pw_below_drewN | apply below_drew1) | exact HB.out)⟩
              · rw [if_neg c34] at H
                have c34b0 : decide (t180 < 0) = false := decide_eq_false c34
                clear c34
                by_cases c36 : t180 = t178
                · rw [if_pos c36] at H
                  have c36b0 : (t180 == t178) = true := beq_iff_eq.mpr c36
                  have c36b1 : (t180 != t178) = false := bne_eq_false_iff_eq.mpr c36
                  clear c36
                  replace H := Option.bind_eq_some_iff.mp H
                  obtain ⟨t181, A370, H⟩ := H
                  replace H : ((impl_PathTouches.f kj14 a0 a1 t181).bind fun t184 => ((laws_eqTouchS.f kj14 t184 t161).bind fun t187 => (if t187 = true then ((laws_heldTouchS.f kj14 t179 1).bind fun t188 => (if t188 < 0 then (some false) else (if t188 = t178 then (some true) else (some false)))) else (some false)))) = some r := H
                  have A37 := Aside0.mk A370
                  clear A370
                  replace H := Option.bind_eq_some_iff.mp H
                  obtain ⟨t184, A380, H⟩ := H
                  replace H : ((laws_eqTouchS.f kj14 t184 t161).bind fun t187 => (if t187 = true then ((laws_heldTouchS.f kj14 t179 1).bind fun t188 => (if t188 < 0 then (some false) else (if t188 = t178 then (some true) else (some false)))) else (some false))) = some r := H
                  have A38 := Aside0.mk A380
                  clear A380
                  replace H := Option.bind_eq_some_iff.mp H
                  obtain ⟨t187, A390, H⟩ := H
                  replace H : (if t187 = true then ((laws_heldTouchS.f kj14 t179 1).bind fun t188 => (if t188 < 0 then (some false) else (if t188 = t178 then (some true) else (some false)))) else (some false)) = some r := H
                  have A39 := Aside0.mk A390
                  clear A390
                  by_cases c40 : t187 = true
                  · subst c40
                    have H1 : ((laws_heldTouchS.f kj14 t179 1).bind fun t188 => (if t188 < 0 then (some false) else (if t188 = t178 then (some true) else (some false)))) = some r := by rw [if_pos rfl] at H; exact H
                    clear H
                    have H := H1
                    clear H1
                    replace H := Option.bind_eq_some_iff.mp H
                    obtain ⟨t188, A410, H⟩ := H
                    replace H : (if t188 < 0 then (some false) else (if t188 = t178 then (some true) else (some false))) = some r := H
                    have A41 := Aside0.mk A410
                    clear A410
                    by_cases c42 : t188 < 0
                    · rw [if_pos c42] at H
                      have c42b0 : decide (t188 < 0) = true := decide_eq_true c42
                      clear c42
                      obtain rfl := Option.some.inj H
                      go_wp2_with (first | ((with_reducible refine gate_callee (f := 10) rfl ?_); refine goesL_ (some 50) rfl rfl Try.func10 (by kernel_rfl) rfl #[.slice Ao22 t167.length co22, .int .i64 1] rfl (by (try simp only [List.map_toArray, List.map_cons, List.map_nil]); first | done | rfl | (simp only [List.length_drop, List.length_take]; rfl)) ?_; (with_reducible refine (laws_markTouchS.calls kj14 (fun k_ => some k_ = (.slice Ao22 t167.length co22 : Value).ownBlock) (.slice Ao22 t167.length co22) t167 1 t178 t179 w _ ?side1 ?side2 A32.out).mono ?_); (case side1 => repeat (first | (with_reducible first | exact HB.out | apply below_alloc | apply pw_below_drewN | apply below_drew1) | exact HB.out)); (case side2 => exact Kd.R_tight rfl HO_9.out); rintro e w43 ⟨rfl, hy0, hb, hkp⟩; refine ⟨_, rfl, ?_⟩; have n0_ := Aside0.mk (Kd.R_mono (ok' := fun k_ => some k_ ≠ (.slice Ao22 t167.length co22 : Value).ownBlock) (Kd.R_keptB (HO_7.out) hkp (fun k_ hk_ hs_ => (hk_) hs_)) (fun k_ hk_ => hk_.1)); have n1_ := Aside0.mk (Kd.R_reok rfl hy0 (fun k_ e_ => HO_9.out.1 k_ e_)); have n2_ := Aside0.mk (hb); clear HO_7; clear HO_9; clear HB; have HO_7 := n0_; have HO_9 := n1_; have HB := n2_; clear n0_ n1_ n2_; (try clear hb); (try clear hkp); (try clear hy0)) | ((with_reducible refine gate_callee (f := 11) rfl ?_); refine goesL_ (some 53) rfl rfl Try.func11 (by kernel_rfl) rfl #[.slice Ao22 t179.length co22, .int .i64 1] rfl (by (try simp only [List.map_toArray, List.map_cons, List.map_nil]); first | done | (rw [show t179.length = t167.length from (Kd.R_reads' HO_9.out).1.symm] <;> rfl) | rfl | (simp only [List.length_drop, List.length_take]; rfl)) ?_; (with_reducible refine (laws_heldTouchS.calls kj14 _ _ t179 1 t180 _ ?side1 ?side2 A33.out).mono ?_); (case side1 => repeat (first | exact (Kd.R_reads' HO_9.out).2.2 | (with_reducible refine Kd.C_alloc ?_ _) | (with_reducible refine Kd.C_drewN ?_ _) | (with_reducible refine Kd.C_drew ?_))); (case side2 => rw [show t179.length = t167.length from (Kd.R_reads' HO_9.out).1.symm]; exact (Kd.R_reads' HO_9.out).2.1); rintro e w' ⟨rfl, ⟨nd, rfl⟩⟩; refine ⟨_, rfl, ?_⟩) | ((with_reducible refine gate_callee (f := 5) rfl ?_); refine goesL_ (some 62) rfl rfl Try.func5 (by kernel_rfl) rfl #[.slice A2 l2.length c2] rfl (by (try simp only [List.map_toArray, List.map_cons, List.map_nil]); first | done | rfl | (simp only [List.length_drop, List.length_take]; rfl)) ?_; (with_reducible refine (laws_toIntS.calls kj14 _ _ l2 t181 _ ?side1 ?side2 A37.out).mono ?_); (case side1 => repeat (first | exact (Kd.C_below HR2.out (by repeat (first | (with_reducible first | exact HB.out | apply below_alloc | apply pw_below_drewN | apply below_drew1) | exact HB.out))) | (with_reducible refine Kd.C_alloc ?_ _) | (with_reducible refine Kd.C_drewN ?_ _) | (with_reducible refine Kd.C_drew ?_))); (case side2 => exact HC2.out); rintro e w44 ⟨v182, rfl, ho0, hb⟩; refine ⟨_, rfl, ?_⟩; have n0_ := Aside0.mk (Kd.R_below (by (with_reducible repeat (first | apply Kd.R_alloc | apply Kd.R_drewN | apply Kd.R_drew)); exact HO_7.out) hb); have n1_ := Aside0.mk (Kd.R_below (by (with_reducible repeat (first | apply Kd.R_alloc | apply Kd.R_drewN | apply Kd.R_drew)); exact HO_9.out) hb); have n2_ := Aside0.mk (Kd.R_lower ho0 (below_size (by repeat (first | (with_reducible first | exact HB.out | apply below_alloc | apply pw_below_drewN | apply below_drew1) | exact HB.out)))); have n3_ := Aside0.mk (below_step (by repeat (first | (with_reducible first | exact HB.out | apply below_alloc | apply pw_below_drewN | apply below_drew1) | exact HB.out)) hb); clear HO_7; clear HO_9; clear HB; have HO_7 := n0_; have HO_9 := n1_; have HO183 := n2_; have HB := n3_; clear n0_ n1_ n2_ n3_; (try clear hb); (try clear hb2); (try clear hk); (try clear hi); (try clear ho0); obtain ⟨Ao45, co45, eo45⟩ := Kd.R_slice HO183.out; subst eo45) | ((with_reducible refine gate_callee (f := 6) rfl ?_); refine goesL_ (some 63) rfl rfl Try.func6 (by kernel_rfl) rfl #[.int .i64 a0, .int .i64 a1, .slice Ao45 t181.length co45] rfl (by (try simp only [List.map_toArray, List.map_cons, List.map_nil]); first | done | rfl | (simp only [List.length_drop, List.length_take]; rfl)) ?_; (with_reducible refine (impl_PathTouches.calls kj14 a0 a1 _ _ t181 t184 _ ?side1 ?side2 A38.out).mono ?_); (case side1 => repeat (first | exact (Kd.R_reads' HO183.out).2.2 | (with_reducible refine Kd.C_alloc ?_ _) | (with_reducible refine Kd.C_drewN ?_ _) | (with_reducible refine Kd.C_drew ?_))); (case side2 => exact (Kd.R_reads' HO183.out).2.1); rintro e w46 ⟨v185, rfl, ho0, hb⟩; refine ⟨_, rfl, ?_⟩; have n0_ := Aside0.mk (Kd.R_elder' (by (with_reducible repeat (first | apply Kd.R_alloc | apply Kd.R_drewN | apply Kd.R_drew)); exact HO_7.out) (Kd.R_base ho0) hb); have n1_ := Aside0.mk (Kd.R_elder' (by (with_reducible repeat (first | apply Kd.R_alloc | apply Kd.R_drewN | apply Kd.R_drew)); exact HO_9.out) (Kd.R_base ho0) hb); have n2_ := Aside0.mk (Kd.R_below (by (with_reducible repeat (first | apply Kd.R_alloc | apply Kd.R_drewN | apply Kd.R_drew)); exact HO183.out) hb); have n3_ := Aside0.mk (Kd.R_lower (Kd.R_new' (Kd.R_new' ho0 (Kd.R_lt (by (with_reducible repeat (first | apply Kd.R_alloc | apply Kd.R_drewN | apply Kd.R_drew)); exact HO_7.out))) (Kd.R_lt (by (with_reducible repeat (first | apply Kd.R_alloc | apply Kd.R_drewN | apply Kd.R_drew)); exact HO_9.out))) (below_size (by repeat (first | (with_reducible first | exact HB.out | apply below_alloc | apply pw_below_drewN | apply below_drew1) | exact HB.out)))); have n4_ := Aside0.mk (below_step (by repeat (first | (with_reducible first | exact HB.out | apply below_alloc | apply pw_below_drewN | apply below_drew1) | exact HB.out)) hb); clear HO_7; clear HO_9; clear HO183; clear HB; have HO_7 := n0_; have HO_9 := n1_; have HO183 := n2_; have HO186 := n3_; have HB := n4_; clear n0_ n1_ n2_ n3_ n4_; (try clear hb); (try clear hb2); (try clear hk); (try clear hi); (try clear ho0); obtain ⟨Ao47, co47, eo47⟩ := Kd.R_slice HO186.out; subst eo47) | ((with_reducible refine gate_callee (f := 7) rfl ?_); refine goesL_ (some 66) rfl rfl Try.func7 (by kernel_rfl) rfl #[.slice Ao47 t184.length co47, .slice Ao23 t161.length co23] rfl (by (try simp only [List.map_toArray, List.map_cons, List.map_nil]); first | done | rfl | (simp only [List.length_drop, List.length_take]; rfl)) ?_; (with_reducible refine (laws_eqTouchS.calls kj14 _ _ t184 _ _ t161 true _ ?side1 ?side2 ?side3 ?side4 A39.out).mono ?_); (case side1 => repeat (first | exact (Kd.R_reads' HO186.out).2.2 | (with_reducible refine Kd.C_alloc ?_ _) | (with_reducible refine Kd.C_drewN ?_ _) | (with_reducible refine Kd.C_drew ?_))); (case side2 => exact (Kd.R_reads' HO186.out).2.1); (case side3 => repeat (first | exact (Kd.R_reads' HO_7.out).2.2 | (with_reducible refine Kd.C_alloc ?_ _) | (with_reducible refine Kd.C_drewN ?_ _) | (with_reducible refine Kd.C_drew ?_))); (case side4 => exact (Kd.R_reads' HO_7.out).2.1); rintro e w48 ⟨rfl, hb⟩; refine ⟨_, rfl, ?_⟩; have n0_ := Aside0.mk (Kd.R_below (by (with_reducible repeat (first | apply Kd.R_alloc | apply Kd.R_drewN | apply Kd.R_drew)); exact HO_7.out) hb); have n1_ := Aside0.mk (Kd.R_below (by (with_reducible repeat (first | apply Kd.R_alloc | apply Kd.R_drewN | apply Kd.R_drew)); exact HO_9.out) hb); have n2_ := Aside0.mk (Kd.R_below (by (with_reducible repeat (first | apply Kd.R_alloc | apply Kd.R_drewN | apply Kd.R_drew)); exact HO183.out) hb); have n3_ := Aside0.mk (Kd.R_below (by (with_reducible repeat (first | apply Kd.R_alloc | apply Kd.R_drewN | apply Kd.R_drew)); exact HO186.out) hb); have n4_ := Aside0.mk (below_step (by repeat (first | (with_reducible first | exact HB.out | apply below_alloc | apply pw_below_drewN | apply below_drew1) | exact HB.out)) hb); clear HO_7; clear HO_9; clear HO183; clear HO186; clear HB; have HO_7 := n0_; have HO_9 := n1_; have HO183 := n2_; have HO186 := n3_; have HB := n4_; clear n0_ n1_ n2_ n3_ n4_; (try clear hb); (try clear hb2); (try clear hk); (try clear hi)) | ((with_reducible refine gate_callee (f := 11) rfl ?_); refine goesL_ (some 70) rfl rfl Try.func11 (by kernel_rfl) rfl #[.slice Ao22 t179.length co22, .int .i64 1] rfl (by (try simp only [List.map_toArray, List.map_cons, List.map_nil]); first | done | (rw [show t179.length = t167.length from (Kd.R_reads' HO_9.out).1.symm] <;> rfl) | rfl | (simp only [List.length_drop, List.length_take]; rfl)) ?_; (with_reducible refine (laws_heldTouchS.calls kj14 _ _ t179 1 t188 _ ?side1 ?side2 A41.out).mono ?_); (case side1 => repeat (first | exact (Kd.R_reads' HO_9.out).2.2 | (with_reducible refine Kd.C_alloc ?_ _) | (with_reducible refine Kd.C_drewN ?_ _) | (with_reducible refine Kd.C_drew ?_))); (case side2 => rw [show t179.length = t167.length from (Kd.R_reads' HO_9.out).1.symm]; exact (Kd.R_reads' HO_9.out).2.1); rintro e w' ⟨rfl, ⟨nd, rfl⟩⟩; refine ⟨_, rfl, ?_⟩))
                      go_ret
                      exact ⟨by first | rfl | (simp [errW_none, errW_some] <;> rfl) | (simp [*, errW_none, errW_some] <;> rfl), by repeat (first | (with_reducible first | exact HB.out | apply below_alloc | apply pw_below_drewN | apply below_drew1) | exact HB.out)⟩
                    · rw [if_neg c42] at H
                      have c42b0 : decide (t188 < 0) = false := decide_eq_false c42
                      clear c42
                      by_cases c49 : t188 = t178
                      · rw [if_pos c49] at H
                        have c49b0 : (t188 == t178) = true := beq_iff_eq.mpr c49
                        have c49b1 : (t188 != t178) = false := bne_eq_false_iff_eq.mpr c49
                        clear c49
                        obtain rfl := Option.some.inj H
                        go_wp2_with (first | ((with_reducible refine gate_callee (f := 10) rfl ?_); refine goesL_ (some 50) rfl rfl Try.func10 (by kernel_rfl) rfl #[.slice Ao22 t167.length co22, .int .i64 1] rfl (by (try simp only [List.map_toArray, List.map_cons, List.map_nil]); first | done | rfl | (simp only [List.length_drop, List.length_take]; rfl)) ?_; (with_reducible refine (laws_markTouchS.calls kj14 (fun k_ => some k_ = (.slice Ao22 t167.length co22 : Value).ownBlock) (.slice Ao22 t167.length co22) t167 1 t178 t179 w _ ?side1 ?side2 A32.out).mono ?_); (case side1 => repeat (first | (with_reducible first | exact HB.out | apply below_alloc | apply pw_below_drewN | apply below_drew1) | exact HB.out)); (case side2 => exact Kd.R_tight rfl HO_9.out); rintro e w50 ⟨rfl, hy0, hb, hkp⟩; refine ⟨_, rfl, ?_⟩; have n0_ := Aside0.mk (Kd.R_mono (ok' := fun k_ => some k_ ≠ (.slice Ao22 t167.length co22 : Value).ownBlock) (Kd.R_keptB (HO_7.out) hkp (fun k_ hk_ hs_ => (hk_) hs_)) (fun k_ hk_ => hk_.1)); have n1_ := Aside0.mk (Kd.R_reok rfl hy0 (fun k_ e_ => HO_9.out.1 k_ e_)); have n2_ := Aside0.mk (hb); clear HO_7; clear HO_9; clear HB; have HO_7 := n0_; have HO_9 := n1_; have HB := n2_; clear n0_ n1_ n2_; (try clear hb); (try clear hkp); (try clear hy0)) | ((with_reducible refine gate_callee (f := 11) rfl ?_); refine goesL_ (some 53) rfl rfl Try.func11 (by kernel_rfl) rfl #[.slice Ao22 t179.length co22, .int .i64 1] rfl (by (try simp only [List.map_toArray, List.map_cons, List.map_nil]); first | done | (rw [show t179.length = t167.length from (Kd.R_reads' HO_9.out).1.symm] <;> rfl) | rfl | (simp only [List.length_drop, List.length_take]; rfl)) ?_; (with_reducible refine (laws_heldTouchS.calls kj14 _ _ t179 1 t180 _ ?side1 ?side2 A33.out).mono ?_); (case side1 => repeat (first | exact (Kd.R_reads' HO_9.out).2.2 | (with_reducible refine Kd.C_alloc ?_ _) | (with_reducible refine Kd.C_drewN ?_ _) | (with_reducible refine Kd.C_drew ?_))); (case side2 => rw [show t179.length = t167.length from (Kd.R_reads' HO_9.out).1.symm]; exact (Kd.R_reads' HO_9.out).2.1); rintro e w' ⟨rfl, ⟨nd, rfl⟩⟩; refine ⟨_, rfl, ?_⟩) | ((with_reducible refine gate_callee (f := 5) rfl ?_); refine goesL_ (some 62) rfl rfl Try.func5 (by kernel_rfl) rfl #[.slice A2 l2.length c2] rfl (by (try simp only [List.map_toArray, List.map_cons, List.map_nil]); first | done | rfl | (simp only [List.length_drop, List.length_take]; rfl)) ?_; (with_reducible refine (laws_toIntS.calls kj14 _ _ l2 t181 _ ?side1 ?side2 A37.out).mono ?_); (case side1 => repeat (first | exact (Kd.C_below HR2.out (by repeat (first | (with_reducible first | exact HB.out | apply below_alloc | apply pw_below_drewN | apply below_drew1) | exact HB.out))) | (with_reducible refine Kd.C_alloc ?_ _) | (with_reducible refine Kd.C_drewN ?_ _) | (with_reducible refine Kd.C_drew ?_))); (case side2 => exact HC2.out); rintro e w51 ⟨v182, rfl, ho0, hb⟩; refine ⟨_, rfl, ?_⟩; have n0_ := Aside0.mk (Kd.R_below (by (with_reducible repeat (first | apply Kd.R_alloc | apply Kd.R_drewN | apply Kd.R_drew)); exact HO_7.out) hb); have n1_ := Aside0.mk (Kd.R_below (by (with_reducible repeat (first | apply Kd.R_alloc | apply Kd.R_drewN | apply Kd.R_drew)); exact HO_9.out) hb); have n2_ := Aside0.mk (Kd.R_lower ho0 (below_size (by repeat (first | (with_reducible first | exact HB.out | apply below_alloc | apply pw_below_drewN | apply below_drew1) | exact HB.out)))); have n3_ := Aside0.mk (below_step (by repeat (first | (with_reducible first | exact HB.out | apply below_alloc | apply pw_below_drewN | apply below_drew1) | exact HB.out)) hb); clear HO_7; clear HO_9; clear HB; have HO_7 := n0_; have HO_9 := n1_; have HO183 := n2_; have HB := n3_; clear n0_ n1_ n2_ n3_; (try clear hb); (try clear hb2); (try clear hk); (try clear hi); (try clear ho0); obtain ⟨Ao52, co52, eo52⟩ := Kd.R_slice HO183.out; subst eo52) | ((with_reducible refine gate_callee (f := 6) rfl ?_); refine goesL_ (some 63) rfl rfl Try.func6 (by kernel_rfl) rfl #[.int .i64 a0, .int .i64 a1, .slice Ao52 t181.length co52] rfl (by (try simp only [List.map_toArray, List.map_cons, List.map_nil]); first | done | rfl | (simp only [List.length_drop, List.length_take]; rfl)) ?_; (with_reducible refine (impl_PathTouches.calls kj14 a0 a1 _ _ t181 t184 _ ?side1 ?side2 A38.out).mono ?_); (case side1 => repeat (first | exact (Kd.R_reads' HO183.out).2.2 | (with_reducible refine Kd.C_alloc ?_ _) | (with_reducible refine Kd.C_drewN ?_ _) | (with_reducible refine Kd.C_drew ?_))); (case side2 => exact (Kd.R_reads' HO183.out).2.1); rintro e w53 ⟨v185, rfl, ho0, hb⟩; refine ⟨_, rfl, ?_⟩; have n0_ := Aside0.mk (Kd.R_elder' (by (with_reducible repeat (first | apply Kd.R_alloc | apply Kd.R_drewN | apply Kd.R_drew)); exact HO_7.out) (Kd.R_base ho0) hb); have n1_ := Aside0.mk (Kd.R_elder' (by (with_reducible repeat (first | apply Kd.R_alloc | apply Kd.R_drewN | apply Kd.R_drew)); exact HO_9.out) (Kd.R_base ho0) hb); have n2_ := Aside0.mk (Kd.R_below (by (with_reducible repeat (first | apply Kd.R_alloc | apply Kd.R_drewN | apply Kd.R_drew)); exact HO183.out) hb); have n3_ := Aside0.mk (Kd.R_lower (Kd.R_new' (Kd.R_new' ho0 (Kd.R_lt (by (with_reducible repeat (first | apply Kd.R_alloc | apply Kd.R_drewN | apply Kd.R_drew)); exact HO_7.out))) (Kd.R_lt (by (with_reducible repeat (first | apply Kd.R_alloc | apply Kd.R_drewN | apply Kd.R_drew)); exact HO_9.out))) (below_size (by repeat (first | (with_reducible first | exact HB.out | apply below_alloc | apply pw_below_drewN | apply below_drew1) | exact HB.out)))); have n4_ := Aside0.mk (below_step (by repeat (first | (with_reducible first | exact HB.out | apply below_alloc | apply pw_below_drewN | apply below_drew1) | exact HB.out)) hb); clear HO_7; clear HO_9; clear HO183; clear HB; have HO_7 := n0_; have HO_9 := n1_; have HO183 := n2_; have HO186 := n3_; have HB := n4_; clear n0_ n1_ n2_ n3_ n4_; (try clear hb); (try clear hb2); (try clear hk); (try clear hi); (try clear ho0); obtain ⟨Ao54, co54, eo54⟩ := Kd.R_slice HO186.out; subst eo54) | ((with_reducible refine gate_callee (f := 7) rfl ?_); refine goesL_ (some 66) rfl rfl Try.func7 (by kernel_rfl) rfl #[.slice Ao54 t184.length co54, .slice Ao23 t161.length co23] rfl (by (try simp only [List.map_toArray, List.map_cons, List.map_nil]); first | done | rfl | (simp only [List.length_drop, List.length_take]; rfl)) ?_; (with_reducible refine (laws_eqTouchS.calls kj14 _ _ t184 _ _ t161 true _ ?side1 ?side2 ?side3 ?side4 A39.out).mono ?_); (case side1 => repeat (first | exact (Kd.R_reads' HO186.out).2.2 | (with_reducible refine Kd.C_alloc ?_ _) | (with_reducible refine Kd.C_drewN ?_ _) | (with_reducible refine Kd.C_drew ?_))); (case side2 => exact (Kd.R_reads' HO186.out).2.1); (case side3 => repeat (first | exact (Kd.R_reads' HO_7.out).2.2 | (with_reducible refine Kd.C_alloc ?_ _) | (with_reducible refine Kd.C_drewN ?_ _) | (with_reducible refine Kd.C_drew ?_))); (case side4 => exact (Kd.R_reads' HO_7.out).2.1); rintro e w55 ⟨rfl, hb⟩; refine ⟨_, rfl, ?_⟩; have n0_ := Aside0.mk (Kd.R_below (by (with_reducible repeat (first | apply Kd.R_alloc | apply Kd.R_drewN | apply Kd.R_drew)); exact HO_7.out) hb); have n1_ := Aside0.mk (Kd.R_below (by (with_reducible repeat (first | apply Kd.R_alloc | apply Kd.R_drewN | apply Kd.R_drew)); exact HO_9.out) hb); have n2_ := Aside0.mk (Kd.R_below (by (with_reducible repeat (first | apply Kd.R_alloc | apply Kd.R_drewN | apply Kd.R_drew)); exact HO183.out) hb); have n3_ := Aside0.mk (Kd.R_below (by (with_reducible repeat (first | apply Kd.R_alloc | apply Kd.R_drewN | apply Kd.R_drew)); exact HO186.out) hb); have n4_ := Aside0.mk (below_step (by repeat (first | (with_reducible first | exact HB.out | apply below_alloc | apply pw_below_drewN | apply below_drew1) | exact HB.out)) hb); clear HO_7; clear HO_9; clear HO183; clear HO186; clear HB; have HO_7 := n0_; have HO_9 := n1_; have HO183 := n2_; have HO186 := n3_; have HB := n4_; clear n0_ n1_ n2_ n3_ n4_; (try clear hb); (try clear hb2); (try clear hk); (try clear hi)) | ((with_reducible refine gate_callee (f := 11) rfl ?_); refine goesL_ (some 70) rfl rfl Try.func11 (by kernel_rfl) rfl #[.slice Ao22 t179.length co22, .int .i64 1] rfl (by (try simp only [List.map_toArray, List.map_cons, List.map_nil]); first | done | (rw [show t179.length = t167.length from (Kd.R_reads' HO_9.out).1.symm] <;> rfl) | rfl | (simp only [List.length_drop, List.length_take]; rfl)) ?_; (with_reducible refine (laws_heldTouchS.calls kj14 _ _ t179 1 t188 _ ?side1 ?side2 A41.out).mono ?_); (case side1 => repeat (first | exact (Kd.R_reads' HO_9.out).2.2 | (with_reducible refine Kd.C_alloc ?_ _) | (with_reducible refine Kd.C_drewN ?_ _) | (with_reducible refine Kd.C_drew ?_))); (case side2 => rw [show t179.length = t167.length from (Kd.R_reads' HO_9.out).1.symm]; exact (Kd.R_reads' HO_9.out).2.1); rintro e w' ⟨rfl, ⟨nd, rfl⟩⟩; refine ⟨_, rfl, ?_⟩))
                        go_ret
                        exact ⟨by first | rfl | (simp [errW_none, errW_some] <;> rfl) | (simp [*, errW_none, errW_some] <;> rfl), by repeat (first | (with_reducible first | exact HB.out | apply below_alloc | apply pw_below_drewN | apply below_drew1) | exact HB.out)⟩
                      · rw [if_neg c49] at H
                        have c49b0 : (t188 == t178) = false := beq_eq_false_iff_ne.mpr c49
                        have c49b1 : (t188 != t178) = true := bne_iff_ne.mpr c49
                        obtain rfl := Option.some.inj H
                        go_wp2_with (first | ((with_reducible refine gate_callee (f := 10) rfl ?_); refine goesL_ (some 50) rfl rfl Try.func10 (by kernel_rfl) rfl #[.slice Ao22 t167.length co22, .int .i64 1] rfl (by (try simp only [List.map_toArray, List.map_cons, List.map_nil]); first | done | rfl | (simp only [List.length_drop, List.length_take]; rfl)) ?_; (with_reducible refine (laws_markTouchS.calls kj14 (fun k_ => some k_ = (.slice Ao22 t167.length co22 : Value).ownBlock) (.slice Ao22 t167.length co22) t167 1 t178 t179 w _ ?side1 ?side2 A32.out).mono ?_); (case side1 => repeat (first | (with_reducible first | exact HB.out | apply below_alloc | apply pw_below_drewN | apply below_drew1) | exact HB.out)); (case side2 => exact Kd.R_tight rfl HO_9.out); rintro e w56 ⟨rfl, hy0, hb, hkp⟩; refine ⟨_, rfl, ?_⟩; have n0_ := Aside0.mk (Kd.R_mono (ok' := fun k_ => some k_ ≠ (.slice Ao22 t167.length co22 : Value).ownBlock) (Kd.R_keptB (HO_7.out) hkp (fun k_ hk_ hs_ => (hk_) hs_)) (fun k_ hk_ => hk_.1)); have n1_ := Aside0.mk (Kd.R_reok rfl hy0 (fun k_ e_ => HO_9.out.1 k_ e_)); have n2_ := Aside0.mk (hb); clear HO_7; clear HO_9; clear HB; have HO_7 := n0_; have HO_9 := n1_; have HB := n2_; clear n0_ n1_ n2_; (try clear hb); (try clear hkp); (try clear hy0)) | ((with_reducible refine gate_callee (f := 11) rfl ?_); refine goesL_ (some 53) rfl rfl Try.func11 (by kernel_rfl) rfl #[.slice Ao22 t179.length co22, .int .i64 1] rfl (by (try simp only [List.map_toArray, List.map_cons, List.map_nil]); first | done | (rw [show t179.length = t167.length from (Kd.R_reads' HO_9.out).1.symm] <;> rfl) | rfl | (simp only [List.length_drop, List.length_take]; rfl)) ?_; (with_reducible refine (laws_heldTouchS.calls kj14 _ _ t179 1 t180 _ ?side1 ?side2 A33.out).mono ?_); (case side1 => repeat (first | exact (Kd.R_reads' HO_9.out).2.2 | (with_reducible refine Kd.C_alloc ?_ _) | (with_reducible refine Kd.C_drewN ?_ _) | (with_reducible refine Kd.C_drew ?_))); (case side2 => rw [show t179.length = t167.length from (Kd.R_reads' HO_9.out).1.symm]; exact (Kd.R_reads' HO_9.out).2.1); rintro e w' ⟨rfl, ⟨nd, rfl⟩⟩; refine ⟨_, rfl, ?_⟩) | ((with_reducible refine gate_callee (f := 5) rfl ?_); refine goesL_ (some 62) rfl rfl Try.func5 (by kernel_rfl) rfl #[.slice A2 l2.length c2] rfl (by (try simp only [List.map_toArray, List.map_cons, List.map_nil]); first | done | rfl | (simp only [List.length_drop, List.length_take]; rfl)) ?_; (with_reducible refine (laws_toIntS.calls kj14 _ _ l2 t181 _ ?side1 ?side2 A37.out).mono ?_); (case side1 => repeat (first | exact (Kd.C_below HR2.out (by repeat (first | (with_reducible first | exact HB.out | apply below_alloc | apply pw_below_drewN | apply below_drew1) | exact HB.out))) | (with_reducible refine Kd.C_alloc ?_ _) | (with_reducible refine Kd.C_drewN ?_ _) | (with_reducible refine Kd.C_drew ?_))); (case side2 => exact HC2.out); rintro e w57 ⟨v182, rfl, ho0, hb⟩; refine ⟨_, rfl, ?_⟩; have n0_ := Aside0.mk (Kd.R_below (by (with_reducible repeat (first | apply Kd.R_alloc | apply Kd.R_drewN | apply Kd.R_drew)); exact HO_7.out) hb); have n1_ := Aside0.mk (Kd.R_below (by (with_reducible repeat (first | apply Kd.R_alloc | apply Kd.R_drewN | apply Kd.R_drew)); exact HO_9.out) hb); have n2_ := Aside0.mk (Kd.R_lower ho0 (below_size (by repeat (first | (with_reducible first | exact HB.out | apply below_alloc | apply pw_below_drewN | apply below_drew1) | exact HB.out)))); have n3_ := Aside0.mk (below_step (by repeat (first | (with_reducible first | exact HB.out | apply below_alloc | apply pw_below_drewN | apply below_drew1) | exact HB.out)) hb); clear HO_7; clear HO_9; clear HB; have HO_7 := n0_; have HO_9 := n1_; have HO183 := n2_; have HB := n3_; clear n0_ n1_ n2_ n3_; (try clear hb); (try clear hb2); (try clear hk); (try clear hi); (try clear ho0); obtain ⟨Ao58, co58, eo58⟩ := Kd.R_slice HO183.out; subst eo58) | ((with_reducible refine gate_callee (f := 6) rfl ?_); refine goesL_ (some 63) rfl rfl Try.func6 (by kernel_rfl) rfl #[.int .i64 a0, .int .i64 a1, .slice Ao58 t181.length co58] rfl (by (try simp only [List.map_toArray, List.map_cons, List.map_nil]); first | done | rfl | (simp only [List.length_drop, List.length_take]; rfl)) ?_; (with_reducible refine (impl_PathTouches.calls kj14 a0 a1 _ _ t181 t184 _ ?side1 ?side2 A38.out).mono ?_); (case side1 => repeat (first | exact (Kd.R_reads' HO183.out).2.2 | (with_reducible refine Kd.C_alloc ?_ _) | (with_reducible refine Kd.C_drewN ?_ _) | (with_reducible refine Kd.C_drew ?_))); (case side2 => exact (Kd.R_reads' HO183.out).2.1); rintro e w59 ⟨v185, rfl, ho0, hb⟩; refine ⟨_, rfl, ?_⟩; have n0_ := Aside0.mk (Kd.R_elder' (by (with_reducible repeat (first | apply Kd.R_alloc | apply Kd.R_drewN | apply Kd.R_drew)); exact HO_7.out) (Kd.R_base ho0) hb); have n1_ := Aside0.mk (Kd.R_elder' (by (with_reducible repeat (first | apply Kd.R_alloc | apply Kd.R_drewN | apply Kd.R_drew)); exact HO_9.out) (Kd.R_base ho0) hb); have n2_ := Aside0.mk (Kd.R_below (by (with_reducible repeat (first | apply Kd.R_alloc | apply Kd.R_drewN | apply Kd.R_drew)); exact HO183.out) hb); have n3_ := Aside0.mk (Kd.R_lower (Kd.R_new' (Kd.R_new' ho0 (Kd.R_lt (by (with_reducible repeat (first | apply Kd.R_alloc | apply Kd.R_drewN | apply Kd.R_drew)); exact HO_7.out))) (Kd.R_lt (by (with_reducible repeat (first | apply Kd.R_alloc | apply Kd.R_drewN | apply Kd.R_drew)); exact HO_9.out))) (below_size (by repeat (first | (with_reducible first | exact HB.out | apply below_alloc | apply pw_below_drewN | apply below_drew1) | exact HB.out)))); have n4_ := Aside0.mk (below_step (by repeat (first | (with_reducible first | exact HB.out | apply below_alloc | apply pw_below_drewN | apply below_drew1) | exact HB.out)) hb); clear HO_7; clear HO_9; clear HO183; clear HB; have HO_7 := n0_; have HO_9 := n1_; have HO183 := n2_; have HO186 := n3_; have HB := n4_; clear n0_ n1_ n2_ n3_ n4_; (try clear hb); (try clear hb2); (try clear hk); (try clear hi); (try clear ho0); obtain ⟨Ao60, co60, eo60⟩ := Kd.R_slice HO186.out; subst eo60) | ((with_reducible refine gate_callee (f := 7) rfl ?_); refine goesL_ (some 66) rfl rfl Try.func7 (by kernel_rfl) rfl #[.slice Ao60 t184.length co60, .slice Ao23 t161.length co23] rfl (by (try simp only [List.map_toArray, List.map_cons, List.map_nil]); first | done | rfl | (simp only [List.length_drop, List.length_take]; rfl)) ?_; (with_reducible refine (laws_eqTouchS.calls kj14 _ _ t184 _ _ t161 true _ ?side1 ?side2 ?side3 ?side4 A39.out).mono ?_); (case side1 => repeat (first | exact (Kd.R_reads' HO186.out).2.2 | (with_reducible refine Kd.C_alloc ?_ _) | (with_reducible refine Kd.C_drewN ?_ _) | (with_reducible refine Kd.C_drew ?_))); (case side2 => exact (Kd.R_reads' HO186.out).2.1); (case side3 => repeat (first | exact (Kd.R_reads' HO_7.out).2.2 | (with_reducible refine Kd.C_alloc ?_ _) | (with_reducible refine Kd.C_drewN ?_ _) | (with_reducible refine Kd.C_drew ?_))); (case side4 => exact (Kd.R_reads' HO_7.out).2.1); rintro e w61 ⟨rfl, hb⟩; refine ⟨_, rfl, ?_⟩; have n0_ := Aside0.mk (Kd.R_below (by (with_reducible repeat (first | apply Kd.R_alloc | apply Kd.R_drewN | apply Kd.R_drew)); exact HO_7.out) hb); have n1_ := Aside0.mk (Kd.R_below (by (with_reducible repeat (first | apply Kd.R_alloc | apply Kd.R_drewN | apply Kd.R_drew)); exact HO_9.out) hb); have n2_ := Aside0.mk (Kd.R_below (by (with_reducible repeat (first | apply Kd.R_alloc | apply Kd.R_drewN | apply Kd.R_drew)); exact HO183.out) hb); have n3_ := Aside0.mk (Kd.R_below (by (with_reducible repeat (first | apply Kd.R_alloc | apply Kd.R_drewN | apply Kd.R_drew)); exact HO186.out) hb); have n4_ := Aside0.mk (below_step (by repeat (first | (with_reducible first | exact HB.out | apply below_alloc | apply pw_below_drewN | apply below_drew1) | exact HB.out)) hb); clear HO_7; clear HO_9; clear HO183; clear HO186; clear HB; have HO_7 := n0_; have HO_9 := n1_; have HO183 := n2_; have HO186 := n3_; have HB := n4_; clear n0_ n1_ n2_ n3_ n4_; (try clear hb); (try clear hb2); (try clear hk); (try clear hi)) | ((with_reducible refine gate_callee (f := 11) rfl ?_); refine goesL_ (some 70) rfl rfl Try.func11 (by kernel_rfl) rfl #[.slice Ao22 t179.length co22, .int .i64 1] rfl (by (try simp only [List.map_toArray, List.map_cons, List.map_nil]); first | done | (rw [show t179.length = t167.length from (Kd.R_reads' HO_9.out).1.symm] <;> rfl) | rfl | (simp only [List.length_drop, List.length_take]; rfl)) ?_; (with_reducible refine (laws_heldTouchS.calls kj14 _ _ t179 1 t188 _ ?side1 ?side2 A41.out).mono ?_); (case side1 => repeat (first | exact (Kd.R_reads' HO_9.out).2.2 | (with_reducible refine Kd.C_alloc ?_ _) | (with_reducible refine Kd.C_drewN ?_ _) | (with_reducible refine Kd.C_drew ?_))); (case side2 => rw [show t179.length = t167.length from (Kd.R_reads' HO_9.out).1.symm]; exact (Kd.R_reads' HO_9.out).2.1); rintro e w' ⟨rfl, ⟨nd, rfl⟩⟩; refine ⟨_, rfl, ?_⟩))
                        go_ret
                        exact ⟨by first | rfl | (simp [errW_none, errW_some] <;> rfl) | (simp [*, errW_none, errW_some] <;> rfl), by repeat (first | (with_reducible first | exact HB.out | apply below_alloc | apply pw_below_drewN | apply below_drew1) | exact HB.out)⟩
                  · replace c40 := Bool.eq_false_iff.mpr c40
                    subst c40
                    have H1 : (some false) = some r := by rw [if_neg (show ¬ (false = true) by decide)] at H; exact H
                    clear H
                    have H := H1
                    clear H1
                    obtain rfl := Option.some.inj H
                    go_wp2_with (first | ((with_reducible refine gate_callee (f := 10) rfl ?_); refine goesL_ (some 50) rfl rfl Try.func10 (by kernel_rfl) rfl #[.slice Ao22 t167.length co22, .int .i64 1] rfl (by (try simp only [List.map_toArray, List.map_cons, List.map_nil]); first | done | rfl | (simp only [List.length_drop, List.length_take]; rfl)) ?_; (with_reducible refine (laws_markTouchS.calls kj14 (fun k_ => some k_ = (.slice Ao22 t167.length co22 : Value).ownBlock) (.slice Ao22 t167.length co22) t167 1 t178 t179 w _ ?side1 ?side2 A32.out).mono ?_); (case side1 => repeat (first | (with_reducible first | exact HB.out | apply below_alloc | apply pw_below_drewN | apply below_drew1) | exact HB.out)); (case side2 => exact Kd.R_tight rfl HO_9.out); rintro e w62 ⟨rfl, hy0, hb, hkp⟩; refine ⟨_, rfl, ?_⟩; have n0_ := Aside0.mk (Kd.R_mono (ok' := fun k_ => some k_ ≠ (.slice Ao22 t167.length co22 : Value).ownBlock) (Kd.R_keptB (HO_7.out) hkp (fun k_ hk_ hs_ => (hk_) hs_)) (fun k_ hk_ => hk_.1)); have n1_ := Aside0.mk (Kd.R_reok rfl hy0 (fun k_ e_ => HO_9.out.1 k_ e_)); have n2_ := Aside0.mk (hb); clear HO_7; clear HO_9; clear HB; have HO_7 := n0_; have HO_9 := n1_; have HB := n2_; clear n0_ n1_ n2_; (try clear hb); (try clear hkp); (try clear hy0)) | ((with_reducible refine gate_callee (f := 11) rfl ?_); refine goesL_ (some 53) rfl rfl Try.func11 (by kernel_rfl) rfl #[.slice Ao22 t179.length co22, .int .i64 1] rfl (by (try simp only [List.map_toArray, List.map_cons, List.map_nil]); first | done | (rw [show t179.length = t167.length from (Kd.R_reads' HO_9.out).1.symm] <;> rfl) | rfl | (simp only [List.length_drop, List.length_take]; rfl)) ?_; (with_reducible refine (laws_heldTouchS.calls kj14 _ _ t179 1 t180 _ ?side1 ?side2 A33.out).mono ?_); (case side1 => repeat (first | exact (Kd.R_reads' HO_9.out).2.2 | (with_reducible refine Kd.C_alloc ?_ _) | (with_reducible refine Kd.C_drewN ?_ _) | (with_reducible refine Kd.C_drew ?_))); (case side2 => rw [show t179.length = t167.length from (Kd.R_reads' HO_9.out).1.symm]; exact (Kd.R_reads' HO_9.out).2.1); rintro e w' ⟨rfl, ⟨nd, rfl⟩⟩; refine ⟨_, rfl, ?_⟩) | ((with_reducible refine gate_callee (f := 5) rfl ?_); refine goesL_ (some 62) rfl rfl Try.func5 (by kernel_rfl) rfl #[.slice A2 l2.length c2] rfl (by (try simp only [List.map_toArray, List.map_cons, List.map_nil]); first | done | rfl | (simp only [List.length_drop, List.length_take]; rfl)) ?_; (with_reducible refine (laws_toIntS.calls kj14 _ _ l2 t181 _ ?side1 ?side2 A37.out).mono ?_); (case side1 => repeat (first | exact (Kd.C_below HR2.out (by repeat (first | (with_reducible first | exact HB.out | apply below_alloc | apply pw_below_drewN | apply below_drew1) | exact HB.out))) | (with_reducible refine Kd.C_alloc ?_ _) | (with_reducible refine Kd.C_drewN ?_ _) | (with_reducible refine Kd.C_drew ?_))); (case side2 => exact HC2.out); rintro e w63 ⟨v182, rfl, ho0, hb⟩; refine ⟨_, rfl, ?_⟩; have n0_ := Aside0.mk (Kd.R_below (by (with_reducible repeat (first | apply Kd.R_alloc | apply Kd.R_drewN | apply Kd.R_drew)); exact HO_7.out) hb); have n1_ := Aside0.mk (Kd.R_below (by (with_reducible repeat (first | apply Kd.R_alloc | apply Kd.R_drewN | apply Kd.R_drew)); exact HO_9.out) hb); have n2_ := Aside0.mk (Kd.R_lower ho0 (below_size (by repeat (first | (with_reducible first | exact HB.out | apply below_alloc | apply pw_below_drewN | apply below_drew1) | exact HB.out)))); have n3_ := Aside0.mk (below_step (by repeat (first | (with_reducible first | exact HB.out | apply below_alloc | apply pw_below_drewN | apply below_drew1) | exact HB.out)) hb); clear HO_7; clear HO_9; clear HB; have HO_7 := n0_; have HO_9 := n1_; have HO183 := n2_; have HB := n3_; clear n0_ n1_ n2_ n3_; (try clear hb); (try clear hb2); (try clear hk); (try clear hi); (try clear ho0); obtain ⟨Ao64, co64, eo64⟩ := Kd.R_slice HO183.out; subst eo64) | ((with_reducible refine gate_callee (f := 6) rfl ?_); refine goesL_ (some 63) rfl rfl Try.func6 (by kernel_rfl) rfl #[.int .i64 a0, .int .i64 a1, .slice Ao64 t181.length co64] rfl (by (try simp only [List.map_toArray, List.map_cons, List.map_nil]); first | done | rfl | (simp only [List.length_drop, List.length_take]; rfl)) ?_; (with_reducible refine (impl_PathTouches.calls kj14 a0 a1 _ _ t181 t184 _ ?side1 ?side2 A38.out).mono ?_); (case side1 => repeat (first | exact (Kd.R_reads' HO183.out).2.2 | (with_reducible refine Kd.C_alloc ?_ _) | (with_reducible refine Kd.C_drewN ?_ _) | (with_reducible refine Kd.C_drew ?_))); (case side2 => exact (Kd.R_reads' HO183.out).2.1); rintro e w65 ⟨v185, rfl, ho0, hb⟩; refine ⟨_, rfl, ?_⟩; have n0_ := Aside0.mk (Kd.R_elder' (by (with_reducible repeat (first | apply Kd.R_alloc | apply Kd.R_drewN | apply Kd.R_drew)); exact HO_7.out) (Kd.R_base ho0) hb); have n1_ := Aside0.mk (Kd.R_elder' (by (with_reducible repeat (first | apply Kd.R_alloc | apply Kd.R_drewN | apply Kd.R_drew)); exact HO_9.out) (Kd.R_base ho0) hb); have n2_ := Aside0.mk (Kd.R_below (by (with_reducible repeat (first | apply Kd.R_alloc | apply Kd.R_drewN | apply Kd.R_drew)); exact HO183.out) hb); have n3_ := Aside0.mk (Kd.R_lower (Kd.R_new' (Kd.R_new' ho0 (Kd.R_lt (by (with_reducible repeat (first | apply Kd.R_alloc | apply Kd.R_drewN | apply Kd.R_drew)); exact HO_7.out))) (Kd.R_lt (by (with_reducible repeat (first | apply Kd.R_alloc | apply Kd.R_drewN | apply Kd.R_drew)); exact HO_9.out))) (below_size (by repeat (first | (with_reducible first | exact HB.out | apply below_alloc | apply pw_below_drewN | apply below_drew1) | exact HB.out)))); have n4_ := Aside0.mk (below_step (by repeat (first | (with_reducible first | exact HB.out | apply below_alloc | apply pw_below_drewN | apply below_drew1) | exact HB.out)) hb); clear HO_7; clear HO_9; clear HO183; clear HB; have HO_7 := n0_; have HO_9 := n1_; have HO183 := n2_; have HO186 := n3_; have HB := n4_; clear n0_ n1_ n2_ n3_ n4_; (try clear hb); (try clear hb2); (try clear hk); (try clear hi); (try clear ho0); obtain ⟨Ao66, co66, eo66⟩ := Kd.R_slice HO186.out; subst eo66) | ((with_reducible refine gate_callee (f := 7) rfl ?_); refine goesL_ (some 66) rfl rfl Try.func7 (by kernel_rfl) rfl #[.slice Ao66 t184.length co66, .slice Ao23 t161.length co23] rfl (by (try simp only [List.map_toArray, List.map_cons, List.map_nil]); first | done | rfl | (simp only [List.length_drop, List.length_take]; rfl)) ?_; (with_reducible refine (laws_eqTouchS.calls kj14 _ _ t184 _ _ t161 false _ ?side1 ?side2 ?side3 ?side4 A39.out).mono ?_); (case side1 => repeat (first | exact (Kd.R_reads' HO186.out).2.2 | (with_reducible refine Kd.C_alloc ?_ _) | (with_reducible refine Kd.C_drewN ?_ _) | (with_reducible refine Kd.C_drew ?_))); (case side2 => exact (Kd.R_reads' HO186.out).2.1); (case side3 => repeat (first | exact (Kd.R_reads' HO_7.out).2.2 | (with_reducible refine Kd.C_alloc ?_ _) | (with_reducible refine Kd.C_drewN ?_ _) | (with_reducible refine Kd.C_drew ?_))); (case side4 => exact (Kd.R_reads' HO_7.out).2.1); rintro e w67 ⟨rfl, hb⟩; refine ⟨_, rfl, ?_⟩; have n0_ := Aside0.mk (Kd.R_below (by (with_reducible repeat (first | apply Kd.R_alloc | apply Kd.R_drewN | apply Kd.R_drew)); exact HO_7.out) hb); have n1_ := Aside0.mk (Kd.R_below (by (with_reducible repeat (first | apply Kd.R_alloc | apply Kd.R_drewN | apply Kd.R_drew)); exact HO_9.out) hb); have n2_ := Aside0.mk (Kd.R_below (by (with_reducible repeat (first | apply Kd.R_alloc | apply Kd.R_drewN | apply Kd.R_drew)); exact HO183.out) hb); have n3_ := Aside0.mk (Kd.R_below (by (with_reducible repeat (first | apply Kd.R_alloc | apply Kd.R_drewN | apply Kd.R_drew)); exact HO186.out) hb); have n4_ := Aside0.mk (below_step (by repeat (first | (with_reducible first | exact HB.out | apply below_alloc | apply pw_below_drewN | apply below_drew1) | exact HB.out)) hb); clear HO_7; clear HO_9; clear HO183; clear HO186; clear HB; have HO_7 := n0_; have HO_9 := n1_; have HO183 := n2_; have HO186 := n3_; have HB := n4_; clear n0_ n1_ n2_ n3_ n4_; (try clear hb); (try clear hb2); (try clear hk); (try clear hi)))
                    go_ret
                    exact ⟨by first | rfl | (simp [errW_none, errW_some] <;> rfl) | (simp [*, errW_none, errW_some] <;> rfl), by repeat (first | (with_reducible first | exact HB.out | apply below_alloc | apply pw_below_drewN | apply below_drew1) | exact HB.out)⟩
                · rw [if_neg c36] at H
                  have c36b0 : (t180 == t178) = false := beq_eq_false_iff_ne.mpr c36
                  have c36b1 : (t180 != t178) = true := bne_iff_ne.mpr c36
                  obtain rfl := Option.some.inj H
                  go_wp2_with (first | ((with_reducible refine gate_callee (f := 10) rfl ?_); refine goesL_ (some 50) rfl rfl Try.func10 (by kernel_rfl) rfl #[.slice Ao22 t167.length co22, .int .i64 1] rfl (by (try simp only [List.map_toArray, List.map_cons, List.map_nil]); first | done | rfl | (simp only [List.length_drop, List.length_take]; rfl)) ?_; (with_reducible refine (laws_markTouchS.calls kj14 (fun k_ => some k_ = (.slice Ao22 t167.length co22 : Value).ownBlock) (.slice Ao22 t167.length co22) t167 1 t178 t179 w _ ?side1 ?side2 A32.out).mono ?_); (case side1 => repeat (first | (with_reducible first | exact HB.out | apply below_alloc | apply pw_below_drewN | apply below_drew1) | exact HB.out)); (case side2 => exact Kd.R_tight rfl HO_9.out); rintro e w68 ⟨rfl, hy0, hb, hkp⟩; refine ⟨_, rfl, ?_⟩; have n0_ := Aside0.mk (Kd.R_mono (ok' := fun k_ => some k_ ≠ (.slice Ao22 t167.length co22 : Value).ownBlock) (Kd.R_keptB (HO_7.out) hkp (fun k_ hk_ hs_ => (hk_) hs_)) (fun k_ hk_ => hk_.1)); have n1_ := Aside0.mk (Kd.R_reok rfl hy0 (fun k_ e_ => HO_9.out.1 k_ e_)); have n2_ := Aside0.mk (hb); clear HO_7; clear HO_9; clear HB; have HO_7 := n0_; have HO_9 := n1_; have HB := n2_; clear n0_ n1_ n2_; (try clear hb); (try clear hkp); (try clear hy0)) | ((with_reducible refine gate_callee (f := 11) rfl ?_); refine goesL_ (some 53) rfl rfl Try.func11 (by kernel_rfl) rfl #[.slice Ao22 t179.length co22, .int .i64 1] rfl (by (try simp only [List.map_toArray, List.map_cons, List.map_nil]); first | done | (rw [show t179.length = t167.length from (Kd.R_reads' HO_9.out).1.symm] <;> rfl) | rfl | (simp only [List.length_drop, List.length_take]; rfl)) ?_; (with_reducible refine (laws_heldTouchS.calls kj14 _ _ t179 1 t180 _ ?side1 ?side2 A33.out).mono ?_); (case side1 => repeat (first | exact (Kd.R_reads' HO_9.out).2.2 | (with_reducible refine Kd.C_alloc ?_ _) | (with_reducible refine Kd.C_drewN ?_ _) | (with_reducible refine Kd.C_drew ?_))); (case side2 => rw [show t179.length = t167.length from (Kd.R_reads' HO_9.out).1.symm]; exact (Kd.R_reads' HO_9.out).2.1); rintro e w' ⟨rfl, ⟨nd, rfl⟩⟩; refine ⟨_, rfl, ?_⟩))
                  go_ret
                  exact ⟨by first | rfl | (simp [errW_none, errW_some] <;> rfl) | (simp [*, errW_none, errW_some] <;> rfl), by repeat (first | (with_reducible first | exact HB.out | apply below_alloc | apply pw_below_drewN | apply below_drew1) | exact HB.out)⟩
      · replace c13 := Bool.eq_false_iff.mpr c13
        subst c13
        have H1 : (some false) = some r := by rw [if_neg (show ¬ (false = true) by decide)] at H; exact H
        clear H
        have H := H1
        clear H1
        obtain rfl := Option.some.inj H
        go_enter Try.func3, Try.ntmps3
        go_wp2_with (first | ((with_reducible refine gate_callee (f := 5) rfl ?_); refine goesL_ (some 20) rfl rfl Try.func5 (by kernel_rfl) rfl #[.slice A2 l2.length c2] rfl (by (try simp only [List.map_toArray, List.map_cons, List.map_nil]); first | done | rfl | (simp only [List.length_drop, List.length_take]; rfl)) ?_; (with_reducible refine (laws_toIntS.calls k _ _ l2 t158 _ ?side1 ?side2 A5.out).mono ?_); (case side1 => repeat (first | exact HR2.out | (with_reducible refine Kd.C_alloc ?_ _) | (with_reducible refine Kd.C_drewN ?_ _) | (with_reducible refine Kd.C_drew ?_))); (case side2 => exact HC2.out); rintro e w69 ⟨v159, rfl, ho0, hb⟩; refine ⟨_, rfl, ?_⟩; have n0_ := Aside0.mk (Kd.R_lower ho0 (below_size (by repeat (first | (with_reducible first | exact HB.out | apply below_alloc | apply pw_below_drewN | apply below_drew1) | exact HB.out)))); have n1_ := Aside0.mk (below_step (by repeat (first | (with_reducible first | exact HB.out | apply below_alloc | apply pw_below_drewN | apply below_drew1) | exact HB.out)) hb); clear HB; have HO160 := n0_; have HB := n1_; clear n0_ n1_; (try clear hb); (try clear hb2); (try clear hk); (try clear hi); (try clear ho0); obtain ⟨Ao70, co70, eo70⟩ := Kd.R_slice HO160.out; subst eo70) | ((with_reducible refine gate_callee (f := 4) rfl ?_); refine goesL_ (some 21) rfl rfl Try.func4 (by kernel_rfl) rfl #[.int .i64 a0, .int .i64 a1, .slice Ao70 t158.length co70] rfl (by (try simp only [List.map_toArray, List.map_cons, List.map_nil]); first | done | rfl | (simp only [List.length_drop, List.length_take]; rfl)) ?_; (with_reducible refine (spec_PathTouches.calls k a0 a1 _ _ t158 t161 _ ?side1 ?side2 A6.out).mono ?_); (case side1 => repeat (first | exact (Kd.R_reads' HO160.out).2.2 | (with_reducible refine Kd.C_alloc ?_ _) | (with_reducible refine Kd.C_drewN ?_ _) | (with_reducible refine Kd.C_drew ?_))); (case side2 => exact (Kd.R_reads' HO160.out).2.1); rintro e w71 ⟨v162, rfl, ho0, hb⟩; refine ⟨_, rfl, ?_⟩; have n0_ := Aside0.mk (Kd.R_below (by (with_reducible repeat (first | apply Kd.R_alloc | apply Kd.R_drewN | apply Kd.R_drew)); exact HO160.out) hb); have n1_ := Aside0.mk (Kd.R_lower ho0 (below_size (by repeat (first | (with_reducible first | exact HB.out | apply below_alloc | apply pw_below_drewN | apply below_drew1) | exact HB.out)))); have n2_ := Aside0.mk (below_step (by repeat (first | (with_reducible first | exact HB.out | apply below_alloc | apply pw_below_drewN | apply below_drew1) | exact HB.out)) hb); clear HO160; clear HB; have HO160 := n0_; have HO163 := n1_; have HB := n2_; clear n0_ n1_ n2_; (try clear hb); (try clear hb2); (try clear hk); (try clear hi); (try clear ho0)) | ((with_reducible refine gate_callee (f := 5) rfl ?_); refine goesL_ (some 23) rfl rfl Try.func5 (by kernel_rfl) rfl #[.slice A2 l2.length c2] rfl (by (try simp only [List.map_toArray, List.map_cons, List.map_nil]); first | done | rfl | (simp only [List.length_drop, List.length_take]; rfl)) ?_; (with_reducible refine (laws_toIntS.calls k _ _ l2 t164 _ ?side1 ?side2 A7.out).mono ?_); (case side1 => repeat (first | exact (Kd.C_below HR2.out HB.out) | (with_reducible refine Kd.C_alloc ?_ _) | (with_reducible refine Kd.C_drewN ?_ _) | (with_reducible refine Kd.C_drew ?_))); (case side2 => exact HC2.out); rintro e w72 ⟨v165, rfl, ho0, hb⟩; refine ⟨_, rfl, ?_⟩; have n0_ := Aside0.mk (Kd.R_elder' (by (with_reducible repeat (first | apply Kd.R_alloc | apply Kd.R_drewN | apply Kd.R_drew)); exact HO160.out) (Kd.R_base ho0) hb); have n1_ := Aside0.mk (Kd.R_below (by (with_reducible repeat (first | apply Kd.R_alloc | apply Kd.R_drewN | apply Kd.R_drew)); exact HO163.out) hb); have n2_ := Aside0.mk (Kd.R_lower (Kd.R_new' ho0 (Kd.R_lt (by (with_reducible repeat (first | apply Kd.R_alloc | apply Kd.R_drewN | apply Kd.R_drew)); exact HO160.out))) (below_size (by repeat (first | (with_reducible first | exact HB.out | apply below_alloc | apply pw_below_drewN | apply below_drew1) | exact HB.out)))); have n3_ := Aside0.mk (below_step (by repeat (first | (with_reducible first | exact HB.out | apply below_alloc | apply pw_below_drewN | apply below_drew1) | exact HB.out)) hb); clear HO160; clear HO163; clear HB; have HO160 := n0_; have HO163 := n1_; have HO166 := n2_; have HB := n3_; clear n0_ n1_ n2_ n3_; (try clear hb); (try clear hb2); (try clear hk); (try clear hi); (try clear ho0); obtain ⟨Ao73, co73, eo73⟩ := Kd.R_slice HO166.out; subst eo73) | ((with_reducible refine gate_callee (f := 6) rfl ?_); refine goesL_ (some 27) rfl rfl Try.func6 (by kernel_rfl) rfl #[.int .i64 a0, .int .i64 a1, .slice Ao73 t164.length co73] rfl (by (try simp only [List.map_toArray, List.map_cons, List.map_nil]); first | done | rfl | (simp only [List.length_drop, List.length_take]; rfl)) ?_; (with_reducible refine (impl_PathTouches.calls k a0 a1 _ _ t164 t167 _ ?side1 ?side2 A8.out).mono ?_); (case side1 => repeat (first | exact (Kd.R_reads' HO166.out).2.2 | (with_reducible refine Kd.C_alloc ?_ _) | (with_reducible refine Kd.C_drewN ?_ _) | (with_reducible refine Kd.C_drew ?_))); (case side2 => exact (Kd.R_reads' HO166.out).2.1); rintro e w74 ⟨v168, rfl, ho0, hb⟩; refine ⟨_, rfl, ?_⟩; have n0_ := Aside0.mk (Kd.R_below (by (with_reducible repeat (first | apply Kd.R_alloc | apply Kd.R_drewN | apply Kd.R_drew)); exact HO160.out) hb); have n1_ := Aside0.mk (Kd.R_elder' (by (with_reducible repeat (first | apply Kd.R_alloc | apply Kd.R_drewN | apply Kd.R_drew)); exact HO163.out) (Kd.R_base ho0) hb); have n2_ := Aside0.mk (Kd.R_below (by (with_reducible repeat (first | apply Kd.R_alloc | apply Kd.R_drewN | apply Kd.R_drew)); exact HO166.out) hb); have n3_ := Aside0.mk (Kd.R_lower (Kd.R_new' ho0 (Kd.R_lt (by (with_reducible repeat (first | apply Kd.R_alloc | apply Kd.R_drewN | apply Kd.R_drew)); exact HO163.out))) (below_size (by repeat (first | (with_reducible first | exact HB.out | apply below_alloc | apply pw_below_drewN | apply below_drew1) | exact HB.out)))); have n4_ := Aside0.mk (below_step (by repeat (first | (with_reducible first | exact HB.out | apply below_alloc | apply pw_below_drewN | apply below_drew1) | exact HB.out)) hb); clear HO160; clear HO163; clear HO166; clear HB; have HO160 := n0_; have HO163 := n1_; have HO166 := n2_; have HO169 := n3_; have HB := n4_; clear n0_ n1_ n2_ n3_ n4_; (try clear hb); (try clear hb2); (try clear hk); (try clear hi); (try clear ho0); obtain ⟨Ao75, co75, eo75⟩ := Kd.R_slice HO169.out; subst eo75; obtain ⟨Ao76, co76, eo76⟩ := Kd.R_slice HO163.out; subst eo76) | ((with_reducible refine gate_callee (f := 7) rfl ?_); refine goesL_ (some 30) rfl rfl Try.func7 (by kernel_rfl) rfl #[.slice Ao75 t167.length co75, .slice Ao76 t161.length co76] rfl (by (try simp only [List.map_toArray, List.map_cons, List.map_nil]); first | done | rfl | (simp only [List.length_drop, List.length_take]; rfl)) ?_; (with_reducible refine (laws_eqTouchS.calls k _ _ t167 _ _ t161 true _ ?side1 ?side2 ?side3 ?side4 A9.out).mono ?_); (case side1 => repeat (first | exact (Kd.R_reads' HO169.out).2.2 | (with_reducible refine Kd.C_alloc ?_ _) | (with_reducible refine Kd.C_drewN ?_ _) | (with_reducible refine Kd.C_drew ?_))); (case side2 => exact (Kd.R_reads' HO169.out).2.1); (case side3 => repeat (first | exact (Kd.R_reads' HO163.out).2.2 | (with_reducible refine Kd.C_alloc ?_ _) | (with_reducible refine Kd.C_drewN ?_ _) | (with_reducible refine Kd.C_drew ?_))); (case side4 => exact (Kd.R_reads' HO163.out).2.1); rintro e w77 ⟨rfl, hb⟩; refine ⟨_, rfl, ?_⟩; have n0_ := Aside0.mk (Kd.R_below (by (with_reducible repeat (first | apply Kd.R_alloc | apply Kd.R_drewN | apply Kd.R_drew)); exact HO160.out) hb); have n1_ := Aside0.mk (Kd.R_below (by (with_reducible repeat (first | apply Kd.R_alloc | apply Kd.R_drewN | apply Kd.R_drew)); exact HO163.out) hb); have n2_ := Aside0.mk (Kd.R_below (by (with_reducible repeat (first | apply Kd.R_alloc | apply Kd.R_drewN | apply Kd.R_drew)); exact HO166.out) hb); have n3_ := Aside0.mk (Kd.R_below (by (with_reducible repeat (first | apply Kd.R_alloc | apply Kd.R_drewN | apply Kd.R_drew)); exact HO169.out) hb); have n4_ := Aside0.mk (below_step (by repeat (first | (with_reducible first | exact HB.out | apply below_alloc | apply pw_below_drewN | apply below_drew1) | exact HB.out)) hb); clear HO160; clear HO163; clear HO166; clear HO169; clear HB; have HO160 := n0_; have HO163 := n1_; have HO166 := n2_; have HO169 := n3_; have HB := n4_; clear n0_ n1_ n2_ n3_ n4_; (try clear hb); (try clear hb2); (try clear hk); (try clear hi)) | ((with_reducible refine gate_callee (f := 5) rfl ?_); refine goesL_ (some 34) rfl rfl Try.func5 (by kernel_rfl) rfl #[.slice A2 l2.length c2] rfl (by (try simp only [List.map_toArray, List.map_cons, List.map_nil]); first | done | rfl | (simp only [List.length_drop, List.length_take]; rfl)) ?_; (with_reducible refine (laws_toIntS.calls k _ _ l2 t171 _ ?side1 ?side2 A11.out).mono ?_); (case side1 => repeat (first | exact (Kd.C_below HR2.out HB.out) | (with_reducible refine Kd.C_alloc ?_ _) | (with_reducible refine Kd.C_drewN ?_ _) | (with_reducible refine Kd.C_drew ?_))); (case side2 => exact HC2.out); rintro e w78 ⟨v172, rfl, ho0, hb⟩; refine ⟨_, rfl, ?_⟩; have n0_ := Aside0.mk (Kd.R_elder' (by (with_reducible repeat (first | apply Kd.R_alloc | apply Kd.R_drewN | apply Kd.R_drew)); exact HO160.out) (Kd.R_base ho0) hb); have n1_ := Aside0.mk (Kd.R_below (by (with_reducible repeat (first | apply Kd.R_alloc | apply Kd.R_drewN | apply Kd.R_drew)); exact HO163.out) hb); have n2_ := Aside0.mk (Kd.R_elder' (by (with_reducible repeat (first | apply Kd.R_alloc | apply Kd.R_drewN | apply Kd.R_drew)); exact HO166.out) (Kd.R_base ho0) hb); have n3_ := Aside0.mk (Kd.R_below (by (with_reducible repeat (first | apply Kd.R_alloc | apply Kd.R_drewN | apply Kd.R_drew)); exact HO169.out) hb); have n4_ := Aside0.mk (Kd.R_lower (Kd.R_new' (Kd.R_new' ho0 (Kd.R_lt (by (with_reducible repeat (first | apply Kd.R_alloc | apply Kd.R_drewN | apply Kd.R_drew)); exact HO160.out))) (Kd.R_lt (by (with_reducible repeat (first | apply Kd.R_alloc | apply Kd.R_drewN | apply Kd.R_drew)); exact HO166.out))) (below_size (by repeat (first | (with_reducible first | exact HB.out | apply below_alloc | apply pw_below_drewN | apply below_drew1) | exact HB.out)))); have n5_ := Aside0.mk (below_step (by repeat (first | (with_reducible first | exact HB.out | apply below_alloc | apply pw_below_drewN | apply below_drew1) | exact HB.out)) hb); clear HO160; clear HO163; clear HO166; clear HO169; clear HB; have HO160 := n0_; have HO163 := n1_; have HO166 := n2_; have HO169 := n3_; have HO173 := n4_; have HB := n5_; clear n0_ n1_ n2_ n3_ n4_ n5_; (try clear hb); (try clear hb2); (try clear hk); (try clear hi); (try clear ho0); obtain ⟨Ao79, co79, eo79⟩ := Kd.R_slice HO173.out; subst eo79) | ((with_reducible refine gate_callee (f := 8) rfl ?_); refine goesL_ (some 35) rfl rfl Try.func8 (by kernel_rfl) rfl #[.slice Ao73 t164.length co73, .slice Ao79 t171.length co79] rfl (by (try simp only [List.map_toArray, List.map_cons, List.map_nil]); first | done | rfl | (simp only [List.length_drop, List.length_take]; rfl)) ?_; (with_reducible refine (laws_eqIntS.calls k _ _ t164 _ _ t171 false _ ?side1 ?side2 ?side3 ?side4 A12.out).mono ?_); (case side1 => repeat (first | exact (Kd.R_reads' HO166.out).2.2 | (with_reducible refine Kd.C_alloc ?_ _) | (with_reducible refine Kd.C_drewN ?_ _) | (with_reducible refine Kd.C_drew ?_))); (case side2 => exact (Kd.R_reads' HO166.out).2.1); (case side3 => repeat (first | exact (Kd.R_reads' HO173.out).2.2 | (with_reducible refine Kd.C_alloc ?_ _) | (with_reducible refine Kd.C_drewN ?_ _) | (with_reducible refine Kd.C_drew ?_))); (case side4 => exact (Kd.R_reads' HO173.out).2.1); rintro e w' ⟨rfl, ⟨nd, rfl⟩⟩; refine ⟨_, rfl, ?_⟩))
        go_ret
        exact ⟨by first | rfl | (simp [errW_none, errW_some] <;> rfl) | (simp [*, errW_none, errW_some] <;> rfl), by repeat (first | (with_reducible first | exact HB.out | apply below_alloc | apply pw_below_drewN | apply below_drew1) | exact HB.out)⟩
    · replace c10 := Bool.eq_false_iff.mpr c10
      subst c10
      have H1 : (some false) = some r := by rw [if_neg (show ¬ (false = true) by decide)] at H; exact H
      clear H
      have H := H1
      clear H1
      obtain rfl := Option.some.inj H
      go_enter Try.func3, Try.ntmps3
      go_wp2_with (first | ((with_reducible refine gate_callee (f := 5) rfl ?_); refine goesL_ (some 20) rfl rfl Try.func5 (by kernel_rfl) rfl #[.slice A2 l2.length c2] rfl (by (try simp only [List.map_toArray, List.map_cons, List.map_nil]); first | done | rfl | (simp only [List.length_drop, List.length_take]; rfl)) ?_; (with_reducible refine (laws_toIntS.calls k _ _ l2 t158 _ ?side1 ?side2 A5.out).mono ?_); (case side1 => repeat (first | exact HR2.out | (with_reducible refine Kd.C_alloc ?_ _) | (with_reducible refine Kd.C_drewN ?_ _) | (with_reducible refine Kd.C_drew ?_))); (case side2 => exact HC2.out); rintro e w80 ⟨v159, rfl, ho0, hb⟩; refine ⟨_, rfl, ?_⟩; have n0_ := Aside0.mk (Kd.R_lower ho0 (below_size (by repeat (first | (with_reducible first | exact HB.out | apply below_alloc | apply pw_below_drewN | apply below_drew1) | exact HB.out)))); have n1_ := Aside0.mk (below_step (by repeat (first | (with_reducible first | exact HB.out | apply below_alloc | apply pw_below_drewN | apply below_drew1) | exact HB.out)) hb); clear HB; have HO160 := n0_; have HB := n1_; clear n0_ n1_; (try clear hb); (try clear hb2); (try clear hk); (try clear hi); (try clear ho0); obtain ⟨Ao81, co81, eo81⟩ := Kd.R_slice HO160.out; subst eo81) | ((with_reducible refine gate_callee (f := 4) rfl ?_); refine goesL_ (some 21) rfl rfl Try.func4 (by kernel_rfl) rfl #[.int .i64 a0, .int .i64 a1, .slice Ao81 t158.length co81] rfl (by (try simp only [List.map_toArray, List.map_cons, List.map_nil]); first | done | rfl | (simp only [List.length_drop, List.length_take]; rfl)) ?_; (with_reducible refine (spec_PathTouches.calls k a0 a1 _ _ t158 t161 _ ?side1 ?side2 A6.out).mono ?_); (case side1 => repeat (first | exact (Kd.R_reads' HO160.out).2.2 | (with_reducible refine Kd.C_alloc ?_ _) | (with_reducible refine Kd.C_drewN ?_ _) | (with_reducible refine Kd.C_drew ?_))); (case side2 => exact (Kd.R_reads' HO160.out).2.1); rintro e w82 ⟨v162, rfl, ho0, hb⟩; refine ⟨_, rfl, ?_⟩; have n0_ := Aside0.mk (Kd.R_below (by (with_reducible repeat (first | apply Kd.R_alloc | apply Kd.R_drewN | apply Kd.R_drew)); exact HO160.out) hb); have n1_ := Aside0.mk (Kd.R_lower ho0 (below_size (by repeat (first | (with_reducible first | exact HB.out | apply below_alloc | apply pw_below_drewN | apply below_drew1) | exact HB.out)))); have n2_ := Aside0.mk (below_step (by repeat (first | (with_reducible first | exact HB.out | apply below_alloc | apply pw_below_drewN | apply below_drew1) | exact HB.out)) hb); clear HO160; clear HB; have HO160 := n0_; have HO163 := n1_; have HB := n2_; clear n0_ n1_ n2_; (try clear hb); (try clear hb2); (try clear hk); (try clear hi); (try clear ho0)) | ((with_reducible refine gate_callee (f := 5) rfl ?_); refine goesL_ (some 23) rfl rfl Try.func5 (by kernel_rfl) rfl #[.slice A2 l2.length c2] rfl (by (try simp only [List.map_toArray, List.map_cons, List.map_nil]); first | done | rfl | (simp only [List.length_drop, List.length_take]; rfl)) ?_; (with_reducible refine (laws_toIntS.calls k _ _ l2 t164 _ ?side1 ?side2 A7.out).mono ?_); (case side1 => repeat (first | exact (Kd.C_below HR2.out HB.out) | (with_reducible refine Kd.C_alloc ?_ _) | (with_reducible refine Kd.C_drewN ?_ _) | (with_reducible refine Kd.C_drew ?_))); (case side2 => exact HC2.out); rintro e w83 ⟨v165, rfl, ho0, hb⟩; refine ⟨_, rfl, ?_⟩; have n0_ := Aside0.mk (Kd.R_elder' (by (with_reducible repeat (first | apply Kd.R_alloc | apply Kd.R_drewN | apply Kd.R_drew)); exact HO160.out) (Kd.R_base ho0) hb); have n1_ := Aside0.mk (Kd.R_below (by (with_reducible repeat (first | apply Kd.R_alloc | apply Kd.R_drewN | apply Kd.R_drew)); exact HO163.out) hb); have n2_ := Aside0.mk (Kd.R_lower (Kd.R_new' ho0 (Kd.R_lt (by (with_reducible repeat (first | apply Kd.R_alloc | apply Kd.R_drewN | apply Kd.R_drew)); exact HO160.out))) (below_size (by repeat (first | (with_reducible first | exact HB.out | apply below_alloc | apply pw_below_drewN | apply below_drew1) | exact HB.out)))); have n3_ := Aside0.mk (below_step (by repeat (first | (with_reducible first | exact HB.out | apply below_alloc | apply pw_below_drewN | apply below_drew1) | exact HB.out)) hb); clear HO160; clear HO163; clear HB; have HO160 := n0_; have HO163 := n1_; have HO166 := n2_; have HB := n3_; clear n0_ n1_ n2_ n3_; (try clear hb); (try clear hb2); (try clear hk); (try clear hi); (try clear ho0); obtain ⟨Ao84, co84, eo84⟩ := Kd.R_slice HO166.out; subst eo84) | ((with_reducible refine gate_callee (f := 6) rfl ?_); refine goesL_ (some 27) rfl rfl Try.func6 (by kernel_rfl) rfl #[.int .i64 a0, .int .i64 a1, .slice Ao84 t164.length co84] rfl (by (try simp only [List.map_toArray, List.map_cons, List.map_nil]); first | done | rfl | (simp only [List.length_drop, List.length_take]; rfl)) ?_; (with_reducible refine (impl_PathTouches.calls k a0 a1 _ _ t164 t167 _ ?side1 ?side2 A8.out).mono ?_); (case side1 => repeat (first | exact (Kd.R_reads' HO166.out).2.2 | (with_reducible refine Kd.C_alloc ?_ _) | (with_reducible refine Kd.C_drewN ?_ _) | (with_reducible refine Kd.C_drew ?_))); (case side2 => exact (Kd.R_reads' HO166.out).2.1); rintro e w85 ⟨v168, rfl, ho0, hb⟩; refine ⟨_, rfl, ?_⟩; have n0_ := Aside0.mk (Kd.R_below (by (with_reducible repeat (first | apply Kd.R_alloc | apply Kd.R_drewN | apply Kd.R_drew)); exact HO160.out) hb); have n1_ := Aside0.mk (Kd.R_elder' (by (with_reducible repeat (first | apply Kd.R_alloc | apply Kd.R_drewN | apply Kd.R_drew)); exact HO163.out) (Kd.R_base ho0) hb); have n2_ := Aside0.mk (Kd.R_below (by (with_reducible repeat (first | apply Kd.R_alloc | apply Kd.R_drewN | apply Kd.R_drew)); exact HO166.out) hb); have n3_ := Aside0.mk (Kd.R_lower (Kd.R_new' ho0 (Kd.R_lt (by (with_reducible repeat (first | apply Kd.R_alloc | apply Kd.R_drewN | apply Kd.R_drew)); exact HO163.out))) (below_size (by repeat (first | (with_reducible first | exact HB.out | apply below_alloc | apply pw_below_drewN | apply below_drew1) | exact HB.out)))); have n4_ := Aside0.mk (below_step (by repeat (first | (with_reducible first | exact HB.out | apply below_alloc | apply pw_below_drewN | apply below_drew1) | exact HB.out)) hb); clear HO160; clear HO163; clear HO166; clear HB; have HO160 := n0_; have HO163 := n1_; have HO166 := n2_; have HO169 := n3_; have HB := n4_; clear n0_ n1_ n2_ n3_ n4_; (try clear hb); (try clear hb2); (try clear hk); (try clear hi); (try clear ho0); obtain ⟨Ao86, co86, eo86⟩ := Kd.R_slice HO169.out; subst eo86; obtain ⟨Ao87, co87, eo87⟩ := Kd.R_slice HO163.out; subst eo87) | ((with_reducible refine gate_callee (f := 7) rfl ?_); refine goesL_ (some 30) rfl rfl Try.func7 (by kernel_rfl) rfl #[.slice Ao86 t167.length co86, .slice Ao87 t161.length co87] rfl (by (try simp only [List.map_toArray, List.map_cons, List.map_nil]); first | done | rfl | (simp only [List.length_drop, List.length_take]; rfl)) ?_; (with_reducible refine (laws_eqTouchS.calls k _ _ t167 _ _ t161 false _ ?side1 ?side2 ?side3 ?side4 A9.out).mono ?_); (case side1 => repeat (first | exact (Kd.R_reads' HO169.out).2.2 | (with_reducible refine Kd.C_alloc ?_ _) | (with_reducible refine Kd.C_drewN ?_ _) | (with_reducible refine Kd.C_drew ?_))); (case side2 => exact (Kd.R_reads' HO169.out).2.1); (case side3 => repeat (first | exact (Kd.R_reads' HO163.out).2.2 | (with_reducible refine Kd.C_alloc ?_ _) | (with_reducible refine Kd.C_drewN ?_ _) | (with_reducible refine Kd.C_drew ?_))); (case side4 => exact (Kd.R_reads' HO163.out).2.1); rintro e w88 ⟨rfl, hb⟩; refine ⟨_, rfl, ?_⟩; have n0_ := Aside0.mk (Kd.R_below (by (with_reducible repeat (first | apply Kd.R_alloc | apply Kd.R_drewN | apply Kd.R_drew)); exact HO160.out) hb); have n1_ := Aside0.mk (Kd.R_below (by (with_reducible repeat (first | apply Kd.R_alloc | apply Kd.R_drewN | apply Kd.R_drew)); exact HO163.out) hb); have n2_ := Aside0.mk (Kd.R_below (by (with_reducible repeat (first | apply Kd.R_alloc | apply Kd.R_drewN | apply Kd.R_drew)); exact HO166.out) hb); have n3_ := Aside0.mk (Kd.R_below (by (with_reducible repeat (first | apply Kd.R_alloc | apply Kd.R_drewN | apply Kd.R_drew)); exact HO169.out) hb); have n4_ := Aside0.mk (below_step (by repeat (first | (with_reducible first | exact HB.out | apply below_alloc | apply pw_below_drewN | apply below_drew1) | exact HB.out)) hb); clear HO160; clear HO163; clear HO166; clear HO169; clear HB; have HO160 := n0_; have HO163 := n1_; have HO166 := n2_; have HO169 := n3_; have HB := n4_; clear n0_ n1_ n2_ n3_ n4_; (try clear hb); (try clear hb2); (try clear hk); (try clear hi)))
      go_ret
      exact ⟨by first | rfl | (simp [errW_none, errW_some] <;> rfl) | (simp [*, errW_none, errW_some] <;> rfl), by repeat (first | (with_reducible first | exact HB.out | apply below_alloc | apply pw_below_drewN | apply below_drew1) | exact HB.out)⟩
end Go.Proofs.Ytipglckmlnmbiaa.QA
namespace Go.Proofs.Ytipglckmlnmbiaa.Open
open Go.RowKit Go.Proofs.YtipglckmlnmbiaaW.PrintWords
open Go.ChangeShapes Go.WideShapes
set_option linter.unusedVariables false
def InK (k : IntKind) (n : Int) : Prop := (Lit.int k n).wf = true
def InL {α : Type} (W : α → Prop) (xs : List α) : Prop := xs.length ≤ 9223372036854775807 ∧ ∀ x, x ∈ xs → W x
structure Opens {α : Type} (P : Program) (t : TypeId) (d : Kd α) (W : α → Prop) : Prop where
  cells : P.cellsOf t = d.sz
  reads : ∀ {H : Type} (enc : TypeId × Value → H) (w : World) (base fuel : Nat) (held : Bool) (cs : List Value) (x : DataW H × List MemPlace),
    DataW.trod enc P w base (fun _ => true) held fuel t cs = some x → ∃ y, d.K w y cs ∧ W y
theorem opens_int {P : Program} {t : TypeId} {k : IntKind} (ht : P.underlying t = some (.int k)) (hc : P.cellsOf t = 1) : Opens P t (Kd.int k) (InK k) := by
  refine ⟨hc, ?_⟩
  intro H enc w base fuel held cs x h
  cases fuel with
  | zero => simp [DataW.trod] at h
  | succ n =>
    unfold DataW.trod at h
    rw [ht] at h
    split at h <;> simp_all
    rename_i h2
    obtain ⟨⟨rfl, h3⟩, _⟩ := h
    exact ⟨_, rfl, h3⟩
theorem opens_slice {α : Type} {P : Program} {t e : TypeId} {d : Kd α} {W : α → Prop} (ht : P.underlying t = some (.slice e)) (hc : P.cellsOf t = 1) (z : α) (he : Opens P e d W) : Opens P t (Kd.slice e d) (InL W) := by
  refine ⟨hc, ?_⟩
  intro H enc w base fuel held cs x h
  rcases Go.Deep.open_slice ht h with ⟨rfl, _⟩ | ⟨a, len, cap, m, n, D, Pl, rfl, hb, hl, hm, hmm, rfl, hx⟩
  · exact ⟨[], ⟨none, 0, rfl, Nat.le_refl _, rfl, by simp, fun h0 => absurd h0 (by simp)⟩, by simp, by simp⟩
  · simp only [if_true] at hmm
    subst hmm
    have hm' : m ≤ 9223372036854775807 := by simpa [maxLen] using hm
    have each : ∀ i, i < m → ∃ y : α, ∃ c : List Value, c.length = d.sz ∧ d.K w y c ∧ W y ∧ ∀ j u, c[j]? = some u → w.cell? (a.add (i * d.sz + j)) = some u := by
      intro i hi
      obtain ⟨cs', h1, h2⟩ := hx i hi
      obtain ⟨y, hK, hW⟩ := he.reads enc w base n held cs' _ h2
      obtain ⟨_, hlen, hcell⟩ := World.cells?_some h1
      refine ⟨y, cs', d.K_len hK, hK, hW, fun j u hu => ?_⟩
      have hj : j < P.cellsOf e := by
        rw [← hlen]
        exact (List.getElem?_eq_some_iff.1 hu).1
      have := hcell j hj
      rw [Go.Deep.add_add, he.cells] at this
      rw [this]; exact hu
    haveI : Inhabited α := ⟨z⟩
    obtain ⟨f, hf⟩ := Go.Deep.choose_lt each
    refine ⟨(List.range len).map f, ⟨some a, m, ?_, ?_, ?_⟩, ?_, ?_⟩
    · simp
    · simp; exact hl
    · refine ⟨by simp, by simp; omega, fun _ => ⟨a, rfl, fun j p hj => ?_⟩⟩
      have hj1 : j < len := by have := (List.getElem?_eq_some_iff.1 hj).1; simpa using this
      have hp : f j = p := by simpa [hj1] using hj
      obtain ⟨c, h1, h2, _, h3⟩ := hf j (by omega)
      exact ⟨c, h1, hp ▸ h2, h3⟩
    · simp; omega
    · intro y hy
      obtain ⟨i, hi, rfl⟩ := List.mem_map.1 hy
      obtain ⟨c, _, _, hW, _⟩ := hf i (by have := List.mem_range.1 hi; omega)
      exact hW
theorem open_arg {α : Type} {H : Type} {enc : TypeId × Value → H} {P : Program} {w : World} {t : TypeId} {d : Kd α} {W : α → Prop} (ho : Opens P t d W) {v : Value} {dd : DataW H} {ps : List MemPlace}
    (h : DataW.Trod enc P w 0 (fun _ => true) true t v dd ps) : ∃ y, d.K w y v.cells.toList ∧ W y := by
  obtain ⟨fuel, hf⟩ := h
  exact ho.reads enc w 0 fuel true _ _ hf
end Go.Proofs.Ytipglckmlnmbiaa.Open
namespace Go.Proofs.Ytipglckmlnmbiaa.QA
open Go.RowKit Go.Proofs.YtipglckmlnmbiaaW.PrintWords Go.Proofs.YtipglckmlnmbiaaW.PrintLast Go.Proofs.Ytipglckmlnmbiaa
def laws_FnExactPathTouches.Pure : Prop := ∀ (y0 : Int) (y1 : Int) (y2 : List Int), Open.InK .i64 y0 → Open.InK .i64 y1 → Open.InL (fun z => Open.InK .i64 z) y2 → ∃ k, laws_FnExactPathTouches.f k y0 y1 y2 = some true
end Go.Proofs.Ytipglckmlnmbiaa.QA
namespace Go.Proofs.Ytipglckmlnmbiaa.L
open Go.RowKit Go.Proofs.YtipglckmlnmbiaaW.PrintWords Go.Proofs.YtipglckmlnmbiaaW.PrintMore
set_option linter.unusedVariables false
set_option linter.unusedSimpArgs false
theorem wrap_id {x : Int} (h0 : -9223372036854775808 ≤ x) (h1 : x ≤ 9223372036854775807) : wrap64 x = x := by unfold wrap64; omega
theorem wrap_nat_succ {i : Nat} (h : i < 9223372036854775807) : wrap64 ((i : Int) + 1) = ((i + 1 : Nat) : Int) := by unfold wrap64; omega
theorem evVal {α : Type} {g : Nat → Option α} {r r' : α} (h : Ev g r) (e : r = r') : Ev g r' := e ▸ h
theorem evMap {α β : Type} {g : Nat → Option α} {a : α} (f : α → β) (h : Ev g a) : Ev (fun n => (g n).bind fun x => some (f x)) (f a) := Ev.bind h (Ev.now _)
theorem loop_ev {σ ρ : Type} (n : Nat) (G : Nat → σ → Int → Option ρ) (s : Nat → σ) (r : ρ)
    (hstep : ∀ i, i < n → Ev (fun k => G k (s (i + 1)) ((i + 1 : Nat) : Int)) r → Ev (fun k => G k (s i) (i : Int)) r)
    (hend : Ev (fun k => G k (s n) (n : Int)) r) : Ev (fun k => G k (s 0) 0) r := by
  have key : ∀ d i, i + d = n → Ev (fun k => G k (s i) (i : Int)) r := by
    intro d
    induction d with
    | zero =>
      intro i h
      obtain rfl : i = n := by omega
      exact hend
    | succ d ih => intro i h; exact hstep i (by omega) (ih (i + 1) (by omega))
  exact key n 0 (by omega)
theorem fill_ev {β : Type} (n : Nat) (z : β) (G : Nat → List β → Int → Option (List β)) (b : Nat → β)
    (hstep : ∀ i x3, i < n → x3.length = n → ∀ r, Ev (fun k => G k (x3.set i (b i)) ((i + 1 : Nat) : Int)) r → Ev (fun k => G k x3 (i : Int)) r)
    (hend : ∀ x3 : List β, x3.length = n → Ev (fun k => G k x3 (n : Int)) x3) : Ev (fun k => G k (List.replicate n z) 0) ((List.range n).map b) := by
  have key : ∀ d i x3, i + d = n → x3.length = n → (∀ j, j < i → x3[j]? = some (b j)) → Ev (fun k => G k x3 (i : Int)) ((List.range n).map b) := by
    intro d
    induction d with
    | zero =>
      intro i x3 h hl hx
      obtain rfl : i = n := by omega
      refine evVal (hend x3 hl) ?_
      apply List.ext_getElem?
      intro j
      by_cases hj : j < i
      · rw [hx j hj]; simp [hj]
      · rw [List.getElem?_eq_none (by omega), List.getElem?_eq_none (by simp; omega)]
    | succ d ih =>
      intro i x3 h hl hx
      refine hstep i x3 (by omega) hl _ (ih (i + 1) _ (by omega) (by simpa using hl) (fun j hj => ?_))
      by_cases e : j = i
      · subst e; rw [List.getElem?_set_self (by omega)]
      · rw [List.getElem?_set_ne (by omega)]; exact hx j (by omega)
  exact key n 0 _ (by omega) (by simp) (fun j hj => absurd hj (Nat.not_lt_zero _))
theorem map_range {α β : Type} (l : List α) (z : α) (t : α → β) : (List.range l.length).map (fun i => t (l.getD i z)) = l.map t := by
  apply List.ext_getElem?
  intro i
  by_cases hi : i < l.length
  · simp [hi, List.getD]
  · simp [hi]
theorem getD_lt {α : Type} {l : List α} {i : Nat} (z : α) (h : i < l.length) : l.getD i z = l[i] := by simp [List.getD, h]
end Go.Proofs.Ytipglckmlnmbiaa.L
namespace Go.Proofs.Ytipglckmlnmbiaa.L
open Go.RowKit Go.Proofs.Ytipglckmlnmbiaa.QA Go.Proofs.YtipglckmlnmbiaaW.PrintWords Go.Proofs.YtipglckmlnmbiaaW.PrintLast Go.Proofs.YtipglckmlnmbiaaW.PrintMore
set_option linter.unusedVariables false
set_option linter.unusedSimpArgs false
theorem getD_set_self {α : Type} (l : List α) {i : Nat} (z a : α) (h : i < l.length) : (l.set i a).getD i z = a := by simp [List.getD, h]
theorem eqIntS_ev (l : List Int) (h : l.length ≤ 9223372036854775807) : Ev (fun k => laws_eqIntS.f k l l) true := by
  unfold laws_eqIntS.f
  simp only [if_true]
  refine loop_ev l.length (fun k (_ : Unit) i => laws_eqIntS.l0 k l l i) (fun _ => ()) true ?_ ?_
  · intro i hi hr
    refine Ev.step (fun k => ?_) hr
    simp only [laws_eqIntS.l0, bne_self_eq_false, Bool.false_eq_true, if_false, if_true, Option.bind_some]
    rw [if_pos (by omega), if_pos (by omega), if_pos (by omega), wrap_nat_succ (by omega)]
  · refine Ev.step (f := fun _ => some true) (fun k => ?_) (Ev.now _)
    simp only [laws_eqIntS.l0]
    rw [if_neg (by omega)]
theorem eqTouchS_ev (l : List S35) (h : l.length ≤ 9223372036854775807) : Ev (fun k => laws_eqTouchS.f k l l) true := by
  unfold laws_eqTouchS.f
  simp only [if_true]
  refine loop_ev l.length (fun k (_ : Unit) i => laws_eqTouchS.l0 k l l i) (fun _ => ()) true ?_ ?_
  · intro i hi hr
    refine Ev.step (fun k => ?_) hr
    simp only [laws_eqTouchS.l0, laws_eqTouch.f, bne_self_eq_false, Bool.false_eq_true, if_false, if_true, Option.bind_some]
    rw [if_pos (by omega), if_pos (by omega), if_pos (by omega), wrap_nat_succ (by omega)]
  · refine Ev.step (f := fun _ => some true) (fun k => ?_) (Ev.now _)
    simp only [laws_eqTouchS.l0]
    rw [if_neg (by omega)]
def toInt_ (x : Int) : Int := x
theorem map_toInt_ (l : List Int) : l.map toInt_ = l := by unfold toInt_; simp
theorem toIntS_ev (l : List Int) (h : l.length ≤ 1048576) : Ev (fun k => laws_toIntS.f k l) (l.map toInt_) := by
  unfold laws_toIntS.f
  simp only [Int.natCast_nonneg, if_true, Int.toNat_natCast, show l.length ≤ 35184372088832 by omega]
  rw [← map_range l (0 : Int) toInt_]
  refine fill_ev l.length (0 : Int) (fun k x3 i => laws_toIntS.l0 k l x3 i) (fun i => toInt_ (l.getD i (0 : Int))) ?_ ?_
  · intro i x3 hi hl r hr
    refine Ev.step (fun k => ?_) hr
    simp only [laws_toIntS.l0, Option.bind_some]
    rw [if_pos (by omega), if_pos (by omega), if_pos (by omega), wrap_nat_succ (by omega)]
    rfl
  · intro x3 hl
    refine Ev.step (f := fun _ => some x3) (fun k => ?_) (Ev.now _)
    simp only [laws_toIntS.l0]
    rw [if_neg (by omega)]
noncomputable def markInt_ (k0 : Int) (i : Nat) : Int := k0 + 1 * (i : Int)
theorem markIntS_ev (l : List Int) (k0 : Int) (h0 : 0 ≤ k0) (hk : k0 + 1 * (l.length : Int) ≤ 4611686018427387000) : Ev (fun k => laws_markIntS.f k l k0) (k0 + 1 * (l.length : Int), (List.range l.length).map (markInt_ k0)) := by
  unfold laws_markIntS.f
  have key : ∀ d (i : Nat) (x0 : List Int), i + d = l.length → x0.length = l.length → (∀ j, j < i → x0[j]? = some (markInt_ k0 j)) → Ev (fun k => laws_markIntS.l0 k x0 (k0 + 1 * (i : Int)) (i : Int)) (k0 + 1 * (l.length : Int), (List.range l.length).map (markInt_ k0)) := by
    intro d
    induction d with
    | zero =>
      intro i x0 h hl hx
      obtain rfl : i = l.length := by omega
      refine Ev.step (f := fun _ => some (k0 + 1 * (l.length : Int), x0)) (fun k => ?_) (evVal (Ev.now _) ?_)
      · simp only [laws_markIntS.l0]
        rw [if_neg (by omega)]
      · congr 1
        apply List.ext_getElem?
        intro j
        by_cases hj : j < l.length
        · rw [hx j hj]; simp [hj]
        · rw [List.getElem?_eq_none (by omega), List.getElem?_eq_none (by simp; omega)]
    | succ d ih =>
      intro i x0 h hl hx
      have hi : i < x0.length := by omega
      have e1 : k0 + 1 * ((i + 1 : Nat) : Int) = k0 + 1 * (i : Int) + 1 := by omega
      have hnext := ih (i + 1) (x0.set i (markInt_ k0 i)) (by omega) (by simpa using hl) (fun j hj => by
        by_cases e : j = i
        · subst e; rw [List.getElem?_set_self (by omega)]
        · rw [List.getElem?_set_ne (by omega)]; exact hx j (by omega))
      rw [e1] at hnext

      refine Ev.step (fun k => ?_) hnext
      simp only [laws_markIntS.l0, Int.toNat_natCast, List.set_set, rd, getD_set_self _ _ _ hi, Option.bind_some]
      rw [if_pos (by omega), if_pos (by omega), wrap_id (x := k0 + 1 * (i : Int) + 1) (by omega) (by omega), wrap_nat_succ (by omega)]
      rfl
  have := key l.length 0 l (by omega) rfl (fun j hj => absurd hj (Nat.not_lt_zero _))
  simpa using this
noncomputable def markTouch_ (k0 : Int) (i : Nat) : S35 := (⟨k0 + 3 * (i : Int), k0 + 3 * (i : Int) + 1, k0 + 3 * (i : Int) + 1 + 1⟩ : S35)
theorem markTouchS_ev (l : List S35) (k0 : Int) (h0 : 0 ≤ k0) (hk : k0 + 3 * (l.length : Int) ≤ 4611686018427387000) : Ev (fun k => laws_markTouchS.f k l k0) (k0 + 3 * (l.length : Int), (List.range l.length).map (markTouch_ k0)) := by
  unfold laws_markTouchS.f
  have key : ∀ d (i : Nat) (x0 : List S35), i + d = l.length → x0.length = l.length → (∀ j, j < i → x0[j]? = some (markTouch_ k0 j)) → Ev (fun k => laws_markTouchS.l0 k x0 (k0 + 3 * (i : Int)) (i : Int)) (k0 + 3 * (l.length : Int), (List.range l.length).map (markTouch_ k0)) := by
    intro d
    induction d with
    | zero =>
      intro i x0 h hl hx
      obtain rfl : i = l.length := by omega
      refine Ev.step (f := fun _ => some (k0 + 3 * (l.length : Int), x0)) (fun k => ?_) (evVal (Ev.now _) ?_)
      · simp only [laws_markTouchS.l0]
        rw [if_neg (by omega)]
      · congr 1
        apply List.ext_getElem?
        intro j
        by_cases hj : j < l.length
        · rw [hx j hj]; simp [hj]
        · rw [List.getElem?_eq_none (by omega), List.getElem?_eq_none (by simp; omega)]
    | succ d ih =>
      intro i x0 h hl hx
      have hi : i < x0.length := by omega
      have e1 : k0 + 3 * ((i + 1 : Nat) : Int) = k0 + 3 * (i : Int) + 1 + 1 + 1 := by omega
      have hnext := ih (i + 1) (x0.set i (markTouch_ k0 i)) (by omega) (by simpa using hl) (fun j hj => by
        by_cases e : j = i
        · subst e; rw [List.getElem?_set_self (by omega)]
        · rw [List.getElem?_set_ne (by omega)]; exact hx j (by omega))
      rw [e1] at hnext

      refine Ev.step (fun k => ?_) hnext
      simp only [laws_markTouchS.l0, Int.toNat_natCast, List.set_set, rd_T35, getD_set_self _ _ _ hi, Option.bind_some]
      rw [if_pos (by omega), if_pos (by omega), wrap_id (x := k0 + 3 * (i : Int) + 1) (by omega) (by omega), wrap_id (x := k0 + 3 * (i : Int) + 1 + 1) (by omega) (by omega), wrap_id (x := k0 + 3 * (i : Int) + 1 + 1 + 1) (by omega) (by omega), wrap_nat_succ (by omega)]
      rfl
  have := key l.length 0 l (by omega) rfl (fun j hj => absurd hj (Nat.not_lt_zero _))
  simpa using this
theorem heldTouchS_ev (n : Nat) (k0 : Int) (h0 : 0 ≤ k0) (hk : k0 + 3 * (n : Int) ≤ 4611686018427387000) : Ev (fun k => laws_heldTouchS.f k ((List.range n).map (markTouch_ k0)) k0) (k0 + 3 * (n : Int)) := by
  unfold laws_heldTouchS.f
  have hl : ((List.range n).map (markTouch_ k0)).length = n := by simp
  refine evVal (r := k0 + 3 * (n : Int)) ?_ rfl
  have e0 : k0 = k0 + 3 * ((0 : Nat) : Int) := by omega
  have := loop_ev n (fun k s i => laws_heldTouchS.l0 k ((List.range n).map (markTouch_ k0)) s i) (fun i => k0 + 3 * (i : Int)) (k0 + 3 * (n : Int)) ?_ ?_
  · simpa using this
  · intro i hi hr
    have e1 : k0 + 3 * ((i + 1 : Nat) : Int) = k0 + 3 * (i : Int) + 1 + 1 + 1 := by omega
    have hg : ((List.range n).map (markTouch_ k0)).getD i z35 = markTouch_ k0 i := by simp [List.getD, hi]
    rw [e1] at hr

    refine Ev.step (fun k => ?_) hr
    simp only [laws_heldTouchS.l0, rd_T35, Int.toNat_natCast, hg, markTouch_]
    rw [if_pos (by omega), if_pos (by omega), wrap_id (x := k0 + 3 * (i : Int) + 1) (by omega) (by omega), wrap_id (x := k0 + 3 * (i : Int) + 1 + 1) (by omega) (by omega), wrap_id (x := k0 + 3 * (i : Int) + 1 + 1 + 1) (by omega) (by omega), wrap_nat_succ (by omega)]
    simp

  · refine Ev.step (f := fun _ => some _) (fun k => ?_) (Ev.now _)
    simp only [laws_heldTouchS.l0, hl]
    rw [if_neg (by omega)]
theorem pow2_le {n m : Nat} (h : n ≤ m) : (2 : Int) ^ n ≤ 2 ^ m := by
  have : (2 : Nat) ^ n ≤ 2 ^ m := Nat.pow_le_pow_right (by omega) h
  exact_mod_cast this
theorem pow2_pos (n : Nat) : (1 : Int) ≤ 2 ^ n := by
  have : (1 : Nat) ≤ 2 ^ n := Nat.one_le_two_pow
  exact_mod_cast this
theorem pow_ev (n : Nat) (hn : n ≤ 61) : Ev (fun k => spec_l02Pow.f k (n : Int)) (2 ^ n) := by
  have key : ∀ m : Nat, m ≤ 61 → ∀ x : Int, 1 ≤ x → x * 2 ^ m ≤ 2305843009213693952 → Ev (fun k => spec_l02Pow.l0 k (m : Int) x) (x * 2 ^ m) := by
    intro m
    induction m with
    | zero =>
      intro hm x h1 h2
      refine Ev.step (f := fun _ => some _) (fun k => ?_) (Ev.now _)
      simp [spec_l02Pow.l0]
    | succ m ih =>
      intro hm x h1 h2
      have e : x * 2 ^ (m + 1) = (2 * x) * 2 ^ m := by rw [Int.pow_succ, Int.mul_comm (2 ^ m) 2, ← Int.mul_assoc, Int.mul_comm x 2]
      have hp := pow2_pos m
      have hx : 2 * x ≤ (2 * x) * 2 ^ m := by have := Int.mul_le_mul_of_nonneg_left hp (show 0 ≤ 2 * x by omega); omega
      refine evVal (Ev.step (fun k => ?_) (ih (by omega) (2 * x) (by omega) (by rw [← e]; exact h2))) e.symm
      simp only [spec_l02Pow.l0]
      rw [if_pos (by omega), wrap_id (by omega) (by omega), wrap_id (by omega) (by omega)]
      congr 1
      omega
  have hle : (1 : Int) * 2 ^ n ≤ 2305843009213693952 := by
    have : (2 : Int) ^ n ≤ 2 ^ 61 := pow2_le hn
    omega
  have := key n hn 1 (by omega) hle
  rw [Int.one_mul] at this
  exact this
theorem shl_pow (x : Int) (n : Nat) (hn : n ≤ 64) : shl .i64 x (n : Int) = wrap64 (x * 2 ^ n) := by
  unfold shl
  rw [Int.toNat_natCast, Nat.min_eq_left (by exact hn), Go.Proofs.YtipglckmlnmbiaaW.PrintLast.i64_w]
end Go.Proofs.Ytipglckmlnmbiaa.L
namespace Go.Proofs.Ytipglckmlnmbiaa.L
open Go.RowKit Go.Proofs.Ytipglckmlnmbiaa.QA Go.Proofs.YtipglckmlnmbiaaW.PrintWords Go.Proofs.YtipglckmlnmbiaaW.PrintLast
set_option linter.unusedVariables false
set_option linter.unusedSimpArgs false
theorem within_eq (n lo hi : Int) : impl_within.f n lo hi = some (decide (lo ≤ n ∧ n ≤ hi)) := by
  unfold impl_within.f
  by_cases h : n ≥ lo
  · rw [if_pos h]
    by_cases h2 : n ≤ hi <;> simp [h2] <;> omega
  · rw [if_neg h]
    simp
    omega
end Go.Proofs.Ytipglckmlnmbiaa.L
namespace Go.Proofs.Ytipglckmlnmbiaa.Pure
open Go.RowKit Go.Proofs.Ytipglckmlnmbiaa.QA Go.Proofs.YtipglckmlnmbiaaW.PrintWords Go.Proofs.YtipglckmlnmbiaaW.PrintLast Go.Proofs.YtipglckmlnmbiaaW.PrintMore Go.Proofs.Ytipglckmlnmbiaa.L
set_option linter.unusedVariables false
set_option linter.unusedSimpArgs false
def pathOf : Nat → Int → List Int
  | 0, v => [v]
  | n + 1, v => pathOf n (v / 2) ++ [v]
theorem pathOf_len : ∀ n v, (pathOf n v).length = n + 1
  | 0, _ => rfl
  | n + 1, v => by simp [pathOf, pathOf_len n]
theorem pathOf_at : ∀ (n : Nat) (v : Int) (l : Nat), l ≤ n → (pathOf n v).getD l 0 = v / 2 ^ (n - l)
  | 0, v, l, h => by obtain rfl : l = 0 := by omega
                     simp [pathOf]
  | n + 1, v, l, h => by
    by_cases e : l = n + 1
    · subst e
      have hl : n + 1 = (pathOf n (v / 2)).length := (pathOf_len n _).symm
      simp only [pathOf, Nat.sub_self, Int.pow_zero, Int.ediv_one]
      rw [List.getD_eq_getElem?_getD, hl, List.getElem?_append_right (Nat.le_refl _)]; simp
    · have h1 := pathOf_at n (v / 2) l (by omega)
      rw [show n + 1 - l = (n - l) + 1 by omega, Int.pow_succ, Int.mul_comm, ← Int.ediv_ediv_of_nonneg (by omega), ← h1]
      simp only [pathOf]
      rw [List.getD_eq_getElem?_getD, List.getElem?_append_left (by rw [pathOf_len]; omega), List.getD_eq_getElem?_getD]
theorem isLog_eq (n : Int) : impl_isLog.f n = some (decide (0 ≤ n ∧ n ≤ 6)) := by unfold impl_isLog.f; rw [within_eq]; rfl
theorem l11Log_eq (n : Int) : spec_l11Log.f n = some (decide (0 ≤ n ∧ n ≤ 6)) := by
  unfold spec_l11Log.f
  by_cases h : 0 ≤ n
  · simp [h]
  · simp [h]
def leafB (n : Nat) (x : Int) : Bool := decide (0 ≤ x ∧ x < 2 ^ n)
theorem pow_le64 {n : Nat} (h : n ≤ 6) : (1 : Int) ≤ 2 ^ n ∧ (2 : Int) ^ n ≤ 64 := ⟨pow2_pos n, by have : (2 : Int) ^ n ≤ 2 ^ 6 := pow2_le h; omega⟩
theorem isLeaf_eq (n : Nat) (hn : n ≤ 6) (x : Int) : impl_isLeaf.f (n : Int) x = some (leafB n x) := by
  have hp := pow_le64 hn
  unfold impl_isLeaf.f
  rw [isLog_eq, Option.bind_some, if_pos (by simp; omega), if_pos (by omega), shl_pow _ _ (by omega), wrap_id (x := 1 * 2 ^ n) (by omega) (by omega), wrap_id (by omega) (by omega), within_eq]
  simp only [Option.bind_some, leafB, Option.some.injEq, decide_eq_decide]
  omega
theorem l11Leaf_ev (n : Nat) (hn : n ≤ 6) (x : Int) : Ev (fun k => spec_l11Leaf.f k (n : Int) x) (leafB n x) := by
  unfold spec_l11Leaf.f
  rw [l11Log_eq]
  simp only [Option.bind_some, show (decide (0 ≤ (n : Int) ∧ (n : Int) ≤ 6)) = true from by simp; omega, if_true]
  by_cases h : x ≥ 0
  · simp only [if_pos h]
    refine evVal (evMap (fun t => decide (x < t)) (pow_ev n (by omega))) ?_
    simp [leafB, h]
  · simp only [if_neg h]
    refine evVal (Ev.now _) ?_
    simp [leafB, h]
theorem specPath_ev : ∀ (n : Nat) (v : Int) (acc : List Int), n ≤ 6 → 2 ^ n ≤ v → v < 2 ^ (n + 1) → acc.length ≤ 100 - n → Ev (fun k => spec_PathNodes.l0 k acc v) (pathOf n v ++ acc) := by
  intro n
  induction n with
  | zero =>
    intro v acc _ h1 h2 ha
    obtain rfl : v = 1 := by simp at h1 h2; omega
    refine Ev.step (fun k => rfl) ?_
    simp only [spec_PathNodes.l0, if_pos (show (1 : Int) ≥ 1 by omega), Option.bind_some, List.length_singleton, if_pos (show 1 + acc.length < 17592186044416 by omega), show wrap64 (Int.tdiv 1 2) = 0 from wrap_id (x := 0) (by omega) (by omega)]
    refine Ev.step (fun k => rfl) ?_
    simp only [spec_PathNodes.l0, if_neg (show ¬ (0 : Int) ≥ 1 by omega)]
    exact Ev.now _
  | succ n ih =>
    intro v acc hn h1 h2 ha
    have e1 : (2 : Int) ^ (n + 1) = 2 * 2 ^ n := by rw [Int.pow_succ]; omega
    have e2 : (2 : Int) ^ (n + 2) = 2 * 2 ^ (n + 1) := by rw [Int.pow_succ]; omega
    have hp := pow_le64 (show n ≤ 6 by omega)
    have ht : wrap64 (Int.tdiv v 2) = v / 2 := by rw [Int.tdiv_eq_ediv_of_nonneg (by omega), wrap_id (by omega) (by omega)]
    refine Ev.step (fun k => rfl) ?_
    simp only [spec_PathNodes.l0, if_pos (show v ≥ 1 by omega), Option.bind_some, List.length_singleton, if_pos (show 1 + acc.length < 17592186044416 by omega), ht]
    refine evVal (ih (v / 2) ([v] ++ acc) (by omega) (by omega) (by omega) (by simp; omega)) ?_
    simp [pathOf]
theorem specPathNodes_ev (n : Nat) (hn : n ≤ 6) (x : Int) (hx : leafB n x = true) : Ev (fun k => spec_PathNodes.f k (n : Int) x) (pathOf n (2 ^ n + x)) := by
  have hp := pow_le64 hn
  have hx' : 0 ≤ x ∧ x < 2 ^ n := by simpa [leafB] using hx
  unfold spec_PathNodes.f
  refine Ev.bind (l11Leaf_ev n hn x) ?_
  rw [hx]
  simp only [if_true]
  refine Ev.bind (pow_ev n (by omega)) ?_
  rw [wrap_id (by omega) (by omega)]
  refine evVal (specPath_ev n (2 ^ n + x) [] hn (by omega) (by rw [Int.pow_succ]; omega) (by simp)) (by simp)
theorem implPathNodes_ev (n : Nat) (hn : n ≤ 6) (x : Int) (hx : leafB n x = true) : Ev (fun k => impl_pathNodes.f k (n : Int) x) (pathOf n (2 ^ n + x)) := by
  have hp := pow_le64 hn
  have hx' : 0 ≤ x ∧ x < 2 ^ n := by simpa [leafB] using hx
  unfold impl_pathNodes.f
  rw [wrap_nat_succ (by omega)]
  have hl := pathOf_len n (2 ^ n + x)
  refine loop_ev (n + 1) (fun k s j => impl_pathNodes.l0 k (n : Int) x s ((n + 1 : Nat) : Int) j) (fun j => (pathOf n (2 ^ n + x)).take j) _ ?_ ?_
  · intro j hj hr
    have hat := pathOf_at n (2 ^ n + x) j (by omega)
    have hnode : impl_nodeAt.f (n : Int) x (j : Int) = some ((pathOf n (2 ^ n + x)).getD j 0) := by
      unfold impl_nodeAt.f
      rw [hat, if_pos (by omega), show (n : Int) - (j : Int) = ((n - j : Nat) : Int) by omega, wrap_id (x := ((n - j : Nat) : Int)) (by omega) (by omega), if_pos (by omega), shl_pow _ _ (by omega), wrap_id (x := 1 * 2 ^ n) (by omega) (by omega), wrap_id (by omega) (by omega)]
      unfold shr
      rw [Int.toNat_natCast, Nat.min_eq_left (by simp [IntKind.bits]; omega), Int.one_mul]
    refine Ev.step (fun k => rfl) ?_
    simp only [impl_pathNodes.l0, if_pos (show (j : Int) < ((n + 1 : Nat) : Int) by omega), hnode, Option.bind_some, if_pos (show ((pathOf n (2 ^ n + x)).take j).length < 17592186044416 by rw [List.length_take]; omega), wrap_nat_succ (show j < 9223372036854775807 by omega)]
    refine evVal hr rfl |> fun h => ?_
    have e : (pathOf n (2 ^ n + x)).take j ++ [(pathOf n (2 ^ n + x)).getD j 0] = (pathOf n (2 ^ n + x)).take (j + 1) := by
      rw [List.take_succ_eq_append_getElem (by omega), getD_lt _ (by omega)]
    rw [e]
    exact h
  · refine Ev.step (fun k => rfl) ?_
    simp only [impl_pathNodes.l0, if_neg (show ¬ ((n + 1 : Nat) : Int) < ((n + 1 : Nat) : Int) by omega)]
    refine evVal (Ev.now _) ?_
    rw [List.take_of_length_le (by omega)]
def leafT (n : Nat) (a1 : Int) (x : Int) : List S35 := (pathOf n (2 ^ n + x)).map (ptR 1 a1) ++ (pathOf n (2 ^ n + x)).reverse.map (ptR 2 a1)
theorem leafT_len (n : Nat) (a1 x : Int) : (leafT n a1 x).length = 2 * (n + 1) := by simp [leafT, pathOf_len]; omega
def touchesL (n : Nat) (a1 : Int) (l : List Int) : List S35 := l.flatMap (leafT n a1)
theorem touchesL_len (n : Nat) (a1 : Int) (l : List Int) : (touchesL n a1 l).length = l.length * (2 * (n + 1)) := by
  induction l with
  | nil => simp [touchesL]
  | cons x xs ih => simp only [touchesL, List.flatMap_cons, List.length_append, leafT_len] at ih ⊢; rw [ih, List.length_cons, Nat.add_mul]; omega
theorem specL1 (a0 a1 : Int) (l2 : List Int) (i : Int) (path : List Int) (hpl : path.length ≤ 7) (r : List S35) : ∀ (m j : Nat) (acc : List S35), j + m = path.length → acc.length + 14 ≤ 1000000 + j →
    Ev (fun k => spec_PathTouches.l2 k a0 a1 l2 (acc ++ (path.drop j).map (ptR 1 a1)) i path (wrap64 ((path.length : Int) - 1))) r → Ev (fun k => spec_PathTouches.l1 k a0 a1 l2 acc i path (j : Int)) r := by
  intro m
  induction m with
  | zero =>
    intro j acc hj ha h
    obtain rfl : j = path.length := by omega
    refine Ev.step (fun k => rfl) ?_
    simp only [spec_PathTouches.l1, if_neg (show ¬ (path.length : Int) < (path.length : Int) by omega)]
    simpa using h
  | succ m ih =>
    intro j acc hj ha h
    have hlt : j < path.length := by omega
    refine Ev.step (fun k => rfl) ?_
    simp only [spec_PathTouches.l1, if_pos (show (j : Int) < (path.length : Int) by omega), if_pos (show (0 : Int) ≤ (j : Int) by omega), if_pos (show acc.length < 5864062014805 by omega), wrap_nat_succ (show j < 9223372036854775807 by omega)]
    refine ih (j + 1) _ (by omega) (by simp; omega) ?_
    rw [List.drop_eq_getElem_cons hlt] at h
    have e : rd path (j : Int) = path[j] := by simp [rd, List.getD_eq_getElem?_getD, hlt]
    rw [e]
    rw [List.map_cons, List.append_cons] at h
    exact h
theorem specL2 (a0 a1 : Int) (l2 : List Int) (i : Int) (path : List Int) (hpl : path.length ≤ 7) (r : List S35) : ∀ (m : Nat) (acc : List S35), m ≤ path.length → acc.length + m ≤ 1000000 →
    Ev (fun k => spec_PathTouches.l0 k a0 a1 l2 (acc ++ (path.take m).reverse.map (ptR 2 a1)) (wrap64 (i + 1))) r → Ev (fun k => spec_PathTouches.l2 k a0 a1 l2 acc i path ((m : Int) - 1)) r := by
  intro m
  induction m with
  | zero =>
    intro acc hm ha h
    refine Ev.step (fun k => rfl) ?_
    simp only [spec_PathTouches.l2, if_neg (show ¬ ((0 : Nat) : Int) - 1 ≥ 0 by omega)]
    simpa using h
  | succ m ih =>
    intro acc hm ha h
    have e0 : ((m + 1 : Nat) : Int) - 1 = (m : Int) := by omega
    refine Ev.step (fun k => rfl) ?_
    simp only [spec_PathTouches.l2, e0, if_pos (show (m : Int) ≥ 0 by omega), if_pos (show (0 : Int) ≤ (m : Int) by omega), if_pos (show (m : Int) < (path.length : Int) by omega), if_pos (show acc.length < 5864062014805 by omega), wrap_id (show -9223372036854775808 ≤ (m : Int) - 1 by omega) (by omega)]
    refine ih _ (by omega) (by simp; omega) ?_
    rw [List.take_succ_eq_append_getElem (by omega)] at h
    have e : rd path (m : Int) = path[m] := by simp [rd, List.getD_eq_getElem?_getD, show m < path.length by omega]
    rw [e]
    rw [List.reverse_append, List.map_append, ← List.append_assoc] at h
    exact h
theorem specL0 (n : Nat) (hn : n ≤ 6) (a1 : Int) (l2 : List Int) (hl : l2.length ≤ 700) : ∀ (m i : Nat), i + m = l2.length → Ev (fun k => spec_PathTouches.l0 k (n : Int) a1 l2 (touchesL n a1 (l2.take i)) (i : Int)) (if (l2.drop i).all (leafB n) then touchesL n a1 l2 else []) := by
  intro m
  induction m with
  | zero =>
    intro i hi
    obtain rfl : i = l2.length := by omega
    refine Ev.step (fun k => rfl) ?_
    simp only [spec_PathTouches.l0, if_neg (show ¬ (l2.length : Int) < (l2.length : Int) by omega)]
    refine evVal (Ev.now _) ?_
    simp
  | succ m ih =>
    intro i hi
    have hlt : i < l2.length := by omega
    have hlen := touchesL_len n a1 (l2.take i)
    have hle : (touchesL n a1 (l2.take i)).length ≤ 9800 := by
      rw [hlen, List.length_take]
      have : min i l2.length * (2 * (n + 1)) ≤ 700 * 14 := Nat.mul_le_mul (by omega) (by omega)
      omega
    have e : rd l2 (i : Int) = l2[i] := by simp [rd, List.getD_eq_getElem?_getD, hlt]
    rw [List.drop_eq_getElem_cons hlt, List.all_cons]
    refine Ev.step (fun k => rfl) ?_
    simp only [spec_PathTouches.l0, if_pos (show (i : Int) < (l2.length : Int) by omega), if_pos (show (0 : Int) ≤ (i : Int) by omega), e]
    refine Ev.bind (l11Leaf_ev n hn _) ?_
    cases hb : leafB n l2[i] with
    | false =>
      simp only [Bool.false_eq_true, if_false, Bool.false_and]
      exact Ev.now _
    | true =>
      simp only [if_true, Bool.true_and]
      refine Ev.bind (specPathNodes_ev n hn _ hb) ?_
      have hpl := pathOf_len n (2 ^ n + l2[i])
      have hih := ih (i + 1) (by omega)
      have et : touchesL n a1 (l2.take (i + 1)) = touchesL n a1 (l2.take i) ++ leafT n a1 l2[i] := by
        unfold touchesL; rw [List.take_succ_eq_append_getElem hlt, List.flatMap_append]; simp
      rw [et] at hih
      unfold leafT at hih
      generalize pathOf n (2 ^ n + l2[i]) = path at hpl hih
      refine specL1 (n : Int) a1 l2 (i : Int) path (by omega) _ path.length 0 _ (by omega) (by omega) ?_
      rw [show wrap64 ((path.length : Int) - 1) = ((path.length : Nat) : Int) - 1 from wrap_id (by omega) (by omega)]
      refine specL2 (n : Int) a1 l2 (i : Int) path (by omega) _ path.length _ (Nat.le_refl _) (by simp; omega) ?_
      rw [wrap_nat_succ (by omega), List.drop_zero, List.take_length, List.append_assoc]
      exact hih
def touchR (a0 a1 : Int) (l : List Int) : List S35 := if (0 ≤ a0 ∧ a0 ≤ 6) ∧ (1 ≤ a1 ∧ a1 ≤ 1000) ∧ l.length ≤ 700 ∧ l.all (leafB a0.toNat) = true then touchesL a0.toNat a1 l else []
theorem touchR_len (a0 a1 : Int) (l : List Int) : (touchR a0 a1 l).length ≤ 9800 := by
  unfold touchR
  split
  · rename_i h
    rw [touchesL_len]
    have : l.length * (2 * (a0.toNat + 1)) ≤ 700 * 14 := Nat.mul_le_mul h.2.2.1 (by omega)
    omega
  · simp
theorem spec_ev (a0 a1 : Int) (l : List Int) (hl : l.length ≤ 1048576) : Ev (fun k => spec_PathTouches.f k a0 a1 l) (touchR a0 a1 l) := by
  unfold spec_PathTouches.f touchR
  rw [l11Log_eq]
  simp only [Option.bind_some]
  have hj : Ev (fun k => spec_PathTouches.j0 k a0 a1 l true) [] := by
    refine Ev.step (fun k => rfl) ?_
    simp only [spec_PathTouches.j0, if_true]
    exact Ev.now _
  by_cases h0 : 0 ≤ a0 ∧ a0 ≤ 6
  · simp only [h0, decide_true, if_true, and_self, true_and]
    by_cases h1 : a1 < 1
    · simp only [if_pos h1, show ¬ (1 ≤ a1) by omega, false_and, if_false]; exact hj
    · by_cases h2 : a1 > 1000
      · simp only [if_neg h1, if_pos h2, show ¬ (a1 ≤ 1000) by omega, and_false, false_and, if_false]; exact hj
      · by_cases h3 : l.length ≤ 700
        · simp only [if_neg h1, if_neg h2, h3, show (1 : Int) ≤ a1 by omega, show a1 ≤ 1000 by omega, true_and]
          refine Ev.step (fun k => rfl) ?_
          simp only [spec_PathTouches.j0, show (decide ((l.length : Int) > 700)) = false from decide_eq_false (by omega), Bool.false_eq_true, if_false]
          have := specL0 a0.toNat (by omega) a1 l h3 l.length 0 (by omega)
          rw [show ((a0.toNat : Nat) : Int) = a0 by omega] at this
          simpa [touchesL] using this
        · simp only [if_neg h1, if_neg h2, h3, show (1 : Int) ≤ a1 by omega, show a1 ≤ 1000 by omega, true_and, false_and, if_false]
          rw [show (decide ((l.length : Int) > 700)) = true from decide_eq_true (by omega)]
          exact hj
  · simp only [h0, decide_false, Bool.false_eq_true, if_false, false_and]
    exact hj
theorem contF_leaf (n : Nat) (hn : n ≤ 6) : ∀ (l : List Int) (i : Nat), ∃ r : Int, idxF (fun x => (impl_isLeaf.f (n : Int) x).bind fun b => some (!b)) l i = some r ∧ (0 ≤ r ↔ l.all (leafB n) = false)
  | [], i => ⟨-1, rfl, by simp⟩
  | x :: xs, i => by
    obtain ⟨r, h1, h2⟩ := contF_leaf n hn xs (i + 1)
    unfold idxF
    rw [isLeaf_eq n hn, Option.bind_some, Option.bind_some]
    cases hb : leafB n x with
    | true => exact ⟨r, by simpa only [Bool.not_true, Bool.false_eq_true, if_false] using h1, by simpa [hb] using h2⟩
    | false => exact ⟨(i : Int), by simp, by simp [hb]⟩
theorem ptL_ev (n : Nat) (hn : n ≤ 6) (a1 : Int) : ∀ (l : List Int) (acc : List S35), l.all (leafB n) = true → acc.length + 14 * l.length ≤ 1000000 → Ev (fun k => ptL k (n : Int) a1 l acc) (acc ++ touchesL n a1 l)
  | [], acc, _, _ => by simpa [ptL, touchesL] using Ev.now acc
  | x :: xs, acc, h, ha => by
    simp only [List.all_cons, Bool.and_eq_true] at h
    have hpl := pathOf_len n (2 ^ n + x)
    simp only [List.length_cons] at ha
    unfold ptL
    refine Ev.bind (implPathNodes_ev n hn x h.1) ?_
    simp only [if_pos (show (pathOf n (2 ^ n + x)).length ≤ 1000000 ∧ acc.length ≤ 1000000000000 from ⟨by omega, by omega⟩)]
    have := ptL_ev n hn a1 xs (acc ++ leafT n a1 x) h.2 (by rw [List.length_append, leafT_len]; omega)
    unfold leafT at this
    rw [← List.append_assoc] at this
    refine evVal this ?_
    simp [touchesL, leafT]
theorem impl_ev (a0 a1 : Int) (l : List Int) (hl : l.length ≤ 1048576) : Ev (fun k => impl_PathTouches.f k a0 a1 l) (touchR a0 a1 l) := by
  unfold impl_PathTouches.f touchR
  rw [isLog_eq]
  simp only [Option.bind_some, within_eq]
  by_cases h0 : 0 ≤ a0 ∧ a0 ≤ 6
  · simp only [h0, decide_true, if_true, and_self, true_and]
    by_cases h1 : 1 ≤ a1 ∧ a1 ≤ 1000
    · simp only [h1, decide_true, if_true, and_self, true_and]
      by_cases h3 : l.length ≤ 700
      · simp only [if_neg (show ¬ l.length > 700 by omega)]
        obtain ⟨n, rfl⟩ : ∃ n : Nat, a0 = (n : Int) := ⟨a0.toNat, by omega⟩
        obtain ⟨r, hr1, hr2⟩ := contF_leaf n (by omega) l 0
        rw [Int.toNat_natCast]
        have hc : contF (fun x => (impl_isLeaf.f (n : Int) x).bind fun b => some (!b)) l = some (decide (0 ≤ r)) := by unfold contF; rw [hr1]; rfl
        rw [hc]
        simp only [Option.bind_some, h3, true_and]
        cases hb : l.all (leafB n) with
        | true =>
          have : ¬ 0 ≤ r := fun h => by have := hr2.1 h; rw [hb] at this; cases this
          simp only [this, decide_false, Bool.false_eq_true, if_false, if_true]
          simpa using ptL_ev n (by omega) a1 l [] hb (by simp; omega)
        | false =>
          have : 0 ≤ r := hr2.2 hb
          simp only [this, decide_true, Bool.false_eq_true, if_false, if_true]
          exact Ev.now _
      · simp only [if_pos (show l.length > 700 by omega), h3, false_and, if_false]
        exact Ev.now _
    · simp only [h1, decide_false, Bool.false_eq_true, if_false, false_and]
      exact Ev.now _
  · simp only [h0, decide_false, Bool.false_eq_true, if_false, false_and]
    exact Ev.now _
theorem FnExactPathTouches : laws_FnExactPathTouches.Pure := by
  intro a0 a1 l _ _ hl
  apply Ev.rounds
  unfold laws_FnExactPathTouches.f
  by_cases h : l.length ≤ 1048576
  · simp only [if_neg (show ¬ (l.length : Int) > 1048576 by omega)]
    have t0 := toIntS_ev l h
    rw [map_toInt_] at t0
    have hr := touchR_len a0 a1 l
    have s0 := spec_ev a0 a1 l h
    have i0 := impl_ev a0 a1 l h
    refine Ev.bind t0 (Ev.bind s0 (Ev.bind t0 (Ev.bind i0 ?_)))
    generalize touchR a0 a1 l = R at hr s0 i0
    have es := eqTouchS_ev R (by omega)
    have ms := markTouchS_ev R 1 (by omega) (by omega)
    have hs := heldTouchS_ev R.length 1 (by omega) (by omega)
    refine Ev.bind es ?_
    simp only [if_true]
    refine Ev.bind t0 (Ev.bind (eqIntS_ev l (by omega)) ?_)
    simp only [if_true]
    refine Ev.bind (markIntS_ev l 1 (by omega) (by omega)) ?_
    simp only [if_neg (show ¬ ((1 : Int) + 1 * (l.length : Int) < 0) by omega)]
    refine Ev.bind es ?_
    simp only [Bool.not_true]
    refine Ev.step (fun k => rfl) ?_
    simp only [laws_FnExactPathTouches.j0, Bool.false_eq_true, if_false]
    refine Ev.bind ms (Ev.bind hs ?_)
    simp only [if_neg (show ¬ ((1 : Int) + 3 * (R.length : Int) < 0) by omega), if_true]
    refine Ev.bind t0 (Ev.bind i0 (Ev.bind es ?_))
    simp only [if_true]
    refine Ev.bind hs ?_
    simp only [if_neg (show ¬ ((1 : Int) + 3 * (R.length : Int) < 0) by omega), if_true]
    exact Ev.now _
  · simp only [if_pos (show (l.length : Int) > 1048576 by omega)]
    exact Ev.now _
end Go.Proofs.Ytipglckmlnmbiaa.Pure
