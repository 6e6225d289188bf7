/- Part of the proof of the law FnExactSessLeaves: what it uses of the texts that this session and the kit's print wrote. -/
import Derived.Test.YtppopmajclmhjaaGreatDoorZFnExactSessLeavesx2
import Derived.Test.YtppopmajclmhjaaGreatDoorZFnExactSessLeavesx3
namespace Go.Proofs.YtppopmajclmhjaaGreatDoor.QB
open Go.RowKit Go.Proofs.YtppopmajclmhjaaGreatDoorW.PrintWords Go.Proofs.YtppopmajclmhjaaGreatDoorW.PrintLast Go.Proofs.YtppopmajclmhjaaGreatDoorW.PrintMore
attribute [local go_sem] max2_int min2_int max_two min_two max_three min_three max_four min_four
set_option linter.unusedVariables false
set_option linter.unusedSimpArgs false
def spec_l23Takes.l0 : Nat → List (S79) → Int → Int → Option (Int)
 | 0, _, _, _ => none
 | k + 1, x0, x3, x4 => if x4 < (x0.length : Int) then (if 0 ≤ x4 then ((spec_ShapeTakes.f k ((rd_T79 x0 x4).f0) ((rd_T79 x0 x4).f1)).bind fun t210 => (spec_l23Takes.l0 k x0 (wrap64 (x3 + t210)) (wrap64 (x4 + 1)))) else (none)) else (some x3)
def spec_l23Takes.f (k : Nat) (l0 : List (S79)) : Option (Int) := spec_l23Takes.l0 k l0 0 0
set_option maxHeartbeats 8000000 in
set_option maxRecDepth 100000 in
theorem spec_l23Takes.calls (k : Nat) (A0 : Option Addr) (c0 : Nat) (l0 : List (S79)) (r : Int) (w : World) (hr0 : Kd.C k79 w A0 l0.length l0) (hc0 : l0.length ≤ c0) (h : spec_l23Takes.f k l0 = some r) :
  Calls Tryz.prog 103 #[.slice A0 l0.length c0] w fun e w' => e = .returned (.int .i64 r) ∧ Below w.heap.size w w' := by
 (have hu79 := Tryz.underlying79); (have HR0 := Aside0.mk hr0); (have HC0 := Aside0.mk hc0); clear hr0 hc0; (have HB := Aside0.mk (Below.refl w.heap.size w)); (have H : (spec_l23Takes.l0 k l0 0 0) = some r := h); clear h; (have H' := Aside0.mk H); clear H
 go_enter Tryz.func103, Tryz.ntmps103
 go_wp2
 go_loopg [3, 4] k (fun kq v3 v4 w' => ∃ (x3_1 : Int) (x4_1 : Int), v3 = .int .i64 x3_1 ∧ v4 = .int .i64 x4_1 ∧ Aside0 (spec_l23Takes.l0 kq l0 x3_1 x4_1 = some r) ∧ Aside0 (kq ≤ k) ∧ Aside0 (Below w.heap.size w w'))
 case atStart => exact ⟨(0), (0), qV, qV, H', ⟨Nat.le_refl _⟩, ⟨qS0 HB⟩⟩
 case round =>
  clear H'; (try clear c1); (obtain ⟨x3_1, x4_1, rfl, rfl, HA, HK1, HB⟩ := hrel)
  cases gk with
  | zero => exact absurd HA.out (by simp [spec_l23Takes.l0])
  | succ k1 =>
   (have H := HA.out); clear HA; (simp only [spec_l23Takes.l0] at H)
   by_cases c2 : x4_1 < (l0.length : Int)
   ·rw [if_pos c2] at H
    (have c2b0 : decide (x4_1 < (l0.length : Int)) = true := decide_eq_true c2); clear c2
    by_cases c3 : 0 ≤ x4_1
    ·rw [if_pos c3] at H
     (have c3b0 : decide (0 ≤ x4_1) = true := decide_eq_true c3); clear c3; (replace H := Option.bind_eq_some_iff.mp H); (obtain ⟨t210, A40, H⟩ := H); (replace H : (spec_l23Takes.l0 k1 l0 (wrap64 (x3_1 + t210)) (wrap64 (x4_1 + 1))) = some r := H); (have A4 := Aside0.mk A40); clear A40; (have H' := Aside0.mk H); clear H; (have p209 : 0 ≤ (x4_1 : Int) := qO); (have q209 : x4_1 < (l0.length : Int) := qO); (obtain ⟨ad209, e209, hx209_0, hx209_1⟩ := at_T79 HR0.out x4_1 p209 q209)
     cases e209
     (replace hx209_0 := (HB.out.cell (World.block_lt_of_cell? w _ hx209_0)).trans hx209_0); (replace hx209_1 := (HB.out.cell (World.block_lt_of_cell? w _ hx209_1)).trans hx209_1); (replace p209 := eq_true p209); (replace q209 := eq_true q209)
     go_wp2_with (first | ((with_reducible refine gate_callee (f := 120) rfl ?_); refine goesL_ (some 16) rfl rfl Tryz.func120 (by kernel_rfl) rfl #[.agg #[.int .i64 ((rd_T79 l0 x4_1).f0), .int .i64 ((rd_T79 l0 x4_1).f1)]] rfl qL ?_; (with_reducible refine (spec_ShapeTakes.calls k1 ((rd_T79 l0 x4_1).f0) ((rd_T79 l0 x4_1).f1) t210 _ A4.out).mono ?_); rintro e w5 ⟨rfl, hb⟩; refine ⟨_, rfl, ?_⟩; replace HB := Aside0.mk (below_step (qS0 HB) hb); (try clear hb); (try clear hb2); (try clear hk); (try clear hi)))
     go_roundg k1
     case measure => have := HK1.out; omega
     case rel => exact ⟨(wrap64 (x3_1 + t210)), (wrap64 (x4_1 + 1)), qV, qV, H', ⟨by have := HK1.out; omega⟩, ⟨qS0 HB⟩⟩
    ·rw [if_neg c3] at H
     exact absurd H (by simp)
   ·rw [if_neg c2] at H
    (have c2b0 : decide (x4_1 < (l0.length : Int)) = false := decide_eq_false c2); clear c2; (obtain rfl := Option.some.inj H)
    go_wp2
    go_ret
    exact ⟨qE, qS0 HB⟩
def spec_ShapeDraws.j0 : Nat → List (S79) → Bool → Int → Int → Int → Int → Option (Int)
 | 0, _, _, _, _, _, _ => none
 | k + 1, x1, x12, x212000, x212001, x212002, x212003 => if x12 = true then (some (-1)) else ((spec_DeepDraws.f k x212001).bind fun t214 => ((spec_l23Takes.f k x1).bind fun t215 => (some (wrap64 (t214 + (wrap64 (2 * t215)))))))
def spec_ShapeDraws.f (k : Nat) (a0_0 : Int) (a0_1 : Int) (a0_2 : Int) (a0_3 : Int) (l1 : List (S79)) : Option (Int) := (spec_ConfOk.f a0_0 a0_1 a0_2 a0_3).bind fun t212 => (if t212 = true then ((spec_ShapesOk.f k l1).bind fun t213 => (spec_ShapeDraws.j0 k l1 (!t213) a0_0 a0_1 a0_2 a0_3)) else (spec_ShapeDraws.j0 k l1 true a0_0 a0_1 a0_2 a0_3))
set_option maxHeartbeats 8000000 in
set_option maxRecDepth 100000 in
theorem spec_ShapeDraws.calls (k : Nat) (a0_0 : Int) (a0_1 : Int) (a0_2 : Int) (a0_3 : Int) (A1 : Option Addr) (c1 : Nat) (l1 : List (S79)) (r : Int) (w : World) (hr1 : Kd.C k79 w A1 l1.length l1) (hc1 : l1.length ≤ c1) (h : spec_ShapeDraws.f k a0_0 a0_1 a0_2 a0_3 l1 = some r) :
  Calls Tryz.prog 58 #[.agg #[.int .i64 a0_0, .int .i64 a0_1, .int .i64 a0_2, .int .i64 a0_3], .slice A1 l1.length c1] w fun e w' => e = .returned (.int .i64 r) ∧ Below w.heap.size w w' := by
 (have hu29 := Tryz.underlying29); (have HR1 := Aside0.mk hr1); (have HC1 := Aside0.mk hc1); clear hr1 hc1; (have HB := Aside0.mk (Below.refl w.heap.size w)); (have H : ((spec_ConfOk.f a0_0 a0_1 a0_2 a0_3).bind fun t212 => (if t212 = true then ((spec_ShapesOk.f k l1).bind fun t213 => (spec_ShapeDraws.j0 k l1 (!t213) a0_0 a0_1 a0_2 a0_3)) else (spec_ShapeDraws.j0 k l1 true a0_0 a0_1 a0_2 a0_3))) = some r := h); clear h; (have HC3 := Aside0.mk H); clear H
 go_enter Tryz.func58, Tryz.ntmps58
 go_upto_region 1 with (first | ((with_reducible refine gate_dst (N := 2) rfl ?_); refine box_event ?hg (N := 2) ?hd (cs := #[.int .i64 a0_0, .int .i64 a0_1, .int .i64 a0_2, .int .i64 a0_3]) (t := 29) ?hr ?_; (case hd => rfl); (case hg => rfl); (case hr => first | (go_simp; done) | (go_simp; rfl)); intro gb211 hg w4 hbox hb; have BK211 := Aside0.mk (hbox); have GW211 := qG hg (below_size (qS0 HB)); have GE211 := qG hg (below_size (qS0 HB)); replace HB := Aside0.mk (below_step (qS0 HB) hb); clear hb hbox hg))
 (try simp only [Act.put, List.setIfInBounds_toArray, List.set_cons_zero, List.set_cons_succ])
 go_cut [12] (fun v12 wc => ∃ (kq : Nat) (x12_2 : Bool), v12 = .bool x12_2 ∧ Aside0 (spec_ShapeDraws.j0 kq l1 x12_2 a0_0 a0_1 a0_2 a0_3 = some r) ∧ Aside0 (kq ≤ k) ∧ Aside0 (wc.heap[gb211]? = some (.cells #[.int .i64 a0_0, .int .i64 a0_1, .int .i64 a0_2, .int .i64 a0_3] 29 (0, 0))) ∧ Aside0 (Below w.heap.size w wc))
 case first =>
  (have H := HC3.out); clear HC3; (replace H := Option.bind_eq_some_iff.mp H); (obtain ⟨t212, A50, H⟩ := H)
  try dsimp only at H
  (have A5 := Aside0.mk A50); clear A50
  by_cases c6 : t212 = true
  ·subst c6
   (have H1 : ((spec_ShapesOk.f k l1).bind fun t213 => (spec_ShapeDraws.j0 k l1 (!t213) a0_0 a0_1 a0_2 a0_3)) = some r := by rw [if_pos rfl] at H; exact H); clear H; (have H := H1); clear H1; (replace H := Option.bind_eq_some_iff.mp H); (obtain ⟨t213, A70, H⟩ := H); (replace H : (spec_ShapeDraws.j0 k l1 (!t213) a0_0 a0_1 a0_2 a0_3) = some r := H); (have A7 := Aside0.mk A70); clear A70; (have H' := Aside0.mk H); clear H; (obtain ⟨hcz8_0, hcz8_1, hcz8_2, hcz8_3, hfz8_0, hfz8_1, hfz8_2, hfz8_3⟩ := qC4 BK211)
   go_wp2_with (first | ((with_reducible refine gate_callee (f := 53) rfl ?_); refine goesL_ (some 6) rfl rfl Tryz.func53 (by kernel_rfl) rfl #[.agg #[.int .i64 a0_0, .int .i64 a0_1, .int .i64 a0_2, .int .i64 a0_3]] rfl qL ?_; (with_reducible refine (spec_ConfOk.calls a0_0 a0_1 a0_2 a0_3 true _ A5.out).mono ?_); rintro e w9 ⟨rfl, hb⟩; refine ⟨_, rfl, ?_⟩; replace BK211 := qD BK211 hb; replace HB := Aside0.mk (below_step (qS1 HB GE211) hb); (try clear hb); (try clear hb2); (try clear hk); (try clear hi)) | (go_at_call 102; (with_reducible refine (spec_ShapesOk.calls k _ _ l1 t213 _ ?side1 ?side2 A7.out).mono ?_); (case side1 => repeat (first | exact (Kd.C_below HR1.out HB.out) | (with_reducible refine Kd.C_alloc ?_ _) | (with_reducible refine Kd.C_drewN ?_ _) | (with_reducible refine Kd.C_drew ?_))); (case side2 => exact HC1.out); rintro e w' ⟨rfl, ⟨nd, rfl⟩⟩))
   go_meet
   case rel => exact ⟨_, (!t213), qV, H', ⟨by first | omega | exact Nat.le_refl _⟩, ⟨qB BK211⟩, ⟨qS1 HB GE211⟩⟩
  ·replace c6 := Bool.eq_false_iff.mpr c6
   (subst c6); (have H1 : (spec_ShapeDraws.j0 k l1 true a0_0 a0_1 a0_2 a0_3) = some r := by rw [if_neg (show ¬ (false = true) by decide)] at H; exact H); clear H; (have H := H1); clear H1; (have H' := Aside0.mk H); clear H; (obtain ⟨hcz10_0, hcz10_1, hcz10_2, hcz10_3, hfz10_0, hfz10_1, hfz10_2, hfz10_3⟩ := qC4 BK211)
   go_wp2_with (first | ((with_reducible refine gate_callee (f := 53) rfl ?_); refine goesL_ (some 6) rfl rfl Tryz.func53 (by kernel_rfl) rfl #[.agg #[.int .i64 a0_0, .int .i64 a0_1, .int .i64 a0_2, .int .i64 a0_3]] rfl qL ?_; (with_reducible refine (spec_ConfOk.calls a0_0 a0_1 a0_2 a0_3 false _ A5.out).mono ?_); rintro e w11 ⟨rfl, hb⟩; refine ⟨_, rfl, ?_⟩; replace BK211 := qD BK211 hb; replace HB := Aside0.mk (below_step (qS1 HB GE211) hb); (try clear hb); (try clear hb2); (try clear hk); (try clear hi)))
   go_meet
   case rel => exact ⟨_, (true), qV, H', ⟨by first | omega | exact Nat.le_refl _⟩, ⟨qB BK211⟩, ⟨qS1 HB GE211⟩⟩
 case rest =>
  clear HC3; (try clear c1); (try clear p2); (try clear c5); (try clear c6); (try clear hcz10_0); (try clear hcz10_1); (try clear hcz10_2); (try clear hcz10_3); (try clear hcz8_0); (try clear hcz8_1); (try clear hcz8_2); (try clear hcz8_3); (try clear hfz10_0); (try clear hfz10_1); (try clear hfz10_2); (try clear hfz10_3); (try clear hfz8_0); (try clear hfz8_1); (try clear hfz8_2); (try clear hfz8_3); (obtain ⟨kq, x12_2, rfl, HA, HJ2, BK211, HB⟩ := hcut)
  cases kq with
  | zero => exact absurd HA.out (by simp [spec_ShapeDraws.j0])
  | succ kj2 =>
   (have H := HA.out); clear HA; (simp only [spec_ShapeDraws.j0] at H)
   by_cases c12 : x12_2 = true
   ·subst c12
    (have H1 : (some (-1)) = some r := by rw [if_pos rfl] at H; exact H); clear H; (have H := H1); clear H1; (obtain rfl := Option.some.inj H)
    go_wp2
    go_ret
    exact ⟨qE, qS1 HB GE211⟩
   ·replace c12 := Bool.eq_false_iff.mpr c12
    (subst c12); (have H1 : ((spec_DeepDraws.f kj2 a0_1).bind fun t214 => ((spec_l23Takes.f kj2 l1).bind fun t215 => (some (wrap64 (t214 + (wrap64 (2 * t215))))))) = some r := by rw [if_neg (show ¬ (false = true) by decide)] at H; exact H); clear H; (have H := H1); clear H1; (replace H := Option.bind_eq_some_iff.mp H); (obtain ⟨t214, A130, H⟩ := H)
    try dsimp only at H
    (have A13 := Aside0.mk A130); clear A130; (replace H := Option.bind_eq_some_iff.mp H); (obtain ⟨t215, A140, H⟩ := H); (replace H : (some (wrap64 (t214 + (wrap64 (2 * t215))))) = some r := H); (have A14 := Aside0.mk A140); clear A140; (obtain rfl := Option.some.inj H); (obtain ⟨hcz15_0, hcz15_1, hcz15_2, hcz15_3, hfz15_0, hfz15_1, hfz15_2, hfz15_3⟩ := qC4 BK211)
    go_wp2_with (first | ((with_reducible refine gate_callee (f := 43) rfl ?_); refine goesL_ (some 15) rfl rfl Tryz.func43 (by kernel_rfl) rfl #[.int .i64 a0_1] rfl qL ?_; (with_reducible refine (spec_DeepDraws.calls kj2 a0_1 t214 _ A13.out).mono ?_); rintro e w' ⟨rfl, ⟨nd, rfl⟩⟩; refine ⟨_, rfl, ?_⟩) | ((with_reducible refine gate_callee (f := 103) rfl ?_); refine goesL_ (some 17) rfl rfl Tryz.func103 (by kernel_rfl) rfl #[.slice A1 l1.length c1] rfl qL ?_; (with_reducible refine (spec_l23Takes.calls kj2 _ _ l1 t215 _ ?side1 ?side2 A14.out).mono ?_); (case side1 => repeat (first | exact (Kd.C_below HR1.out (qS1 HB GE211)) | (with_reducible refine Kd.C_alloc ?_ _) | (with_reducible refine Kd.C_drewN ?_ _) | (with_reducible refine Kd.C_drew ?_))); (case side2 => exact HC1.out); rintro e w16 ⟨rfl, hb⟩; refine ⟨_, rfl, ?_⟩; replace BK211 := qD BK211 hb; replace HB := Aside0.mk (below_step (qS1 HB GE211) hb); (try clear hb); (try clear hb2); (try clear hk); (try clear hi)))
    go_ret
    exact ⟨qE, qS1 HB GE211⟩
def spec_l24Right.f (k : Nat) (a0_0 : Int) (a0_1 : Int) (a0_2 : Int) (a0_3 : Int) (l1 : List (S56)) (l2 : List Int) : Option (Bool) := (spec_ShapesOf.f k l1).bind fun bt217 => (if bt217.2 = true then ((spec_ConfOk.f a0_0 a0_1 a0_2 a0_3).bind fun t221 => (if t221 = true then ((spec_ShapeDraws.f k a0_0 a0_1 a0_2 a0_3 bt217.1).bind fun t222 => ((spec_l15Draws.f k t222 ([] : List Int) l2).bind fun t223 => (some t223))) else (some false))) else (some false))
set_option maxHeartbeats 8000000 in
set_option maxRecDepth 100000 in
theorem spec_l24Right.calls (k : Nat) (a0_0 : Int) (a0_1 : Int) (a0_2 : Int) (a0_3 : Int) (A1 : Option Addr) (c1 : Nat) (l1 : List (S56)) (A2 : Option Addr) (c2 : Nat) (l2 : List Int) (r : Bool) (w : World) (hr1 : Kd.C k56 w A1 l1.length l1) (hc1 : l1.length ≤ c1) (hr2 : Kd.C (Kd.int .i64) w A2 l2.length l2) (hc2 : l2.length ≤ c2) (h : spec_l24Right.f k a0_0 a0_1 a0_2 a0_3 l1 l2 = some r) :
  Calls Tryz.prog 26 #[.agg #[.int .i64 a0_0, .int .i64 a0_1, .int .i64 a0_2, .int .i64 a0_3], .slice A1 l1.length c1, .slice A2 l2.length c2] w fun e w' => e = .returned (.bool r) ∧ Below w.heap.size w w' := by
 (have hu29 := Tryz.underlying29); (have HR1 := Aside0.mk hr1); (have HC1 := Aside0.mk hc1); clear hr1 hc1; (have HR2 := Aside0.mk hr2); (have HC2 := Aside0.mk hc2); clear hr2 hc2; (have HB := Aside0.mk (Below.refl w.heap.size w)); (have H : ((spec_ShapesOf.f k l1).bind fun bt217 => (if bt217.2 = true then ((spec_ConfOk.f a0_0 a0_1 a0_2 a0_3).bind fun t221 => (if t221 = true then ((spec_ShapeDraws.f k a0_0 a0_1 a0_2 a0_3 bt217.1).bind fun t222 => ((spec_l15Draws.f k t222 ([] : List Int) l2).bind fun t223 => (some t223))) else (some false))) else (some false))) = some r := h); clear h; (replace H := Option.bind_eq_some_iff.mp H); (obtain ⟨⟨t217, t218⟩, A40, H⟩ := H)
 try dsimp only at H
 (have A4 := Aside0.mk A40); clear A40
 by_cases c5 : t218 = true
 ·subst c5
  (have H1 : ((spec_ConfOk.f a0_0 a0_1 a0_2 a0_3).bind fun t221 => (if t221 = true then ((spec_ShapeDraws.f k a0_0 a0_1 a0_2 a0_3 t217).bind fun t222 => ((spec_l15Draws.f k t222 ([] : List Int) l2).bind fun t223 => (some t223))) else (some false))) = some r := by rw [if_pos rfl] at H; exact H); clear H; (have H := H1); clear H1; (replace H := Option.bind_eq_some_iff.mp H); (obtain ⟨t221, A60, H⟩ := H)
  try dsimp only at H
  (have A6 := Aside0.mk A60); clear A60
  by_cases c7 : t221 = true
  ·subst c7
   (have H1 : ((spec_ShapeDraws.f k a0_0 a0_1 a0_2 a0_3 t217).bind fun t222 => ((spec_l15Draws.f k t222 ([] : List Int) l2).bind fun t223 => (some t223))) = some r := by rw [if_pos rfl] at H; exact H); clear H; (have H := H1); clear H1; (replace H := Option.bind_eq_some_iff.mp H); (obtain ⟨t222, A80, H⟩ := H); (replace H : ((spec_l15Draws.f k t222 ([] : List Int) l2).bind fun t223 => (some t223)) = some r := H); (have A8 := Aside0.mk A80); clear A80; (replace H := Option.bind_eq_some_iff.mp H); (obtain ⟨t223, A90, H⟩ := H); (replace H : (some t223) = some r := H); (have A9 := Aside0.mk A90); clear A90; (obtain rfl := Option.some.inj H)
   go_enter Tryz.func26, Tryz.ntmps26
   go_wp2_with (first | ((with_reducible refine gate_dst (N := 3) rfl ?_); refine box_event ?hg (N := 3) ?hd (cs := #[.int .i64 a0_0, .int .i64 a0_1, .int .i64 a0_2, .int .i64 a0_3]) (t := 29) ?hr ?_; (case hd => rfl); (case hg => rfl); (case hr => first | (go_simp; done) | (go_simp; rfl)); intro gb216 hg w10 hbox hb; have BK216 := Aside0.mk (hbox); have GW216 := qG hg (below_size (qS0 HB)); have GE216 := qG hg (below_size (qS0 HB)); replace HB := Aside0.mk (below_step (qS0 HB) hb); clear hb hbox hg) | ((with_reducible refine gate_callee (f := 52) rfl ?_); refine goesL_ (some 11) rfl rfl Tryz.func52 (by kernel_rfl) rfl #[.slice A1 l1.length c1] rfl qL ?_; (with_reducible refine (spec_ShapesOf.calls k _ _ l1 t217 true _ ?side1 ?side2 A4.out).mono ?_); (case side1 => repeat (first | exact (Kd.C_below HR1.out HB.out) | (with_reducible refine Kd.C_alloc ?_ _) | (with_reducible refine Kd.C_drewN ?_ _) | (with_reducible refine Kd.C_drew ?_))); (case side2 => exact HC1.out); rintro e w11 ⟨v219, rfl, ho0, hb⟩; refine ⟨_, rfl, ?_⟩; have HO220 := Aside0.mk (Kd.R_lower ho0 (below_size (qS1 HB GE216))); replace BK216 := qD BK216 hb; replace HB := Aside0.mk (below_step (qS1 HB GE216) hb); (try clear hb); (try clear hb2); (try clear hk); (try clear hi); (try clear ho0); obtain ⟨hcz12_0, hcz12_1, hcz12_2, hcz12_3, hfz12_0, hfz12_1, hfz12_2, hfz12_3⟩ := qC4 BK216) | (go_at_call 53; (with_reducible refine (spec_ConfOk.calls a0_0 a0_1 a0_2 a0_3 true _ A6.out).mono ?_); rintro e w13 ⟨rfl, hb⟩; replace HO220 := Aside0.mk (Kd.R_below (qR HO220) hb); replace BK216 := qD BK216 hb; replace HB := Aside0.mk (below_step (qS1 HB GE216) hb); (try clear hb); (try clear hb2); (try clear hk); (try clear hi); obtain ⟨hcz14_0, hcz14_1, hcz14_2, hcz14_3, hfz14_0, hfz14_1, hfz14_2, hfz14_3⟩ := qC4 BK216; obtain ⟨Ao15, co15, eo15⟩ := Kd.R_slice HO220.out; subst eo15) | (go_at_call 58; (with_reducible refine (spec_ShapeDraws.calls k a0_0 a0_1 a0_2 a0_3 _ _ t217 t222 _ ?side1 ?side2 A8.out).mono ?_); (case side1 => repeat (first | exact (Kd.R_reads' HO220.out).2.2 | (with_reducible refine Kd.C_alloc ?_ _) | (with_reducible refine Kd.C_drewN ?_ _) | (with_reducible refine Kd.C_drew ?_))); (case side2 => exact (Kd.R_reads' HO220.out).2.1); rintro e w16 ⟨rfl, hb⟩; replace HO220 := Aside0.mk (Kd.R_below (qR HO220) hb); replace BK216 := qD BK216 hb; replace HB := Aside0.mk (below_step (qS1 HB GE216) hb); (try clear hb); (try clear hb2); (try clear hk); (try clear hi)) | (go_at_call 57; (refine (spec_l15Draws.calls k t222 _ _ ([] : List Int) _ _ l2 t223 _ ?side1 ?side2 ?side3 ?side4 A9.out).mono ?_); (case side1 => exact Kd.C_nil _ _); (case side2 => exact Nat.le_refl _); (case side3 => repeat (first | exact (Kd.C_below HR2.out HB.out) | (with_reducible refine Kd.C_alloc ?_ _) | (with_reducible refine Kd.C_drewN ?_ _) | (with_reducible refine Kd.C_drew ?_))); (case side4 => exact HC2.out); rintro e w' ⟨rfl, ⟨nd, rfl⟩⟩))
   go_ret
   exact ⟨qE, qS1 HB GE216⟩
  ·replace c7 := Bool.eq_false_iff.mpr c7
   (subst c7); (have H1 : (some false) = some r := by rw [if_neg (show ¬ (false = true) by decide)] at H; exact H); clear H; (have H := H1); clear H1; (obtain rfl := Option.some.inj H)
   go_enter Tryz.func26, Tryz.ntmps26
   go_wp2_with (first | ((with_reducible refine gate_dst (N := 3) rfl ?_); refine box_event ?hg (N := 3) ?hd (cs := #[.int .i64 a0_0, .int .i64 a0_1, .int .i64 a0_2, .int .i64 a0_3]) (t := 29) ?hr ?_; (case hd => rfl); (case hg => rfl); (case hr => first | (go_simp; done) | (go_simp; rfl)); intro gb216 hg w17 hbox hb; have BK216 := Aside0.mk (hbox); have GW216 := qG hg (below_size (qS0 HB)); have GE216 := qG hg (below_size (qS0 HB)); replace HB := Aside0.mk (below_step (qS0 HB) hb); clear hb hbox hg) | ((with_reducible refine gate_callee (f := 52) rfl ?_); refine goesL_ (some 11) rfl rfl Tryz.func52 (by kernel_rfl) rfl #[.slice A1 l1.length c1] rfl qL ?_; (with_reducible refine (spec_ShapesOf.calls k _ _ l1 t217 true _ ?side1 ?side2 A4.out).mono ?_); (case side1 => repeat (first | exact (Kd.C_below HR1.out HB.out) | (with_reducible refine Kd.C_alloc ?_ _) | (with_reducible refine Kd.C_drewN ?_ _) | (with_reducible refine Kd.C_drew ?_))); (case side2 => exact HC1.out); rintro e w18 ⟨v219, rfl, ho0, hb⟩; refine ⟨_, rfl, ?_⟩; have HO220 := Aside0.mk (Kd.R_lower ho0 (below_size (qS1 HB GE216))); replace BK216 := qD BK216 hb; replace HB := Aside0.mk (below_step (qS1 HB GE216) hb); (try clear hb); (try clear hb2); (try clear hk); (try clear hi); (try clear ho0); obtain ⟨hcz19_0, hcz19_1, hcz19_2, hcz19_3, hfz19_0, hfz19_1, hfz19_2, hfz19_3⟩ := qC4 BK216) | (go_at_call 53; (with_reducible refine (spec_ConfOk.calls a0_0 a0_1 a0_2 a0_3 false _ A6.out).mono ?_); rintro e w20 ⟨rfl, hb⟩; replace HO220 := Aside0.mk (Kd.R_below (qR HO220) hb); replace BK216 := qD BK216 hb; replace HB := Aside0.mk (below_step (qS1 HB GE216) hb); (try clear hb); (try clear hb2); (try clear hk); (try clear hi)))
   go_ret
   exact ⟨qE, qS1 HB GE216⟩
 ·replace c5 := Bool.eq_false_iff.mpr c5
  (subst c5); (have H1 : (some false) = some r := by rw [if_neg (show ¬ (false = true) by decide)] at H; exact H); clear H; (have H := H1); clear H1; (obtain rfl := Option.some.inj H)
  go_enter Tryz.func26, Tryz.ntmps26
  go_wp2_with (first | ((with_reducible refine gate_dst (N := 3) rfl ?_); refine box_event ?hg (N := 3) ?hd (cs := #[.int .i64 a0_0, .int .i64 a0_1, .int .i64 a0_2, .int .i64 a0_3]) (t := 29) ?hr ?_; (case hd => rfl); (case hg => rfl); (case hr => first | (go_simp; done) | (go_simp; rfl)); intro gb216 hg w21 hbox hb; have BK216 := Aside0.mk (hbox); have GW216 := qG hg (below_size (qS0 HB)); have GE216 := qG hg (below_size (qS0 HB)); replace HB := Aside0.mk (below_step (qS0 HB) hb); clear hb hbox hg) | ((with_reducible refine gate_callee (f := 52) rfl ?_); refine goesL_ (some 11) rfl rfl Tryz.func52 (by kernel_rfl) rfl #[.slice A1 l1.length c1] rfl qL ?_; (with_reducible refine (spec_ShapesOf.calls k _ _ l1 t217 false _ ?side1 ?side2 A4.out).mono ?_); (case side1 => repeat (first | exact (Kd.C_below HR1.out HB.out) | (with_reducible refine Kd.C_alloc ?_ _) | (with_reducible refine Kd.C_drewN ?_ _) | (with_reducible refine Kd.C_drew ?_))); (case side2 => exact HC1.out); rintro e w22 ⟨v219, rfl, ho0, hb⟩; refine ⟨_, rfl, ?_⟩; have HO220 := Aside0.mk (Kd.R_lower ho0 (below_size (qS1 HB GE216))); replace BK216 := qD BK216 hb; replace HB := Aside0.mk (below_step (qS1 HB GE216) hb); (try clear hb); (try clear hb2); (try clear hk); (try clear hi); (try clear ho0)))
  go_ret
  exact ⟨qE, qS1 HB GE216⟩
mutual
def spec_l24Split.l0 : Nat → List Int → List Int → List Int → Int → Int → Option (List Int × List Int)
 | 0, _, _, _, _, _ => none
 | k + 1, x1, x6, x7, x8, x9 => if x9 < x8 then (if (Int.tmod x9 6) = 5 then (if 0 ≤ x9 then (if x9 < (x1.length : Int) then (if x6.length < 17592186044416 then (spec_l24Split.l0 k x1 (x6 ++ [rd x1 x9]) x7 x8 (wrap64 (x9 + 1))) else (none)) else (none)) else (none)) else (if (Int.tmod x9 6) > 0 then (if 0 ≤ x9 then (if x9 < (x1.length : Int) then (if x7.length < 17592186044416 then (spec_l24Split.l0 k x1 x6 (x7 ++ [rd x1 x9]) x8 (wrap64 (x9 + 1))) else (none)) else (none)) else (none)) else (spec_l24Split.l0 k x1 x6 x7 x8 (wrap64 (x9 + 1))))) else (spec_l24Split.l1 k x1 x6 x7 x8)
def spec_l24Split.l1 : Nat → List Int → List Int → List Int → Int → Option (List Int × List Int)
 | 0, _, _, _, _ => none
 | k + 1, x1, x6, x7, x10 => if (wrap64 (x10 + 1)) < (x1.length : Int) then (if 0 ≤ x10 then (if x10 < (x1.length : Int) then (if x6.length < 17592186044416 then (if 0 ≤ (wrap64 (x10 + 1)) then (if x7.length < 17592186044416 then (spec_l24Split.l1 k x1 (x6 ++ [rd x1 x10]) (x7 ++ [rd x1 (wrap64 (x10 + 1))]) (wrap64 (x10 + 2))) else (none)) else (none)) else (none)) else (none)) else (none)) else (some (x6, x7))
end
def spec_l24Split.f (k : Nat) (a0_0 : Int) (a0_1 : Int) (a0_2 : Int) (a0_3 : Int) (l1 : List Int) : Option (List Int × List Int) := (spec_DeepDraws.f k a0_1).bind fun t231 => (spec_l24Split.l0 k l1 (([] : List Int)) (([] : List Int)) t231 0)
set_option maxHeartbeats 8000000 in
set_option maxRecDepth 100000 in
theorem spec_l24Split.calls (k : Nat) (a0_0 : Int) (a0_1 : Int) (a0_2 : Int) (a0_3 : Int) (A1 : Option Addr) (c1 : Nat) (l1 : List Int) (r1 : List Int) (r2 : List Int) (w : World) (hr1 : Kd.C (Kd.int .i64) w A1 l1.length l1) (hc1 : l1.length ≤ c1) (h : spec_l24Split.f k a0_0 a0_1 a0_2 a0_3 l1 = some (r1, r2)) :
  Calls Tryz.prog 27 #[.agg #[.int .i64 a0_0, .int .i64 a0_1, .int .i64 a0_2, .int .i64 a0_3], .slice A1 l1.length c1] w fun e w' => ∃ v0_ v1_ : Value, e = .returned (.tuple #[v0_, v1_]) ∧ Kd.R (Kd.int .i64) 3 w' w.heap.size (fun k_ => some k_ ≠ (v1_ : Value).ownBlock) v0_ r1 ∧ Kd.R (Kd.int .i64) 3 w' w.heap.size (fun k_ => some k_ ≠ (v0_ : Value).ownBlock) v1_ r2 ∧ Below w.heap.size w w' := by
 (have hu29 := Tryz.underlying29); (have HR1 := Aside0.mk hr1); (have HC1 := Aside0.mk hc1); clear hr1 hc1; (have HB := Aside0.mk (Below.refl w.heap.size w)); (have H : ((spec_DeepDraws.f k a0_1).bind fun t231 => (spec_l24Split.l0 k l1 (([] : List Int)) (([] : List Int)) t231 0)) = some (r1, r2) := h); clear h; (obtain ⟨y225, hy225⟩ : ∃ y_ : List Int, y_ = (([] : List Int)) := ⟨_, rfl⟩); (replace H : ((spec_DeepDraws.f k a0_1).bind fun t231 => (spec_l24Split.l0 k l1 y225 (([] : List Int)) t231 0)) = some (r1, r2) := qY hy225 H); (have Ny225 := Aside0.mk hy225); clear hy225; (obtain ⟨y228, hy228⟩ : ∃ y_ : List Int, y_ = (([] : List Int)) := ⟨_, rfl⟩); (replace H : ((spec_DeepDraws.f k a0_1).bind fun t231 => (spec_l24Split.l0 k l1 y225 y228 t231 0)) = some (r1, r2) := qY hy228 H); (have Ny228 := Aside0.mk hy228); clear hy228; (replace H := Option.bind_eq_some_iff.mp H); (obtain ⟨t231, A30, H⟩ := H); (replace H : (spec_l24Split.l0 k l1 y225 y228 t231 0) = some (r1, r2) := H); (have A3 := Aside0.mk A30); clear A30; (have H' := Aside0.mk H); clear H
 go_enter Tryz.func27, Tryz.ntmps27
 go_wp2_with (first | ((with_reducible refine gate_dst (N := 2) rfl ?_); refine box_event ?hg (N := 2) ?hd (cs := #[.int .i64 a0_0, .int .i64 a0_1, .int .i64 a0_2, .int .i64 a0_3]) (t := 29) ?hr ?_; (case hd => rfl); (case hg => rfl); (case hr => first | (go_simp; done) | (go_simp; rfl)); intro gb224 hg w4 hbox hb; have BK224 := Aside0.mk (hbox); have GW224 := qG hg (below_size (qS0 HB)); have GE224 := qG hg (below_size (qS0 HB)); replace HB := Aside0.mk (below_step (qS0 HB) hb); clear hb hbox hg) | ((with_reducible refine gate_dst (N := 11) rfl ?_); refine Kd.R_lit (Kd.int .i64) _ 3 ?hg (N := 11) ?hd (xs := ([] : List Int)) (inner := []) (ok := fun _ => True) (okp := fun _ => True) ?hr ?hp (fun _ hk => hk) trivial (Below.refl _ _) (Nat.le_refl _) (by simp) ?_; (case hd => rfl); (case hg => rfl); (case hr => first | (go_simp; done) | (go_simp; rfl)); (case hp => exact (Reps.none _ _)); intro v226 w5 ho6 hb hg_ hnew_; clear hg_ hnew_; (first | rw [← Ny225.out] at ho6 | (simp only [Int.reduceToNat] at ho6; rw [← Ny225.out] at ho6)); have HO227 := Aside0.mk (Kd.R_lower ho6 (below_size (qS1 HB GE224))); replace BK224 := qD BK224 hb; replace HB := Aside0.mk (below_step (qS1 HB GE224) hb); clear hb ho6) | ((with_reducible refine gate_dst (N := 12) rfl ?_); refine Kd.R_lit (Kd.int .i64) _ 3 ?hg (N := 12) ?hd (xs := ([] : List Int)) (inner := []) (ok := fun _ => True) (okp := fun _ => True) ?hr ?hp (fun _ hk => hk) trivial (Below.refl _ _) (Nat.le_refl _) (by simp) ?_; (case hd => rfl); (case hg => rfl); (case hr => first | (go_simp; done) | (go_simp; rfl)); (case hp => exact (Reps.none _ _)); intro v229 w7 ho8 hb hg_ hnew_; clear hg_ hnew_; (first | rw [← Ny228.out] at ho8 | (simp only [Int.reduceToNat] at ho8; rw [← Ny228.out] at ho8)); have HO230 := Aside0.mk (Kd.R_lower (Kd.R_new' ho8 (Kd.R_lt (qR HO227))) (below_size (qS1 HB GE224))); replace HO227 := Aside0.mk (Kd.R_elder' (qR HO227) (Kd.R_base ho8) hb); replace BK224 := qD BK224 hb; replace HB := Aside0.mk (below_step (qS1 HB GE224) hb); clear hb ho8; obtain ⟨hcz9_0, hcz9_1, hcz9_2, hcz9_3, hfz9_0, hfz9_1, hfz9_2, hfz9_3⟩ := qC4 BK224) | ((with_reducible refine gate_callee (f := 43) rfl ?_); refine goesL_ (some 15) rfl rfl Tryz.func43 (by kernel_rfl) rfl #[.int .i64 a0_1] rfl qL ?_; (with_reducible refine (spec_DeepDraws.calls k a0_1 t231 _ A3.out).mono ?_); rintro e w' ⟨rfl, ⟨nd, rfl⟩⟩; refine ⟨_, rfl, ?_⟩))
 go_loopg [6, 7, 9] k (fun kq v6 v7 v9 w' => ∃ (x6_1 : List Int) (x7_1 : List Int) (x9_1 : Int), v9 = .int .i64 x9_1 ∧ Aside0 (spec_l24Split.l0 kq l1 x6_1 x7_1 t231 x9_1 = some (r1, r2)) ∧ Aside0 (kq ≤ k) ∧ Aside0 (Kd.R (Kd.int .i64) 3 w' w.heap.size (fun k_ => some k_ ≠ (v7 : Value).ownBlock) v6 x6_1) ∧ Aside0 (Kd.R (Kd.int .i64) 3 w' w.heap.size (fun k_ => some k_ ≠ (v6 : Value).ownBlock) v7 x7_1) ∧ Aside0 (w'.heap[gb224]? = some (.cells #[.int .i64 a0_0, .int .i64 a0_1, .int .i64 a0_2, .int .i64 a0_3] 29 (0, 0))) ∧ Aside0 (Below w.heap.size w w'))
 case atStart => exact ⟨(y225), (y228), (0), qV, H', ⟨Nat.le_refl _⟩, ⟨by (with_reducible repeat (first | apply Kd.R_alloc | apply Kd.R_drewN | apply Kd.R_drew)); exact Kd.R_mono HO227.out (fun _ hk => hk.2)⟩, ⟨by (with_reducible repeat (first | apply Kd.R_alloc | apply Kd.R_drewN | apply Kd.R_drew)); exact Kd.R_mono HO230.out (fun _ hk => hk.2)⟩, ⟨qB BK224⟩, ⟨qS1 HB GE224⟩⟩
 case round =>
  clear H'; (try clear c1); (try clear c2); (try clear p2); (try clear c4); (try clear hcz9_0); (try clear hcz9_1); (try clear hcz9_2); (try clear hcz9_3); (try clear hfz9_0); (try clear hfz9_1); (try clear hfz9_2); (try clear hfz9_3); (obtain ⟨x6_1, x7_1, x9_1, rfl, HA, HK1, HO_6, HO_7, BK224, HB⟩ := hrel)
  cases gk with
  | zero => exact absurd HA.out (by simp [spec_l24Split.l0])
  | succ k1 =>
   (have H := HA.out); clear HA; (simp only [spec_l24Split.l0] at H)
   by_cases c10 : x9_1 < t231
   ·rw [if_pos c10] at H
    (have c10b0 : decide (x9_1 < t231) = true := decide_eq_true c10); clear c10
    by_cases c11 : (Int.tmod x9_1 6) = 5
    ·rw [if_pos c11] at H
     (have c11b0 : ((Int.tmod x9_1 6) == 5) = true := beq_iff_eq.mpr c11); (have c11b1 : ((Int.tmod x9_1 6) != 5) = false := bne_eq_false_iff_eq.mpr c11); clear c11
     by_cases c12 : 0 ≤ x9_1
     ·rw [if_pos c12] at H
      (have c12b0 : decide (0 ≤ x9_1) = true := decide_eq_true c12); clear c12
      by_cases c13 : x9_1 < (l1.length : Int)
      ·rw [if_pos c13] at H
       (have c13b0 : decide (x9_1 < (l1.length : Int)) = true := decide_eq_true c13); clear c13
       by_cases c14 : x6_1.length < 17592186044416
       ·rw [if_pos c14] at H
        (have LMc14 := Aside0.mk c14); clear c14; (obtain ⟨y233, hy233⟩ : ∃ y_ : List Int, y_ = (x6_1 ++ [rd l1 x9_1]) := ⟨_, rfl⟩); (replace H : (spec_l24Split.l0 k1 l1 y233 x7_1 t231 (wrap64 (x9_1 + 1))) = some (r1, r2) := qY hy233 H); (have Ny233 := Aside0.mk hy233); clear hy233; (have H' := Aside0.mk H); clear H; (have p232 : 0 ≤ (x9_1 : Int) := qO); (have q232 : x9_1 < (l1.length : Int) := qO); (obtain ⟨ad232, e232, hx232_0⟩ := Kd.at_int HR1.out x9_1 p232 q232)
        cases e232
        (replace hx232_0 := (HB.out.cell (World.block_lt_of_cell? w _ hx232_0)).trans hx232_0); (replace p232 := eq_true p232); (replace q232 := eq_true q232)
        go_wp2_with (first | ((with_reducible refine gate_builtin (b := .append) (xs := #[.tmp 24, .tmp 29]) rfl ?_); at_builtin; refine Kd.R_append (Kd.int .i64) (w0 := w) w.heap.size rfl (.tmp 24) (.tmp 29) 25 3 (.int .i64 0) 8 rfl Tryz.underlying25 info3 rfl (by decide) (by omega) u6 x6_1 (rd l1 x9_1) [.int .i64 (rd l1 x9_1)] (fun k_ => some k_ ≠ (u7 : Value).ownBlock) (fun _ => False) rfl rfl ?aP (fun _ hk => hk.elim) ?aF ?aO ?aB ?aS ?aL ?_; (case aP => exact rfl); (case aB => exact (qS1 HB GE224)); (case aF => exact (fun k_ hk => Kd.fresh' (Kd.R_lt (qR HO_7)) k_ hk)); (case aO => exact (qR HO_6)); (case aS => exact (below_size (qS1 HB GE224))); (case aL => have := LMc14.out; omega); intro v234 w15 ho hb hg hat; rw [← Ny233.out] at ho; replace HO_7 := Aside0.mk (Kd.R_after (ok := (fun _ => True)) (by (with_reducible repeat (first | apply Kd.R_alloc | apply Kd.R_drewN | apply Kd.R_drew)); exact Kd.R_mono HO_7.out (fun _ hk => ⟨trivial, hk⟩)) hg hat); replace BK224 := Aside0.mk (blk_grown (qB BK224) hg (Kd.R_ne HO_6.out BK224.out (by decide))); replace HB := Aside0.mk (hb); have HO235 := Aside0.mk (ho); clear HO_6; clear ho hb hg hat))
        go_roundg k1
        case measure => have := HK1.out; omega
        case rel => exact ⟨(y233), (x7_1), (wrap64 (x9_1 + 1)), qV, H', ⟨by have := HK1.out; omega⟩, ⟨qR HO235⟩, ⟨by (with_reducible repeat (first | apply Kd.R_alloc | apply Kd.R_drewN | apply Kd.R_drew)); exact Kd.R_mono HO_7.out (fun _ hk => hk.2)⟩, ⟨qB BK224⟩, ⟨qS1 HB GE224⟩⟩
       ·rw [if_neg c14] at H
        exact absurd H (by simp)
      ·rw [if_neg c13] at H
       exact absurd H (by simp)
     ·rw [if_neg c12] at H
      exact absurd H (by simp)
    ·rw [if_neg c11] at H
     (have c11b0 : ((Int.tmod x9_1 6) == 5) = false := beq_eq_false_iff_ne.mpr c11); (have c11b1 : ((Int.tmod x9_1 6) != 5) = true := bne_iff_ne.mpr c11)
     by_cases c16 : (Int.tmod x9_1 6) > 0
     ·rw [if_pos c16] at H
      (have c16b0 : decide (0 < (Int.tmod x9_1 6)) = true := decide_eq_true c16); clear c16
      by_cases c17 : 0 ≤ x9_1
      ·rw [if_pos c17] at H
       (have c17b0 : decide (0 ≤ x9_1) = true := decide_eq_true c17); clear c17
       by_cases c18 : x9_1 < (l1.length : Int)
       ·rw [if_pos c18] at H
        (have c18b0 : decide (x9_1 < (l1.length : Int)) = true := decide_eq_true c18); clear c18
        by_cases c19 : x7_1.length < 17592186044416
        ·rw [if_pos c19] at H
         (have LMc19 := Aside0.mk c19); clear c19; (obtain ⟨y237, hy237⟩ : ∃ y_ : List Int, y_ = (x7_1 ++ [rd l1 x9_1]) := ⟨_, rfl⟩); (replace H : (spec_l24Split.l0 k1 l1 x6_1 y237 t231 (wrap64 (x9_1 + 1))) = some (r1, r2) := qY hy237 H); (have Ny237 := Aside0.mk hy237); clear hy237; (have H' := Aside0.mk H); clear H; (have p236 : 0 ≤ (x9_1 : Int) := qO); (have q236 : x9_1 < (l1.length : Int) := qO); (obtain ⟨ad236, e236, hx236_0⟩ := Kd.at_int HR1.out x9_1 p236 q236)
         cases e236
         (replace hx236_0 := (HB.out.cell (World.block_lt_of_cell? w _ hx236_0)).trans hx236_0); (replace p236 := eq_true p236); (replace q236 := eq_true q236)
         go_wp2_with (first | ((with_reducible refine gate_builtin (b := .append) (xs := #[.tmp 34, .tmp 39]) rfl ?_); at_builtin; refine Kd.R_append (Kd.int .i64) (w0 := w) w.heap.size rfl (.tmp 34) (.tmp 39) 25 3 (.int .i64 0) 8 rfl Tryz.underlying25 info3 rfl (by decide) (by omega) u7 x7_1 (rd l1 x9_1) [.int .i64 (rd l1 x9_1)] (fun k_ => some k_ ≠ (u6 : Value).ownBlock) (fun _ => False) rfl rfl ?aP (fun _ hk => hk.elim) ?aF ?aO ?aB ?aS ?aL ?_; (case aP => exact rfl); (case aB => exact (qS1 HB GE224)); (case aF => exact (fun k_ hk => Kd.fresh' (Kd.R_lt (qR HO_6)) k_ hk)); (case aO => exact (qR HO_7)); (case aS => exact (below_size (qS1 HB GE224))); (case aL => have := LMc19.out; omega); intro v238 w20 ho hb hg hat; rw [← Ny237.out] at ho; replace HO_6 := Aside0.mk (Kd.R_after (ok := (fun _ => True)) (by (with_reducible repeat (first | apply Kd.R_alloc | apply Kd.R_drewN | apply Kd.R_drew)); exact Kd.R_mono HO_6.out (fun _ hk => ⟨trivial, hk⟩)) hg hat); replace BK224 := Aside0.mk (blk_grown (qB BK224) hg (Kd.R_ne HO_7.out BK224.out (by decide))); replace HB := Aside0.mk (hb); have HO239 := Aside0.mk (ho); clear HO_7; clear ho hb hg hat))
         go_roundg k1
         case measure => have := HK1.out; omega
         case rel => exact ⟨(x6_1), (y237), (wrap64 (x9_1 + 1)), qV, H', ⟨by have := HK1.out; omega⟩, ⟨by (with_reducible repeat (first | apply Kd.R_alloc | apply Kd.R_drewN | apply Kd.R_drew)); exact Kd.R_mono HO_6.out (fun _ hk => hk.2)⟩, ⟨qR HO239⟩, ⟨qB BK224⟩, ⟨qS1 HB GE224⟩⟩
        ·rw [if_neg c19] at H
         exact absurd H (by simp)
       ·rw [if_neg c18] at H
        exact absurd H (by simp)
      ·rw [if_neg c17] at H
       exact absurd H (by simp)
     ·rw [if_neg c16] at H
      (have c16b0 : decide (0 < (Int.tmod x9_1 6)) = false := decide_eq_false c16); clear c16; (have H' := Aside0.mk H); clear H
      go_wp2
      go_roundg k1
      case measure => have := HK1.out; omega
      case rel => exact ⟨(x6_1), (x7_1), (wrap64 (x9_1 + 1)), qV, H', ⟨by have := HK1.out; omega⟩, ⟨qR HO_6⟩, ⟨qR HO_7⟩, ⟨qB BK224⟩, ⟨qS1 HB GE224⟩⟩
   ·rw [if_neg c10] at H
    (have c10b0 : decide (x9_1 < t231) = false := decide_eq_false c10); clear c10; (have H' := Aside0.mk H); clear H
    go_wp2
    go_loopg [6, 7, 10] k1 (fun kq v6 v7 v10 w' => ∃ (x6_2 : List Int) (x7_2 : List Int) (x10_2 : Int), v10 = .int .i64 x10_2 ∧ Aside0 (spec_l24Split.l1 kq l1 x6_2 x7_2 x10_2 = some (r1, r2)) ∧ Aside0 (kq ≤ k1) ∧ Aside0 (Kd.R (Kd.int .i64) 3 w' w.heap.size (fun k_ => some k_ ≠ (v7 : Value).ownBlock) v6 x6_2) ∧ Aside0 (Kd.R (Kd.int .i64) 3 w' w.heap.size (fun k_ => some k_ ≠ (v6 : Value).ownBlock) v7 x7_2) ∧ Aside0 (w'.heap[gb224]? = some (.cells #[.int .i64 a0_0, .int .i64 a0_1, .int .i64 a0_2, .int .i64 a0_3] 29 (0, 0))) ∧ Aside0 (Below w.heap.size w w'))
    case atStart => exact ⟨(x6_1), (x7_1), (t231), qV, H', ⟨Nat.le_refl _⟩, ⟨qR HO_6⟩, ⟨qR HO_7⟩, ⟨qB BK224⟩, ⟨qS1 HB GE224⟩⟩
    case round =>
     clear H'; (try clear c1); (try clear c2); (try clear p2); (try clear q2); (try clear hx2); (try clear c4); (try clear p6); (try clear c10); (try clear c10b0); (try clear c11); (try clear c11b0); (try clear c11b1); (try clear c12); (try clear c12b0); (try clear c13); (try clear c13b0); (try clear c14); (try clear c16); (try clear c16b0); (try clear c17); (try clear c17b0); (try clear c18); (try clear c18b0); (try clear c19); (try clear hcz9_0); (try clear hcz9_1); (try clear hcz9_2); (try clear hcz9_3); (try clear hfz9_0); (try clear hfz9_1); (try clear hfz9_2); (try clear hfz9_3); (try clear hx232_0); (try clear hx236_0); (try clear p2); (try clear p232); (try clear p236); (try clear q232); (try clear q236); (obtain ⟨x6_2, x7_2, x10_2, rfl, HA, HK2, HO_6, HO_7, BK224, HB⟩ := hrel)
     cases gk with
     | zero => exact absurd HA.out (by simp [spec_l24Split.l1])
     | succ k2 =>
      (have H := HA.out); clear HA; (simp only [spec_l24Split.l1] at H)
      by_cases c21 : (wrap64 (x10_2 + 1)) < (l1.length : Int)
      ·rw [if_pos c21] at H
       (have c21b0 : decide ((wrap64 (x10_2 + 1)) < (l1.length : Int)) = true := decide_eq_true c21); clear c21
       by_cases c22 : 0 ≤ x10_2
       ·rw [if_pos c22] at H
        (have c22b0 : decide (0 ≤ x10_2) = true := decide_eq_true c22); clear c22
        by_cases c23 : x10_2 < (l1.length : Int)
        ·rw [if_pos c23] at H
         (have c23b0 : decide (x10_2 < (l1.length : Int)) = true := decide_eq_true c23); clear c23
         by_cases c24 : x6_2.length < 17592186044416
         ·rw [if_pos c24] at H
          (have LMc24 := Aside0.mk c24); clear c24; (obtain ⟨y241, hy241⟩ : ∃ y_ : List Int, y_ = (x6_2 ++ [rd l1 x10_2]) := ⟨_, rfl⟩); (replace H : (if 0 ≤ (wrap64 (x10_2 + 1)) then (if x7_2.length < 17592186044416 then (spec_l24Split.l1 k2 l1 y241 (x7_2 ++ [rd l1 (wrap64 (x10_2 + 1))]) (wrap64 (x10_2 + 2))) else (none)) else (none)) = some (r1, r2) := qY hy241 H); (have Ny241 := Aside0.mk hy241); clear hy241; (obtain ⟨ji25, hji25⟩ : ∃ j_ : Int, (wrap64 (x10_2 + 1)) = j_ := ⟨_, rfl⟩); (replace H : (if 0 ≤ (ji25) then (if x7_2.length < 17592186044416 then (spec_l24Split.l1 k2 l1 y241 (x7_2 ++ [rd l1 (ji25)]) (wrap64 (x10_2 + 2))) else (none)) else (none)) = some (r1, r2) := by first | (rw [hji25] at H; exact H) | (simp only [hji25] at H ⊢; exact H)); (try rw [hji25] at c21b0); (have hji25w : (IntKind.i64.wrap (x10_2 + 1)) = ji25 := (i64_w _).trans hji25)
          by_cases c26 : 0 ≤ (ji25)
          ·rw [if_pos c26] at H
           (have c26b0 : decide (0 ≤ (ji25)) = true := decide_eq_true c26); clear c26
           by_cases c27 : x7_2.length < 17592186044416
           ·rw [if_pos c27] at H
            (have LMc27 := Aside0.mk c27); clear c27; (obtain ⟨y245, hy245⟩ : ∃ y_ : List Int, y_ = (x7_2 ++ [rd l1 (ji25)]) := ⟨_, rfl⟩); (replace H : (spec_l24Split.l1 k2 l1 y241 y245 (wrap64 (x10_2 + 2))) = some (r1, r2) := qY hy245 H); (have Ny245 := Aside0.mk hy245); clear hy245; (have H' := Aside0.mk H); clear H; (have p240 : 0 ≤ (x10_2 : Int) := qO); (have q240 : x10_2 < (l1.length : Int) := qO); (obtain ⟨ad240, e240, hx240_0⟩ := Kd.at_int HR1.out x10_2 p240 q240)
            cases e240
            (replace hx240_0 := (HB.out.cell (World.block_lt_of_cell? w _ hx240_0)).trans hx240_0); (replace p240 := eq_true p240); (replace q240 := eq_true q240)
            go_wp2_with (first | ((with_reducible refine gate_builtin (b := .append) (xs := #[.tmp 49, .tmp 54]) rfl ?_); at_builtin; refine Kd.R_append (Kd.int .i64) (w0 := w) w.heap.size rfl (.tmp 49) (.tmp 54) 25 3 (.int .i64 0) 8 rfl Tryz.underlying25 info3 rfl (by decide) (by omega) u6 x6_2 (rd l1 x10_2) [.int .i64 (rd l1 x10_2)] (fun k_ => some k_ ≠ (u7 : Value).ownBlock) (fun _ => False) rfl rfl ?aP (fun _ hk => hk.elim) ?aF ?aO ?aB ?aS ?aL ?_; (case aP => exact rfl); (case aB => exact (qS1 HB GE224)); (case aF => exact (fun k_ hk => Kd.fresh' (Kd.R_lt (qR HO_7)) k_ hk)); (case aO => exact (qR HO_6)); (case aS => exact (below_size (qS1 HB GE224))); (case aL => have := LMc24.out; omega); intro v242 w28 ho hb hg hat; rw [← Ny241.out] at ho; replace HO_7 := Aside0.mk (Kd.R_after (ok := (fun _ => True)) (by (with_reducible repeat (first | apply Kd.R_alloc | apply Kd.R_drewN | apply Kd.R_drew)); exact Kd.R_mono HO_7.out (fun _ hk => ⟨trivial, hk⟩)) hg hat); replace BK224 := Aside0.mk (blk_grown (qB BK224) hg (Kd.R_ne HO_6.out BK224.out (by decide))); replace HB := Aside0.mk (hb); have HO243 := Aside0.mk (ho); clear HO_6 ho hb hg hat; have p244 : 0 ≤ ((ji25) : Int) := qO; have q244 : (ji25) < (l1.length : Int) := qO; obtain ⟨ad244, e244, hx244_0⟩ := Kd.at_int HR1.out (ji25) p244 q244; obtain rfl : ad240 = ad244 := (by injection e244); replace hx244_0 := (HB.out.cell (World.block_lt_of_cell? w _ hx244_0)).trans hx244_0; replace p244 := eq_true p244; replace q244 := eq_true q244) | ((with_reducible refine gate_builtin (b := .append) (xs := #[.tmp 56, .tmp 62]) rfl ?_); at_builtin; refine Kd.R_append (Kd.int .i64) (w0 := w) w.heap.size rfl (.tmp 56) (.tmp 62) 25 3 (.int .i64 0) 8 rfl Tryz.underlying25 info3 rfl (by decide) (by omega) u7 x7_2 (rd l1 (ji25)) [.int .i64 (rd l1 (ji25))] (fun k_ => some k_ ≠ (v242 : Value).ownBlock) (fun _ => False) rfl rfl ?aP (fun _ hk => hk.elim) ?aF ?aO ?aB ?aS ?aL ?_; (case aP => exact rfl); (case aB => exact (qS1 HB GE224)); (case aF => exact (fun k_ hk => Kd.fresh' (Kd.R_lt (qR HO243)) k_ hk)); (case aO => exact (by (with_reducible repeat (first | apply Kd.R_alloc | apply Kd.R_drewN | apply Kd.R_drew)); exact Kd.R_mono HO_7.out (fun _ hk => hk.2))); (case aS => exact (below_size (qS1 HB GE224))); (case aL => have := LMc27.out; omega); intro v246 w29 ho hb hg hat; rw [← Ny245.out] at ho; replace BK224 := Aside0.mk (blk_grown (qB BK224) hg (Kd.R_ne HO_7.out BK224.out (by decide))); replace HO243 := Aside0.mk (Kd.R_after (ok := (fun _ => True)) (by (with_reducible repeat (first | apply Kd.R_alloc | apply Kd.R_drewN | apply Kd.R_drew)); exact Kd.R_mono HO243.out (fun _ hk => ⟨trivial, hk⟩)) hg hat); replace HB := Aside0.mk (hb); have HO247 := Aside0.mk (ho); clear HO_7; clear ho hb hg hat))
            go_roundg k2
            case measure => have := HK1.out; have := HK2.out; omega
            case rel => exact ⟨(y241), (y245), (wrap64 (x10_2 + 2)), qV, H', ⟨by have := HK1.out; have := HK2.out; omega⟩, ⟨by (with_reducible repeat (first | apply Kd.R_alloc | apply Kd.R_drewN | apply Kd.R_drew)); exact Kd.R_mono HO243.out (fun _ hk => hk.2)⟩, ⟨qR HO247⟩, ⟨qB BK224⟩, ⟨qS1 HB GE224⟩⟩
           ·rw [if_neg c27] at H
            exact absurd H (by simp)
          ·rw [if_neg c26] at H
           exact absurd H (by simp)
         ·rw [if_neg c24] at H
          exact absurd H (by simp)
        ·rw [if_neg c23] at H
         exact absurd H (by simp)
       ·rw [if_neg c22] at H
        exact absurd H (by simp)
      ·rw [if_neg c21] at H
       (have c21b0 : decide ((wrap64 (x10_2 + 1)) < (l1.length : Int)) = false := decide_eq_false c21); clear c21; (simp only [Option.some.injEq, Prod.mk.injEq] at H); (obtain ⟨rfl, rfl⟩ := H)
       go_wp2
       go_ret2
       exact ⟨_, _, qE, qR HO_6, qR HO_7, qS1 HB GE224⟩
def spec_LeafOf.f (k : Nat) (a0 : Int) (a1 : Int) : Option (Int) := if a0 < 0 then (some (-1)) else (if a0 > 65535 then (some (-1)) else (if a1 < 0 then (some (-1)) else (if a1 > 6 then (some (-1)) else ((spec_l02Pow.f k a1).bind fun t248 => (if t248 = 0 then (none) else (some (Int.tmod a0 t248)))))))
set_option maxHeartbeats 8000000 in
set_option maxRecDepth 100000 in
theorem spec_LeafOf.calls (k : Nat) (a0 : Int) (a1 : Int) (r : Int) (w : World) (h : spec_LeafOf.f k a0 a1 = some r) :
  Calls Tryz.prog 29 #[.int .i64 a0, .int .i64 a1] w fun e w' => e = .returned (.int .i64 r) ∧ Drawn0 w w' := by
 (have H : (if a0 < 0 then (some (-1)) else (if a0 > 65535 then (some (-1)) else (if a1 < 0 then (some (-1)) else (if a1 > 6 then (some (-1)) else ((spec_l02Pow.f k a1).bind fun t248 => (if t248 = 0 then (none) else (some (Int.tmod a0 t248)))))))) = some r := h); clear h
 by_cases c3 : a0 < 0
 ·rw [if_pos c3] at H
  (have c3b0 : decide (a0 < 0) = true := decide_eq_true c3); clear c3; (obtain rfl := Option.some.inj H)
  go_enter Tryz.func29, Tryz.ntmps29
  go_wp2
  go_ret
  exact qZ
 ·rw [if_neg c3] at H
  (have c3b0 : decide (a0 < 0) = false := decide_eq_false c3); clear c3
  by_cases c4 : a0 > 65535
  ·rw [if_pos c4] at H
   (have c4b0 : decide (65535 < a0) = true := decide_eq_true c4); clear c4; (obtain rfl := Option.some.inj H)
   go_enter Tryz.func29, Tryz.ntmps29
   go_wp2
   go_ret
   exact qZ
  ·rw [if_neg c4] at H
   (have c4b0 : decide (65535 < a0) = false := decide_eq_false c4); clear c4
   by_cases c5 : a1 < 0
   ·rw [if_pos c5] at H
    (have c5b0 : decide (a1 < 0) = true := decide_eq_true c5); clear c5; (obtain rfl := Option.some.inj H)
    go_enter Tryz.func29, Tryz.ntmps29
    go_wp2
    go_ret
    exact qZ
   ·rw [if_neg c5] at H
    (have c5b0 : decide (a1 < 0) = false := decide_eq_false c5); clear c5
    by_cases c6 : a1 > 6
    ·rw [if_pos c6] at H
     (have c6b0 : decide (6 < a1) = true := decide_eq_true c6); clear c6; (obtain rfl := Option.some.inj H)
     go_enter Tryz.func29, Tryz.ntmps29
     go_wp2
     go_ret
     exact qZ
    ·rw [if_neg c6] at H
     (have c6b0 : decide (6 < a1) = false := decide_eq_false c6); clear c6; (replace H := Option.bind_eq_some_iff.mp H); (obtain ⟨t248, A70, H⟩ := H); (replace H : (if t248 = 0 then (none) else (some (Int.tmod a0 t248))) = some r := H); (have A7 := Aside0.mk A70); clear A70
     by_cases c8 : t248 = 0
     ·rw [if_pos c8] at H
      exact absurd H (by simp)
     ·rw [if_neg c8] at H
      (have c8b0 : (t248 == 0) = false := beq_eq_false_iff_ne.mpr c8); (have c8b1 : (t248 != 0) = true := bne_iff_ne.mpr c8); (obtain rfl := Option.some.inj H)
      go_enter Tryz.func29, Tryz.ntmps29
      go_wp2_with (first | ((with_reducible refine gate_callee (f := 28) rfl ?_); refine goesL_ (some 21) rfl rfl Tryz.func28 (by kernel_rfl) rfl #[.int .i64 a1] rfl qL ?_; (with_reducible refine (spec_l02Pow.calls k a1 t248 _ A7.out).mono ?_); rintro e w' ⟨rfl, ⟨nd, rfl⟩⟩; refine ⟨_, rfl, ?_⟩))
      go_ret
      exact qZ
mutual
def spec_l15Right.j0 : Nat → Int → List Int → Bool → Option (Bool)
 | 0, _, _, _ => none
 | k + 1, x0, x1, x16 => if x16 = true then (some false) else (spec_l15Right.l0 k x0 x1 0)
def spec_l15Right.l0 : Nat → Int → List Int → Int → Option (Bool)
 | 0, _, _, _ => none
 | k + 1, x0, x1, x5 => if x5 < (x1.length : Int) then (if 0 ≤ x5 then (if (rd x1 x5) < (-1) then (some false) else (if (rd x1 x5) ≥ x0 then (some false) else (spec_l15Right.l0 k x0 x1 (wrap64 (x5 + 1))))) else (none)) else (some true)
end
def spec_l15Right.f (k : Nat) (a0 : Int) (l1 : List Int) : Option (Bool) := if a0 < 0 then (spec_l15Right.j0 k a0 l1 true) else (if a0 > 256 then (spec_l15Right.j0 k a0 l1 true) else (spec_l15Right.j0 k a0 l1 (decide ((l1.length : Int) > 700))))
set_option maxHeartbeats 8000000 in
set_option maxRecDepth 100000 in
theorem spec_l15Right.calls (k : Nat) (a0 : Int) (A1 : Option Addr) (c1 : Nat) (l1 : List Int) (r : Bool) (w : World) (hr1 : Kd.C (Kd.int .i64) w A1 l1.length l1) (hc1 : l1.length ≤ c1) (h : spec_l15Right.f k a0 l1 = some r) :
  Calls Tryz.prog 59 #[.int .i64 a0, .slice A1 l1.length c1] w fun e w' => e = .returned (.bool r) ∧ Drawn0 w w' := by
 (have HR1 := Aside0.mk hr1); (have HC1 := Aside0.mk hc1); clear hr1 hc1; (have H : (if a0 < 0 then (spec_l15Right.j0 k a0 l1 true) else (if a0 > 256 then (spec_l15Right.j0 k a0 l1 true) else (spec_l15Right.j0 k a0 l1 (decide ((l1.length : Int) > 700))))) = some r := h); clear h; (have HC3 := Aside0.mk H); clear H
 go_enter Tryz.func59, Tryz.ntmps59
 go_upto_region 1 with (fail)
 go_cut [16] (fun v16 wc => ∃ (kq : Nat) (x16_2 : Bool), v16 = .bool x16_2 ∧ Aside0 (spec_l15Right.j0 kq a0 l1 x16_2 = some r) ∧ Aside0 (kq ≤ k) ∧ Drawn0 w wc)
 case first =>
  (have H := HC3.out); clear HC3
  by_cases c4 : a0 < 0
  ·rw [if_pos c4] at H
   (have c4b0 : decide (a0 < 0) = true := decide_eq_true c4); clear c4
   (first | rw [c4b0] | (simp only [i64_w, i32_w]; rw [c4b0]) | skip)
   (have H' := Aside0.mk H); clear H
   go_wp2
   go_meet
   case rel => exact ⟨_, (true), qV, H', ⟨by first | omega | exact Nat.le_refl _⟩, by repeat (first | exact Drawn0.refl _ | apply Drawn0.step)⟩
  ·rw [if_neg c4] at H
   (have c4b0 : decide (a0 < 0) = false := decide_eq_false c4); clear c4
   (first | rw [c4b0] | (simp only [i64_w, i32_w]; rw [c4b0]) | skip)
   by_cases c5 : a0 > 256
   ·rw [if_pos c5] at H
    (have c5b0 : decide (256 < a0) = true := decide_eq_true c5); clear c5; (have H' := Aside0.mk H); clear H
    go_wp2
    go_meet
    case rel => exact ⟨_, (true), qV, H', ⟨by first | omega | exact Nat.le_refl _⟩, by repeat (first | exact Drawn0.refl _ | apply Drawn0.step)⟩
   ·rw [if_neg c5] at H
    (have c5b0 : decide (256 < a0) = false := decide_eq_false c5); clear c5; (have H' := Aside0.mk H); clear H
    go_wp2
    go_meet
    case rel => exact ⟨_, (decide ((l1.length : Int) > 700)), qV, H', ⟨by first | omega | exact Nat.le_refl _⟩, by repeat (first | exact Drawn0.refl _ | apply Drawn0.step)⟩
 case rest =>
  clear HC3; (try clear c1); (try clear p2); (try clear c4); (try clear c4b0); (try clear c5); (try clear c5b0); (obtain ⟨kq, x16_2, rfl, HA, HJ2, ⟨mc2, rfl⟩⟩ := hcut)
  cases kq with
  | zero => exact absurd HA.out (by simp [spec_l15Right.j0])
  | succ kj2 =>
   (have H := HA.out); clear HA; (simp only [spec_l15Right.j0] at H)
   by_cases c6 : x16_2 = true
   ·subst c6
    (have H1 : (some false) = some r := by rw [if_pos rfl] at H; exact H); clear H; (have H := H1); clear H1; (obtain rfl := Option.some.inj H)
    go_wp2
    go_ret
    exact qZ
   ·replace c6 := Bool.eq_false_iff.mpr c6
    (subst c6); (have H1 : (spec_l15Right.l0 kj2 a0 l1 0) = some r := by rw [if_neg (show ¬ (false = true) by decide)] at H; exact H); clear H; (have H := H1); clear H1; (have H' := Aside0.mk H); clear H
    go_wp2
    go_loopg [5] kj2 (fun kq v5 w' => ∃ (x5_2 : Int), v5 = .int .i64 x5_2 ∧ Aside0 (spec_l15Right.l0 kq a0 l1 x5_2 = some r) ∧ Aside0 (kq ≤ kj2) ∧ Drawn0 w w')
    case atStart => exact ⟨(0), qV, H', ⟨Nat.le_refl _⟩, by repeat (first | exact Drawn0.refl _ | apply Drawn0.step)⟩
    case round =>
     clear H'; (try clear c1); (try clear c2); (try clear p2); (try clear c4); (try clear c4b0); (try clear c5); (try clear c5b0); (try clear c6); (try clear p2); (obtain ⟨x5_2, rfl, HA, HK2, ⟨m2, rfl⟩⟩ := hrel)
     cases gk with
     | zero => exact absurd HA.out (by simp [spec_l15Right.l0])
     | succ k2 =>
      (have H := HA.out); clear HA; (simp only [spec_l15Right.l0] at H)
      by_cases c7 : x5_2 < (l1.length : Int)
      ·rw [if_pos c7] at H
       (have c7b0 : decide (x5_2 < (l1.length : Int)) = true := decide_eq_true c7); clear c7
       by_cases c8 : 0 ≤ x5_2
       ·rw [if_pos c8] at H
        (have c8b0 : decide (0 ≤ x5_2) = true := decide_eq_true c8); clear c8
        by_cases c9 : (rd l1 x5_2) < (-1)
        ·rw [if_pos c9] at H
         (have c9b0 : decide ((rd l1 x5_2) < (-1)) = true := decide_eq_true c9); clear c9; (obtain rfl := Option.some.inj H); (have p249 : 0 ≤ (x5_2 : Int) := qO); (have q249 : x5_2 < (l1.length : Int) := qO); (obtain ⟨ad249, e249, hx249_0⟩ := Kd.at_int HR1.out x5_2 p249 q249)
         cases e249
         (replace p249 := eq_true p249); (replace q249 := eq_true q249)
         go_wp2
         go_ret
         exact qZ
        ·rw [if_neg c9] at H
         (have c9b0 : decide ((rd l1 x5_2) < (-1)) = false := decide_eq_false c9); clear c9
         by_cases c10 : (rd l1 x5_2) ≥ a0
         ·rw [if_pos c10] at H
          (have c10b0 : decide (a0 ≤ (rd l1 x5_2)) = true := decide_eq_true c10); clear c10; (obtain rfl := Option.some.inj H); (have p249 : 0 ≤ (x5_2 : Int) := qO); (have q249 : x5_2 < (l1.length : Int) := qO); (obtain ⟨ad249, e249, hx249_0⟩ := Kd.at_int HR1.out x5_2 p249 q249)
          cases e249
          (replace p249 := eq_true p249); (replace q249 := eq_true q249); (have p250 : 0 ≤ (x5_2 : Int) := qO); (have q250 : x5_2 < (l1.length : Int) := qO); (obtain ⟨ad250, e250, hx250_0⟩ := Kd.at_int HR1.out x5_2 p250 q250); (obtain rfl : ad249 = ad250 := (by injection e250)); (replace p250 := eq_true p250); (replace q250 := eq_true q250)
          go_wp2
          go_ret
          exact qZ
         ·rw [if_neg c10] at H
          (have c10b0 : decide (a0 ≤ (rd l1 x5_2)) = false := decide_eq_false c10); clear c10; (have H' := Aside0.mk H); clear H; (have p249 : 0 ≤ (x5_2 : Int) := qO); (have q249 : x5_2 < (l1.length : Int) := qO); (obtain ⟨ad249, e249, hx249_0⟩ := Kd.at_int HR1.out x5_2 p249 q249)
          cases e249
          (replace p249 := eq_true p249); (replace q249 := eq_true q249); (have p250 : 0 ≤ (x5_2 : Int) := qO); (have q250 : x5_2 < (l1.length : Int) := qO); (obtain ⟨ad250, e250, hx250_0⟩ := Kd.at_int HR1.out x5_2 p250 q250); (obtain rfl : ad249 = ad250 := (by injection e250)); (replace p250 := eq_true p250); (replace q250 := eq_true q250)
          go_wp2
          go_roundg k2
          case measure => have := HJ2.out; have := HK2.out; omega
          case rel => exact ⟨(wrap64 (x5_2 + 1)), qV, H', ⟨by have := HJ2.out; have := HK2.out; omega⟩, by repeat (first | exact Drawn0.refl _ | apply Drawn0.step)⟩
       ·rw [if_neg c8] at H
        exact absurd H (by simp)
      ·rw [if_neg c7] at H
       (have c7b0 : decide (x5_2 < (l1.length : Int)) = false := decide_eq_false c7); clear c7; (obtain rfl := Option.some.inj H)
       go_wp2
       go_ret
       exact qZ
mutual
def spec_PathSeq.j0 : Nat → Int → Int → List Int → List Int → Bool → Option (List Int × Bool)
 | 0, _, _, _, _, _ => none
 | k + 1, x0, x1, x2, x3, x29 => if x29 = true then (some (([] : List Int), false)) else ((some (([] : List Int) : List Int)).bind fun y254 => (if 0 ≤ x0 then (if x0 ≤ (x3.length : Int) then (if y254.length + (x3.take (x0 : Int).toNat).length < 17592186044416 then (spec_PathSeq.l0 k x0 x1 x2 x3 (y254 ++ (x3.take (x0 : Int).toNat)) (([] : List Int)) 0) else (none)) else (none)) else (none)))
def spec_PathSeq.l0 : Nat → Int → Int → List Int → List Int → List Int → List Int → Int → Option (List Int × Bool)
 | 0, _, _, _, _, _, _, _ => none
 | k + 1, x0, x1, x2, x3, x10, x11, x12 => if x12 < (x2.length : Int) then (if 0 ≤ (wrap64 (x0 + x12)) then (if (wrap64 (x0 + x12)) < (x3.length : Int) then (if 0 ≤ x12 then (if (rd x2 x12) < 0 then ((spec_LeafOf.f k (rd x3 (wrap64 (x0 + x12))) x1).bind fun t266 => (if x11.length < 17592186044416 then (spec_PathSeq.l0 k x0 x1 x2 x3 x10 (x11 ++ [t266]) (wrap64 (x12 + 1))) else (none))) else (if 0 ≤ (rd x2 x12) then (if (rd x2 x12) < (x10.length : Int) then ((spec_LeafOf.f k (rd x10 (rd x2 x12)) x1).bind fun t272 => (if x11.length < 17592186044416 then (spec_PathSeq.l0 k x0 x1 x2 x3 (x10.set ((rd x2 x12) : Int).toNat (rd x3 (wrap64 (x0 + x12)))) (x11 ++ [t272]) (wrap64 (x12 + 1))) else (none))) else (none)) else (none))) else (none)) else (none)) else (none)) else (some (x11, true))
end
def spec_PathSeq.f (k : Nat) (a0 : Int) (a1 : Int) (l2 : List Int) (l3 : List Int) : Option (List Int × Bool) := (spec_l15Right.f k a0 l2).bind fun t251 => (if t251 = true then ((spec_l11Log.f a1).bind fun t252 => (if t252 = true then ((spec_l15Draws.f k a0 l2 l3).bind fun t253 => (spec_PathSeq.j0 k a0 a1 l2 l3 (!t253))) else (spec_PathSeq.j0 k a0 a1 l2 l3 true))) else (spec_PathSeq.j0 k a0 a1 l2 l3 true))
set_option maxHeartbeats 8000000 in
set_option maxRecDepth 100000 in
theorem spec_PathSeq.calls (k : Nat) (a0 : Int) (a1 : Int) (A2 : Option Addr) (c2 : Nat) (l2 : List Int) (A3 : Option Addr) (c3 : Nat) (l3 : List Int) (r1 : List Int) (r2 : Bool) (w : World) (hr2 : Kd.C (Kd.int .i64) w A2 l2.length l2) (hc2 : l2.length ≤ c2) (hr3 : Kd.C (Kd.int .i64) w A3 l3.length l3) (hc3 : l3.length ≤ c3) (h : spec_PathSeq.f k a0 a1 l2 l3 = some (r1, r2)) :
  Calls Tryz.prog 30 #[.int .i64 a0, .int .i64 a1, .slice A2 l2.length c2, .slice A3 l3.length c3] w fun e w' => ∃ v0_ : Value, e = .returned (.tuple #[v0_, .bool r2]) ∧ Kd.R (Kd.int .i64) 3 w' w.heap.size (fun _ => True) v0_ r1 ∧ Below w.heap.size w w' := by
 (have HR2 := Aside0.mk hr2); (have HC2 := Aside0.mk hc2); clear hr2 hc2; (have HR3 := Aside0.mk hr3); (have HC3 := Aside0.mk hc3); clear hr3 hc3; (have HB := Aside0.mk (Below.refl w.heap.size w)); (have H : ((spec_l15Right.f k a0 l2).bind fun t251 => (if t251 = true then ((spec_l11Log.f a1).bind fun t252 => (if t252 = true then ((spec_l15Draws.f k a0 l2 l3).bind fun t253 => (spec_PathSeq.j0 k a0 a1 l2 l3 (!t253))) else (spec_PathSeq.j0 k a0 a1 l2 l3 true))) else (spec_PathSeq.j0 k a0 a1 l2 l3 true))) = some (r1, r2) := h); clear h; (have HC5 := Aside0.mk H); clear H
 go_enter Tryz.func30, Tryz.ntmps30
 go_upto_region 1 with (fail)
 go_cut [29] (fun v29 wc => ∃ (kq : Nat) (x29_4 : Bool), v29 = .bool x29_4 ∧ Aside0 (spec_PathSeq.j0 kq a0 a1 l2 l3 x29_4 = some (r1, r2)) ∧ Aside0 (kq ≤ k) ∧ Aside0 (Below w.heap.size w wc))
 case first =>
  (have H := HC5.out); clear HC5; (replace H := Option.bind_eq_some_iff.mp H); (obtain ⟨t251, A60, H⟩ := H)
  try dsimp only at H
  (have A6 := Aside0.mk A60); clear A60
  by_cases c7 : t251 = true
  ·subst c7
   (have H1 : ((spec_l11Log.f a1).bind fun t252 => (if t252 = true then ((spec_l15Draws.f k a0 l2 l3).bind fun t253 => (spec_PathSeq.j0 k a0 a1 l2 l3 (!t253))) else (spec_PathSeq.j0 k a0 a1 l2 l3 true))) = some (r1, r2) := by rw [if_pos rfl] at H; exact H); clear H; (have H := H1); clear H1; (replace H := Option.bind_eq_some_iff.mp H); (obtain ⟨t252, A80, H⟩ := H)
   try dsimp only at H
   (have A8 := Aside0.mk A80); clear A80
   by_cases c9 : t252 = true
   ·subst c9
    (have H1 : ((spec_l15Draws.f k a0 l2 l3).bind fun t253 => (spec_PathSeq.j0 k a0 a1 l2 l3 (!t253))) = some (r1, r2) := by rw [if_pos rfl] at H; exact H); clear H; (have H := H1); clear H1; (replace H := Option.bind_eq_some_iff.mp H); (obtain ⟨t253, A100, H⟩ := H); (replace H : (spec_PathSeq.j0 k a0 a1 l2 l3 (!t253)) = some (r1, r2) := H); (have A10 := Aside0.mk A100); clear A100; (have H' := Aside0.mk H); clear H
    go_wp2_with (first | ((with_reducible refine gate_callee (f := 59) rfl ?_); refine goesL_ (some 16) rfl rfl Tryz.func59 (by kernel_rfl) rfl #[.int .i64 a0, .slice A2 l2.length c2] rfl qL ?_; (with_reducible refine (spec_l15Right.calls k a0 _ _ l2 true _ ?side1 ?side2 A6.out).mono ?_); (case side1 => repeat (first | exact (Kd.C_below HR2.out HB.out) | (with_reducible refine Kd.C_alloc ?_ _) | (with_reducible refine Kd.C_drewN ?_ _) | (with_reducible refine Kd.C_drew ?_))); (case side2 => exact HC2.out); rintro e w' ⟨rfl, ⟨nd, rfl⟩⟩; refine ⟨_, rfl, ?_⟩) | (go_at_call 60; (with_reducible refine (spec_l11Log.calls a1 true _ A8.out).mono ?_); rintro e w' ⟨rfl, ⟨nd, rfl⟩⟩) | (go_at_call 57; (with_reducible refine (spec_l15Draws.calls k a0 _ _ l2 _ _ l3 t253 _ ?side1 ?side2 ?side3 ?side4 A10.out).mono ?_); (case side1 => repeat (first | exact (Kd.C_below HR2.out (qS0 HB)) | (with_reducible refine Kd.C_alloc ?_ _) | (with_reducible refine Kd.C_drewN ?_ _) | (with_reducible refine Kd.C_drew ?_))); (case side2 => exact HC2.out); (case side3 => repeat (first | exact (Kd.C_below HR3.out (qS0 HB)) | (with_reducible refine Kd.C_alloc ?_ _) | (with_reducible refine Kd.C_drewN ?_ _) | (with_reducible refine Kd.C_drew ?_))); (case side4 => exact HC3.out); rintro e w' ⟨rfl, ⟨nd, rfl⟩⟩))
    go_meet
    case rel => exact ⟨_, (!t253), qV, H', ⟨by first | omega | exact Nat.le_refl _⟩, ⟨qS0 HB⟩⟩
   ·replace c9 := Bool.eq_false_iff.mpr c9
    (subst c9); (have H1 : (spec_PathSeq.j0 k a0 a1 l2 l3 true) = some (r1, r2) := by rw [if_neg (show ¬ (false = true) by decide)] at H; exact H); clear H; (have H := H1); clear H1; (have H' := Aside0.mk H); clear H
    go_wp2_with (first | ((with_reducible refine gate_callee (f := 59) rfl ?_); refine goesL_ (some 16) rfl rfl Tryz.func59 (by kernel_rfl) rfl #[.int .i64 a0, .slice A2 l2.length c2] rfl qL ?_; (with_reducible refine (spec_l15Right.calls k a0 _ _ l2 true _ ?side1 ?side2 A6.out).mono ?_); (case side1 => repeat (first | exact (Kd.C_below HR2.out HB.out) | (with_reducible refine Kd.C_alloc ?_ _) | (with_reducible refine Kd.C_drewN ?_ _) | (with_reducible refine Kd.C_drew ?_))); (case side2 => exact HC2.out); rintro e w' ⟨rfl, ⟨nd, rfl⟩⟩; refine ⟨_, rfl, ?_⟩) | (go_at_call 60; (with_reducible refine (spec_l11Log.calls a1 false _ A8.out).mono ?_); rintro e w' ⟨rfl, ⟨nd, rfl⟩⟩))
    go_meet
    case rel => exact ⟨_, (true), qV, H', ⟨by first | omega | exact Nat.le_refl _⟩, ⟨qS0 HB⟩⟩
  ·replace c7 := Bool.eq_false_iff.mpr c7
   (subst c7); (have H1 : (spec_PathSeq.j0 k a0 a1 l2 l3 true) = some (r1, r2) := by rw [if_neg (show ¬ (false = true) by decide)] at H; exact H); clear H; (have H := H1); clear H1; (have H' := Aside0.mk H); clear H
   go_wp2_with (first | ((with_reducible refine gate_callee (f := 59) rfl ?_); refine goesL_ (some 16) rfl rfl Tryz.func59 (by kernel_rfl) rfl #[.int .i64 a0, .slice A2 l2.length c2] rfl qL ?_; (with_reducible refine (spec_l15Right.calls k a0 _ _ l2 false _ ?side1 ?side2 A6.out).mono ?_); (case side1 => repeat (first | exact (Kd.C_below HR2.out HB.out) | (with_reducible refine Kd.C_alloc ?_ _) | (with_reducible refine Kd.C_drewN ?_ _) | (with_reducible refine Kd.C_drew ?_))); (case side2 => exact HC2.out); rintro e w' ⟨rfl, ⟨nd, rfl⟩⟩; refine ⟨_, rfl, ?_⟩))
   go_meet
   case rel => exact ⟨_, (true), qV, H', ⟨by first | omega | exact Nat.le_refl _⟩, ⟨qS0 HB⟩⟩
 case rest =>
  clear HC5; (try clear c2); (try clear p2); (try clear c3); (try clear c5); (try clear c7); (try clear c9); (obtain ⟨kq, x29_4, rfl, HA, HJ4, HB⟩ := hcut)
  cases kq with
  | zero => exact absurd HA.out (by simp [spec_PathSeq.j0])
  | succ kj4 =>
   (have H := HA.out); clear HA; (simp only [spec_PathSeq.j0] at H)
   by_cases c11 : x29_4 = true
   ·subst c11
    (have H1 : (some (([] : List Int), false)) = some (r1, r2) := by rw [if_pos rfl] at H; exact H); clear H; (have H := H1); clear H1; (simp only [Option.some.injEq, Prod.mk.injEq] at H); (obtain ⟨rfl, rfl⟩ := H)
    go_wp2
    go_ret2
    exact ⟨_, qE, by first | exact Kd.R_nil _ _ _ _ _ | exact Kd.N_nil _ _ _ _ _ | exact Kd.V_nil _ _ _ _ _ | exact Kd.Q_nil _ _ _ _ _ | exact Kd.S_nil _ _ _ _ _, qS0 HB⟩
   ·replace c11 := Bool.eq_false_iff.mpr c11
    (subst c11); (have H1 : ((some (([] : List Int) : List Int)).bind fun y254 => (if 0 ≤ a0 then (if a0 ≤ (l3.length : Int) then (if y254.length + (l3.take (a0 : Int).toNat).length < 17592186044416 then (spec_PathSeq.l0 kj4 a0 a1 l2 l3 (y254 ++ (l3.take (a0 : Int).toNat)) (([] : List Int)) 0) else (none)) else (none)) else (none))) = some (r1, r2) := by rw [if_neg (show ¬ (false = true) by decide)] at H; exact H); clear H; (have H := H1); clear H1; (obtain ⟨y254, hy254⟩ : ∃ y_ : List Int, y_ = (([] : List Int)) := ⟨_, rfl⟩); (replace H : (if 0 ≤ a0 then (if a0 ≤ (l3.length : Int) then (if y254.length + (l3.take (a0 : Int).toNat).length < 17592186044416 then (spec_PathSeq.l0 kj4 a0 a1 l2 l3 (y254 ++ (l3.take (a0 : Int).toNat)) (([] : List Int)) 0) else (none)) else (none)) else (none)) = some (r1, r2) := qY hy254 H); (have Ny254 := Aside0.mk hy254); clear hy254
    by_cases c12 : 0 ≤ a0
    ·rw [if_pos c12] at H
     (have c12b0 := eq_true c12); (have c12b1 : decide (0 ≤ a0) = true := decide_eq_true c12); clear c12
     by_cases c13 : a0 ≤ (l3.length : Int)
     ·rw [if_pos c13] at H
      (have c13b0 := eq_true c13); (have c13b1 : decide (a0 ≤ (l3.length : Int)) = true := decide_eq_true c13); clear c13
      by_cases c14 : y254.length + (l3.take (a0 : Int).toNat).length < 17592186044416
      ·rw [if_pos c14] at H
       (have LMc14 := Aside0.mk c14); clear c14; (obtain ⟨y258, hy258⟩ : ∃ y_ : List Int, y_ = (y254 ++ (l3.take (a0 : Int).toNat)) := ⟨_, rfl⟩); (replace H : (spec_PathSeq.l0 kj4 a0 a1 l2 l3 y258 (([] : List Int)) 0) = some (r1, r2) := qY hy258 H); (have Ny258 := Aside0.mk hy258); clear hy258; (obtain ⟨y261, hy261⟩ : ∃ y_ : List Int, y_ = (([] : List Int)) := ⟨_, rfl⟩); (replace H : (spec_PathSeq.l0 kj4 a0 a1 l2 l3 y258 y261 0) = some (r1, r2) := qY hy261 H); (have Ny261 := Aside0.mk hy261); clear hy261; (have H' := Aside0.mk H); clear H
       go_wp2_with (first | ((with_reducible refine gate_dst (N := 30) rfl ?_); refine Kd.R_lit (Kd.int .i64) _ 3 ?hg (N := 30) ?hd (xs := ([] : List Int)) (inner := []) (ok := fun _ => True) (okp := fun _ => True) ?hr ?hp (fun _ hk => hk) trivial (Below.refl _ _) (Nat.le_refl _) (by simp) ?_; (case hd => rfl); (case hg => rfl); (case hr => first | (go_simp; done) | (go_simp; rfl)); (case hp => exact (Reps.none _ _)); intro v255 w15 ho16 hb hg_ hnew_; clear hg_ hnew_; (first | rw [← Ny254.out] at ho16 | (simp only [Int.reduceToNat] at ho16; rw [← Ny254.out] at ho16)); have HO256 := Aside0.mk (Kd.R_lower ho16 (below_size (qS0 HB))); replace HB := Aside0.mk (below_step (qS0 HB) hb); clear hb ho16; obtain ⟨i017, hi017, _, hsz17, _⟩ := info_parts info3; obtain ⟨hcut17, hA17, hC17⟩ := print_take_of (P := Tryz.prog) (Value.int .i64) 0 25 3 .i64 Tryz.underlying25 hi017 hsz17 A3 c3 l3 a0 (qO) (qO) HC3.out; have HR257 := Aside0.mk (Kd.C_of_reads (h1 := fun _ => rfl) (hA17 _ (Kd.reads_of_C HR3.out))); have HC257 := Aside0.mk hC17; clear hA17 hC17 hi017 hsz17) | ((with_reducible refine gate_builtin (b := .append) (xs := #[.tmp 30, .tmp 33]) rfl ?_); at_builtin; refine Kd.R_append_rows (Kd.int .i64) (w0 := w) w.heap.size rfl (.tmp 30) (.tmp 33) 25 3 (.int .i64 0) 8 rfl Tryz.underlying25 info3 rfl (by decide) (by omega) v255 y254 (l3.take (a0 : Int).toNat) _ _ _ (fun _ => True) (fun _ => False) rfl rfl ?aO ?aR (fun _ _ h => h) (fun _ h => h.elim) ?aF ?aB ?aS ?aL ?_; (case aR => first | (have e_ : (l3.take (a0 : Int).toNat).length = (a0 : Int).toNat := (by rw [List.length_take]; have h_ : (a0 : Int) ≤ (l3.length : Int) := qO; omega); have h1_ := Kd.C_below HR257.out HB.out; rw [e_] at h1_; exact h1_)  | (rw [← show (l3.take (a0 : Int).toNat).length = a0.toNat from (by rw [List.length_take]; have h_ : (a0 : Int) ≤ (l3.length : Int) := qO; omega)]; repeat (first | exact (Kd.C_below HR257.out HB.out) | (with_reducible refine Kd.C_alloc ?_ _) | (with_reducible refine Kd.C_drewN ?_ _) | (with_reducible refine Kd.C_drew ?_))) | (repeat (first | exact (Kd.C_below HR257.out HB.out) | (with_reducible refine Kd.C_alloc ?_ _) | (with_reducible refine Kd.C_drewN ?_ _) | (with_reducible refine Kd.C_drew ?_)))); (case aB => exact (qS0 HB)); (case aF => exact (fun _ _ => trivial)); (case aO => exact (qR HO256)); (case aS => exact (below_size (qS0 HB))); (case aL => have := LMc14.out; have hlx_ := (show (l3.take (a0 : Int).toNat).length = a0.toNat from (by rw [List.length_take]; have h_ : (a0 : Int) ≤ (l3.length : Int) := qO; omega)); omega); intro v259 w18 ho hb hg hat; rw [← Ny258.out] at ho; replace HB := Aside0.mk (hb); have HO260 := Aside0.mk (ho); clear HO256; clear ho hb hg hat) | ((with_reducible refine gate_dst (N := 35) rfl ?_); refine Kd.R_lit (Kd.int .i64) _ 3 ?hg (N := 35) ?hd (xs := ([] : List Int)) (inner := []) (ok := fun _ => True) (okp := fun _ => True) ?hr ?hp (fun _ hk => hk) trivial (Below.refl _ _) (Nat.le_refl _) (by simp) ?_; (case hd => rfl); (case hg => rfl); (case hr => first | (go_simp; done) | (go_simp; rfl)); (case hp => exact (Reps.none _ _)); intro v262 w19 ho20 hb hg_ hnew_; clear hg_ hnew_; (first | rw [← Ny261.out] at ho20 | (simp only [Int.reduceToNat] at ho20; rw [← Ny261.out] at ho20)); have HO263 := Aside0.mk (Kd.R_lower (Kd.R_new' ho20 (Kd.R_lt (qR HO260))) (below_size (qS0 HB))); replace HO260 := Aside0.mk (Kd.R_elder' (qR HO260) (Kd.R_base ho20) hb); replace HB := Aside0.mk (below_step (qS0 HB) hb); clear hb ho20))
       go_loopg [11, 12] kj4 (fun kq v11 v12 w' => ∃ (x10_2 : List Int) (x11_2 : List Int) (x12_2 : Int), v12 = .int .i64 x12_2 ∧ Aside0 (spec_PathSeq.l0 kq a0 a1 l2 l3 x10_2 x11_2 x12_2 = some (r1, r2)) ∧ Aside0 (kq ≤ kj4) ∧ Aside0 (Kd.R (Kd.int .i64) 3 w' w.heap.size (fun k_ => some k_ ≠ (v11 : Value).ownBlock) v259 x10_2) ∧ Aside0 (Kd.R (Kd.int .i64) 3 w' w.heap.size (fun k_ => some k_ ≠ (v259 : Value).ownBlock) v11 x11_2) ∧ Aside0 (Below w.heap.size w w'))
       case atStart => exact ⟨(y258), (y261), (0), qV, H', ⟨Nat.le_refl _⟩, ⟨by (with_reducible repeat (first | apply Kd.R_alloc | apply Kd.R_drewN | apply Kd.R_drew)); exact Kd.R_mono HO260.out (fun _ hk => hk.2)⟩, ⟨by (with_reducible repeat (first | apply Kd.R_alloc | apply Kd.R_drewN | apply Kd.R_drew)); exact Kd.R_mono HO263.out (fun _ hk => hk.2)⟩, ⟨qS0 HB⟩⟩
       case round =>
        clear H'; (try clear c1); (try clear c2); (try clear p2); (try clear c3); (try clear c5); (try clear c7); (try clear c9); (try clear c11); (try clear c12); (try clear c12b0); (try clear c12b1); (try clear c13); (try clear c13b0); (try clear c13b1); (try clear c14); (try clear p2); (obtain ⟨x10_2, x11_2, x12_2, rfl, HA, HK2, HO_10, HO_11, HB⟩ := hrel)
        cases gk with
        | zero => exact absurd HA.out (by simp [spec_PathSeq.l0])
        | succ k2 =>
         (have H := HA.out); clear HA; (simp only [spec_PathSeq.l0] at H)
         by_cases c21 : x12_2 < (l2.length : Int)
         ·rw [if_pos c21] at H
          (have c21b0 : decide (x12_2 < (l2.length : Int)) = true := decide_eq_true c21); clear c21; (obtain ⟨ji22, hji22⟩ : ∃ j_ : Int, (wrap64 (a0 + x12_2)) = j_ := ⟨_, rfl⟩); (replace H : (if 0 ≤ (ji22) then (if (ji22) < (l3.length : Int) then (if 0 ≤ x12_2 then (if (rd l2 x12_2) < 0 then ((spec_LeafOf.f k2 (rd l3 (ji22)) a1).bind fun t266 => (if x11_2.length < 17592186044416 then (spec_PathSeq.l0 k2 a0 a1 l2 l3 x10_2 (x11_2 ++ [t266]) (wrap64 (x12_2 + 1))) else (none))) else (if 0 ≤ (rd l2 x12_2) then (if (rd l2 x12_2) < (x10_2.length : Int) then ((spec_LeafOf.f k2 (rd x10_2 (rd l2 x12_2)) a1).bind fun t272 => (if x11_2.length < 17592186044416 then (spec_PathSeq.l0 k2 a0 a1 l2 l3 (x10_2.set ((rd l2 x12_2) : Int).toNat (rd l3 (ji22))) (x11_2 ++ [t272]) (wrap64 (x12_2 + 1))) else (none))) else (none)) else (none))) else (none)) else (none)) else (none)) = some (r1, r2) := by first | (rw [hji22] at H; exact H) | (simp only [hji22] at H ⊢; exact H)); (have hji22w : (IntKind.i64.wrap (a0 + x12_2)) = ji22 := (i64_w _).trans hji22)
          by_cases c23 : 0 ≤ (ji22)
          ·rw [if_pos c23] at H
           (have c23b0 : decide (0 ≤ (ji22)) = true := decide_eq_true c23); clear c23
           by_cases c24 : (ji22) < (l3.length : Int)
           ·rw [if_pos c24] at H
            (have c24b0 : decide ((ji22) < (l3.length : Int)) = true := decide_eq_true c24); clear c24
            by_cases c25 : 0 ≤ x12_2
            ·rw [if_pos c25] at H
             (have c25b0 : decide (0 ≤ x12_2) = true := decide_eq_true c25); clear c25
             by_cases c26 : (rd l2 x12_2) < 0
             ·rw [if_pos c26] at H
              (have c26b0 : decide ((rd l2 x12_2) < 0) = true := decide_eq_true c26); clear c26; (replace H := Option.bind_eq_some_iff.mp H); (obtain ⟨t266, A270, H⟩ := H)
              try dsimp only at H
              (have A27 := Aside0.mk A270); clear A270
              by_cases c28 : x11_2.length < 17592186044416
              ·rw [if_pos c28] at H
               (have LMc28 := Aside0.mk c28); clear c28; (obtain ⟨y267, hy267⟩ : ∃ y_ : List Int, y_ = (x11_2 ++ [t266]) := ⟨_, rfl⟩); (replace H : (spec_PathSeq.l0 k2 a0 a1 l2 l3 x10_2 y267 (wrap64 (x12_2 + 1))) = some (r1, r2) := qY hy267 H); (have Ny267 := Aside0.mk hy267); clear hy267; (have H' := Aside0.mk H); clear H; (have p264 : 0 ≤ ((ji22) : Int) := qO); (have q264 : (ji22) < (l3.length : Int) := qO); (obtain ⟨ad264, e264, hx264_0⟩ := Kd.at_int HR3.out (ji22) p264 q264)
               cases e264
               (replace hx264_0 := (HB.out.cell (World.block_lt_of_cell? w _ hx264_0)).trans hx264_0); (replace p264 := eq_true p264); (replace q264 := eq_true q264); (have p265 : 0 ≤ (x12_2 : Int) := qO); (have q265 : x12_2 < (l2.length : Int) := qO); (obtain ⟨ad265, e265, hx265_0⟩ := Kd.at_int HR2.out x12_2 p265 q265)
               cases e265
               (replace hx265_0 := (HB.out.cell (World.block_lt_of_cell? w _ hx265_0)).trans hx265_0); (replace p265 := eq_true p265); (replace q265 := eq_true q265)
               go_wp2_with (first | ((with_reducible refine gate_callee (f := 29) rfl ?_); refine goesL_ (some 56) rfl rfl Tryz.func29 (by kernel_rfl) rfl #[.int .i64 (rd l3 (ji22)), .int .i64 a1] rfl (by (try simp only [List.map_toArray, List.map_cons, List.map_nil]); first | done | (simp only [hji22]; rfl) | rfl | (simp only [List.length_drop, List.length_take]; rfl)) ?_; (with_reducible refine (spec_LeafOf.calls k2 (rd l3 (ji22)) a1 t266 _ A27.out).mono ?_); rintro e w' ⟨rfl, ⟨nd, rfl⟩⟩; refine ⟨_, rfl, ?_⟩) | ((with_reducible refine gate_builtin (b := .append) (xs := #[.tmp 53, .tmp 57]) rfl ?_); at_builtin; refine Kd.R_append (Kd.int .i64) (w0 := w) w.heap.size rfl (.tmp 53) (.tmp 57) 25 3 (.int .i64 0) 8 rfl Tryz.underlying25 info3 rfl (by decide) (by omega) u11 x11_2 t266 [.int .i64 t266] (fun k_ => some k_ ≠ (v259 : Value).ownBlock) (fun _ => False) rfl rfl ?aP (fun _ hk => hk.elim) ?aF ?aO ?aB ?aS ?aL ?_; (case aP => exact rfl); (case aB => exact (qS0 HB)); (case aF => exact (fun k_ hk => Kd.fresh' (Kd.R_lt (qR HO_10)) k_ hk)); (case aO => exact (qR HO_11)); (case aS => exact (below_size (qS0 HB))); (case aL => have := LMc28.out; omega); intro v268 w29 ho hb hg hat; rw [← Ny267.out] at ho; replace HO_10 := Aside0.mk (Kd.R_after (ok := (fun _ => True)) (by (with_reducible repeat (first | apply Kd.R_alloc | apply Kd.R_drewN | apply Kd.R_drew)); exact Kd.R_mono HO_10.out (fun _ hk => ⟨trivial, hk⟩)) hg hat); replace HB := Aside0.mk (hb); have HO269 := Aside0.mk (ho); clear HO_11; clear ho hb hg hat))
               go_roundg k2
               case measure => have := HJ4.out; have := HK2.out; omega
               case rel => exact ⟨(x10_2), (y267), (wrap64 (x12_2 + 1)), qV, H', ⟨by have := HJ4.out; have := HK2.out; omega⟩, ⟨by (with_reducible repeat (first | apply Kd.R_alloc | apply Kd.R_drewN | apply Kd.R_drew)); exact Kd.R_mono HO_10.out (fun _ hk => hk.2)⟩, ⟨qR HO269⟩, ⟨qS0 HB⟩⟩
              ·rw [if_neg c28] at H
               exact absurd H (by simp)
             ·rw [if_neg c26] at H
              (have c26b0 : decide ((rd l2 x12_2) < 0) = false := decide_eq_false c26); clear c26
              by_cases c30 : 0 ≤ (rd l2 x12_2)
              ·rw [if_pos c30] at H
               (have c30b0 : decide (0 ≤ (rd l2 x12_2)) = true := decide_eq_true c30); clear c30
               by_cases c31 : (rd l2 x12_2) < (x10_2.length : Int)
               ·rw [if_pos c31] at H
                (have c31b0 : decide ((rd l2 x12_2) < (x10_2.length : Int)) = true := decide_eq_true c31); clear c31; (replace H := Option.bind_eq_some_iff.mp H); (obtain ⟨t272, A320, H⟩ := H)
                try dsimp only at H
                (have A32 := Aside0.mk A320); clear A320
                by_cases c33 : x11_2.length < 17592186044416
                ·rw [if_pos c33] at H
                 (have LMc33 := Aside0.mk c33); clear c33; (obtain ⟨y273, hy273⟩ : ∃ y_ : List Int, y_ = (x11_2 ++ [t272]) := ⟨_, rfl⟩); (replace H : (spec_PathSeq.l0 k2 a0 a1 l2 l3 (x10_2.set ((rd l2 x12_2) : Int).toNat (rd l3 (ji22))) y273 (wrap64 (x12_2 + 1))) = some (r1, r2) := qY hy273 H); (have Ny273 := Aside0.mk hy273); clear hy273; (obtain ⟨y277, hy277⟩ : ∃ y_ : List Int, y_ = (x10_2.set ((rd l2 x12_2) : Int).toNat (rd l3 (ji22))) := ⟨_, rfl⟩); (replace H : (spec_PathSeq.l0 k2 a0 a1 l2 l3 y277 y273 (wrap64 (x12_2 + 1))) = some (r1, r2) := qY hy277 H); (have Ny277 := Aside0.mk hy277); clear hy277; (have H' := Aside0.mk H); clear H; (have p264 : 0 ≤ ((ji22) : Int) := qO); (have q264 : (ji22) < (l3.length : Int) := qO); (obtain ⟨ad264, e264, hx264_0⟩ := Kd.at_int HR3.out (ji22) p264 q264)
                 cases e264
                 (replace hx264_0 := (HB.out.cell (World.block_lt_of_cell? w _ hx264_0)).trans hx264_0); (replace p264 := eq_true p264); (replace q264 := eq_true q264); (have p265 : 0 ≤ (x12_2 : Int) := qO); (have q265 : x12_2 < (l2.length : Int) := qO); (obtain ⟨ad265, e265, hx265_0⟩ := Kd.at_int HR2.out x12_2 p265 q265)
                 cases e265
                 (replace hx265_0 := (HB.out.cell (World.block_lt_of_cell? w _ hx265_0)).trans hx265_0); (replace p265 := eq_true p265); (replace q265 := eq_true q265); (have p270 : 0 ≤ (x12_2 : Int) := qO); (have q270 : x12_2 < (l2.length : Int) := qO); (obtain ⟨ad270, e270, hx270_0⟩ := Kd.at_int HR2.out x12_2 p270 q270); (obtain rfl : ad265 = ad270 := (by injection e270)); (replace hx270_0 := (HB.out.cell (World.block_lt_of_cell? w _ hx270_0)).trans hx270_0); (replace p270 := eq_true p270); (replace q270 := eq_true q270); (obtain ⟨Ao35, co35, eo35⟩ := Kd.R_slice HO_10.out); (subst eo35); (have p271 : 0 ≤ ((rd l2 x12_2) : Int) := qO); (have q271 : (rd l2 x12_2) < (x10_2.length : Int) := qO); (obtain ⟨ad271, e271, hx271_0⟩ := Kd.at_int (Kd.R_reads' HO_10.out).2.2 (rd l2 x12_2) p271 q271)
                 cases e271
                 (replace p271 := eq_true p271); (replace q271 := eq_true q271)
                 go_wp2_with (first | ((with_reducible refine gate_callee (f := 29) rfl ?_); refine goesL_ (some 68) rfl rfl Tryz.func29 (by kernel_rfl) rfl #[.int .i64 (rd x10_2 (rd l2 x12_2)), .int .i64 a1] rfl qL ?_; (with_reducible refine (spec_LeafOf.calls k2 (rd x10_2 (rd l2 x12_2)) a1 t272 _ A32.out).mono ?_); rintro e w' ⟨rfl, ⟨nd, rfl⟩⟩; refine ⟨_, rfl, ?_⟩; (try (rw [drewN_self wr]; generalize hq_ : World.drewN wr _ = wr; have n0_ : Aside0 (Kd.R (Kd.int .i64) 3 wr w.heap.size (fun k_ => some k_ ≠ (u11 : Value).ownBlock) (.slice (some ad271) x10_2.length co35) x10_2) := ⟨by rw [← hq_]; exact (qR HO_10)⟩; have n1_ : Aside0 (Kd.R (Kd.int .i64) 3 wr w.heap.size (fun k_ => some k_ ≠ (.slice (some ad271) x10_2.length co35 : Value).ownBlock) u11 x11_2) := ⟨by rw [← hq_]; exact (qR HO_11)⟩; have n2_ : Aside0 (Below w.heap.size w wr) := ⟨by rw [← hq_]; exact (qS0 HB)⟩; clear HO_10 HO_11 HB hq_; have HO_10 := n0_; have HO_11 := n1_; have HB := n2_; clear n0_ n1_ n2_))) | ((with_reducible refine gate_builtin (b := .append) (xs := #[.tmp 59, .tmp 69]) rfl ?_); at_builtin; refine Kd.R_append (Kd.int .i64) (w0 := w) w.heap.size rfl (.tmp 59) (.tmp 69) 25 3 (.int .i64 0) 8 rfl Tryz.underlying25 info3 rfl (by decide) (by omega) u11 x11_2 t272 [.int .i64 t272] (fun k_ => some k_ ≠ (.slice (some ad271) x10_2.length co35 : Value).ownBlock) (fun _ => False) rfl rfl ?aP (fun _ hk => hk.elim) ?aF ?aO ?aB ?aS ?aL ?_; (case aP => exact rfl); (case aB => exact (qS0 HB)); (case aF => exact (fun k_ hk => Kd.fresh' (Kd.R_lt (qR HO_10)) k_ hk)); (case aO => exact (qR HO_11)); (case aS => exact (below_size (qS0 HB))); (case aL => have := LMc33.out; omega); intro v274 w36 ho hb hg hat; rw [← Ny273.out] at ho; replace HO_10 := Aside0.mk (Kd.R_after (ok := (fun _ => True)) (by (with_reducible repeat (first | apply Kd.R_alloc | apply Kd.R_drewN | apply Kd.R_drew)); exact Kd.R_mono HO_10.out (fun _ hk => ⟨trivial, hk⟩)) hg hat); replace HB := Aside0.mk (hb); have HO275 := Aside0.mk (ho); clear HO_11 ho hb hg hat; have p276 : 0 ≤ (x12_2 : Int) := qO; have q276 : x12_2 < (l2.length : Int) := qO; obtain ⟨ad276, e276, hx276_0⟩ := Kd.at_int HR2.out x12_2 p276 q276; obtain rfl : ad265 = ad276 := (by injection e276); replace hx276_0 := (HB.out.cell (World.block_lt_of_cell? w _ hx276_0)).trans hx276_0; replace p276 := eq_true p276; replace q276 := eq_true q276; have p34 : 0 ≤ ((rd l2 x12_2) : Int) := qO; have q34 : ((rd l2 x12_2) : Int) < ((x10_2.length : Int) : Int) := qO; obtain ⟨go34, co34, eo34, gb34, gl34, cl34, HG34⟩ := Kd.R_form HO_10.out (by omega); (first | cases eo34 | (injection eo34 with ea_ en_ ec_; (first | subst ea_ | (injection ea_ with ea_; subst ea_)); subst ec_; clear en_)); have GB34 := Aside0.mk gb34; have GG34 := Aside0.mk HG34; clear gb34 gl34 HG34; (first | simp only [add_plain] at hx271_0 | skip); obtain ⟨hx34_0, hf34_0⟩ := Kd.R_celln 0 HO_10.out ((rd l2 x12_2) : Int) p34 q34; replace p34 := eq_true p34; replace q34 := eq_true q34; have n_ := Aside0.mk (Kd.R_mono (ok' := (fun k_ => some k_ ≠ (v274 : Value).ownBlock)) HO_10.out (fun k_ hk => hk.2)); clear HO_10; have HO_10 := n_; clear n_; obtain ⟨hy37_, hz37_⟩ := Kd.R_celln 0 HO_10.out ((rd l2 x12_2) : Int) (qO) (qO); have HP37 := Kd.R_putg HO_10.out ((rd l2 x12_2) : Int) (rd l3 (ji22))) | ((with_reducible refine gate_store (t := 3) (p := 77) rfl ?_); refine store_event (t := 3) (p := 77) (v := ?vo_w38) (w1 := (w36.setCell ⟨go34, ((rd l2 x12_2) : Int).toNat, none⟩ (.int .i64 (rd l3 (ji22))))) ?hg ?ho ?hn ?hr ?_; (case ho => rfl); (case hg => rfl); (case hn => rfl); (case hr => first | (go_simp; done) | (go_simp; rfl)); intro w38 hw; have hg : w36.grownBy w38 (some go34) := (by rw [hw]; exact HP37.2); have hp_ : Kd.R (Kd.int .i64) 3 w38 w.heap.size (fun k_ => some k_ ≠ (v274 : Value).ownBlock) (.slice (some ⟨go34, 0, none⟩) x10_2.length co35) y277 := (by rw [hw, Ny277.out]; exact HP37.1); clear HP37; replace HO_10 := Aside0.mk (hp_); replace HO275 := Aside0.mk (Kd.R_after (v := (.slice (some ⟨go34, 0, none⟩) x10_2.length co35)) (v1 := (.slice (some ⟨go34, 0, none⟩) x10_2.length co35)) (ok := (fun _ => True)) (by (with_reducible repeat (first | apply Kd.R_alloc | apply Kd.R_drewN | apply Kd.R_drew)); exact Kd.R_mono HO275.out (fun _ hk => ⟨trivial, hk⟩)) hg (.inl rfl)); replace HB := Aside0.mk ((by rw [hw]; exact below_set (HB.out) GB34.out : Below w.heap.size w w38)); clear hg hw hp_))
                 go_roundg k2
                 case measure => have := HJ4.out; have := HK2.out; omega
                 case rel => exact ⟨(y277), (y273), (wrap64 (x12_2 + 1)), qV, H', ⟨by have := HJ4.out; have := HK2.out; omega⟩, ⟨qR HO_10⟩, ⟨by (with_reducible repeat (first | apply Kd.R_alloc | apply Kd.R_drewN | apply Kd.R_drew)); exact Kd.R_mono HO275.out (fun _ hk => hk.2)⟩, ⟨qS0 HB⟩⟩
                ·rw [if_neg c33] at H
                 exact absurd H (by simp)
               ·rw [if_neg c31] at H
                exact absurd H (by simp)
              ·rw [if_neg c30] at H
               exact absurd H (by simp)
            ·rw [if_neg c25] at H
             exact absurd H (by simp)
           ·rw [if_neg c24] at H
            exact absurd H (by simp)
          ·rw [if_neg c23] at H
           exact absurd H (by simp)
         ·rw [if_neg c21] at H
          (have c21b0 : decide (x12_2 < (l2.length : Int)) = false := decide_eq_false c21); clear c21; (simp only [Option.some.injEq, Prod.mk.injEq] at H); (obtain ⟨rfl, rfl⟩ := H)
          go_wp2
          go_ret2
          exact ⟨_, qE, by (with_reducible repeat (first | apply Kd.R_alloc | apply Kd.R_drewN | apply Kd.R_drew)); exact Kd.R_mono HO_11.out (fun _ hk => trivial), qS0 HB⟩
      ·rw [if_neg c14] at H
       exact absurd H (by simp)
     ·rw [if_neg c13] at H
      exact absurd H (by simp)
    ·rw [if_neg c12] at H
     exact absurd H (by simp)
def spec_l24Quarter.l0 : Nat → List Int → List Int → Int → Option (List Int)
 | 0, _, _, _ => none
 | k + 1, x0, x3, x4 => if x4 < (x0.length : Int) then (if 0 ≤ x4 then (if (rd x0 x4) < 0 then (if x3.length < 17592186044416 then (spec_l24Quarter.l0 k x0 (x3 ++ [(-1)]) (wrap64 (x4 + 1))) else (none)) else (if x3.length < 17592186044416 then (spec_l24Quarter.l0 k x0 (x3 ++ [wrap64 (Int.tdiv (rd x0 x4) 4)]) (wrap64 (x4 + 1))) else (none))) else (none)) else (some x3)
def spec_l24Quarter.f (k : Nat) (l0 : List Int) : Option (List Int) := spec_l24Quarter.l0 k l0 (([] : List Int)) 0
set_option maxHeartbeats 8000000 in
set_option maxRecDepth 100000 in
theorem spec_l24Quarter.calls (k : Nat) (A0 : Option Addr) (c0 : Nat) (l0 : List Int) (r : List Int) (w : World) (hr0 : Kd.C (Kd.int .i64) w A0 l0.length l0) (hc0 : l0.length ≤ c0) (h : spec_l24Quarter.f k l0 = some r) :
  Calls Tryz.prog 31 #[.slice A0 l0.length c0] w fun e w' => ∃ v0_ : Value, e = .returned (v0_) ∧ Kd.R (Kd.int .i64) 3 w' w.heap.size (fun _ => True) v0_ r ∧ Below w.heap.size w w' := by
 (have HR0 := Aside0.mk hr0); (have HC0 := Aside0.mk hc0); clear hr0 hc0; (have HB := Aside0.mk (Below.refl w.heap.size w)); (have H : (spec_l24Quarter.l0 k l0 (([] : List Int)) 0) = some r := h); clear h; (obtain ⟨y278, hy278⟩ : ∃ y_ : List Int, y_ = (([] : List Int)) := ⟨_, rfl⟩); (replace H : (spec_l24Quarter.l0 k l0 y278 0) = some r := qY hy278 H); (have Ny278 := Aside0.mk hy278); clear hy278; (have H' := Aside0.mk H); clear H
 go_enter Tryz.func31, Tryz.ntmps31
 go_wp2_with (first | ((with_reducible refine gate_dst (N := 5) rfl ?_); refine Kd.R_lit (Kd.int .i64) _ 3 ?hg (N := 5) ?hd (xs := ([] : List Int)) (inner := []) (ok := fun _ => True) (okp := fun _ => True) ?hr ?hp (fun _ hk => hk) trivial (Below.refl _ _) (Nat.le_refl _) (by simp) ?_; (case hd => rfl); (case hg => rfl); (case hr => first | (go_simp; done) | (go_simp; rfl)); (case hp => exact (Reps.none _ _)); intro v279 w2 ho3 hb hg_ hnew_; clear hg_ hnew_; (first | rw [← Ny278.out] at ho3 | (simp only [Int.reduceToNat] at ho3; rw [← Ny278.out] at ho3)); have HO280 := Aside0.mk (Kd.R_lower ho3 (below_size (qS0 HB))); replace HB := Aside0.mk (below_step (qS0 HB) hb); clear hb ho3))
 go_loopg [3, 4] k (fun kq v3 v4 w' => ∃ (x3_1 : List Int) (x4_1 : Int), v4 = .int .i64 x4_1 ∧ Aside0 (spec_l24Quarter.l0 kq l0 x3_1 x4_1 = some r) ∧ Aside0 (kq ≤ k) ∧ Aside0 (Kd.R (Kd.int .i64) 3 w' w.heap.size (fun _ => True) v3 x3_1) ∧ Aside0 (Below w.heap.size w w'))
 case atStart => exact ⟨(y278), (0), qV, H', ⟨Nat.le_refl _⟩, ⟨qR HO280⟩, ⟨qS0 HB⟩⟩
 case round =>
  clear H'; (try clear p2); (try clear c3); (obtain ⟨x3_1, x4_1, rfl, HA, HK1, HO_3, HB⟩ := hrel)
  cases gk with
  | zero => exact absurd HA.out (by simp [spec_l24Quarter.l0])
  | succ k1 =>
   (have H := HA.out); clear HA; (simp only [spec_l24Quarter.l0] at H)
   by_cases c4 : x4_1 < (l0.length : Int)
   ·rw [if_pos c4] at H
    (have c4b0 : decide (x4_1 < (l0.length : Int)) = true := decide_eq_true c4); clear c4
    by_cases c5 : 0 ≤ x4_1
    ·rw [if_pos c5] at H
     (have c5b0 : decide (0 ≤ x4_1) = true := decide_eq_true c5); clear c5
     by_cases c6 : (rd l0 x4_1) < 0
     ·rw [if_pos c6] at H
      (have c6b0 : decide ((rd l0 x4_1) < 0) = true := decide_eq_true c6); clear c6
      by_cases c7 : x3_1.length < 17592186044416
      ·rw [if_pos c7] at H
       (have LMc7 := Aside0.mk c7); clear c7; (obtain ⟨y282, hy282⟩ : ∃ y_ : List Int, y_ = (x3_1 ++ [(-1)]) := ⟨_, rfl⟩); (replace H : (spec_l24Quarter.l0 k1 l0 y282 (wrap64 (x4_1 + 1))) = some r := qY hy282 H); (have Ny282 := Aside0.mk hy282); clear hy282; (have H' := Aside0.mk H); clear H; (have p281 : 0 ≤ (x4_1 : Int) := qO); (have q281 : x4_1 < (l0.length : Int) := qO); (obtain ⟨ad281, e281, hx281_0⟩ := Kd.at_int HR0.out x4_1 p281 q281)
       cases e281
       (replace hx281_0 := (HB.out.cell (World.block_lt_of_cell? w _ hx281_0)).trans hx281_0); (replace p281 := eq_true p281); (replace q281 := eq_true q281)
       go_wp2_with (first | ((with_reducible refine gate_builtin (b := .append) (xs := #[.tmp 17, .tmp 18]) rfl ?_); at_builtin; refine Kd.R_append (Kd.int .i64) (w0 := w) w.heap.size rfl (.tmp 17) (.tmp 18) 25 3 (.int .i64 0) 8 rfl Tryz.underlying25 info3 rfl (by decide) (by omega) u3 x3_1 (-1) [.int .i64 (-1)] (fun _ => True) (fun _ => False) rfl rfl ?aP (fun _ hk => hk.elim) ?aF ?aO ?aB ?aS ?aL ?_; (case aP => exact rfl); (case aB => exact (qS0 HB)); (case aF => exact (fun _ _ => trivial)); (case aO => exact (qR HO_3)); (case aS => exact (below_size (qS0 HB))); (case aL => have := LMc7.out; omega); intro v283 w8 ho hb hg hat; rw [← Ny282.out] at ho; replace HB := Aside0.mk (hb); have HO284 := Aside0.mk (ho); clear HO_3; clear ho hb hg hat))
       go_roundg k1
       case measure => have := HK1.out; omega
       case rel => exact ⟨(y282), (wrap64 (x4_1 + 1)), qV, H', ⟨by have := HK1.out; omega⟩, ⟨qR HO284⟩, ⟨qS0 HB⟩⟩
      ·rw [if_neg c7] at H
       exact absurd H (by simp)
     ·rw [if_neg c6] at H
      (have c6b0 : decide ((rd l0 x4_1) < 0) = false := decide_eq_false c6); clear c6
      by_cases c9 : x3_1.length < 17592186044416
      ·rw [if_pos c9] at H
       (have LMc9 := Aside0.mk c9); clear c9; (obtain ⟨y286, hy286⟩ : ∃ y_ : List Int, y_ = (x3_1 ++ [wrap64 (Int.tdiv (rd l0 x4_1) 4)]) := ⟨_, rfl⟩); (replace H : (spec_l24Quarter.l0 k1 l0 y286 (wrap64 (x4_1 + 1))) = some r := qY hy286 H); (have Ny286 := Aside0.mk hy286); clear hy286; (have H' := Aside0.mk H); clear H; (have p281 : 0 ≤ (x4_1 : Int) := qO); (have q281 : x4_1 < (l0.length : Int) := qO); (obtain ⟨ad281, e281, hx281_0⟩ := Kd.at_int HR0.out x4_1 p281 q281)
       cases e281
       (replace hx281_0 := (HB.out.cell (World.block_lt_of_cell? w _ hx281_0)).trans hx281_0); (replace p281 := eq_true p281); (replace q281 := eq_true q281); (have p285 : 0 ≤ (x4_1 : Int) := qO); (have q285 : x4_1 < (l0.length : Int) := qO); (obtain ⟨ad285, e285, hx285_0⟩ := Kd.at_int HR0.out x4_1 p285 q285); (obtain rfl : ad281 = ad285 := (by injection e285)); (replace hx285_0 := (HB.out.cell (World.block_lt_of_cell? w _ hx285_0)).trans hx285_0); (replace p285 := eq_true p285); (replace q285 := eq_true q285)
       go_wp2_with (first | ((with_reducible refine gate_builtin (b := .append) (xs := #[.tmp 20, .tmp 26]) rfl ?_); at_builtin; refine Kd.R_append (Kd.int .i64) (w0 := w) w.heap.size rfl (.tmp 20) (.tmp 26) 25 3 (.int .i64 0) 8 rfl Tryz.underlying25 info3 rfl (by decide) (by omega) u3 x3_1 (wrap64 (Int.tdiv (rd l0 x4_1) 4)) [.int .i64 (wrap64 (Int.tdiv (rd l0 x4_1) 4))] (fun _ => True) (fun _ => False) rfl rfl ?aP (fun _ hk => hk.elim) ?aF ?aO ?aB ?aS ?aL ?_; (case aP => exact rfl); (case aB => exact (qS0 HB)); (case aF => exact (fun _ _ => trivial)); (case aO => exact (qR HO_3)); (case aS => exact (below_size (qS0 HB))); (case aL => have := LMc9.out; omega); intro v287 w10 ho hb hg hat; rw [← Ny286.out] at ho; replace HB := Aside0.mk (hb); have HO288 := Aside0.mk (ho); clear HO_3; clear ho hb hg hat))
       go_roundg k1
       case measure => have := HK1.out; omega
       case rel => exact ⟨(y286), (wrap64 (x4_1 + 1)), qV, H', ⟨by have := HK1.out; omega⟩, ⟨qR HO288⟩, ⟨qS0 HB⟩⟩
      ·rw [if_neg c9] at H
       exact absurd H (by simp)
    ·rw [if_neg c5] at H
     exact absurd H (by simp)
   ·rw [if_neg c4] at H
    (have c4b0 : decide (x4_1 < (l0.length : Int)) = false := decide_eq_false c4); clear c4; (obtain rfl := Option.some.inj H)
    go_wp2
    go_ret
    exact ⟨_, qE, qR HO_3, qS0 HB⟩
end Go.Proofs.YtppopmajclmhjaaGreatDoor.QB
