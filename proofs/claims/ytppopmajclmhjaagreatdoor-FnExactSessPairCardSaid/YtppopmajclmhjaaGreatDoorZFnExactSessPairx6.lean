/- Part of the proof of the law FnExactSessPair: what it uses of the texts that this session and the kit's print wrote. -/
import Derived.Test.YtppopmajclmhjaaGreatDoorZFnExactSessPairx2
import Derived.Test.YtppopmajclmhjaaGreatDoorZFnExactSessPairx3
import Derived.Test.YtppopmajclmhjaaGreatDoorZFnExactSessPairx4
import Derived.Test.YtppopmajclmhjaaGreatDoorZFnExactSessPairx5
namespace Go.Proofs.YtppopmajclmhjaaGreatDoor.QB
open Go.RowKit Go.Proofs.YtppopmajclmhjaaGreatDoorW.PrintWords Go.Proofs.YtppopmajclmhjaaGreatDoorW.PrintLast Go.Proofs.YtppopmajclmhjaaGreatDoorW.PrintMore
attribute [local go_sem] max2_int min2_int max_two min_two max_three min_three max_four min_four
set_option linter.unusedVariables false
set_option linter.unusedSimpArgs false
set_option maxHeartbeats 8000000
set_option maxRecDepth 100000
mutual
def spec_SessPair.j0 : Nat → List Int → List Int → List Int → Bool → Int → Int → Int → Int → Option (List Int × Bool)
 | 0, _, _, _, _, _, _, _, _ => none
 | k + 1, x3, x10, x12, x57, x746000, x746001, x746002, x746003 => if x57 = true then (some (([] : List Int), false)) else ((spec_l24Split.f k x746000 x746001 x746002 x746003 x3).bind fun bt756 => ((spec_l02Pow.f k (wrap64 (x746001 - 2))).bind fun t762 => ((spec_l24Quarter.f k x10).bind fun t763 => ((spec_l24Quarter.f k x12).bind fun t766 => ((spec_PairDraws.f k t762 t763 t766 bt756.1).bind fun bt769 => ((spec_l02Pow.f k x746001).bind fun t773 => ((spec_PairDraws.f k t773 x10 x12 bt756.2).bind fun bt774 => ((some (([] : List Int) : List Int)).bind fun y778 => (if y778.length + x3.length < 17592186044416 then ((spec_DeepDraws.f k x746001).bind fun t784 => (spec_SessPair.l0 k bt769.1 bt774.1 (y778 ++ x3) t784 0 0 0)) else (none))))))))))
def spec_SessPair.l0 : Nat → List Int → List Int → List Int → Int → Int → Int → Int → Option (List Int × Bool)
 | 0, _, _, _, _, _, _, _ => none
 | k + 1, x16, x18, x20, x21, x22, x23, x24 => if x24 < (x20.length : Int) then (if x24 < x21 then (if (Int.tmod x24 6) = 5 then (spec_SessPair.j2 k x16 x18 x20 x21 x22 x23 x24 true) else (if x24 ≥ x21 then (spec_SessPair.j2 k x16 x18 x20 x21 x22 x23 x24 ((Int.tmod (wrap64 (x24 - x21)) 2) == 0)) else (spec_SessPair.j2 k x16 x18 x20 x21 x22 x23 x24 false))) else (if x24 ≥ x21 then (spec_SessPair.j2 k x16 x18 x20 x21 x22 x23 x24 ((Int.tmod (wrap64 (x24 - x21)) 2) == 0)) else (spec_SessPair.j2 k x16 x18 x20 x21 x22 x23 x24 false))) else (some (x20, true))
def spec_SessPair.j2 : Nat → List Int → List Int → List Int → Int → Int → Int → Int → Bool → Option (List Int × Bool)
 | 0, _, _, _, _, _, _, _, _ => none
 | k + 1, x16, x18, x20, x21, x22, x23, x24, x25 => if x24 < x21 then (if (Int.tmod x24 6) > 0 then (if (Int.tmod x24 6) < 5 then (spec_SessPair.j3 k x16 x18 x20 x21 x22 x23 x24 x25 true) else (if x24 ≥ x21 then (spec_SessPair.j3 k x16 x18 x20 x21 x22 x23 x24 x25 ((Int.tmod (wrap64 (x24 - x21)) 2) == 1)) else (spec_SessPair.j3 k x16 x18 x20 x21 x22 x23 x24 x25 false))) else (if x24 ≥ x21 then (spec_SessPair.j3 k x16 x18 x20 x21 x22 x23 x24 x25 ((Int.tmod (wrap64 (x24 - x21)) 2) == 1)) else (spec_SessPair.j3 k x16 x18 x20 x21 x22 x23 x24 x25 false))) else (if x24 ≥ x21 then (spec_SessPair.j3 k x16 x18 x20 x21 x22 x23 x24 x25 ((Int.tmod (wrap64 (x24 - x21)) 2) == 1)) else (spec_SessPair.j3 k x16 x18 x20 x21 x22 x23 x24 x25 false))
def spec_SessPair.j3 : Nat → List Int → List Int → List Int → Int → Int → Int → Int → Bool → Bool → Option (List Int × Bool)
 | 0, _, _, _, _, _, _, _, _, _ => none
 | k + 1, x16, x18, x20, x21, x22, x23, x24, x25, x26 => if x25 = true then (if 0 ≤ x22 then (if x22 < (x16.length : Int) then (if 0 ≤ x24 then (if x24 < (x20.length : Int) then ((some (x20.set (x24 : Int).toNat (rd x16 x22) : List Int)).bind fun y786 => (if x26 = true then (if 0 ≤ x23 then (if x23 < (x18.length : Int) then (spec_SessPair.l0 k x16 x18 (y786.set (x24 : Int).toNat (rd x18 x23)) x21 (wrap64 (x22 + 1)) (wrap64 (x23 + 1)) (wrap64 (x24 + 1))) else (none)) else (none)) else (spec_SessPair.l0 k x16 x18 y786 x21 (wrap64 (x22 + 1)) x23 (wrap64 (x24 + 1))))) else (none)) else (none)) else (none)) else (none)) else (if x26 = true then (if 0 ≤ x23 then (if x23 < (x18.length : Int) then (if 0 ≤ x24 then (if x24 < (x20.length : Int) then (spec_SessPair.l0 k x16 x18 (x20.set (x24 : Int).toNat (rd x18 x23)) x21 x22 (wrap64 (x23 + 1)) (wrap64 (x24 + 1))) else (none)) else (none)) else (none)) else (none)) else (spec_SessPair.l0 k x16 x18 x20 x21 x22 x23 (wrap64 (x24 + 1))))
end
def spec_SessPair.f (k : Nat) (a0_0 : Int) (a0_1 : Int) (a0_2 : Int) (a0_3 : Int) (l1 : List (S56)) (l2 : List (S56)) (l3 : List Int) : Option (List Int × Bool) := (spec_SessIds.f k a0_0 a0_1 a0_2 a0_3 l1).bind fun bt746 => ((spec_SessIds.f k a0_0 a0_1 a0_2 a0_3 l2).bind fun bt750 => (if bt746.2 = true then (if bt750.2 = true then ((spec_SameShape.f k l1 l2).bind fun t754 => (if t754 = true then ((spec_l24Right.f k a0_0 a0_1 a0_2 a0_3 l1 l3).bind fun t755 => (spec_SessPair.j0 k l3 bt746.1 bt750.1 (!t755) a0_0 a0_1 a0_2 a0_3)) else (spec_SessPair.j0 k l3 bt746.1 bt750.1 true a0_0 a0_1 a0_2 a0_3))) else (spec_SessPair.j0 k l3 bt746.1 bt750.1 true a0_0 a0_1 a0_2 a0_3)) else (spec_SessPair.j0 k l3 bt746.1 bt750.1 true a0_0 a0_1 a0_2 a0_3)))
theorem spec_SessPair.calls (k : Nat) (a0_0 : Int) (a0_1 : Int) (a0_2 : Int) (a0_3 : Int) (A1 : Option Addr) (c1 : Nat) (l1 : List (S56)) (A2 : Option Addr) (c2 : Nat) (l2 : List (S56)) (A3 : Option Addr) (c3 : Nat) (l3 : List Int) (r1 : List Int) (r2 : Bool) (w : World) (hr1 : Kd.C k56 w A1 l1.length l1) (hc1 : l1.length ≤ c1) (hr2 : Kd.C k56 w A2 l2.length l2) (hc2 : l2.length ≤ c2) (hr3 : Kd.C (Kd.int .i64) w A3 l3.length l3) (hc3 : l3.length ≤ c3) (h : spec_SessPair.f k a0_0 a0_1 a0_2 a0_3 l1 l2 l3 = some (r1, r2)) :
  Calls Tryz.prog 17 #[.agg #[.int .i64 a0_0, .int .i64 a0_1, .int .i64 a0_2, .int .i64 a0_3], .slice A1 l1.length c1, .slice A2 l2.length c2, .slice A3 l3.length c3] w fun e w' => ∃ v0_ : Value, e = .returned (.tuple #[v0_, .bool r2]) ∧ Kd.R (Kd.int .i64) 3 w' w.heap.size (fun _ => True) v0_ r1 ∧ Below w.heap.size w w' := by
 (have hu29 := Tryz.underlying29); (have HR1 := Aside0.mk hr1); (have HC1 := Aside0.mk hc1); clear hr1 hc1; (have HR2 := Aside0.mk hr2); (have HC2 := Aside0.mk hc2); clear hr2 hc2; (have HR3 := Aside0.mk hr3); (have HC3 := Aside0.mk hc3); clear hr3 hc3; (have HB := Aside0.mk (Below.refl w.heap.size w)); (have H : ((spec_SessIds.f k a0_0 a0_1 a0_2 a0_3 l1).bind fun bt746 => ((spec_SessIds.f k a0_0 a0_1 a0_2 a0_3 l2).bind fun bt750 => (if bt746.2 = true then (if bt750.2 = true then ((spec_SameShape.f k l1 l2).bind fun t754 => (if t754 = true then ((spec_l24Right.f k a0_0 a0_1 a0_2 a0_3 l1 l3).bind fun t755 => (spec_SessPair.j0 k l3 bt746.1 bt750.1 (!t755) a0_0 a0_1 a0_2 a0_3)) else (spec_SessPair.j0 k l3 bt746.1 bt750.1 true a0_0 a0_1 a0_2 a0_3))) else (spec_SessPair.j0 k l3 bt746.1 bt750.1 true a0_0 a0_1 a0_2 a0_3)) else (spec_SessPair.j0 k l3 bt746.1 bt750.1 true a0_0 a0_1 a0_2 a0_3)))) = some (r1, r2) := h); clear h; (obtain ⟨⟨t746, t749⟩, A5, H⟩ := qX H)
 try dsimp only at H
 obtain ⟨⟨t750, t753⟩, A6, H⟩ := qX H
 try dsimp only at H
 (have HC7 := Aside0.mk H); clear H
 go_enter Tryz.func17, Tryz.ntmps17
 go_upto_region 3 with (first | ((with_reducible refine gate_dst (N := 4) rfl ?_); refine box_event ?hg (N := 4) ?hd (cs := #[.int .i64 a0_0, .int .i64 a0_1, .int .i64 a0_2, .int .i64 a0_3]) (t := 29) ?hr ?_; (case hd => rfl); (case hg => rfl); (case hr => first | (go_simp; done) | (go_simp; rfl)); intro gb745 hg w8 hbox hb; have BK745 := Aside0.mk (hbox); have GW745 := qG hg (below_size (qS0 HB)); have GE745 := qG hg (below_size (qS0 HB)); replace HB := Aside0.mk (below_step (qS0 HB) hb); clear hb hbox hg; obtain ⟨hcz9_0, hcz9_1, hcz9_2, hcz9_3, hfz9_0, hfz9_1, hfz9_2, hfz9_3⟩ := qC4 BK745) | ((with_reducible refine gate_callee (f := 25) rfl ?_); refine goesL_ (some 30) rfl rfl Tryz.func25 (by kernel_rfl) rfl #[.agg #[.int .i64 a0_0, .int .i64 a0_1, .int .i64 a0_2, .int .i64 a0_3], .slice A1 l1.length c1] rfl qL ?_; (with_reducible refine (spec_SessIds.calls k a0_0 a0_1 a0_2 a0_3 _ _ l1 t746 t749 _ ?side1 ?side2 A5.out).mono ?_); (case side1 => exact qW (Kd.C_below HR1.out HB.out)); (case side2 => exact HC1.out); rintro e w10 ⟨v747, rfl, ho0, hb⟩; refine ⟨_, rfl, ?_⟩; have HO748 := Aside0.mk (Kd.R_lower ho0 (below_size (qS1 HB GE745))); replace BK745 := qD BK745 hb; replace HB := Aside0.mk (below_step (qS1 HB GE745) hb); (try clear hb); (try clear hb2); (try clear hk); (try clear hi); (try clear ho0); obtain ⟨hcz11_0, hcz11_1, hcz11_2, hcz11_3, hfz11_0, hfz11_1, hfz11_2, hfz11_3⟩ := qC4 BK745) | ((with_reducible refine gate_callee (f := 25) rfl ?_); refine goesL_ (some 36) rfl rfl Tryz.func25 (by kernel_rfl) rfl #[.agg #[.int .i64 a0_0, .int .i64 a0_1, .int .i64 a0_2, .int .i64 a0_3], .slice A2 l2.length c2] rfl qL ?_; (with_reducible refine (spec_SessIds.calls k a0_0 a0_1 a0_2 a0_3 _ _ l2 t750 t753 _ ?side1 ?side2 A6.out).mono ?_); (case side1 => exact qW (Kd.C_below HR2.out HB.out)); (case side2 => exact HC2.out); rintro e w12 ⟨v751, rfl, ho0, hb⟩; refine ⟨_, rfl, ?_⟩; have HO752 := Aside0.mk (Kd.R_lower (Kd.R_new' ho0 (Kd.R_lt (qR HO748))) (below_size (qS1 HB GE745))); replace HO748 := Aside0.mk (Kd.R_elder' (qR HO748) (Kd.R_base ho0) hb); replace BK745 := qD BK745 hb; replace HB := Aside0.mk (below_step (qS1 HB GE745) hb); (try clear hb); (try clear hb2); (try clear hk); (try clear hi); (try clear ho0)))
 (try simp only [Act.put, List.setIfInBounds_toArray, List.set_cons_zero, List.set_cons_succ])
 go_cut [57] (fun v57 wc => ∃ (kq : Nat) (x57_6 : Bool), v57 = .bool x57_6 ∧ Aside0 (spec_SessPair.j0 kq l3 t746 t750 x57_6 a0_0 a0_1 a0_2 a0_3 = some (r1, r2)) ∧ Aside0 (kq ≤ k) ∧ Aside0 (Kd.R (Kd.int .i64) 3 wc w.heap.size (fun k_ => some k_ ≠ (v751 : Value).ownBlock) v747 t746) ∧ Aside0 (Kd.R (Kd.int .i64) 3 wc w.heap.size (fun k_ => some k_ ≠ (v747 : Value).ownBlock) v751 t750) ∧ Aside0 (wc.heap[gb745]? = some (.cells #[.int .i64 a0_0, .int .i64 a0_1, .int .i64 a0_2, .int .i64 a0_3] 29 (0, 0))) ∧ Aside0 (Below w.heap.size w wc))
 case first =>
  (have H := HC7.out); clear HC7
  by_cases c13 : t749 = true
  ·subst c13
   (have H1 : (if t753 = true then ((spec_SameShape.f k l1 l2).bind fun t754 => (if t754 = true then ((spec_l24Right.f k a0_0 a0_1 a0_2 a0_3 l1 l3).bind fun t755 => (spec_SessPair.j0 k l3 t746 t750 (!t755) a0_0 a0_1 a0_2 a0_3)) else (spec_SessPair.j0 k l3 t746 t750 true a0_0 a0_1 a0_2 a0_3))) else (spec_SessPair.j0 k l3 t746 t750 true a0_0 a0_1 a0_2 a0_3)) = some (r1, r2) := by rw [if_pos rfl] at H; exact H); clear H; (have H := H1); clear H1
   by_cases c14 : t753 = true
   ·subst c14
    (have H1 : ((spec_SameShape.f k l1 l2).bind fun t754 => (if t754 = true then ((spec_l24Right.f k a0_0 a0_1 a0_2 a0_3 l1 l3).bind fun t755 => (spec_SessPair.j0 k l3 t746 t750 (!t755) a0_0 a0_1 a0_2 a0_3)) else (spec_SessPair.j0 k l3 t746 t750 true a0_0 a0_1 a0_2 a0_3))) = some (r1, r2) := by rw [if_pos rfl] at H; exact H); clear H; (have H := H1); clear H1; (obtain ⟨t754, A15, H⟩ := qX H)
    try dsimp only at H
    by_cases c16 : t754 = true
    ·subst c16
     (have H1 : ((spec_l24Right.f k a0_0 a0_1 a0_2 a0_3 l1 l3).bind fun t755 => (spec_SessPair.j0 k l3 t746 t750 (!t755) a0_0 a0_1 a0_2 a0_3)) = some (r1, r2) := by rw [if_pos rfl] at H; exact H); clear H; (have H := H1); clear H1; (obtain ⟨t755, A17, H⟩ := qX H); (replace H : (spec_SessPair.j0 k l3 t746 t750 (!t755) a0_0 a0_1 a0_2 a0_3) = some (r1, r2) := H); (have H' := Aside0.mk H); clear H
     go_wp2_with (first | (go_at_call 22; (with_reducible refine (spec_SameShape.calls k _ _ l1 _ _ l2 true _ ?side1 ?side2 ?side3 ?side4 A15.out).mono ?_); (case side1 => exact qW (Kd.C_below HR1.out HB.out)); (case side2 => exact HC1.out); (case side3 => exact qW (Kd.C_below HR2.out HB.out)); (case side4 => exact HC2.out); rintro e w18 ⟨rfl, hb⟩; replace HO748 := Aside0.mk (Kd.R_below (qR HO748) hb); replace HO752 := Aside0.mk (Kd.R_below (qR HO752) hb); replace BK745 := qD BK745 hb; replace HB := Aside0.mk (below_step (qS1 HB GE745) hb); (try clear hb); (try clear hb2); (try clear hk); (try clear hi); obtain ⟨hcz19_0, hcz19_1, hcz19_2, hcz19_3, hfz19_0, hfz19_1, hfz19_2, hfz19_3⟩ := qC4 BK745) | (go_at_call 26; (with_reducible refine (spec_l24Right.calls k a0_0 a0_1 a0_2 a0_3 _ _ l1 _ _ l3 t755 _ ?side1 ?side2 ?side3 ?side4 A17.out).mono ?_); (case side1 => exact qW (Kd.C_below HR1.out HB.out)); (case side2 => exact HC1.out); (case side3 => exact qW (Kd.C_below HR3.out HB.out)); (case side4 => exact HC3.out); rintro e w20 ⟨rfl, hb⟩; replace HO748 := Aside0.mk (Kd.R_below (qR HO748) hb); replace HO752 := Aside0.mk (Kd.R_below (qR HO752) hb); replace BK745 := qD BK745 hb; replace HB := Aside0.mk (below_step (qS1 HB GE745) hb); (try clear hb); (try clear hb2); (try clear hk); (try clear hi)))
     go_meet
     case rel => exact ⟨_, (!t755), qV, H', ⟨by first | omega | exact Nat.le_refl _⟩, ⟨by (with_reducible repeat (first | apply Kd.R_alloc | apply Kd.R_drewN | apply Kd.R_drew)); exact Kd.R_mono HO748.out (fun _ hk => hk.2)⟩, ⟨by (with_reducible repeat (first | apply Kd.R_alloc | apply Kd.R_drewN | apply Kd.R_drew)); exact Kd.R_mono HO752.out (fun _ hk => hk.2)⟩, ⟨qB BK745⟩, ⟨qS1 HB GE745⟩⟩
    ·replace c16 := Bool.eq_false_iff.mpr c16
     (subst c16); (have H1 : (spec_SessPair.j0 k l3 t746 t750 true a0_0 a0_1 a0_2 a0_3) = some (r1, r2) := by rw [if_neg (show ¬ (false = true) by decide)] at H; exact H); clear H; (have H := H1); clear H1; (have H' := Aside0.mk H); clear H
     go_wp2_with (first | (go_at_call 22; (with_reducible refine (spec_SameShape.calls k _ _ l1 _ _ l2 false _ ?side1 ?side2 ?side3 ?side4 A15.out).mono ?_); (case side1 => exact qW (Kd.C_below HR1.out HB.out)); (case side2 => exact HC1.out); (case side3 => exact qW (Kd.C_below HR2.out HB.out)); (case side4 => exact HC2.out); rintro e w21 ⟨rfl, hb⟩; replace HO748 := Aside0.mk (Kd.R_below (qR HO748) hb); replace HO752 := Aside0.mk (Kd.R_below (qR HO752) hb); replace BK745 := qD BK745 hb; replace HB := Aside0.mk (below_step (qS1 HB GE745) hb); (try clear hb); (try clear hb2); (try clear hk); (try clear hi)))
     go_meet
     case rel => exact ⟨_, (true), qV, H', ⟨by first | omega | exact Nat.le_refl _⟩, ⟨by (with_reducible repeat (first | apply Kd.R_alloc | apply Kd.R_drewN | apply Kd.R_drew)); exact Kd.R_mono HO748.out (fun _ hk => hk.2)⟩, ⟨by (with_reducible repeat (first | apply Kd.R_alloc | apply Kd.R_drewN | apply Kd.R_drew)); exact Kd.R_mono HO752.out (fun _ hk => hk.2)⟩, ⟨qB BK745⟩, ⟨qS1 HB GE745⟩⟩
   ·replace c14 := Bool.eq_false_iff.mpr c14
    (subst c14); (have H1 : (spec_SessPair.j0 k l3 t746 t750 true a0_0 a0_1 a0_2 a0_3) = some (r1, r2) := by rw [if_neg (show ¬ (false = true) by decide)] at H; exact H); clear H; (have H := H1); clear H1; (have H' := Aside0.mk H); clear H
    go_wp2
    go_meet
    case rel => exact ⟨_, (true), qV, H', ⟨by first | omega | exact Nat.le_refl _⟩, ⟨by (with_reducible repeat (first | apply Kd.R_alloc | apply Kd.R_drewN | apply Kd.R_drew)); exact Kd.R_mono HO748.out (fun _ hk => hk.2)⟩, ⟨by (with_reducible repeat (first | apply Kd.R_alloc | apply Kd.R_drewN | apply Kd.R_drew)); exact Kd.R_mono HO752.out (fun _ hk => hk.2)⟩, ⟨qB BK745⟩, ⟨qS1 HB GE745⟩⟩
  ·replace c13 := Bool.eq_false_iff.mpr c13
   (subst c13); (have H1 : (spec_SessPair.j0 k l3 t746 t750 true a0_0 a0_1 a0_2 a0_3) = some (r1, r2) := by rw [if_neg (show ¬ (false = true) by decide)] at H; exact H); clear H; (have H := H1); clear H1; (have H' := Aside0.mk H); clear H
   go_wp2
   go_meet
   case rel => exact ⟨_, (true), qV, H', ⟨by first | omega | exact Nat.le_refl _⟩, ⟨by (with_reducible repeat (first | apply Kd.R_alloc | apply Kd.R_drewN | apply Kd.R_drew)); exact Kd.R_mono HO748.out (fun _ hk => hk.2)⟩, ⟨by (with_reducible repeat (first | apply Kd.R_alloc | apply Kd.R_drewN | apply Kd.R_drew)); exact Kd.R_mono HO752.out (fun _ hk => hk.2)⟩, ⟨qB BK745⟩, ⟨qS1 HB GE745⟩⟩
 case rest =>
  clear HC7; (try clear c13); (try clear c14); (try clear c16); (try clear hcz11_0); (try clear hcz11_1); (try clear hcz11_2); (try clear hcz11_3); (try clear hcz19_0); (try clear hcz19_1); (try clear hcz19_2); (try clear hcz19_3); (try clear hcz9_0); (try clear hcz9_1); (try clear hcz9_2); (try clear hcz9_3); (try clear hfz11_0); (try clear hfz11_1); (try clear hfz11_2); (try clear hfz11_3); (try clear hfz19_0); (try clear hfz19_1); (try clear hfz19_2); (try clear hfz19_3); (try clear hfz9_0); (try clear hfz9_1); (try clear hfz9_2); (try clear hfz9_3); (obtain ⟨kq, x57_6, rfl, HA, HJ6, HO_10, HO_12, BK745, HB⟩ := hcut)
  cases kq with
  | zero => exact absurd HA.out (by simp [spec_SessPair.j0])
  | succ kj6 =>
   (have H := HA.out); clear HA; (simp only [spec_SessPair.j0] at H)
   by_cases c22 : x57_6 = true
   ·subst c22
    (have H1 : (some (([] : List Int), false)) = some (r1, r2) := by rw [if_pos rfl] at H; exact H); clear H; (have H := H1); clear H1; (simp only [Option.some.injEq, Prod.mk.injEq] at H); (obtain ⟨rfl, rfl⟩ := H)
    go_wp2
    go_ret2
    exact ⟨_, qE, by first | exact Kd.R_nil _ _ _ _ _ | exact Kd.N_nil _ _ _ _ _ | exact Kd.V_nil _ _ _ _ _ | exact Kd.Q_nil _ _ _ _ _ | exact Kd.S_nil _ _ _ _ _, qS1 HB GE745⟩
   ·replace c22 := Bool.eq_false_iff.mpr c22
    (subst c22); (have H1 : ((spec_l24Split.f kj6 a0_0 a0_1 a0_2 a0_3 l3).bind fun bt756 => ((spec_l02Pow.f kj6 (wrap64 (a0_1 - 2))).bind fun t762 => ((spec_l24Quarter.f kj6 t746).bind fun t763 => ((spec_l24Quarter.f kj6 t750).bind fun t766 => ((spec_PairDraws.f kj6 t762 t763 t766 bt756.1).bind fun bt769 => ((spec_l02Pow.f kj6 a0_1).bind fun t773 => ((spec_PairDraws.f kj6 t773 t746 t750 bt756.2).bind fun bt774 => ((some (([] : List Int) : List Int)).bind fun y778 => (if y778.length + l3.length < 17592186044416 then ((spec_DeepDraws.f kj6 a0_1).bind fun t784 => (spec_SessPair.l0 kj6 bt769.1 bt774.1 (y778 ++ l3) t784 0 0 0)) else (none)))))))))) = some (r1, r2) := by rw [if_neg (show ¬ (false = true) by decide)] at H; exact H); clear H; (have H := H1); clear H1; (obtain ⟨⟨t756, t759⟩, A23, H⟩ := qX H)
    try dsimp only at H
    obtain ⟨t762, A24, H⟩ := qX H
    try dsimp only at H
    obtain ⟨t763, A25, H⟩ := qX H
    try dsimp only at H
    obtain ⟨t766, A26, H⟩ := qX H
    try dsimp only at H
    obtain ⟨⟨t769, t770⟩, A27, H⟩ := qX H
    try dsimp only at H
    obtain ⟨t773, A28, H⟩ := qX H
    try dsimp only at H
    obtain ⟨⟨t774, t775⟩, A29, H⟩ := qX H
    try dsimp only at H
    (obtain ⟨y778, hy778⟩ : ∃ y_ : List Int, y_ = (([] : List Int)) := ⟨_, rfl⟩); (replace H : (if y778.length + l3.length < 17592186044416 then ((spec_DeepDraws.f kj6 a0_1).bind fun t784 => (spec_SessPair.l0 kj6 t769 t774 (y778 ++ l3) t784 0 0 0)) else (none)) = some (r1, r2) := qY hy778 H); (have Ny778 := Aside0.mk hy778); clear hy778; (obtain ⟨c30, H⟩ := qU H); (have LMc30 := Aside0.mk c30); clear c30; (obtain ⟨y781, hy781⟩ : ∃ y_ : List Int, y_ = (y778 ++ l3) := ⟨_, rfl⟩); (replace H : ((spec_DeepDraws.f kj6 a0_1).bind fun t784 => (spec_SessPair.l0 kj6 t769 t774 y781 t784 0 0 0)) = some (r1, r2) := qY hy781 H); (have Ny781 := Aside0.mk hy781); clear hy781; (obtain ⟨t784, A31, H⟩ := qX H); (replace H : (spec_SessPair.l0 kj6 t769 t774 y781 t784 0 0 0) = some (r1, r2) := H); (have H' := Aside0.mk H); clear H; (obtain ⟨hcz32_0, hcz32_1, hcz32_2, hcz32_3, hfz32_0, hfz32_1, hfz32_2, hfz32_3⟩ := qC4 BK745)
    go_wp2_with (first | ((with_reducible refine gate_callee (f := 27) rfl ?_); refine goesL_ (some 61) rfl rfl Tryz.func27 (by kernel_rfl) rfl #[.agg #[.int .i64 a0_0, .int .i64 a0_1, .int .i64 a0_2, .int .i64 a0_3], .slice A3 l3.length c3] rfl qL ?_; (with_reducible refine (spec_l24Split.calls kj6 a0_0 a0_1 a0_2 a0_3 _ _ l3 t756 t759 _ ?side1 ?side2 A23.out).mono ?_); (case side1 => exact qW (Kd.C_below HR3.out HB.out)); (case side2 => exact HC3.out); rintro e w33 ⟨v757, v760, rfl, ho0, ho1, hb⟩; refine ⟨_, rfl, ?_⟩; have HO758 := Aside0.mk (Kd.R_lower (Kd.R_new' (Kd.R_new' ho0 (Kd.R_lt (qR HO_10))) (Kd.R_lt (qR HO_12))) (below_size (qS1 HB GE745))); have HO761 := Aside0.mk (Kd.R_lower (Kd.R_new' (Kd.R_new' ho1 (Kd.R_lt (qR HO_10))) (Kd.R_lt (qR HO_12))) (below_size (qS1 HB GE745))); replace HO_10 := Aside0.mk (Kd.R_mono (Kd.R_told (Kd.R_told (Kd.R_old (qR HO_10) hb) (Kd.R_base ho0)) (Kd.R_base ho1)) (fun _ h_ => h_.1)); replace HO_12 := Aside0.mk (Kd.R_mono (Kd.R_told (Kd.R_told (Kd.R_old (qR HO_12) hb) (Kd.R_base ho0)) (Kd.R_base ho1)) (fun _ h_ => h_.1)); replace BK745 := qD BK745 hb; replace HB := Aside0.mk (below_step (qS1 HB GE745) hb); (try clear hb); (try clear hb2); (try clear hk); (try clear hi); (try clear ho0); (try clear ho1); obtain ⟨hcz34_0, hcz34_1, hcz34_2, hcz34_3, hfz34_0, hfz34_1, hfz34_2, hfz34_3⟩ := qC4 BK745) | ((with_reducible refine gate_callee (f := 28) rfl ?_); refine goesL_ (some 68) rfl rfl Tryz.func28 (by kernel_rfl) rfl #[.int .i64 (wrap64 (a0_1 - 2))] rfl qL ?_; (with_reducible refine (spec_l02Pow.calls kj6 (wrap64 (a0_1 - 2)) t762 _ A24.out).mono ?_); rintro e w' ⟨rfl, ⟨nd, rfl⟩⟩; refine ⟨_, rfl, ?_⟩; obtain ⟨Ao35, co35, eo35⟩ := Kd.R_slice HO_10.out; subst eo35) | ((with_reducible refine gate_callee (f := 31) rfl ?_); refine goesL_ (some 70) rfl rfl Tryz.func31 (by kernel_rfl) rfl #[.slice Ao35 t746.length co35] rfl qL ?_; (with_reducible refine (spec_l24Quarter.calls kj6 _ _ t746 t763 _ ?side1 ?side2 A25.out).mono ?_); (case side1 => repeat (first | exact (Kd.R_reads' HO_10.out).2.2 | (with_reducible refine Kd.C_alloc ?_ _) | (with_reducible refine Kd.C_drewN ?_ _) | (with_reducible refine Kd.C_drew ?_))); (case side2 => exact (Kd.R_reads' HO_10.out).2.1); rintro e w36 ⟨v764, rfl, ho0, hb⟩; refine ⟨_, rfl, ?_⟩; have HO765 := Aside0.mk (Kd.R_lower (Kd.R_new' (Kd.R_new' (Kd.R_new' (Kd.R_new' ho0 (Kd.R_lt (qR HO_10))) (Kd.R_lt (qR HO_12))) (Kd.R_lt (qR HO758))) (Kd.R_lt (qR HO761))) (below_size (qS1 HB GE745))); replace HO_10 := Aside0.mk (Kd.R_elder' (qR HO_10) (Kd.R_base ho0) hb); replace HO_12 := Aside0.mk (Kd.R_elder' (qR HO_12) (Kd.R_base ho0) hb); replace HO758 := Aside0.mk (Kd.R_elder' (qR HO758) (Kd.R_base ho0) hb); replace HO761 := Aside0.mk (Kd.R_elder' (qR HO761) (Kd.R_base ho0) hb); replace BK745 := qD BK745 hb; replace HB := Aside0.mk (below_step (qS1 HB GE745) hb); (try clear hb); (try clear hb2); (try clear hk); (try clear hi); (try clear ho0); obtain ⟨Ao37, co37, eo37⟩ := Kd.R_slice HO_12.out; subst eo37) | ((with_reducible refine gate_callee (f := 31) rfl ?_); refine goesL_ (some 72) rfl rfl Tryz.func31 (by kernel_rfl) rfl #[.slice Ao37 t750.length co37] rfl qL ?_; (with_reducible refine (spec_l24Quarter.calls kj6 _ _ t750 t766 _ ?side1 ?side2 A26.out).mono ?_); (case side1 => repeat (first | exact (Kd.R_reads' HO_12.out).2.2 | (with_reducible refine Kd.C_alloc ?_ _) | (with_reducible refine Kd.C_drewN ?_ _) | (with_reducible refine Kd.C_drew ?_))); (case side2 => exact (Kd.R_reads' HO_12.out).2.1); rintro e w38 ⟨v767, rfl, ho0, hb⟩; refine ⟨_, rfl, ?_⟩; have HO768 := Aside0.mk (Kd.R_lower (Kd.R_new' (Kd.R_new' (Kd.R_new' (Kd.R_new' (Kd.R_new' ho0 (Kd.R_lt (qR HO_10))) (Kd.R_lt (qR HO_12))) (Kd.R_lt (qR HO758))) (Kd.R_lt (qR HO761))) (Kd.R_lt (qR HO765))) (below_size (qS1 HB GE745))); replace HO_10 := Aside0.mk (Kd.R_elder' (qR HO_10) (Kd.R_base ho0) hb); replace HO_12 := Aside0.mk (Kd.R_elder' (qR HO_12) (Kd.R_base ho0) hb); replace HO758 := Aside0.mk (Kd.R_elder' (qR HO758) (Kd.R_base ho0) hb); replace HO761 := Aside0.mk (Kd.R_elder' (qR HO761) (Kd.R_base ho0) hb); replace HO765 := Aside0.mk (Kd.R_elder' (qR HO765) (Kd.R_base ho0) hb); replace BK745 := qD BK745 hb; replace HB := Aside0.mk (below_step (qS1 HB GE745) hb); (try clear hb); (try clear hb2); (try clear hk); (try clear hi); (try clear ho0); obtain ⟨Ao39, co39, eo39⟩ := Kd.R_slice HO765.out; subst eo39; obtain ⟨Ao40, co40, eo40⟩ := Kd.R_slice HO768.out; subst eo40; obtain ⟨Ao41, co41, eo41⟩ := Kd.R_slice HO758.out; subst eo41) | ((with_reducible refine gate_callee (f := 42) rfl ?_); refine goesL_ (some 74) rfl rfl Tryz.func42 (by kernel_rfl) rfl #[.int .i64 t762, .slice Ao39 t763.length co39, .slice Ao40 t766.length co40, .slice Ao41 t756.length co41] rfl qL ?_; (with_reducible refine (spec_PairDraws.calls kj6 t762 _ _ t763 _ _ t766 _ _ t756 t769 t770 _ ?side1 ?side2 ?side3 ?side4 ?side5 ?side6 A27.out).mono ?_); (case side1 => repeat (first | exact (Kd.R_reads' HO765.out).2.2 | (with_reducible refine Kd.C_alloc ?_ _) | (with_reducible refine Kd.C_drewN ?_ _) | (with_reducible refine Kd.C_drew ?_))); (case side2 => exact (Kd.R_reads' HO765.out).2.1); (case side3 => repeat (first | exact (Kd.R_reads' HO768.out).2.2 | (with_reducible refine Kd.C_alloc ?_ _) | (with_reducible refine Kd.C_drewN ?_ _) | (with_reducible refine Kd.C_drew ?_))); (case side4 => exact (Kd.R_reads' HO768.out).2.1); (case side5 => repeat (first | exact (Kd.R_reads' HO758.out).2.2 | (with_reducible refine Kd.C_alloc ?_ _) | (with_reducible refine Kd.C_drewN ?_ _) | (with_reducible refine Kd.C_drew ?_))); (case side6 => exact (Kd.R_reads' HO758.out).2.1); rintro e w42 ⟨v771, rfl, ho0, hb⟩; refine ⟨_, rfl, ?_⟩; have HO772 := Aside0.mk (Kd.R_lower (Kd.R_new' (Kd.R_new' (Kd.R_new' (Kd.R_new' (Kd.R_new' (Kd.R_new' ho0 (Kd.R_lt (qR HO_10))) (Kd.R_lt (qR HO_12))) (Kd.R_lt (qR HO758))) (Kd.R_lt (qR HO761))) (Kd.R_lt (qR HO765))) (Kd.R_lt (qR HO768))) (below_size (qS1 HB GE745))); replace HO_10 := Aside0.mk (Kd.R_elder' (qR HO_10) (Kd.R_base ho0) hb); replace HO_12 := Aside0.mk (Kd.R_elder' (qR HO_12) (Kd.R_base ho0) hb); replace HO758 := Aside0.mk (Kd.R_elder' (qR HO758) (Kd.R_base ho0) hb); replace HO761 := Aside0.mk (Kd.R_elder' (qR HO761) (Kd.R_base ho0) hb); replace HO765 := Aside0.mk (Kd.R_elder' (qR HO765) (Kd.R_base ho0) hb); replace HO768 := Aside0.mk (Kd.R_elder' (qR HO768) (Kd.R_base ho0) hb); replace BK745 := qD BK745 hb; replace HB := Aside0.mk (below_step (qS1 HB GE745) hb); (try clear hb); (try clear hb2); (try clear hk); (try clear hi); (try clear ho0); obtain ⟨hcz43_0, hcz43_1, hcz43_2, hcz43_3, hfz43_0, hfz43_1, hfz43_2, hfz43_3⟩ := qC4 BK745) | ((with_reducible refine gate_callee (f := 28) rfl ?_); refine goesL_ (some 80) rfl rfl Tryz.func28 (by kernel_rfl) rfl #[.int .i64 a0_1] rfl qL ?_; (with_reducible refine (spec_l02Pow.calls kj6 a0_1 t773 _ A28.out).mono ?_); rintro e w' ⟨rfl, ⟨nd, rfl⟩⟩; refine ⟨_, rfl, ?_⟩; obtain ⟨Ao44, co44, eo44⟩ := Kd.R_slice HO761.out; subst eo44) | ((with_reducible refine gate_callee (f := 42) rfl ?_); refine goesL_ (some 84) rfl rfl Tryz.func42 (by kernel_rfl) rfl #[.int .i64 t773, .slice Ao35 t746.length co35, .slice Ao37 t750.length co37, .slice Ao44 t759.length co44] rfl qL ?_; (with_reducible refine (spec_PairDraws.calls kj6 t773 _ _ t746 _ _ t750 _ _ t759 t774 t775 _ ?side1 ?side2 ?side3 ?side4 ?side5 ?side6 A29.out).mono ?_); (case side1 => repeat (first | exact (Kd.R_reads' HO_10.out).2.2 | (with_reducible refine Kd.C_alloc ?_ _) | (with_reducible refine Kd.C_drewN ?_ _) | (with_reducible refine Kd.C_drew ?_))); (case side2 => exact (Kd.R_reads' HO_10.out).2.1); (case side3 => repeat (first | exact (Kd.R_reads' HO_12.out).2.2 | (with_reducible refine Kd.C_alloc ?_ _) | (with_reducible refine Kd.C_drewN ?_ _) | (with_reducible refine Kd.C_drew ?_))); (case side4 => exact (Kd.R_reads' HO_12.out).2.1); (case side5 => repeat (first | exact (Kd.R_reads' HO761.out).2.2 | (with_reducible refine Kd.C_alloc ?_ _) | (with_reducible refine Kd.C_drewN ?_ _) | (with_reducible refine Kd.C_drew ?_))); (case side6 => exact (Kd.R_reads' HO761.out).2.1); rintro e w45 ⟨v776, rfl, ho0, hb⟩; refine ⟨_, rfl, ?_⟩; have HO777 := Aside0.mk (Kd.R_lower (Kd.R_new' (Kd.R_new' (Kd.R_new' (Kd.R_new' (Kd.R_new' (Kd.R_new' (Kd.R_new' ho0 (Kd.R_lt (qR HO_10))) (Kd.R_lt (qR HO_12))) (Kd.R_lt (qR HO758))) (Kd.R_lt (qR HO761))) (Kd.R_lt (qR HO765))) (Kd.R_lt (qR HO768))) (Kd.R_lt (qR HO772))) (below_size (qS1 HB GE745))); replace HO_10 := Aside0.mk (Kd.R_elder' (qR HO_10) (Kd.R_base ho0) hb); replace HO_12 := Aside0.mk (Kd.R_elder' (qR HO_12) (Kd.R_base ho0) hb); replace HO758 := Aside0.mk (Kd.R_elder' (qR HO758) (Kd.R_base ho0) hb); replace HO761 := Aside0.mk (Kd.R_elder' (qR HO761) (Kd.R_base ho0) hb); replace HO765 := Aside0.mk (Kd.R_elder' (qR HO765) (Kd.R_base ho0) hb); replace HO768 := Aside0.mk (Kd.R_elder' (qR HO768) (Kd.R_base ho0) hb); replace HO772 := Aside0.mk (Kd.R_elder' (qR HO772) (Kd.R_base ho0) hb); replace BK745 := qD BK745 hb; replace HB := Aside0.mk (below_step (qS1 HB GE745) hb); (try clear hb); (try clear hb2); (try clear hk); (try clear hi); (try clear ho0)) | ((with_reducible refine gate_dst (N := 87) rfl ?_); refine Kd.R_lit (Kd.int .i64) _ 3 ?hg (N := 87) ?hd (xs := ([] : List Int)) (inner := []) (ok := fun _ => True) (okp := fun _ => True) ?hr ?hp (fun _ hk => hk) trivial (Below.refl _ _) (Nat.le_refl _) (by simp) ?_; (case hd => rfl); (case hg => rfl); (case hr => first | (go_simp; done) | (go_simp; rfl)); (case hp => exact (Reps.none _ _)); intro v779 w46 ho47 hb hg_ hnew_; clear hg_ hnew_; (first | rw [← Ny778.out] at ho47 | (simp only [Int.reduceToNat] at ho47; rw [← Ny778.out] at ho47)); have HO780 := Aside0.mk (Kd.R_lower (Kd.R_new' (Kd.R_new' (Kd.R_new' (Kd.R_new' (Kd.R_new' (Kd.R_new' (Kd.R_new' (Kd.R_new' ho47 (Kd.R_lt (qR HO_10))) (Kd.R_lt (qR HO_12))) (Kd.R_lt (qR HO758))) (Kd.R_lt (qR HO761))) (Kd.R_lt (qR HO765))) (Kd.R_lt (qR HO768))) (Kd.R_lt (qR HO772))) (Kd.R_lt (qR HO777))) (below_size (qS1 HB GE745))); replace HO_10 := Aside0.mk (Kd.R_elder' (qR HO_10) (Kd.R_base ho47) hb); replace HO_12 := Aside0.mk (Kd.R_elder' (qR HO_12) (Kd.R_base ho47) hb); replace HO758 := Aside0.mk (Kd.R_elder' (qR HO758) (Kd.R_base ho47) hb); replace HO761 := Aside0.mk (Kd.R_elder' (qR HO761) (Kd.R_base ho47) hb); replace HO765 := Aside0.mk (Kd.R_elder' (qR HO765) (Kd.R_base ho47) hb); replace HO768 := Aside0.mk (Kd.R_elder' (qR HO768) (Kd.R_base ho47) hb); replace HO772 := Aside0.mk (Kd.R_elder' (qR HO772) (Kd.R_base ho47) hb); replace HO777 := Aside0.mk (Kd.R_elder' (qR HO777) (Kd.R_base ho47) hb); replace BK745 := qD BK745 hb; replace HB := Aside0.mk (below_step (qS1 HB GE745) hb); clear hb ho47) | ((with_reducible refine gate_builtin (b := .append) (xs := #[.tmp 87, .tmp 88]) rfl ?_); at_builtin; refine Kd.R_append_rows (Kd.int .i64) (w0 := w) w.heap.size rfl (.tmp 87) (.tmp 88) 25 3 (.int .i64 0) 8 rfl Tryz.underlying25 info3 rfl (by decide) (by omega) v779 y778 l3 _ _ _ (fun k_ => some k_ ≠ (.slice Ao35 t746.length co35 : Value).ownBlock ∧ some k_ ≠ (.slice Ao37 t750.length co37 : Value).ownBlock ∧ some k_ ≠ (.slice Ao41 t756.length co41 : Value).ownBlock ∧ some k_ ≠ (.slice Ao44 t759.length co44 : Value).ownBlock ∧ some k_ ≠ (.slice Ao39 t763.length co39 : Value).ownBlock ∧ some k_ ≠ (.slice Ao40 t766.length co40 : Value).ownBlock ∧ some k_ ≠ (v771 : Value).ownBlock ∧ some k_ ≠ (v776 : Value).ownBlock) (fun _ => False) rfl rfl ?aO ?aR (fun _ _ h => h) (fun _ h => h.elim) ?aF ?aB ?aS ?aL ?_; (case aR => exact qW (Kd.C_below HR3.out HB.out)); (case aB => exact (qS1 HB GE745)); (case aF => exact (fun k_ hk => ⟨Kd.fresh' (Kd.R_lt (qR HO_10)) k_ hk, Kd.fresh' (Kd.R_lt (qR HO_12)) k_ hk, Kd.fresh' (Kd.R_lt (qR HO758)) k_ hk, Kd.fresh' (Kd.R_lt (qR HO761)) k_ hk, Kd.fresh' (Kd.R_lt (qR HO765)) k_ hk, Kd.fresh' (Kd.R_lt (qR HO768)) k_ hk, Kd.fresh' (Kd.R_lt (qR HO772)) k_ hk, Kd.fresh' (Kd.R_lt (qR HO777)) k_ hk⟩)); (case aO => exact (by (with_reducible repeat (first | apply Kd.R_alloc | apply Kd.R_drewN | apply Kd.R_drew)); exact Kd.R_mono HO780.out (fun _ hk => ⟨hk.1.1.1.1.1.1.1.2, ⟨hk.1.1.1.1.1.1.2, ⟨hk.1.1.1.1.1.2, ⟨hk.1.1.1.1.2, ⟨hk.1.1.1.2, ⟨hk.1.1.2, ⟨hk.1.2, hk.2⟩⟩⟩⟩⟩⟩⟩))); (case aS => exact (below_size (qS1 HB GE745))); (case aL => have := LMc30.out; omega); intro v782 w48 ho hb hg hat; rw [← Ny781.out] at ho; replace HO_10 := Aside0.mk (Kd.R_after (ok := (fun k_ => some k_ ≠ (.slice Ao37 t750.length co37 : Value).ownBlock ∧ some k_ ≠ (.slice Ao41 t756.length co41 : Value).ownBlock ∧ some k_ ≠ (.slice Ao44 t759.length co44 : Value).ownBlock ∧ some k_ ≠ (.slice Ao39 t763.length co39 : Value).ownBlock ∧ some k_ ≠ (.slice Ao40 t766.length co40 : Value).ownBlock ∧ some k_ ≠ (v771 : Value).ownBlock ∧ some k_ ≠ (v776 : Value).ownBlock)) (by (with_reducible repeat (first | apply Kd.R_alloc | apply Kd.R_drewN | apply Kd.R_drew)); exact Kd.R_mono HO_10.out (fun _ hk => ⟨⟨hk.1.1.1.1.1.1.1, ⟨hk.1.1.1.1.1.1.2, ⟨hk.1.1.1.1.1.2, ⟨hk.1.1.1.1.2, ⟨hk.1.1.1.2, ⟨hk.1.1.2, hk.1.2⟩⟩⟩⟩⟩⟩, hk.2⟩)) hg hat); replace HO_12 := Aside0.mk (Kd.R_after (ok := (fun k_ => some k_ ≠ (.slice Ao35 t746.length co35 : Value).ownBlock ∧ some k_ ≠ (.slice Ao41 t756.length co41 : Value).ownBlock ∧ some k_ ≠ (.slice Ao44 t759.length co44 : Value).ownBlock ∧ some k_ ≠ (.slice Ao39 t763.length co39 : Value).ownBlock ∧ some k_ ≠ (.slice Ao40 t766.length co40 : Value).ownBlock ∧ some k_ ≠ (v771 : Value).ownBlock ∧ some k_ ≠ (v776 : Value).ownBlock)) (by (with_reducible repeat (first | apply Kd.R_alloc | apply Kd.R_drewN | apply Kd.R_drew)); exact Kd.R_mono HO_12.out (fun _ hk => ⟨⟨hk.1.1.1.1.1.1.1, ⟨hk.1.1.1.1.1.1.2, ⟨hk.1.1.1.1.1.2, ⟨hk.1.1.1.1.2, ⟨hk.1.1.1.2, ⟨hk.1.1.2, hk.1.2⟩⟩⟩⟩⟩⟩, hk.2⟩)) hg hat); replace BK745 := Aside0.mk (blk_grown (qB BK745) hg (Kd.R_ne HO780.out BK745.out (by decide))); replace HO758 := Aside0.mk (Kd.R_after (ok := (fun k_ => some k_ ≠ (.slice Ao35 t746.length co35 : Value).ownBlock ∧ some k_ ≠ (.slice Ao37 t750.length co37 : Value).ownBlock ∧ some k_ ≠ (.slice Ao44 t759.length co44 : Value).ownBlock ∧ some k_ ≠ (.slice Ao39 t763.length co39 : Value).ownBlock ∧ some k_ ≠ (.slice Ao40 t766.length co40 : Value).ownBlock ∧ some k_ ≠ (v771 : Value).ownBlock ∧ some k_ ≠ (v776 : Value).ownBlock)) (by (with_reducible repeat (first | apply Kd.R_alloc | apply Kd.R_drewN | apply Kd.R_drew)); exact Kd.R_mono HO758.out (fun _ hk => ⟨⟨hk.1.1.1.1.1.1.2, ⟨hk.1.1.1.1.1.2, ⟨hk.1.1.1.1.1.1.1, ⟨hk.1.1.1.1.2, ⟨hk.1.1.1.2, ⟨hk.1.1.2, hk.1.2⟩⟩⟩⟩⟩⟩, hk.2⟩)) hg hat); replace HO761 := Aside0.mk (Kd.R_after (ok := (fun k_ => some k_ ≠ (.slice Ao35 t746.length co35 : Value).ownBlock ∧ some k_ ≠ (.slice Ao37 t750.length co37 : Value).ownBlock ∧ some k_ ≠ (.slice Ao41 t756.length co41 : Value).ownBlock ∧ some k_ ≠ (.slice Ao39 t763.length co39 : Value).ownBlock ∧ some k_ ≠ (.slice Ao40 t766.length co40 : Value).ownBlock ∧ some k_ ≠ (v771 : Value).ownBlock ∧ some k_ ≠ (v776 : Value).ownBlock)) (by (with_reducible repeat (first | apply Kd.R_alloc | apply Kd.R_drewN | apply Kd.R_drew)); exact Kd.R_mono HO761.out (fun _ hk => ⟨⟨hk.1.1.1.1.1.1.2, ⟨hk.1.1.1.1.1.2, ⟨hk.1.1.1.1.1.1.1, ⟨hk.1.1.1.1.2, ⟨hk.1.1.1.2, ⟨hk.1.1.2, hk.1.2⟩⟩⟩⟩⟩⟩, hk.2⟩)) hg hat); replace HO765 := Aside0.mk (Kd.R_after (ok := (fun k_ => some k_ ≠ (.slice Ao35 t746.length co35 : Value).ownBlock ∧ some k_ ≠ (.slice Ao37 t750.length co37 : Value).ownBlock ∧ some k_ ≠ (.slice Ao41 t756.length co41 : Value).ownBlock ∧ some k_ ≠ (.slice Ao44 t759.length co44 : Value).ownBlock ∧ some k_ ≠ (.slice Ao40 t766.length co40 : Value).ownBlock ∧ some k_ ≠ (v771 : Value).ownBlock ∧ some k_ ≠ (v776 : Value).ownBlock)) (by (with_reducible repeat (first | apply Kd.R_alloc | apply Kd.R_drewN | apply Kd.R_drew)); exact Kd.R_mono HO765.out (fun _ hk => ⟨⟨hk.1.1.1.1.1.1.1.2, ⟨hk.1.1.1.1.1.1.2, ⟨hk.1.1.1.1.1.2, ⟨hk.1.1.1.1.2, ⟨hk.1.1.1.2, ⟨hk.1.1.2, hk.1.2⟩⟩⟩⟩⟩⟩, hk.2⟩)) hg hat); replace HO768 := Aside0.mk (Kd.R_after (ok := (fun k_ => some k_ ≠ (.slice Ao35 t746.length co35 : Value).ownBlock ∧ some k_ ≠ (.slice Ao37 t750.length co37 : Value).ownBlock ∧ some k_ ≠ (.slice Ao41 t756.length co41 : Value).ownBlock ∧ some k_ ≠ (.slice Ao44 t759.length co44 : Value).ownBlock ∧ some k_ ≠ (.slice Ao39 t763.length co39 : Value).ownBlock ∧ some k_ ≠ (v771 : Value).ownBlock ∧ some k_ ≠ (v776 : Value).ownBlock)) (by (with_reducible repeat (first | apply Kd.R_alloc | apply Kd.R_drewN | apply Kd.R_drew)); exact Kd.R_mono HO768.out (fun _ hk => ⟨⟨hk.1.1.1.1.1.1.1.2, ⟨hk.1.1.1.1.1.1.2, ⟨hk.1.1.1.1.1.2, ⟨hk.1.1.1.1.2, ⟨hk.1.1.1.2, ⟨hk.1.1.2, hk.1.2⟩⟩⟩⟩⟩⟩, hk.2⟩)) hg hat); replace HO772 := Aside0.mk (Kd.R_after (ok := (fun k_ => some k_ ≠ (.slice Ao35 t746.length co35 : Value).ownBlock ∧ some k_ ≠ (.slice Ao37 t750.length co37 : Value).ownBlock ∧ some k_ ≠ (.slice Ao41 t756.length co41 : Value).ownBlock ∧ some k_ ≠ (.slice Ao44 t759.length co44 : Value).ownBlock ∧ some k_ ≠ (.slice Ao39 t763.length co39 : Value).ownBlock ∧ some k_ ≠ (.slice Ao40 t766.length co40 : Value).ownBlock ∧ some k_ ≠ (v776 : Value).ownBlock)) (by (with_reducible repeat (first | apply Kd.R_alloc | apply Kd.R_drewN | apply Kd.R_drew)); exact Kd.R_mono HO772.out (fun _ hk => ⟨⟨hk.1.1.1.1.1.1.1.2, ⟨hk.1.1.1.1.1.1.2, ⟨hk.1.1.1.1.1.2, ⟨hk.1.1.1.1.2, ⟨hk.1.1.1.2, ⟨hk.1.1.2, hk.1.2⟩⟩⟩⟩⟩⟩, hk.2⟩)) hg hat); replace HO777 := Aside0.mk (Kd.R_after (ok := (fun k_ => some k_ ≠ (.slice Ao35 t746.length co35 : Value).ownBlock ∧ some k_ ≠ (.slice Ao37 t750.length co37 : Value).ownBlock ∧ some k_ ≠ (.slice Ao41 t756.length co41 : Value).ownBlock ∧ some k_ ≠ (.slice Ao44 t759.length co44 : Value).ownBlock ∧ some k_ ≠ (.slice Ao39 t763.length co39 : Value).ownBlock ∧ some k_ ≠ (.slice Ao40 t766.length co40 : Value).ownBlock ∧ some k_ ≠ (v771 : Value).ownBlock)) (by (with_reducible repeat (first | apply Kd.R_alloc | apply Kd.R_drewN | apply Kd.R_drew)); exact Kd.R_mono HO777.out (fun _ hk => ⟨⟨hk.1.1.1.1.1.1.1.2, ⟨hk.1.1.1.1.1.1.2, ⟨hk.1.1.1.1.1.2, ⟨hk.1.1.1.1.2, ⟨hk.1.1.1.2, ⟨hk.1.1.2, hk.1.2⟩⟩⟩⟩⟩⟩, hk.2⟩)) hg hat); replace HB := Aside0.mk (hb); have HO783 := Aside0.mk (ho); clear HO780 ho hb hg hat; obtain ⟨hcz49_0, hcz49_1, hcz49_2, hcz49_3, hfz49_0, hfz49_1, hfz49_2, hfz49_3⟩ := qC4 BK745) | ((with_reducible refine gate_callee (f := 43) rfl ?_); refine goesL_ (some 92) rfl rfl Tryz.func43 (by kernel_rfl) rfl #[.int .i64 a0_1] rfl qL ?_; (with_reducible refine (spec_DeepDraws.calls kj6 a0_1 t784 _ A31.out).mono ?_); rintro e w' ⟨rfl, ⟨nd, rfl⟩⟩; refine ⟨_, rfl, ?_⟩))
    go_loopg [22, 23, 24] kj6 (fun kq v22 v23 v24 w' => ∃ (x20_2 : List Int) (x22_2 : Int) (x23_2 : Int) (x24_2 : Int), v22 = .int .i64 x22_2 ∧ v23 = .int .i64 x23_2 ∧ v24 = .int .i64 x24_2 ∧ Aside0 (spec_SessPair.l0 kq t769 t774 x20_2 t784 x22_2 x23_2 x24_2 = some (r1, r2)) ∧ Aside0 (kq ≤ kj6) ∧ Aside0 (Kd.R (Kd.int .i64) 3 w' w.heap.size (fun k_ => some k_ ≠ (v776 : Value).ownBlock ∧ some k_ ≠ (v782 : Value).ownBlock) v771 t769) ∧ Aside0 (Kd.R (Kd.int .i64) 3 w' w.heap.size (fun k_ => some k_ ≠ (v771 : Value).ownBlock ∧ some k_ ≠ (v782 : Value).ownBlock) v776 t774) ∧ Aside0 (Kd.R (Kd.int .i64) 3 w' w.heap.size (fun k_ => some k_ ≠ (v771 : Value).ownBlock ∧ some k_ ≠ (v776 : Value).ownBlock) v782 x20_2) ∧ Aside0 (w'.heap[gb745]? = some (.cells #[.int .i64 a0_0, .int .i64 a0_1, .int .i64 a0_2, .int .i64 a0_3] 29 (0, 0))) ∧ Aside0 (Below w.heap.size w w'))
    case atStart => exact ⟨(y781), (0), (0), (0), qV, qV, qV, H', ⟨Nat.le_refl _⟩, ⟨by (with_reducible repeat (first | apply Kd.R_alloc | apply Kd.R_drewN | apply Kd.R_drew)); exact Kd.R_mono HO772.out (fun _ hk => ⟨hk.1.2.2.2.2.2.2, hk.2⟩)⟩, ⟨by (with_reducible repeat (first | apply Kd.R_alloc | apply Kd.R_drewN | apply Kd.R_drew)); exact Kd.R_mono HO777.out (fun _ hk => ⟨hk.1.2.2.2.2.2.2, hk.2⟩)⟩, ⟨by (with_reducible repeat (first | apply Kd.R_alloc | apply Kd.R_drewN | apply Kd.R_drew)); exact Kd.R_mono HO783.out (fun _ hk => ⟨hk.2.2.2.2.2.2.1, hk.2.2.2.2.2.2.2⟩)⟩, ⟨qB BK745⟩, ⟨qS1 HB GE745⟩⟩
    case round =>
     clear H'; (try clear c22); (try clear hcz32_0); (try clear hcz32_1); (try clear hcz32_2); (try clear hcz32_3); (try clear hcz34_0); (try clear hcz34_1); (try clear hcz34_2); (try clear hcz34_3); (try clear hcz43_0); (try clear hcz43_1); (try clear hcz43_2); (try clear hcz43_3); (try clear hcz49_0); (try clear hcz49_1); (try clear hcz49_2); (try clear hcz49_3); (try clear hfz32_0); (try clear hfz32_1); (try clear hfz32_2); (try clear hfz32_3); (try clear hfz34_0); (try clear hfz34_1); (try clear hfz34_2); (try clear hfz34_3); (try clear hfz43_0); (try clear hfz43_1); (try clear hfz43_2); (try clear hfz43_3); (try clear hfz49_0); (try clear hfz49_1); (try clear hfz49_2); (try clear hfz49_3); (obtain ⟨x20_2, x22_2, x23_2, x24_2, rfl, rfl, rfl, HA, HK2, HO_16, HO_18, HO_20, BK745, HB⟩ := hrel)
     cases gk with
     | zero => exact absurd HA.out (by simp [spec_SessPair.l0])
     | succ k2 =>
      (have H := HA.out); clear HA; (simp only [spec_SessPair.l0] at H)
      rcases qI H with ⟨c50b0, H⟩ | ⟨c50b0, H⟩
      ·have HC51 := Aside0.mk H
       clear H; (obtain ⟨Ao52, co52, eo52⟩ := Kd.R_slice HO_20.out); (subst eo52)
       go_upto_region 15 with (fail)
       go_cut [25] (fun v25 wc => ∃ (kq : Nat) (x25_50 : Bool), v25 = .bool x25_50 ∧ Aside0 (spec_SessPair.j2 kq t769 t774 x20_2 t784 x22_2 x23_2 x24_2 x25_50 = some (r1, r2)) ∧ Aside0 (kq ≤ k2) ∧ Aside0 (Kd.R (Kd.int .i64) 3 wc w.heap.size (fun k_ => some k_ ≠ (v776 : Value).ownBlock ∧ some k_ ≠ ((.slice Ao52 x20_2.length co52) : Value).ownBlock) v771 t769) ∧ Aside0 (Kd.R (Kd.int .i64) 3 wc w.heap.size (fun k_ => some k_ ≠ (v771 : Value).ownBlock ∧ some k_ ≠ ((.slice Ao52 x20_2.length co52) : Value).ownBlock) v776 t774) ∧ Aside0 (Kd.R (Kd.int .i64) 3 wc w.heap.size (fun k_ => some k_ ≠ (v771 : Value).ownBlock ∧ some k_ ≠ (v776 : Value).ownBlock) (.slice Ao52 x20_2.length co52) x20_2) ∧ Aside0 (wc.heap[gb745]? = some (.cells #[.int .i64 a0_0, .int .i64 a0_1, .int .i64 a0_2, .int .i64 a0_3] 29 (0, 0))) ∧ Aside0 (Below w.heap.size w wc))
       case first =>
        (have H := HC51.out); clear HC51
        rcases qI H with ⟨c53b0, H⟩ | ⟨c53b0, H⟩
        ·(first | rw [c53b0] | (simp only [i64_w, i32_w]; rw [c53b0]) | skip)
         rcases qJ H with ⟨c54, H⟩ | ⟨c54, H⟩
         ·have c54b0 : ((Int.tmod x24_2 6) == 5) = true := beq_iff_eq.mpr c54
          (have c54b1 : ((Int.tmod x24_2 6) != 5) = false := bne_eq_false_iff_eq.mpr c54); clear c54; (have H' := Aside0.mk H); clear H
          go_wp2
          go_meet
          case rel => exact ⟨_, (true), qV, H', ⟨by have := HJ6.out; have := HK2.out; first | omega | exact Nat.le_refl _⟩, ⟨qR HO_16⟩, ⟨qR HO_18⟩, ⟨qR HO_20⟩, ⟨qB BK745⟩, ⟨qS1 HB GE745⟩⟩
         ·have c54b0 : ((Int.tmod x24_2 6) == 5) = false := beq_eq_false_iff_ne.mpr c54
          have c54b1 : ((Int.tmod x24_2 6) != 5) = true := bne_iff_ne.mpr c54
          rcases qI H with ⟨(c55b0 : decide (t784 ≤ x24_2) = true), H⟩ | ⟨(c55b0 : decide (t784 ≤ x24_2) = false), H⟩
          ·have H' := Aside0.mk H
           clear H
           go_wp2
           go_meet
           case rel => exact ⟨_, (((Int.tmod (wrap64 (x24_2 - t784)) 2) == 0)), qV, H', ⟨by have := HJ6.out; have := HK2.out; first | omega | exact Nat.le_refl _⟩, ⟨qR HO_16⟩, ⟨qR HO_18⟩, ⟨qR HO_20⟩, ⟨qB BK745⟩, ⟨qS1 HB GE745⟩⟩
          ·have H' := Aside0.mk H
           clear H
           go_wp2
           go_meet
           case rel => exact ⟨_, (false), qV, H', ⟨by have := HJ6.out; have := HK2.out; first | omega | exact Nat.le_refl _⟩, ⟨qR HO_16⟩, ⟨qR HO_18⟩, ⟨qR HO_20⟩, ⟨qB BK745⟩, ⟨qS1 HB GE745⟩⟩
        ·(first | rw [c53b0] | (simp only [i64_w, i32_w]; rw [c53b0]) | skip)
         rcases qI H with ⟨(c56b0 : decide (t784 ≤ x24_2) = true), H⟩ | ⟨(c56b0 : decide (t784 ≤ x24_2) = false), H⟩
         ·have H' := Aside0.mk H
          clear H
          go_wp2
          go_meet
          case rel => exact ⟨_, (((Int.tmod (wrap64 (x24_2 - t784)) 2) == 0)), qV, H', ⟨by have := HJ6.out; have := HK2.out; first | omega | exact Nat.le_refl _⟩, ⟨qR HO_16⟩, ⟨qR HO_18⟩, ⟨qR HO_20⟩, ⟨qB BK745⟩, ⟨qS1 HB GE745⟩⟩
         ·have H' := Aside0.mk H
          clear H
          go_wp2
          go_meet
          case rel => exact ⟨_, (false), qV, H', ⟨by have := HJ6.out; have := HK2.out; first | omega | exact Nat.le_refl _⟩, ⟨qR HO_16⟩, ⟨qR HO_18⟩, ⟨qR HO_20⟩, ⟨qB BK745⟩, ⟨qS1 HB GE745⟩⟩
       case rest =>
        clear HC51; (try clear c50b0); (try clear c53b0); (try clear c54b0); (try clear c54b1); (try clear c55b0); (try clear c56b0); (obtain ⟨kq, x25_50, rfl, HA, HJ50, HO_16, HO_18, HO_20, BK745, HB⟩ := hcut)
        cases kq with
        | zero => exact absurd HA.out (by simp [spec_SessPair.j2])
        | succ kj50 =>
         (have H := HA.out); clear HA; (simp only [spec_SessPair.j2] at H); (have HC57 := Aside0.mk H); clear H
         go_upto_region 16 with (fail)
         go_cut [26] (fun v26 wc => ∃ (kq : Nat) (x26_56 : Bool), v26 = .bool x26_56 ∧ Aside0 (spec_SessPair.j3 kq t769 t774 x20_2 t784 x22_2 x23_2 x24_2 x25_50 x26_56 = some (r1, r2)) ∧ Aside0 (kq ≤ kj50) ∧ Aside0 (Kd.R (Kd.int .i64) 3 wc w.heap.size (fun k_ => some k_ ≠ (v776 : Value).ownBlock ∧ some k_ ≠ ((.slice Ao52 x20_2.length co52) : Value).ownBlock) v771 t769) ∧ Aside0 (Kd.R (Kd.int .i64) 3 wc w.heap.size (fun k_ => some k_ ≠ (v771 : Value).ownBlock ∧ some k_ ≠ ((.slice Ao52 x20_2.length co52) : Value).ownBlock) v776 t774) ∧ Aside0 (Kd.R (Kd.int .i64) 3 wc w.heap.size (fun k_ => some k_ ≠ (v771 : Value).ownBlock ∧ some k_ ≠ (v776 : Value).ownBlock) (.slice Ao52 x20_2.length co52) x20_2) ∧ Aside0 (wc.heap[gb745]? = some (.cells #[.int .i64 a0_0, .int .i64 a0_1, .int .i64 a0_2, .int .i64 a0_3] 29 (0, 0))) ∧ Aside0 (Below w.heap.size w wc))
         case first =>
          (have H := HC57.out); clear HC57
          rcases qI H with ⟨c58b0, H⟩ | ⟨c58b0, H⟩
          ·(first | rw [c58b0] | (simp only [i64_w, i32_w]; rw [c58b0]) | skip)
           rcases qI H with ⟨(c59b0 : decide (0 < (Int.tmod x24_2 6)) = true), H⟩ | ⟨(c59b0 : decide (0 < (Int.tmod x24_2 6)) = false), H⟩
           ·rcases qI H with ⟨c60b0, H⟩ | ⟨c60b0, H⟩
            ·have H' := Aside0.mk H
             clear H
             go_wp2
             go_meet
             case rel => exact ⟨_, (true), qV, H', ⟨by have := HJ6.out; have := HK2.out; have := HJ50.out; first | omega | exact Nat.le_refl _⟩, ⟨qR HO_16⟩, ⟨qR HO_18⟩, ⟨qR HO_20⟩, ⟨qB BK745⟩, ⟨qS1 HB GE745⟩⟩
            ·rcases qI H with ⟨(c61b0 : decide (t784 ≤ x24_2) = true), H⟩ | ⟨(c61b0 : decide (t784 ≤ x24_2) = false), H⟩
             ·have H' := Aside0.mk H
              clear H
              go_wp2
              go_meet
              case rel => exact ⟨_, (((Int.tmod (wrap64 (x24_2 - t784)) 2) == 1)), qV, H', ⟨by have := HJ6.out; have := HK2.out; have := HJ50.out; first | omega | exact Nat.le_refl _⟩, ⟨qR HO_16⟩, ⟨qR HO_18⟩, ⟨qR HO_20⟩, ⟨qB BK745⟩, ⟨qS1 HB GE745⟩⟩
             ·have H' := Aside0.mk H
              clear H
              go_wp2
              go_meet
              case rel => exact ⟨_, (false), qV, H', ⟨by have := HJ6.out; have := HK2.out; have := HJ50.out; first | omega | exact Nat.le_refl _⟩, ⟨qR HO_16⟩, ⟨qR HO_18⟩, ⟨qR HO_20⟩, ⟨qB BK745⟩, ⟨qS1 HB GE745⟩⟩
           ·rcases qI H with ⟨(c62b0 : decide (t784 ≤ x24_2) = true), H⟩ | ⟨(c62b0 : decide (t784 ≤ x24_2) = false), H⟩
            ·have H' := Aside0.mk H
             clear H
             go_wp2
             go_meet
             case rel => exact ⟨_, (((Int.tmod (wrap64 (x24_2 - t784)) 2) == 1)), qV, H', ⟨by have := HJ6.out; have := HK2.out; have := HJ50.out; first | omega | exact Nat.le_refl _⟩, ⟨qR HO_16⟩, ⟨qR HO_18⟩, ⟨qR HO_20⟩, ⟨qB BK745⟩, ⟨qS1 HB GE745⟩⟩
            ·have H' := Aside0.mk H
             clear H
             go_wp2
             go_meet
             case rel => exact ⟨_, (false), qV, H', ⟨by have := HJ6.out; have := HK2.out; have := HJ50.out; first | omega | exact Nat.le_refl _⟩, ⟨qR HO_16⟩, ⟨qR HO_18⟩, ⟨qR HO_20⟩, ⟨qB BK745⟩, ⟨qS1 HB GE745⟩⟩
          ·(first | rw [c58b0] | (simp only [i64_w, i32_w]; rw [c58b0]) | skip)
           rcases qI H with ⟨(c63b0 : decide (t784 ≤ x24_2) = true), H⟩ | ⟨(c63b0 : decide (t784 ≤ x24_2) = false), H⟩
           ·have H' := Aside0.mk H
            clear H
            go_wp2
            go_meet
            case rel => exact ⟨_, (((Int.tmod (wrap64 (x24_2 - t784)) 2) == 1)), qV, H', ⟨by have := HJ6.out; have := HK2.out; have := HJ50.out; first | omega | exact Nat.le_refl _⟩, ⟨qR HO_16⟩, ⟨qR HO_18⟩, ⟨qR HO_20⟩, ⟨qB BK745⟩, ⟨qS1 HB GE745⟩⟩
           ·have H' := Aside0.mk H
            clear H
            go_wp2
            go_meet
            case rel => exact ⟨_, (false), qV, H', ⟨by have := HJ6.out; have := HK2.out; have := HJ50.out; first | omega | exact Nat.le_refl _⟩, ⟨qR HO_16⟩, ⟨qR HO_18⟩, ⟨qR HO_20⟩, ⟨qB BK745⟩, ⟨qS1 HB GE745⟩⟩
         case rest =>
          clear HC57; (try clear c58b0); (try clear c59b0); (try clear c60b0); (try clear c61b0); (try clear c62b0); (try clear c63b0); (obtain ⟨kq, x26_56, rfl, HA, HJ56, HO_16, HO_18, HO_20, BK745, HB⟩ := hcut)
          cases kq with
          | zero => exact absurd HA.out (by simp [spec_SessPair.j3])
          | succ kj56 =>
           (have H := HA.out); clear HA; (simp only [spec_SessPair.j3] at H)
           by_cases c64 : x25_50 = true
           ·subst c64
            (have H1 : (if 0 ≤ x22_2 then (if x22_2 < (t769.length : Int) then (if 0 ≤ x24_2 then (if x24_2 < (x20_2.length : Int) then ((some (x20_2.set (x24_2 : Int).toNat (rd t769 x22_2) : List Int)).bind fun y786 => (if x26_56 = true then (if 0 ≤ x23_2 then (if x23_2 < (t774.length : Int) then (spec_SessPair.l0 kj56 t769 t774 (y786.set (x24_2 : Int).toNat (rd t774 x23_2)) t784 (wrap64 (x22_2 + 1)) (wrap64 (x23_2 + 1)) (wrap64 (x24_2 + 1))) else (none)) else (none)) else (spec_SessPair.l0 kj56 t769 t774 y786 t784 (wrap64 (x22_2 + 1)) x23_2 (wrap64 (x24_2 + 1))))) else (none)) else (none)) else (none)) else (none)) = some (r1, r2) := by rw [if_pos rfl] at H; exact H); clear H; (have H := H1); clear H1; (obtain ⟨c65b0, H⟩ := qT H); (obtain ⟨c66b0, H⟩ := qT H); (obtain ⟨c67b0, H⟩ := qT H); (obtain ⟨c68b0, H⟩ := qT H); (obtain ⟨y786, hy786⟩ : ∃ y_ : List Int, y_ = (x20_2.set (x24_2 : Int).toNat (rd t769 x22_2)) := ⟨_, rfl⟩); (replace H : (if x26_56 = true then (if 0 ≤ x23_2 then (if x23_2 < (t774.length : Int) then (spec_SessPair.l0 kj56 t769 t774 (y786.set (x24_2 : Int).toNat (rd t774 x23_2)) t784 (wrap64 (x22_2 + 1)) (wrap64 (x23_2 + 1)) (wrap64 (x24_2 + 1))) else (none)) else (none)) else (spec_SessPair.l0 kj56 t769 t774 y786 t784 (wrap64 (x22_2 + 1)) x23_2 (wrap64 (x24_2 + 1)))) = some (r1, r2) := qY hy786 H); (have Ny786 := Aside0.mk hy786); clear hy786
            by_cases c70 : x26_56 = true
            ·subst c70
             (have H1 : (if 0 ≤ x23_2 then (if x23_2 < (t774.length : Int) then (spec_SessPair.l0 kj56 t769 t774 (y786.set (x24_2 : Int).toNat (rd t774 x23_2)) t784 (wrap64 (x22_2 + 1)) (wrap64 (x23_2 + 1)) (wrap64 (x24_2 + 1))) else (none)) else (none)) = some (r1, r2) := by rw [if_pos rfl] at H; exact H); clear H; (have H := H1); clear H1; (obtain ⟨c71b0, H⟩ := qT H); (obtain ⟨c72b0, H⟩ := qT H); (obtain ⟨y788, hy788⟩ : ∃ y_ : List Int, y_ = (y786.set (x24_2 : Int).toNat (rd t774 x23_2)) := ⟨_, rfl⟩); (replace H : (spec_SessPair.l0 kj56 t769 t774 y788 t784 (wrap64 (x22_2 + 1)) (wrap64 (x23_2 + 1)) (wrap64 (x24_2 + 1))) = some (r1, r2) := qY hy788 H); (have Ny788 := Aside0.mk hy788); clear hy788; (have H' := Aside0.mk H); clear H; (obtain ⟨Ao74, co74, eo74⟩ := Kd.R_slice HO_16.out); (subst eo74); (have p785 : 0 ≤ (x22_2 : Int) := qO); (have q785 : x22_2 < (t769.length : Int) := qO); (obtain ⟨ad785, e785, hx785_0⟩ := Kd.at_int (Kd.R_reads' HO_16.out).2.2 x22_2 p785 q785)
             cases e785
             (replace p785 := eq_true p785); (replace q785 := eq_true q785); (have p69 : 0 ≤ (x24_2 : Int) := qO); (have q69 : (x24_2 : Int) < ((x20_2.length : Int) : Int) := qO); (obtain ⟨go69, co69, eo69, gb69, gl69, cl69, HG69⟩ := Kd.R_form HO_20.out (by omega))
             (first | cases eo69 | (injection eo69 with ea_ en_ ec_; (first | subst ea_ | (injection ea_ with ea_; subst ea_)); subst ec_; clear en_))
             (have GB69 := Aside0.mk gb69); (have GG69 := Aside0.mk HG69); clear gb69 gl69 HG69; (obtain ⟨hx69_0, hf69_0⟩ := Kd.R_celln 0 HO_20.out (x24_2 : Int) p69 q69); (replace p69 := eq_true p69); (replace q69 := eq_true q69); (have HP75 := Kd.R_putg HO_20.out (x24_2 : Int) (rd t769 x22_2))
             go_wp2_with (first | ((with_reducible refine gate_store (t := 3) (p := 151) rfl ?_); refine store_event (t := 3) (p := 151) (v := ?vo_w76) (w1 := (wc.setCell ⟨go69, (x24_2 : Int).toNat, none⟩ (.int .i64 (rd t769 x22_2)))) ?hg ?ho ?hn ?hr ?_; (case ho => rfl); (case hg => rfl); (case hn => rfl); (case hr => first | (go_simp; done) | (go_simp; rfl)); intro w76 hw; have hg : wc.grownBy w76 (some go69) := (by rw [hw]; exact HP75.2); have hp_ : Kd.R (Kd.int .i64) 3 w76 w.heap.size (fun k_ => some k_ ≠ (.slice (some ad785) t769.length co74 : Value).ownBlock ∧ some k_ ≠ (v776 : Value).ownBlock) (.slice (some ⟨go69, 0, none⟩) x20_2.length co52) y786 := (by rw [hw, Ny786.out]; exact HP75.1); clear HP75; replace HO_16 := Aside0.mk (Kd.R_after (v := (.slice (some ⟨go69, 0, none⟩) x20_2.length co52)) (v1 := (.slice (some ⟨go69, 0, none⟩) x20_2.length co52)) (ok := (fun k_ => some k_ ≠ (v776 : Value).ownBlock)) (qR HO_16) hg (.inl rfl)); replace HO_18 := Aside0.mk (Kd.R_after (v := (.slice (some ⟨go69, 0, none⟩) x20_2.length co52)) (v1 := (.slice (some ⟨go69, 0, none⟩) x20_2.length co52)) (ok := (fun k_ => some k_ ≠ (.slice (some ad785) t769.length co74 : Value).ownBlock)) (qR HO_18) hg (.inl rfl)); replace BK745 := Aside0.mk (blk_grown (qB BK745) hg (Kd.R_ne HO_20.out BK745.out (by decide))); replace HO_20 := Aside0.mk (hp_); replace HB := Aside0.mk ((by rw [hw]; exact below_set (HB.out) GB69.out : Below w.heap.size w w76)); clear hg hw hp_; obtain ⟨Ao77, co77, eo77⟩ := Kd.R_slice HO_18.out; subst eo77; have p787 : 0 ≤ (x23_2 : Int) := qO; have q787 : x23_2 < (t774.length : Int) := qO; obtain ⟨ad787, e787, hx787_0⟩ := Kd.at_int (Kd.R_reads' HO_18.out).2.2 x23_2 p787 q787; cases e787; replace p787 := eq_true p787; replace q787 := eq_true q787; have p73 : 0 ≤ (x24_2 : Int) := qO; have q73 : (x24_2 : Int) < ((x20_2.length : Int) : Int) := qO; obtain ⟨hx73_0, hf73_0⟩ := Kd.R_celln 0 HO_20.out (x24_2 : Int) p73 q73; replace p73 := eq_true p73; replace q73 := eq_true q73; obtain ⟨hy78_, hz78_⟩ := Kd.R_celln 0 HO_20.out (x24_2 : Int) (qO) (qO); have HP78 := Kd.R_putg HO_20.out (x24_2 : Int) (rd t774 x23_2)) | ((with_reducible refine gate_store (t := 3) (p := 161) rfl ?_); refine store_event (t := 3) (p := 161) (v := ?vo_w79) (w1 := (w76.setCell ⟨go69, (x24_2 : Int).toNat, none⟩ (.int .i64 (rd t774 x23_2)))) ?hg ?ho ?hn ?hr ?_; (case ho => rfl); (case hg => rfl); (case hn => rfl); (case hr => first | (go_simp; done) | (go_simp; rfl)); intro w79 hw; have hg : w76.grownBy w79 (some go69) := (by rw [hw]; exact HP78.2); have hp_ : Kd.R (Kd.int .i64) 3 w79 w.heap.size (fun k_ => some k_ ≠ (.slice (some ad785) t769.length co74 : Value).ownBlock ∧ some k_ ≠ (.slice (some ad787) t774.length co77 : Value).ownBlock) (.slice (some ⟨go69, 0, none⟩) x20_2.length co52) y788 := (by rw [hw, Ny788.out]; exact HP78.1); clear HP78; replace HO_16 := Aside0.mk (Kd.R_after (v := (.slice (some ⟨go69, 0, none⟩) x20_2.length co52)) (v1 := (.slice (some ⟨go69, 0, none⟩) x20_2.length co52)) (ok := (fun k_ => some k_ ≠ (.slice (some ad787) t774.length co77 : Value).ownBlock)) (qR HO_16) hg (.inl rfl)); replace HO_18 := Aside0.mk (Kd.R_after (v := (.slice (some ⟨go69, 0, none⟩) x20_2.length co52)) (v1 := (.slice (some ⟨go69, 0, none⟩) x20_2.length co52)) (ok := (fun k_ => some k_ ≠ (.slice (some ad785) t769.length co74 : Value).ownBlock)) (qR HO_18) hg (.inl rfl)); replace BK745 := Aside0.mk (blk_grown (qB BK745) hg (Kd.R_ne HO_20.out BK745.out (by decide))); replace HO_20 := Aside0.mk (hp_); replace HB := Aside0.mk ((by rw [hw]; exact below_set (HB.out) GB69.out : Below w.heap.size w w79)); clear hg hw hp_))
             go_roundg kj56
             case measure => have := HJ6.out; have := HK2.out; have := HJ50.out; have := HJ56.out; omega
             case rel => exact ⟨(y788), (wrap64 (x22_2 + 1)), (wrap64 (x23_2 + 1)), (wrap64 (x24_2 + 1)), qV, qV, qV, H', ⟨by have := HJ6.out; have := HK2.out; have := HJ50.out; have := HJ56.out; omega⟩, ⟨qR HO_16⟩, ⟨qR HO_18⟩, ⟨qR HO_20⟩, ⟨qB BK745⟩, ⟨qS1 HB GE745⟩⟩
            ·replace c70 := Bool.eq_false_iff.mpr c70
             (subst c70); (have H1 : (spec_SessPair.l0 kj56 t769 t774 y786 t784 (wrap64 (x22_2 + 1)) x23_2 (wrap64 (x24_2 + 1))) = some (r1, r2) := by rw [if_neg (show ¬ (false = true) by decide)] at H; exact H); clear H; (have H := H1); clear H1; (have H' := Aside0.mk H); clear H; (obtain ⟨Ao80, co80, eo80⟩ := Kd.R_slice HO_16.out); (subst eo80); (have p785 : 0 ≤ (x22_2 : Int) := qO); (have q785 : x22_2 < (t769.length : Int) := qO); (obtain ⟨ad785, e785, hx785_0⟩ := Kd.at_int (Kd.R_reads' HO_16.out).2.2 x22_2 p785 q785)
             cases e785
             (replace p785 := eq_true p785); (replace q785 := eq_true q785); (have p69 : 0 ≤ (x24_2 : Int) := qO); (have q69 : (x24_2 : Int) < ((x20_2.length : Int) : Int) := qO); (obtain ⟨go69, co69, eo69, gb69, gl69, cl69, HG69⟩ := Kd.R_form HO_20.out (by omega))
             (first | cases eo69 | (injection eo69 with ea_ en_ ec_; (first | subst ea_ | (injection ea_ with ea_; subst ea_)); subst ec_; clear en_))
             (have GB69 := Aside0.mk gb69); (have GG69 := Aside0.mk HG69); clear gb69 gl69 HG69; (obtain ⟨hx69_0, hf69_0⟩ := Kd.R_celln 0 HO_20.out (x24_2 : Int) p69 q69); (replace p69 := eq_true p69); (replace q69 := eq_true q69); (have HP81 := Kd.R_putg HO_20.out (x24_2 : Int) (rd t769 x22_2))
             go_wp2_with (first | ((with_reducible refine gate_store (t := 3) (p := 151) rfl ?_); refine store_event (t := 3) (p := 151) (v := ?vo_w82) (w1 := (wc.setCell ⟨go69, (x24_2 : Int).toNat, none⟩ (.int .i64 (rd t769 x22_2)))) ?hg ?ho ?hn ?hr ?_; (case ho => rfl); (case hg => rfl); (case hn => rfl); (case hr => first | (go_simp; done) | (go_simp; rfl)); intro w82 hw; have hg : wc.grownBy w82 (some go69) := (by rw [hw]; exact HP81.2); have hp_ : Kd.R (Kd.int .i64) 3 w82 w.heap.size (fun k_ => some k_ ≠ (.slice (some ad785) t769.length co80 : Value).ownBlock ∧ some k_ ≠ (v776 : Value).ownBlock) (.slice (some ⟨go69, 0, none⟩) x20_2.length co52) y786 := (by rw [hw, Ny786.out]; exact HP81.1); clear HP81; replace HO_16 := Aside0.mk (Kd.R_after (v := (.slice (some ⟨go69, 0, none⟩) x20_2.length co52)) (v1 := (.slice (some ⟨go69, 0, none⟩) x20_2.length co52)) (ok := (fun k_ => some k_ ≠ (v776 : Value).ownBlock)) (qR HO_16) hg (.inl rfl)); replace HO_18 := Aside0.mk (Kd.R_after (v := (.slice (some ⟨go69, 0, none⟩) x20_2.length co52)) (v1 := (.slice (some ⟨go69, 0, none⟩) x20_2.length co52)) (ok := (fun k_ => some k_ ≠ (.slice (some ad785) t769.length co80 : Value).ownBlock)) (qR HO_18) hg (.inl rfl)); replace BK745 := Aside0.mk (blk_grown (qB BK745) hg (Kd.R_ne HO_20.out BK745.out (by decide))); replace HO_20 := Aside0.mk (hp_); replace HB := Aside0.mk ((by rw [hw]; exact below_set (HB.out) GB69.out : Below w.heap.size w w82)); clear hg hw hp_))
             go_roundg kj56
             case measure => have := HJ6.out; have := HK2.out; have := HJ50.out; have := HJ56.out; omega
             case rel => exact ⟨(y786), (wrap64 (x22_2 + 1)), (x23_2), (wrap64 (x24_2 + 1)), qV, qV, qV, H', ⟨by have := HJ6.out; have := HK2.out; have := HJ50.out; have := HJ56.out; omega⟩, ⟨qR HO_16⟩, ⟨qR HO_18⟩, ⟨qR HO_20⟩, ⟨qB BK745⟩, ⟨qS1 HB GE745⟩⟩
           ·replace c64 := Bool.eq_false_iff.mpr c64
            (subst c64); (have H1 : (if x26_56 = true then (if 0 ≤ x23_2 then (if x23_2 < (t774.length : Int) then (if 0 ≤ x24_2 then (if x24_2 < (x20_2.length : Int) then (spec_SessPair.l0 kj56 t769 t774 (x20_2.set (x24_2 : Int).toNat (rd t774 x23_2)) t784 x22_2 (wrap64 (x23_2 + 1)) (wrap64 (x24_2 + 1))) else (none)) else (none)) else (none)) else (none)) else (spec_SessPair.l0 kj56 t769 t774 x20_2 t784 x22_2 x23_2 (wrap64 (x24_2 + 1)))) = some (r1, r2) := by rw [if_neg (show ¬ (false = true) by decide)] at H; exact H); clear H; (have H := H1); clear H1
            by_cases c83 : x26_56 = true
            ·subst c83
             (have H1 : (if 0 ≤ x23_2 then (if x23_2 < (t774.length : Int) then (if 0 ≤ x24_2 then (if x24_2 < (x20_2.length : Int) then (spec_SessPair.l0 kj56 t769 t774 (x20_2.set (x24_2 : Int).toNat (rd t774 x23_2)) t784 x22_2 (wrap64 (x23_2 + 1)) (wrap64 (x24_2 + 1))) else (none)) else (none)) else (none)) else (none)) = some (r1, r2) := by rw [if_pos rfl] at H; exact H); clear H; (have H := H1); clear H1; (obtain ⟨c84b0, H⟩ := qT H); (obtain ⟨c85b0, H⟩ := qT H); (obtain ⟨c86b0, H⟩ := qT H); (obtain ⟨c87b0, H⟩ := qT H); (obtain ⟨y790, hy790⟩ : ∃ y_ : List Int, y_ = (x20_2.set (x24_2 : Int).toNat (rd t774 x23_2)) := ⟨_, rfl⟩); (replace H : (spec_SessPair.l0 kj56 t769 t774 y790 t784 x22_2 (wrap64 (x23_2 + 1)) (wrap64 (x24_2 + 1))) = some (r1, r2) := qY hy790 H); (have Ny790 := Aside0.mk hy790); clear hy790; (have H' := Aside0.mk H); clear H; (obtain ⟨Ao89, co89, eo89⟩ := Kd.R_slice HO_18.out); (subst eo89); (have p789 : 0 ≤ (x23_2 : Int) := qO); (have q789 : x23_2 < (t774.length : Int) := qO); (obtain ⟨ad789, e789, hx789_0⟩ := Kd.at_int (Kd.R_reads' HO_18.out).2.2 x23_2 p789 q789)
             cases e789
             (replace p789 := eq_true p789); (replace q789 := eq_true q789); (have p88 : 0 ≤ (x24_2 : Int) := qO); (have q88 : (x24_2 : Int) < ((x20_2.length : Int) : Int) := qO); (obtain ⟨go88, co88, eo88, gb88, gl88, cl88, HG88⟩ := Kd.R_form HO_20.out (by omega))
             (first | cases eo88 | (injection eo88 with ea_ en_ ec_; (first | subst ea_ | (injection ea_ with ea_; subst ea_)); subst ec_; clear en_))
             (have GB88 := Aside0.mk gb88); (have GG88 := Aside0.mk HG88); clear gb88 gl88 HG88; (obtain ⟨hx88_0, hf88_0⟩ := Kd.R_celln 0 HO_20.out (x24_2 : Int) p88 q88); (replace p88 := eq_true p88); (replace q88 := eq_true q88); (have HP90 := Kd.R_putg HO_20.out (x24_2 : Int) (rd t774 x23_2))
             go_wp2_with (first | ((with_reducible refine gate_store (t := 3) (p := 161) rfl ?_); refine store_event (t := 3) (p := 161) (v := ?vo_w91) (w1 := (wc.setCell ⟨go88, (x24_2 : Int).toNat, none⟩ (.int .i64 (rd t774 x23_2)))) ?hg ?ho ?hn ?hr ?_; (case ho => rfl); (case hg => rfl); (case hn => rfl); (case hr => first | (go_simp; done) | (go_simp; rfl)); intro w91 hw; have hg : wc.grownBy w91 (some go88) := (by rw [hw]; exact HP90.2); have hp_ : Kd.R (Kd.int .i64) 3 w91 w.heap.size (fun k_ => some k_ ≠ (v771 : Value).ownBlock ∧ some k_ ≠ (.slice (some ad789) t774.length co89 : Value).ownBlock) (.slice (some ⟨go88, 0, none⟩) x20_2.length co52) y790 := (by rw [hw, Ny790.out]; exact HP90.1); clear HP90; replace HO_16 := Aside0.mk (Kd.R_after (v := (.slice (some ⟨go88, 0, none⟩) x20_2.length co52)) (v1 := (.slice (some ⟨go88, 0, none⟩) x20_2.length co52)) (ok := (fun k_ => some k_ ≠ (.slice (some ad789) t774.length co89 : Value).ownBlock)) (qR HO_16) hg (.inl rfl)); replace HO_18 := Aside0.mk (Kd.R_after (v := (.slice (some ⟨go88, 0, none⟩) x20_2.length co52)) (v1 := (.slice (some ⟨go88, 0, none⟩) x20_2.length co52)) (ok := (fun k_ => some k_ ≠ (v771 : Value).ownBlock)) (qR HO_18) hg (.inl rfl)); replace BK745 := Aside0.mk (blk_grown (qB BK745) hg (Kd.R_ne HO_20.out BK745.out (by decide))); replace HO_20 := Aside0.mk (hp_); replace HB := Aside0.mk ((by rw [hw]; exact below_set (HB.out) GB88.out : Below w.heap.size w w91)); clear hg hw hp_))
             go_roundg kj56
             case measure => have := HJ6.out; have := HK2.out; have := HJ50.out; have := HJ56.out; omega
             case rel => exact ⟨(y790), (x22_2), (wrap64 (x23_2 + 1)), (wrap64 (x24_2 + 1)), qV, qV, qV, H', ⟨by have := HJ6.out; have := HK2.out; have := HJ50.out; have := HJ56.out; omega⟩, ⟨qR HO_16⟩, ⟨qR HO_18⟩, ⟨qR HO_20⟩, ⟨qB BK745⟩, ⟨qS1 HB GE745⟩⟩
            ·replace c83 := Bool.eq_false_iff.mpr c83
             (subst c83); (have H1 : (spec_SessPair.l0 kj56 t769 t774 x20_2 t784 x22_2 x23_2 (wrap64 (x24_2 + 1))) = some (r1, r2) := by rw [if_neg (show ¬ (false = true) by decide)] at H; exact H); clear H; (have H := H1); clear H1; (have H' := Aside0.mk H); clear H
             go_wp2
             go_roundg kj56
             case measure => have := HJ6.out; have := HK2.out; have := HJ50.out; have := HJ56.out; omega
             case rel => exact ⟨(x20_2), (x22_2), (x23_2), (wrap64 (x24_2 + 1)), qV, qV, qV, H', ⟨by have := HJ6.out; have := HK2.out; have := HJ50.out; have := HJ56.out; omega⟩, ⟨qR HO_16⟩, ⟨qR HO_18⟩, ⟨qR HO_20⟩, ⟨qB BK745⟩, ⟨qS1 HB GE745⟩⟩
      ·simp only [Option.some.injEq, Prod.mk.injEq] at H
       (obtain ⟨rfl, rfl⟩ := H); (obtain ⟨Ao92, co92, eo92⟩ := Kd.R_slice HO_20.out); (subst eo92)
       go_wp2
       go_ret2
       exact ⟨_, qE, by (with_reducible repeat (first | apply Kd.R_alloc | apply Kd.R_drewN | apply Kd.R_drew)); exact Kd.R_mono HO_20.out (fun _ hk => trivial), qS1 HB GE745⟩
def impl_within.f (a0 : Int) (a1 : Int) (a2 : Int) : Option (Bool) := if a0 ≥ a1 then (some (decide (a0 ≤ a2))) else (some false)
theorem impl_within.calls (a0 : Int) (a1 : Int) (a2 : Int) (r : Bool) (w : World) (h : impl_within.f a0 a1 a2 = some r) :
  Calls Tryz.prog 61 #[.int .i64 a0, .int .i64 a1, .int .i64 a2] w fun e w' => e = .returned (.bool r) ∧ Drawn0 w w' := by
 (have H : (if a0 ≥ a1 then (some (decide (a0 ≤ a2))) else (some false)) = some r := h); clear h
 rcases qI H with ⟨(c4b0 : decide (a1 ≤ a0) = true), H⟩ | ⟨(c4b0 : decide (a1 ≤ a0) = false), H⟩
 ·obtain rfl := Option.some.inj H
  go_enter Tryz.func61, Tryz.ntmps61
  go_wp2
  go_ret
  exact qZ
 ·obtain rfl := Option.some.inj H
  go_enter Tryz.func61, Tryz.ntmps61
  go_wp2
  go_ret
  exact qZ
def impl_isDeepLog.f (a0 : Int) : Option (Bool) := (impl_within.f a0 2 6).bind fun t349 => (some t349)
theorem impl_isDeepLog.calls (a0 : Int) (r : Bool) (w : World) (h : impl_isDeepLog.f a0 = some r) :
  Calls Tryz.prog 62 #[.int .i64 a0] w fun e w' => e = .returned (.bool r) ∧ Drawn0 w w' := by
 (have H : ((impl_within.f a0 2 6).bind fun t349 => (some t349)) = some r := h); clear h; (obtain ⟨t349, A2, H⟩ := qX H); (replace H : (some t349) = some r := H); (obtain rfl := Option.some.inj H)
 go_enter Tryz.func62, Tryz.ntmps62
 go_wp2_with (first | ((with_reducible refine gate_callee (f := 61) rfl ?_); refine goesL_ (some 4) rfl rfl Tryz.func61 (by kernel_rfl) rfl #[.int .i64 a0, .int .i64 2, .int .i64 6] rfl qL ?_; (with_reducible refine (impl_within.calls a0 2 6 t349 _ A2.out).mono ?_); rintro e w' ⟨rfl, ⟨nd, rfl⟩⟩; refine ⟨_, rfl, ?_⟩))
 go_ret
 exact qZ
def impl_isConf.f (a0_0 : Int) (a0_1 : Int) (a0_2 : Int) (a0_3 : Int) : Option (Bool) := (impl_within.f a0_0 0 4294967295).bind fun t351 => (if t351 = true then ((impl_isDeepLog.f a0_1).bind fun t352 => (if t352 = true then ((impl_within.f a0_2 0 64).bind fun t353 => (if t353 = true then ((impl_within.f a0_3 1 64).bind fun t354 => (some t354)) else (some false))) else (some false))) else (some false))
theorem impl_isConf.calls (a0_0 : Int) (a0_1 : Int) (a0_2 : Int) (a0_3 : Int) (r : Bool) (w : World) (h : impl_isConf.f a0_0 a0_1 a0_2 a0_3 = some r) :
  Calls Tryz.prog 33 #[.agg #[.int .i64 a0_0, .int .i64 a0_1, .int .i64 a0_2, .int .i64 a0_3]] w fun e w' => e = .returned (.bool r) ∧ Below w.heap.size w w' := by
 (have hu29 := Tryz.underlying29); (have HB := Aside0.mk (Below.refl w.heap.size w)); (have H : ((impl_within.f a0_0 0 4294967295).bind fun t351 => (if t351 = true then ((impl_isDeepLog.f a0_1).bind fun t352 => (if t352 = true then ((impl_within.f a0_2 0 64).bind fun t353 => (if t353 = true then ((impl_within.f a0_3 1 64).bind fun t354 => (some t354)) else (some false))) else (some false))) else (some false))) = some r := h); clear h; (obtain ⟨t351, A2, H⟩ := qX H)
 try dsimp only at H
 by_cases c3 : t351 = true
 ·subst c3
  (have H1 : ((impl_isDeepLog.f a0_1).bind fun t352 => (if t352 = true then ((impl_within.f a0_2 0 64).bind fun t353 => (if t353 = true then ((impl_within.f a0_3 1 64).bind fun t354 => (some t354)) else (some false))) else (some false))) = some r := by rw [if_pos rfl] at H; exact H); clear H; (have H := H1); clear H1; (obtain ⟨t352, A4, H⟩ := qX H)
  try dsimp only at H
  by_cases c5 : t352 = true
  ·subst c5
   (have H1 : ((impl_within.f a0_2 0 64).bind fun t353 => (if t353 = true then ((impl_within.f a0_3 1 64).bind fun t354 => (some t354)) else (some false))) = some r := by rw [if_pos rfl] at H; exact H); clear H; (have H := H1); clear H1; (obtain ⟨t353, A6, H⟩ := qX H)
   try dsimp only at H
   by_cases c7 : t353 = true
   ·subst c7
    (have H1 : ((impl_within.f a0_3 1 64).bind fun t354 => (some t354)) = some r := by rw [if_pos rfl] at H; exact H); clear H; (have H := H1); clear H1; (obtain ⟨t354, A8, H⟩ := qX H); (replace H : (some t354) = some r := H); (obtain rfl := Option.some.inj H)
    go_enter Tryz.func33, Tryz.ntmps33
    go_wp2_with (first | ((with_reducible refine gate_dst (N := 1) rfl ?_); refine box_event ?hg (N := 1) ?hd (cs := #[.int .i64 a0_0, .int .i64 a0_1, .int .i64 a0_2, .int .i64 a0_3]) (t := 29) ?hr ?_; (case hd => rfl); (case hg => rfl); (case hr => first | (go_simp; done) | (go_simp; rfl)); intro gb350 hg w9 hbox hb; have BK350 := Aside0.mk (hbox); have GW350 := qG hg (below_size (qS0 HB)); have GE350 := qG hg (below_size (qS0 HB)); replace HB := Aside0.mk (below_step (qS0 HB) hb); clear hb hbox hg; obtain ⟨hcz10_0, hcz10_1, hcz10_2, hcz10_3, hfz10_0, hfz10_1, hfz10_2, hfz10_3⟩ := qC4 BK350) | ((with_reducible refine gate_callee (f := 61) rfl ?_); refine goesL_ (some 5) rfl rfl Tryz.func61 (by kernel_rfl) rfl #[.int .i64 a0_0, .int .i64 0, .int .i64 4294967295] rfl qL ?_; (with_reducible refine (impl_within.calls a0_0 0 4294967295 true _ A2.out).mono ?_); rintro e w' ⟨rfl, ⟨nd, rfl⟩⟩; refine ⟨_, rfl, ?_⟩) | (go_at_call 62; (with_reducible refine (impl_isDeepLog.calls a0_1 true _ A4.out).mono ?_); rintro e w' ⟨rfl, ⟨nd, rfl⟩⟩) | (go_at_call 61; (with_reducible refine (impl_within.calls a0_2 0 64 true _ A6.out).mono ?_); rintro e w' ⟨rfl, ⟨nd, rfl⟩⟩) | (go_at_call 61; (with_reducible refine (impl_within.calls a0_3 1 64 t354 _ A8.out).mono ?_); rintro e w' ⟨rfl, ⟨nd, rfl⟩⟩))
    go_ret
    exact ⟨qE, qS1 HB GE350⟩
   ·replace c7 := Bool.eq_false_iff.mpr c7
    (subst c7); (have H1 : (some false) = some r := by rw [if_neg (show ¬ (false = true) by decide)] at H; exact H); clear H; (have H := H1); clear H1; (obtain rfl := Option.some.inj H)
    go_enter Tryz.func33, Tryz.ntmps33
    go_wp2_with (first | ((with_reducible refine gate_dst (N := 1) rfl ?_); refine box_event ?hg (N := 1) ?hd (cs := #[.int .i64 a0_0, .int .i64 a0_1, .int .i64 a0_2, .int .i64 a0_3]) (t := 29) ?hr ?_; (case hd => rfl); (case hg => rfl); (case hr => first | (go_simp; done) | (go_simp; rfl)); intro gb350 hg w11 hbox hb; have BK350 := Aside0.mk (hbox); have GW350 := qG hg (below_size (qS0 HB)); have GE350 := qG hg (below_size (qS0 HB)); replace HB := Aside0.mk (below_step (qS0 HB) hb); clear hb hbox hg; obtain ⟨hcz12_0, hcz12_1, hcz12_2, hcz12_3, hfz12_0, hfz12_1, hfz12_2, hfz12_3⟩ := qC4 BK350) | ((with_reducible refine gate_callee (f := 61) rfl ?_); refine goesL_ (some 5) rfl rfl Tryz.func61 (by kernel_rfl) rfl #[.int .i64 a0_0, .int .i64 0, .int .i64 4294967295] rfl qL ?_; (with_reducible refine (impl_within.calls a0_0 0 4294967295 true _ A2.out).mono ?_); rintro e w' ⟨rfl, ⟨nd, rfl⟩⟩; refine ⟨_, rfl, ?_⟩) | (go_at_call 62; (with_reducible refine (impl_isDeepLog.calls a0_1 true _ A4.out).mono ?_); rintro e w' ⟨rfl, ⟨nd, rfl⟩⟩) | (go_at_call 61; (with_reducible refine (impl_within.calls a0_2 0 64 false _ A6.out).mono ?_); rintro e w' ⟨rfl, ⟨nd, rfl⟩⟩))
    go_ret
    exact ⟨qE, qS1 HB GE350⟩
  ·replace c5 := Bool.eq_false_iff.mpr c5
   (subst c5); (have H1 : (some false) = some r := by rw [if_neg (show ¬ (false = true) by decide)] at H; exact H); clear H; (have H := H1); clear H1; (obtain rfl := Option.some.inj H)
   go_enter Tryz.func33, Tryz.ntmps33
   go_wp2_with (first | ((with_reducible refine gate_dst (N := 1) rfl ?_); refine box_event ?hg (N := 1) ?hd (cs := #[.int .i64 a0_0, .int .i64 a0_1, .int .i64 a0_2, .int .i64 a0_3]) (t := 29) ?hr ?_; (case hd => rfl); (case hg => rfl); (case hr => first | (go_simp; done) | (go_simp; rfl)); intro gb350 hg w13 hbox hb; have BK350 := Aside0.mk (hbox); have GW350 := qG hg (below_size (qS0 HB)); have GE350 := qG hg (below_size (qS0 HB)); replace HB := Aside0.mk (below_step (qS0 HB) hb); clear hb hbox hg; obtain ⟨hcz14_0, hcz14_1, hcz14_2, hcz14_3, hfz14_0, hfz14_1, hfz14_2, hfz14_3⟩ := qC4 BK350) | ((with_reducible refine gate_callee (f := 61) rfl ?_); refine goesL_ (some 5) rfl rfl Tryz.func61 (by kernel_rfl) rfl #[.int .i64 a0_0, .int .i64 0, .int .i64 4294967295] rfl qL ?_; (with_reducible refine (impl_within.calls a0_0 0 4294967295 true _ A2.out).mono ?_); rintro e w' ⟨rfl, ⟨nd, rfl⟩⟩; refine ⟨_, rfl, ?_⟩) | (go_at_call 62; (with_reducible refine (impl_isDeepLog.calls a0_1 false _ A4.out).mono ?_); rintro e w' ⟨rfl, ⟨nd, rfl⟩⟩))
   go_ret
   exact ⟨qE, qS1 HB GE350⟩
 ·replace c3 := Bool.eq_false_iff.mpr c3
  (subst c3); (have H1 : (some false) = some r := by rw [if_neg (show ¬ (false = true) by decide)] at H; exact H); clear H; (have H := H1); clear H1; (obtain rfl := Option.some.inj H)
  go_enter Tryz.func33, Tryz.ntmps33
  go_wp2_with (first | ((with_reducible refine gate_dst (N := 1) rfl ?_); refine box_event ?hg (N := 1) ?hd (cs := #[.int .i64 a0_0, .int .i64 a0_1, .int .i64 a0_2, .int .i64 a0_3]) (t := 29) ?hr ?_; (case hd => rfl); (case hg => rfl); (case hr => first | (go_simp; done) | (go_simp; rfl)); intro gb350 hg w15 hbox hb; have BK350 := Aside0.mk (hbox); have GW350 := qG hg (below_size (qS0 HB)); have GE350 := qG hg (below_size (qS0 HB)); replace HB := Aside0.mk (below_step (qS0 HB) hb); clear hb hbox hg; obtain ⟨hcz16_0, hcz16_1, hcz16_2, hcz16_3, hfz16_0, hfz16_1, hfz16_2, hfz16_3⟩ := qC4 BK350) | ((with_reducible refine gate_callee (f := 61) rfl ?_); refine goesL_ (some 5) rfl rfl Tryz.func61 (by kernel_rfl) rfl #[.int .i64 a0_0, .int .i64 0, .int .i64 4294967295] rfl qL ?_; (with_reducible refine (impl_within.calls a0_0 0 4294967295 false _ A2.out).mono ?_); rintro e w' ⟨rfl, ⟨nd, rfl⟩⟩; refine ⟨_, rfl, ?_⟩))
  go_ret
  exact ⟨qE, qS1 HB GE350⟩
def idxF {α : Type} (p : α → Option Bool) : List α → Nat → Option Int
 | [], _ => some (-1)
 | x :: xs, i => (p x).bind fun b => if b = true then some (i : Int) else idxF p xs (i + 1)
theorem idxF_at {α : Type} (p : α → Option Bool) (l : List α) (i j : Nat) (hj : j < l.length) : idxF p (l.drop j) i = (p (l[j]'hj)).bind fun b => if b = true then some (i : Int) else idxF p (l.drop (j + 1)) (i + 1) := by
 rw [List.drop_eq_getElem_cons hj]; rfl
def contF {α : Type} (p : α → Option Bool) (l : List α) : Option Bool := (idxF p l 0).bind fun i => some (decide (0 ≤ i))
theorem idx_56 (p : S56 → Option Bool) (g : Nat) (lb : Array Value) (eg : ∀ args w, (callFunc g args).run Tryz.prog w = .ok (.enter g args) w) (A0 : Option Addr) (c0 : Nat) (l0 : List S56) (r : Int) (w : World) (hr0 : Kd.C k56 w A0 l0.length l0)
  (hp : ∀ (W : World) (x : S56) (b : Bool), Below w.heap.size w W → x ∈ l0 → p x = some b → Calls Tryz.prog g (#[.agg #[.int .i64 x.f0, .string x.f1, .int .i64 x.f2, .int .i64 x.f3, .int .i64 x.f4, .int .i64 x.f5, .string x.f6]] ++ lb) W fun e w' => e = .returned (.bool b) ∧ Below W.heap.size W w')
  (h : idxF p l0 0 = some r) :
  Calls Tryz.prog 104 #[.slice A0 l0.length c0, .func (.func g) #[] lb] w fun e w' => e = .returned (.int .i64 r) ∧ Below w.heap.size w w' := by
 (have hu := Tryz.underlying56); (have HR0 := Aside0.mk hr0); (have HP := Aside0.mk hp); (have hlen : l0.length ≤ 9223372036854775807 := hr0.2.1); clear hr0 hp; (have H' := Aside0.mk h); clear h
 go_enter Tryz.func104, Tryz.ntmps104
 go_wp2
 go_loopg [5, 8] l0.length (fun gg _ s8 wr => ∃ kk : Nat, kk ≤ l0.length ∧ l0.length - kk ≤ gg ∧ s8 = .int .i64 kk ∧ Aside0 (Below w.heap.size w wr) ∧ Aside0 (idxF p (l0.drop kk) kk = some r))
 case atStart => exact ⟨0, Nat.zero_le _, by omega, rfl, ⟨Below.refl _ w⟩, by simpa using H'⟩
 case round =>
  clear H'; (obtain ⟨kk, hkk, hg, rfl, BW, A⟩ := hrel)
  by_cases hlt : kk < l0.length
  ·have hltz : decide ((kk : Int) < (l0.length : Int)) = true := decide_eq_true (by omega)
   (have A1 := A.out); (rw [idxF_at p l0 kk kk hlt] at A1); clear A; (obtain ⟨b, hb, A2⟩ := Option.bind_eq_some_iff.mp A1); clear A1; (have hmem : l0[kk] ∈ l0 := List.getElem_mem hlt); (have hcall := HP.out wr l0[kk] b BW.out hmem hb); (obtain ⟨ad1, cs1, e1, hl1, hK1, hcell1⟩ := Kd.C_get HR0.out l0[kk] (kk : Int) (by omega) (by omega)); (have hget : l0.getD ((kk : Int)).toNat l0[kk] = l0[kk] := by simp [List.getD, hlt]); (rw [hget] at hK1); clear hget; (obtain rfl := k56_open hK1); (have hx0 := hcell1 0 _ rfl); (rw [show (k56).sz = 7 from rfl, Int.toNat_natCast, Nat.add_zero] at hx0); (have hx1 := hcell1 1 _ rfl); (rw [show (k56).sz = 7 from rfl, Int.toNat_natCast, add_field _ _ 1 (by omega)] at hx1); (have hx2 := hcell1 2 _ rfl); (rw [show (k56).sz = 7 from rfl, Int.toNat_natCast, add_field _ _ 2 (by omega)] at hx2); (have hx3 := hcell1 3 _ rfl); (rw [show (k56).sz = 7 from rfl, Int.toNat_natCast, add_field _ _ 3 (by omega)] at hx3); (have hx4 := hcell1 4 _ rfl); (rw [show (k56).sz = 7 from rfl, Int.toNat_natCast, add_field _ _ 4 (by omega)] at hx4); (have hx5 := hcell1 5 _ rfl); (rw [show (k56).sz = 7 from rfl, Int.toNat_natCast, add_field _ _ 5 (by omega)] at hx5); (have hx6 := hcell1 6 _ rfl); (rw [show (k56).sz = 7 from rfl, Int.toNat_natCast, add_field _ _ 6 (by omega)] at hx6)
   cases e1
   (try clear hK1); clear hl1 hcell1; (replace hx0 := qF BW hx0); (replace hx1 := qF BW hx1); (replace hx2 := qF BW hx2); (replace hx3 := qF BW hx3); (replace hx4 := qF BW hx4); (replace hx5 := qF BW hx5); (replace hx6 := qF BW hx6); clear hmem hb
   generalize l0[kk] = y at hcall hx0 hx1 hx2 hx3 hx4 hx5 hx6
   cases b with
   | true =>
    (obtain rfl : (kk : Int) = r := by simpa using A2); clear A2
    go_wp2_with (go_at_fn g; refine hcall.mono ?_; rintro e w' ⟨rfl, hb'⟩)
    go_ret
    exact ⟨rfl, below_then BW.out BW.out.size hb'⟩
   | false =>
    (have A3 : Aside0 (idxF p (l0.drop (kk + 1)) (kk + 1) = some r) := ⟨by simpa using A2⟩); clear A2
    go_wp2_with (go_at_fn g; refine hcall.mono ?_; rintro e w' ⟨rfl, hb'⟩)
    go_roundg (l0.length - (kk + 1))
    case measure => omega
    case rel => exact ⟨kk + 1, by omega, by omega, by go_num, ⟨below_then BW.out BW.out.size hb'⟩, A3⟩
  ·have hltz : decide ((kk : Int) < (l0.length : Int)) = false := decide_eq_false (by omega)
   obtain rfl : -1 = r := by
    (have A1 := A.out); (rw [show kk = l0.length by omega] at A1)
    simpa [idxF] using A1
   clear A
   go_wp2
   go_ret
   exact ⟨rfl, BW.out⟩
theorem idx_3 (p : Int → Option Bool) (g : Nat) (lb : Array Value) (eg : ∀ args w, (callFunc g args).run Tryz.prog w = .ok (.enter g args) w) (A0 : Option Addr) (c0 : Nat) (l0 : List Int) (r : Int) (w : World) (hr0 : Kd.C (Kd.int .i64) w A0 l0.length l0)
  (hp : ∀ (W : World) (x : Int) (b : Bool), Below w.heap.size w W → x ∈ l0 → p x = some b → Calls Tryz.prog g (#[.int .i64 x] ++ lb) W fun e w' => e = .returned (.bool b) ∧ Below W.heap.size W w')
  (h : idxF p l0 0 = some r) :
  Calls Tryz.prog 106 #[.slice A0 l0.length c0, .func (.func g) #[] lb] w fun e w' => e = .returned (.int .i64 r) ∧ Below w.heap.size w w' := by
 (have hu := Tryz.underlying3); (have HR0 := Aside0.mk hr0); (have HP := Aside0.mk hp); (have hlen : l0.length ≤ 9223372036854775807 := hr0.2.1); clear hr0 hp; (have H' := Aside0.mk h); clear h
 go_enter Tryz.func106, Tryz.ntmps106
 go_wp2
 go_loopg [5, 8] l0.length (fun gg _ s8 wr => ∃ kk : Nat, kk ≤ l0.length ∧ l0.length - kk ≤ gg ∧ s8 = .int .i64 kk ∧ Aside0 (Below w.heap.size w wr) ∧ Aside0 (idxF p (l0.drop kk) kk = some r))
 case atStart => exact ⟨0, Nat.zero_le _, by omega, rfl, ⟨Below.refl _ w⟩, by simpa using H'⟩
 case round =>
  clear H'; (obtain ⟨kk, hkk, hg, rfl, BW, A⟩ := hrel)
  by_cases hlt : kk < l0.length
  ·have hltz : decide ((kk : Int) < (l0.length : Int)) = true := decide_eq_true (by omega)
   (have A1 := A.out); (rw [idxF_at p l0 kk kk hlt] at A1); clear A; (obtain ⟨b, hb, A2⟩ := Option.bind_eq_some_iff.mp A1); clear A1; (have hmem : l0[kk] ∈ l0 := List.getElem_mem hlt); (have hcall := HP.out wr l0[kk] b BW.out hmem hb); (obtain ⟨ad1, cs1, e1, hl1, hK1, hcell1⟩ := Kd.C_get HR0.out l0[kk] (kk : Int) (by omega) (by omega)); (have hget : l0.getD ((kk : Int)).toNat l0[kk] = l0[kk] := by simp [List.getD, hlt]); (rw [hget] at hK1); clear hget; (obtain rfl : cs1 = [.int .i64 (l0[kk])] := hK1); (have hx0 := hcell1 0 _ rfl); (simp only [show ((Kd.int .i64)).sz = 1 from rfl, Nat.mul_one, Nat.add_zero, Int.toNat_natCast] at hx0)
   cases e1
   (try clear hK1); clear hl1 hcell1; (replace hx0 := qF BW hx0); clear hmem hb
   generalize l0[kk] = y at hcall hx0
   cases b with
   | true =>
    (obtain rfl : (kk : Int) = r := by simpa using A2); clear A2
    go_wp2_with (go_at_fn g; refine hcall.mono ?_; rintro e w' ⟨rfl, hb'⟩)
    go_ret
    exact ⟨rfl, below_then BW.out BW.out.size hb'⟩
   | false =>
    (have A3 : Aside0 (idxF p (l0.drop (kk + 1)) (kk + 1) = some r) := ⟨by simpa using A2⟩); clear A2
    go_wp2_with (go_at_fn g; refine hcall.mono ?_; rintro e w' ⟨rfl, hb'⟩)
    go_roundg (l0.length - (kk + 1))
    case measure => omega
    case rel => exact ⟨kk + 1, by omega, by omega, by go_num, ⟨below_then BW.out BW.out.size hb'⟩, A3⟩
  ·have hltz : decide ((kk : Int) < (l0.length : Int)) = false := decide_eq_false (by omega)
   obtain rfl : -1 = r := by
    (have A1 := A.out); (rw [show kk = l0.length by omega] at A1)
    simpa [idxF] using A1
   clear A
   go_wp2
   go_ret
   exact ⟨rfl, BW.out⟩
theorem cont_3 (p : Int → Option Bool) (g : Nat) (lb : Array Value) (eg : ∀ args w, (callFunc g args).run Tryz.prog w = .ok (.enter g args) w) (A0 : Option Addr) (c0 : Nat) (l0 : List Int) (r : Bool) (w : World) (hr0 : Kd.C (Kd.int .i64) w A0 l0.length l0)
  (hp : ∀ (W : World) (x : Int) (b : Bool), Below w.heap.size w W → x ∈ l0 → p x = some b → Calls Tryz.prog g (#[.int .i64 x] ++ lb) W fun e w' => e = .returned (.bool b) ∧ Below W.heap.size W w')
  (h : contF p l0 = some r) :
  Calls Tryz.prog 66 #[.slice A0 l0.length c0, .func (.func g) #[] lb] w fun e w' => e = .returned (.bool r) ∧ Below w.heap.size w w' := by
 (obtain ⟨i, hi, h2⟩ := Option.bind_eq_some_iff.mp h); (obtain rfl : decide (0 ≤ i) = r := by simpa using h2); clear h h2; (have HI := idx_3 p g lb eg A0 c0 l0 i w hr0 hp hi); clear hi hr0 hp
 go_enter Tryz.func66, Tryz.ntmps66
 go_wp2_with (go_at_call 106; refine HI.mono ?_; rintro e w' ⟨rfl, hb'⟩)
 go_ret
 exact ⟨rfl, hb'⟩
def impl_areDraws_1.f (a0 : Int) : Option (Bool) := (impl_within.f a0 0 65535).bind fun t361 => (some (!t361))
theorem impl_areDraws_1.calls (a0 : Int) (r : Bool) (w : World) (h : impl_areDraws_1.f a0 = some r) :
  Calls Tryz.prog 67 #[.int .i64 a0] w fun e w' => e = .returned (.bool r) ∧ Drawn0 w w' := by
 (have H : ((impl_within.f a0 0 65535).bind fun t361 => (some (!t361))) = some r := h); clear h; (obtain ⟨t361, A2, H⟩ := qX H); (replace H : (some (!t361)) = some r := H); (obtain rfl := Option.some.inj H)
 go_enter Tryz.func67, Tryz.ntmps67
 go_wp2_with (first | ((with_reducible refine gate_callee (f := 61) rfl ?_); refine goesL_ (some 4) rfl rfl Tryz.func61 (by kernel_rfl) rfl #[.int .i64 a0, .int .i64 0, .int .i64 65535] rfl qL ?_; (with_reducible refine (impl_within.calls a0 0 65535 t361 _ A2.out).mono ?_); rintro e w' ⟨rfl, ⟨nd, rfl⟩⟩; refine ⟨_, rfl, ?_⟩))
 go_ret
 exact qZ
theorem impl_areDraws.enters : ∀ args w, (callFunc 67 args).run Tryz.prog w = .ok (.enter 67 args) w := enters_of Tryz.func67 (by kernel_rfl) rfl
def impl_areDraws.f (l0 : List Int) (a1 : Int) : Option Bool := if (l0.length : Int) = a1 then (contF (fun x => impl_areDraws_1.f x) l0).bind fun b => some (!b) else some false
theorem impl_areDraws.calls (A0 : Option Addr) (c0 : Nat) (l0 : List Int) (a1 : Int) (r : Bool) (w : World) (hr0 : Kd.C (Kd.int .i64) w A0 l0.length l0) (hc0 : l0.length ≤ c0) (h : impl_areDraws.f l0 a1 = some r) :
  Calls Tryz.prog 35 #[.slice A0 l0.length c0, .int .i64 a1] w fun e w' => e = .returned (.bool r) ∧ Below w.heap.size w w' := by
 unfold impl_areDraws.f at h
 by_cases c1 : (l0.length : Int) = a1
 ·rw [if_pos c1] at h
  (obtain ⟨b, hb, h2⟩ := Option.bind_eq_some_iff.mp h); (obtain rfl : (!b) = r := by simpa using h2); (have HI := cont_3 (fun x => impl_areDraws_1.f x) 67 #[] impl_areDraws.enters A0 c0 l0 b w hr0 (fun W x b hW hx h => (impl_areDraws_1.calls x _ _ h).mono fun e w' ⟨he, hd⟩ => ⟨he, hd.below⟩) hb); clear h h2 hb hr0 hc0; (have c1b0 : ((l0.length : Int) == a1) = true := by simp [c1]); clear c1
  go_enter Tryz.func35, Tryz.ntmps35
  go_wp2_with (go_at_call 66; refine HI.mono ?_; rintro e w' ⟨rfl, hb'⟩)
  go_ret
  exact ⟨rfl, hb'⟩
 ·rw [if_neg c1] at h
  (obtain rfl := Option.some.inj h); clear h hr0 hc0; (have c1b0 : ((l0.length : Int) == a1) = false := by simp [c1]); clear c1
  go_enter Tryz.func35, Tryz.ntmps35
  go_wp2
  go_ret
  exact ⟨rfl, Below.refl _ _⟩
def impl_isChange.f (a0 : Int) : Option (Bool) := if a0 = 3 then (some true) else (if a0 = 4 then (some true) else (some (a0 == 5)))
theorem impl_isChange.calls (a0 : Int) (r : Bool) (w : World) (h : impl_isChange.f a0 = some r) :
  Calls Tryz.prog 76 #[.int .i64 a0] w fun e w' => e = .returned (.bool r) ∧ Drawn0 w w' := by
 (have H : (if a0 = 3 then (some true) else (if a0 = 4 then (some true) else (some (a0 == 5)))) = some r := h); clear h
 rcases qJ H with ⟨c2, H⟩ | ⟨c2, H⟩
 ·have c2b0 : (a0 == 3) = true := beq_iff_eq.mpr c2
  (have c2b1 : (a0 != 3) = false := bne_eq_false_iff_eq.mpr c2); clear c2; (obtain rfl := Option.some.inj H)
  go_enter Tryz.func76, Tryz.ntmps76
  go_wp2
  go_ret
  exact qZ
 ·have c2b0 : (a0 == 3) = false := beq_eq_false_iff_ne.mpr c2
  have c2b1 : (a0 != 3) = true := bne_iff_ne.mpr c2
  rcases qJ H with ⟨c3, H⟩ | ⟨c3, H⟩
  ·have c3b0 : (a0 == 4) = true := beq_iff_eq.mpr c3
   (have c3b1 : (a0 != 4) = false := bne_eq_false_iff_eq.mpr c3); clear c3; (obtain rfl := Option.some.inj H)
   go_enter Tryz.func76, Tryz.ntmps76
   go_wp2
   go_ret
   exact qZ
  ·have c3b0 : (a0 == 4) = false := beq_eq_false_iff_ne.mpr c3
   (have c3b1 : (a0 != 4) = true := bne_iff_ne.mpr c3); (obtain rfl := Option.some.inj H)
   go_enter Tryz.func76, Tryz.ntmps76
   go_wp2
   go_ret
   exact qZ
def impl_takes.f (a0 : Int) (a1 : Int) : Option (Int) := if a0 = 1 then (some 1) else ((impl_isChange.f a0).bind fun t362 => (if t362 = true then (some 2) else (some a1)))
theorem impl_takes.calls (a0 : Int) (a1 : Int) (r : Int) (w : World) (h : impl_takes.f a0 a1 = some r) :
  Calls Tryz.prog 107 #[.int .i64 a0, .int .i64 a1] w fun e w' => e = .returned (.int .i64 r) ∧ Drawn0 w w' := by
 (have H : (if a0 = 1 then (some 1) else ((impl_isChange.f a0).bind fun t362 => (if t362 = true then (some 2) else (some a1)))) = some r := h); clear h
 rcases qJ H with ⟨c3, H⟩ | ⟨c3, H⟩
 ·have c3b0 : (a0 == 1) = true := beq_iff_eq.mpr c3
  (have c3b1 : (a0 != 1) = false := bne_eq_false_iff_eq.mpr c3); clear c3; (obtain rfl := Option.some.inj H)
  go_enter Tryz.func107, Tryz.ntmps107
  go_wp2
  go_ret
  exact qZ
 ·have c3b0 : (a0 == 1) = false := beq_eq_false_iff_ne.mpr c3
  (have c3b1 : (a0 != 1) = true := bne_iff_ne.mpr c3); (obtain ⟨t362, A4, H⟩ := qX H); (replace H : (if t362 = true then (some 2) else (some a1)) = some r := H)
  by_cases c5 : t362 = true
  ·subst c5
   (have H1 : (some 2) = some r := by rw [if_pos rfl] at H; exact H); clear H; (have H := H1); clear H1; (obtain rfl := Option.some.inj H)
   go_enter Tryz.func107, Tryz.ntmps107
   go_wp2_with (first | ((with_reducible refine gate_callee (f := 76) rfl ?_); refine goesL_ (some 10) rfl rfl Tryz.func76 (by kernel_rfl) rfl #[.int .i64 a0] rfl qL ?_; (with_reducible refine (impl_isChange.calls a0 true _ A4.out).mono ?_); rintro e w' ⟨rfl, ⟨nd, rfl⟩⟩; refine ⟨_, rfl, ?_⟩))
   go_ret
   exact qZ
  ·replace c5 := Bool.eq_false_iff.mpr c5
   (subst c5); (have H1 : (some a1) = some r := by rw [if_neg (show ¬ (false = true) by decide)] at H; exact H); clear H; (have H := H1); clear H1; (obtain rfl := Option.some.inj H)
   go_enter Tryz.func107, Tryz.ntmps107
   go_wp2_with (first | ((with_reducible refine gate_callee (f := 76) rfl ?_); refine goesL_ (some 10) rfl rfl Tryz.func76 (by kernel_rfl) rfl #[.int .i64 a0] rfl qL ?_; (with_reducible refine (impl_isChange.calls a0 false _ A4.out).mono ?_); rintro e w' ⟨rfl, ⟨nd, rfl⟩⟩; refine ⟨_, rfl, ?_⟩))
   go_ret
   exact qZ
def impl_sumTakes.l0 : Nat → Int → List (S79) → Int → Int → Option (Int)
 | 0, _, _, _, _ => none
 | k + 1, x3, x6, x7, x8 => if x8 < x7 then (if 0 ≤ x8 then (if x8 < (x6.length : Int) then ((impl_takes.f ((rd_T79 x6 x8).f0) ((rd_T79 x6 x8).f1)).bind fun t365 => (impl_sumTakes.l0 k (wrap64 (x3 + t365)) x6 x7 (wrap64 (x8 + 1)))) else (none)) else (none)) else (some x3)
def impl_sumTakes.f (k : Nat) (l0 : List (S79)) : Option (Int) := impl_sumTakes.l0 k 0 l0 (l0.length : Int) 0
theorem impl_sumTakes.calls (k : Nat) (A0 : Option Addr) (c0 : Nat) (l0 : List (S79)) (r : Int) (w : World) (hr0 : Kd.C k79 w A0 l0.length l0) (hc0 : l0.length ≤ c0) (h : impl_sumTakes.f k l0 = some r) :
  Calls Tryz.prog 68 #[.slice A0 l0.length c0] w fun e w' => e = .returned (.int .i64 r) ∧ Below w.heap.size w w' := by
 (have hu79 := Tryz.underlying79); (have HR0 := Aside0.mk hr0); (have HC0 := Aside0.mk hc0); clear hr0 hc0; (have HB := Aside0.mk (Below.refl w.heap.size w)); (have H : (impl_sumTakes.l0 k 0 l0 (l0.length : Int) 0) = some r := h); clear h; (have H' := Aside0.mk H); clear H
 go_enter Tryz.func68, Tryz.ntmps68
 go_wp2
 go_loopg [3, 8] k (fun kq v3 v8 w' => ∃ (x3_1 : Int) (x8_1 : Int), v3 = .int .i64 x3_1 ∧ v8 = .int .i64 x8_1 ∧ Aside0 (impl_sumTakes.l0 kq x3_1 l0 (l0.length : Int) x8_1 = some r) ∧ Aside0 (kq ≤ k) ∧ Aside0 (Below w.heap.size w w'))
 case atStart => exact ⟨(0), (0), qV, qV, H', ⟨Nat.le_refl _⟩, ⟨qS0 HB⟩⟩
 case round =>
  clear H'; (obtain ⟨x3_1, x8_1, rfl, rfl, HA, HK1, HB⟩ := hrel)
  cases gk with
  | zero => exact absurd HA.out (by simp [impl_sumTakes.l0])
  | succ k1 =>
   (have H := HA.out); clear HA; (simp only [impl_sumTakes.l0] at H)
   rcases qI H with ⟨c2b0, H⟩ | ⟨c2b0, H⟩
   ·obtain ⟨c3b0, H⟩ := qT H
    (obtain ⟨c4b0, H⟩ := qT H); (obtain ⟨t365, A5, H⟩ := qX H)
    try dsimp only at H
    (have H' := Aside0.mk H); clear H; (have p363 : 0 ≤ (x8_1 : Int) := qO); (have q363 : x8_1 < (l0.length : Int) := qO); (obtain ⟨ad363, e363, hx363_0, hx363_1⟩ := at_T79 HR0.out x8_1 p363 q363)
    cases e363
    (replace hx363_0 := qF HB hx363_0); (replace hx363_1 := qF HB hx363_1); (replace p363 := eq_true p363); (replace q363 := eq_true q363)
    go_wp2_with (first | ((with_reducible refine gate_dst (N := 5) rfl ?_); refine box_event ?hg (N := 5) ?hd (cs := #[.int .i64 0, .int .i64 0]) (t := 79) ?hr ?_; (case hd => rfl); (case hg => rfl); (case hr => first | (go_simp; done) | (go_simp; rfl)); intro gb364 hg w6 hbox hb; have BK364 := Aside0.mk (hbox); have GW364 := qG hg (below_size (qS0 HB)); have GE364 := qG hg (below_size (qS0 HB)); replace HB := Aside0.mk (below_step (qS0 HB) hb); clear hb hbox hg; obtain ⟨hcz7_0, hcz7_1, hfz7_0, hfz7_1⟩ := qC2 BK364) | ((with_reducible refine gate_callee (f := 107) rfl ?_); refine goesL_ (some 17) rfl rfl Tryz.func107 (by kernel_rfl) rfl #[.int .i64 ((rd_T79 l0 x8_1).f0), .int .i64 ((rd_T79 l0 x8_1).f1)] rfl qL ?_; (with_reducible refine (impl_takes.calls ((rd_T79 l0 x8_1).f0) ((rd_T79 l0 x8_1).f1) t365 _ A5.out).mono ?_); rintro e w' ⟨rfl, ⟨nd, rfl⟩⟩; refine ⟨_, rfl, ?_⟩))
    go_roundg k1
    case measure => have := HK1.out; omega
    case rel => exact ⟨(wrap64 (x3_1 + t365)), (wrap64 (x8_1 + 1)), qV, qV, H', ⟨by have := HK1.out; omega⟩, ⟨qS1 HB GE364⟩⟩
   ·obtain rfl := Option.some.inj H
    go_wp2
    go_ret
    exact ⟨qE, qS0 HB⟩
def impl_shapeDraws.f (k : Nat) (a0_0 : Int) (a0_1 : Int) (a0_2 : Int) (a0_3 : Int) (l1 : List (S79)) : Option (Int) := if 0 ≤ (wrap64 (a0_1 - 2)) then ((impl_sumTakes.f k l1).bind fun t367 => (some (wrap64 ((shl .i64 6 (wrap64 (a0_1 - 2))) + (wrap64 (2 * t367)))))) else (none)
def impl_shapeDraws.T1 : Bool × List (List Nat × List Nat) := (true, [([], []), ([0], [0]), ([1], [1]), ([2], [2]), ([], []), ([4], [4]), ([5], [5]), ([3, 6], [3, 6]), ([7, 5, 0, 1, 2, 3, 4, 5, 6, 7], [7])])
def impl_shapeDraws.B1 : List Nat := [0, 1, 3, 7, 0, 16, 48, 127, 255]
theorem impl_shapeDraws.tab1 : rtab .any (opsOf Tryz.f36 1) = impl_shapeDraws.T1 := by kernel_rfl
theorem impl_shapeDraws.bits1 : waitsOk impl_shapeDraws.T1.2 impl_shapeDraws.B1 = true := by kernel_rfl
theorem impl_shapeDraws.calls (k : Nat) (a0_0 : Int) (a0_1 : Int) (a0_2 : Int) (a0_3 : Int) (A1 : Option Addr) (c1 : Nat) (l1 : List (S79)) (r : Int) (w : World) (hr1 : Kd.C k79 w A1 l1.length l1) (hc1 : l1.length ≤ c1) (h : impl_shapeDraws.f k a0_0 a0_1 a0_2 a0_3 l1 = some r) :
  Calls Tryz.prog 36 #[.agg #[.int .i64 a0_0, .int .i64 a0_1, .int .i64 a0_2, .int .i64 a0_3], .slice A1 l1.length c1] w fun e w' => e = .returned (.int .i64 r) ∧ Below w.heap.size w w' := by
 (have hu29 := Tryz.underlying29); (have HR1 := Aside0.mk hr1); (have HC1 := Aside0.mk hc1); clear hr1 hc1; (have HB := Aside0.mk (Below.refl w.heap.size w)); (have H : (if 0 ≤ (wrap64 (a0_1 - 2)) then ((impl_sumTakes.f k l1).bind fun t367 => (some (wrap64 ((shl .i64 6 (wrap64 (a0_1 - 2))) + (wrap64 (2 * t367)))))) else (none)) = some r := h); clear h; (obtain ⟨ji3, hji3⟩ : ∃ j_ : Int, (wrap64 (a0_1 - 2)) = j_ := ⟨_, rfl⟩); (replace H : (if 0 ≤ (ji3) then ((impl_sumTakes.f k l1).bind fun t367 => (some (wrap64 ((shl .i64 6 (ji3)) + (wrap64 (2 * t367)))))) else (none)) = some r := by first | (rw [hji3] at H; exact H) | (simp only [hji3] at H ⊢; exact H)); (have hji3w : (IntKind.i64.wrap (a0_1 - 2)) = ji3 := (i64_w _).trans hji3); (obtain ⟨c4b0, c4b1, H⟩ := qT2 H); (obtain ⟨ji5, hji5⟩ : ∃ j_ : Int, (shl .i64 6 (ji3)) = j_ := ⟨_, rfl⟩); (replace H : ((impl_sumTakes.f k l1).bind fun t367 => (some (wrap64 ((ji5) + (wrap64 (2 * t367)))))) = some r := by first | (rw [hji5] at H; exact H) | (simp only [hji5] at H ⊢; exact H)); (have hji5_ : (IntKind.i64.wrap (6 * 2 ^ min (ji3).toNat 64)) = ji5 := hji5); (have hji5z : (ji3) ≤ 64 → (IntKind.i64.wrap (6 * 2 ^ (ji3).toNat)) = ji5 := shl_small hji5); (have hji5y : (wrap64 (6 * 2 ^ min (ji3).toNat 64)) = ji5 := (i64_w _).symm.trans hji5_); (have hji5x : (ji3) ≤ 64 → (wrap64 (6 * 2 ^ (ji3).toNat)) = ji5 := fun h_ => (i64_w _).symm.trans (hji5z h_)); (obtain ⟨t367, A6, H⟩ := qX H); (replace H : (some (wrap64 ((ji5) + (wrap64 (2 * t367))))) = some r := H); (obtain rfl := Option.some.inj H)
 go_enter Tryz.func36, Tryz.ntmps36
 try go_wp2_with (first | ((with_reducible refine gate_dst (N := 2) rfl ?_); refine box_event ?hg (N := 2) ?hd (cs := #[.int .i64 a0_0, .int .i64 a0_1, .int .i64 a0_2, .int .i64 a0_3]) (t := 29) ?hr ?_; (case hd => rfl); (case hg => rfl); (case hr => first | (go_simp; done) | (go_simp; rfl)); intro gb366 hg w7 hbox hb; have BK366 := Aside0.mk (hbox); have GW366 := qG hg (below_size (qS0 HB)); have GE366 := qG hg (below_size (qS0 HB)); replace HB := Aside0.mk (below_step (qS0 HB) hb); clear hb hbox hg))
 (replace BK366 := Aside0.mk (blk_drew BK366.out)); (replace HB := Aside0.mk (below_drew1 HB.out))
 refine start_ (n := 9) (S := fun w' => w'.cell? ⟨gb366, 0, none⟩ = some (.int .i64 a0_0) ∧ w'.cell? ⟨gb366, 1, none⟩ = some (.int .i64 a0_1) ∧ w'.cell? ⟨gb366, 2, none⟩ = some (.int .i64 a0_2) ∧ w'.cell? ⟨gb366, 3, none⟩ = some (.int .i64 a0_3)) (ds := []) #[false, false, false, false, false, false, false, false, false] (by kernel_rfl) rfl rfl ⟨(blk_cell BK366.out 0).trans rfl, (blk_cell BK366.out 1).trans rfl, (blk_cell BK366.out 2).trans rfl, (blk_cell BK366.out 3).trans rfl⟩ (fun hHeld => ?_); refine with_tabW impl_shapeDraws.tab1 impl_shapeDraws.bits1 (fun HT_ HW_ => ?_)
 generalize w7.drew = w8 at BK366 HB hHeld ⊢
 refine pure_ (i := 0) (N := some 5) (v := ?_) (a' := ?_) #[true, false, false, false, false, false, false, false, false] rfl rfl (any_of HT_.out (by kernel_rfl)) (fun _ _ _ h => h) (Or.inl ⟨by rfl, ?_⟩) ?_ ?_
 rotate_left
 ·intro w'
  go_simp
  with_reducible rfl
 rotate_left
 ·exact qPu
 refine pure_ (i := 4) (N := some 9) (v := ?_) (a' := ?_) #[true, false, false, false, true, false, false, false, false] rfl rfl (any_of HT_.out (by kernel_rfl)) (fun _ _ _ h => h) (Or.inl ⟨by rfl, ?_⟩) ?_ ?_
 rotate_left
 ·intro w'
  go_simp
  with_reducible rfl
 rotate_left
 ·exact qPu
 refine take_ (i := 1) (N := some 6) (v := ?_) (a' := ?_) #[true, true, false, false, true, false, false, false, false] rfl rfl (take_ofW HT_.out HW_.out (by kernel_rfl)) (fun _ _ _ h => h) (Or.inl ⟨by rfl, ?_⟩) hHeld ?_ ?_
 rotate_left
 ·rintro w' ⟨s0, s1, s2, s3⟩
  go_simp
  with_reducible rfl
 rotate_left
 ·exact qPu
 refine pure_ (i := 2) (N := some 7) (v := ?_) (a' := ?_) #[true, true, true, false, true, false, false, false, false] rfl rfl (any_of HT_.out (by kernel_rfl)) (fun _ _ _ h => h) (Or.inl ⟨by rfl, ?_⟩) ?_ ?_
 rotate_left
 ·intro w'
  go_simp
  with_reducible rfl
 rotate_left
 ·exact qPu
 refine pure_ (i := 3) (N := some 8) (v := ?_) (a' := ?_) #[true, true, true, true, true, false, false, false, false] rfl rfl (any_of HT_.out (by kernel_rfl)) (fun _ _ _ h => h) (Or.inl ⟨by rfl, ?_⟩) ?_ ?_
 rotate_left
 ·intro w'
  go_simp
  with_reducible rfl
 rotate_left
 ·exact qPu
 refine one_ (i := 5) (N := some 10) #[true, true, true, true, true, true, false, false, false] rfl rfl (one_of HT_.out (by kernel_rfl)) (by decide) (fun K hK => ?_)
 refine goes_ Tryz.func68 (by kernel_rfl) rfl #[.slice A1 l1.length c1] (by rfl) rfl rfl qL ?_
 with_reducible refine (impl_sumTakes.calls k _ _ l1 t367 _ ?side1 ?side2 A6.out).mono ?_
 (case side1 => exact qW (Kd.C_below HR1.out HB.out))
 (case side2 => exact HC1.out)
 rintro e w9 ⟨rfl, hb⟩
 refine ⟨_, rfl, ?_⟩
 (replace BK366 := qD BK366 hb); (replace HB := Aside0.mk (below_step (qS1 HB GE366) hb)); (try clear hb); (try clear hb2); (try clear hk); (try clear hi)
 refine hK.out _ _ ⟨(blk_cell BK366.out 0).trans rfl, (blk_cell BK366.out 1).trans rfl, (blk_cell BK366.out 2).trans rfl, (blk_cell BK366.out 3).trans rfl⟩ (fun hHeld => ?_)
 clear hK K
 refine norm_ (a' := ?_) ?_ ?_
 rotate_left
 ·show Act.put _ (some 10) _ = _
  exact qPu
 refine pure_ (i := 6) (N := some 11) (v := ?_) (a' := ?_) #[true, true, true, true, true, true, true, false, false] rfl rfl (any_of HT_.out (by kernel_rfl)) (fun _ _ _ h => h) (Or.inl ⟨by rfl, ?_⟩) ?_ ?_
 rotate_left
 ·intro w'
  go_simp
  with_reducible rfl
 rotate_left
 ·exact qPu
 refine pure_ (i := 7) (N := some 12) (v := ?_) (a' := ?_) #[true, true, true, true, true, true, true, true, false] rfl rfl (any_of HT_.out (by kernel_rfl)) (fun _ _ _ h => h) (Or.inl ⟨by rfl, ?_⟩) ?_ ?_
 rotate_left
 ·intro w'
  go_simp
  with_reducible rfl
 rotate_left
 ·exact qPu
 refine pure_ (i := 8) (N := some 4) (v := ?_) (a' := ?_) #[true, true, true, true, true, true, true, true, true] rfl rfl (any_of HT_.out (by kernel_rfl)) (fun _ _ _ h => h) (Or.inl ⟨by rfl, ?_⟩) ?_ ?_
 rotate_left
 ·intro w'
  go_simp
  with_reducible rfl
 rotate_left
 ·exact qPu
 refine done_ (done_of HT_.out (by kernel_rfl)) ?_
 try go_wp2
 go_ret
 exact ⟨by first | rfl | (simp [errW_none, errW_some] <;> rfl) | (simp only [← hji3, ← hji5]; first | rfl | (simp [errW_none, errW_some] <;> rfl)) | (simp [*, errW_none, errW_some] <;> rfl), qS1 HB GE366⟩
def impl_shapesOf.l0 : Nat → List (S79) → List (S56) → Int → Int → Option ((List (S79)))
 | 0, _, _, _, _ => none
 | k + 1, x3, x6, x7, x8 => if x8 < x7 then (if 0 ≤ x8 then (if x8 < (x6.length : Int) then (if x3.length < 8796093022208 then (impl_shapesOf.l0 k (x3 ++ [(⟨(rd_T56 x6 x8).f0, (rd_T56 x6 x8).f5⟩ : S79)]) x6 x7 (wrap64 (x8 + 1))) else (none)) else (none)) else (none)) else (some x3)
def impl_shapesOf.f (k : Nat) (l0 : List (S56)) : Option ((List (S79))) := impl_shapesOf.l0 k ([] : List (S79)) l0 (l0.length : Int) 0
theorem impl_shapesOf.calls (k : Nat) (A0 : Option Addr) (c0 : Nat) (l0 : List (S56)) (r : List (S79)) (w : World) (hr0 : Kd.C k56 w A0 l0.length l0) (hc0 : l0.length ≤ c0) (h : impl_shapesOf.f k l0 = some r) :
  Calls Tryz.prog 37 #[.slice A0 l0.length c0] w fun e w' => ∃ v0_ : Value, e = .returned (v0_) ∧ Kd.R k79 79 w' w.heap.size (fun _ => True) v0_ r ∧ Below w.heap.size w w' := by
 (have hu56 := Tryz.underlying56); (have hu79 := Tryz.underlying79); (have HR0 := Aside0.mk hr0); (have HC0 := Aside0.mk hc0); clear hr0 hc0; (have HB := Aside0.mk (Below.refl w.heap.size w)); (have H : (impl_shapesOf.l0 k ([] : List (S79)) l0 (l0.length : Int) 0) = some r := h); clear h; (have H' := Aside0.mk H); clear H
 go_enter Tryz.func37, Tryz.ntmps37
 go_wp2
 go_loopg [3, 8] k (fun kq v3 v8 w' => ∃ (x3_1 : List (S79)) (x8_1 : Int), v8 = .int .i64 x8_1 ∧ Aside0 (impl_shapesOf.l0 kq x3_1 l0 (l0.length : Int) x8_1 = some r) ∧ Aside0 (kq ≤ k) ∧ Aside0 (Kd.R k79 79 w' w.heap.size (fun _ => True) v3 x3_1) ∧ Aside0 (Below w.heap.size w w'))
 case atStart => exact ⟨(([] : List (S79))), (0), qV, H', ⟨Nat.le_refl _⟩, ⟨by first | exact Kd.R_nil _ _ _ _ _ | exact Kd.N_nil _ _ _ _ _ | exact Kd.V_nil _ _ _ _ _ | exact Kd.Q_nil _ _ _ _ _ | exact Kd.S_nil _ _ _ _ _⟩, ⟨qS0 HB⟩⟩
 case round =>
  clear H'; (obtain ⟨x3_1, x8_1, rfl, HA, HK1, HO_3, HB⟩ := hrel)
  cases gk with
  | zero => exact absurd HA.out (by simp [impl_shapesOf.l0])
  | succ k1 =>
   (have H := HA.out); clear HA; (simp only [impl_shapesOf.l0] at H)
   rcases qI H with ⟨c2b0, H⟩ | ⟨c2b0, H⟩
   ·obtain ⟨c3b0, H⟩ := qT H
    (obtain ⟨c4b0, H⟩ := qT H); (obtain ⟨c5, H⟩ := qU H); (have LMc5 := Aside0.mk c5); clear c5; (obtain ⟨y370, hy370⟩ : ∃ y_ : List (S79), y_ = (x3_1 ++ [(⟨(rd_T56 l0 x8_1).f0, (rd_T56 l0 x8_1).f5⟩ : S79)]) := ⟨_, rfl⟩); (replace H : (impl_shapesOf.l0 k1 y370 l0 (l0.length : Int) (wrap64 (x8_1 + 1))) = some r := qY hy370 H); (have Ny370 := Aside0.mk hy370); clear hy370; (have H' := Aside0.mk H); clear H; (have p368 : 0 ≤ (x8_1 : Int) := qO); (have q368 : x8_1 < (l0.length : Int) := qO); (obtain ⟨ad368, e368, hx368_0, hx368_1, hx368_2, hx368_3, hx368_4, hx368_5, hx368_6⟩ := at_T56 HR0.out x8_1 p368 q368)
    cases e368
    (replace hx368_0 := qF HB hx368_0); (replace hx368_1 := qF HB hx368_1); (replace hx368_2 := qF HB hx368_2); (replace hx368_3 := qF HB hx368_3); (replace hx368_4 := qF HB hx368_4); (replace hx368_5 := qF HB hx368_5); (replace hx368_6 := qF HB hx368_6); (replace p368 := eq_true p368); (replace q368 := eq_true q368)
    go_wp2_with (first | ((with_reducible refine gate_dst (N := 5) rfl ?_); refine box_event ?hg (N := 5) ?hd (cs := #[.int .i64 0, .string (⟨#[]⟩ : ByteArray), .int .i64 0, .int .i64 0, .int .i64 0, .int .i64 0, .string (⟨#[]⟩ : ByteArray)]) (t := 56) ?hr ?_; (case hd => rfl); (case hg => rfl); (case hr => first | (go_simp; done) | (go_simp; rfl)); intro gb369 hg w6 hbox hb; replace HO_3 := Aside0.mk (Kd.R_below (qR HO_3) hb); have BK369 := Aside0.mk (hbox); have GW369 := qG hg (below_size (qS0 HB)); have GE369 := qG hg (below_size (qS0 HB)); replace HB := Aside0.mk (below_step (qS0 HB) hb); clear hb hbox hg; obtain ⟨hcz7_0, hcz7_1, hcz7_2, hcz7_3, hcz7_4, hcz7_5, hcz7_6, hfz7_0, hfz7_1, hfz7_2, hfz7_3, hfz7_4, hfz7_5, hfz7_6⟩ := qC7 BK369) | ((with_reducible refine gate_builtin (b := .append) (xs := #[.tmp 12, .tmp 18]) rfl ?_); at_builtin; refine Kd.R_append k79 (w0 := w) w.heap.size rfl (.tmp 12) (.tmp 18) 62 79 (.agg #[(.int .i64 0), (.int .i64 0)]) 16 rfl Tryz.underlying62 info79 rfl (by decide) (by omega) u3 x3_1 (⟨(rd_T56 l0 x8_1).f0, (rd_T56 l0 x8_1).f5⟩ : S79) [.int .i64 ((rd_T56 l0 x8_1).f0), .int .i64 ((rd_T56 l0 x8_1).f5)] (fun _ => True) (fun _ => False) rfl (by first | (go_simp; done) | (go_simp; rfl)) ?aP (fun _ hk => hk.elim) ?aF ?aO ?aB ?aS ?aL ?_; (case aP => exact k79_mkM _ _ _ (⟨(rd_T56 l0 x8_1).f0, (rd_T56 l0 x8_1).f5⟩ : S79)); (case aB => exact (qS1 HB GE369)); (case aF => exact (fun _ _ => trivial)); (case aO => exact (by (with_reducible repeat (first | apply Kd.R_alloc | apply Kd.R_drewN | apply Kd.R_drew)); exact Kd.R_mono (Kd.R_far (p := ⟨gb369, 6, none⟩) (Kd.R_far (p := ⟨gb369, 5, none⟩) (Kd.R_far (p := ⟨gb369, 4, none⟩) (Kd.R_far (p := ⟨gb369, 3, none⟩) (Kd.R_far (p := ⟨gb369, 2, none⟩) (Kd.R_far (p := ⟨gb369, 1, none⟩) (Kd.R_far (p := ⟨gb369, 0, none⟩) (Kd.R_types HO_3.out BK369.out (by decide)) (fun _ hk => hk.2) (.int .i64 ((rd_T56 l0 x8_1).f0))) (fun _ hk => hk.2) (.string ((rd_T56 l0 x8_1).f1))) (fun _ hk => hk.2) (.int .i64 ((rd_T56 l0 x8_1).f2))) (fun _ hk => hk.2) (.int .i64 ((rd_T56 l0 x8_1).f3))) (fun _ hk => hk.2) (.int .i64 ((rd_T56 l0 x8_1).f4))) (fun _ hk => hk.2) (.int .i64 ((rd_T56 l0 x8_1).f5))) (fun _ hk => hk.2) (.string ((rd_T56 l0 x8_1).f6))) (fun _ hk => trivial))); (case aS => exact (below_size (qS1 HB GE369))); (case aL => have := LMc5.out; omega); intro v371 w8 ho hb hg hat; rw [← Ny370.out] at ho; replace BK369 := Aside0.mk (blk_grown (g := gb369) (o := .cells #[.int .i64 ((rd_T56 l0 x8_1).f0), .string ((rd_T56 l0 x8_1).f1), .int .i64 ((rd_T56 l0 x8_1).f2), .int .i64 ((rd_T56 l0 x8_1).f3), .int .i64 ((rd_T56 l0 x8_1).f4), .int .i64 ((rd_T56 l0 x8_1).f5), .string ((rd_T56 l0 x8_1).f6)] 56 (0, 0)) (by (with_reducible repeat (first | refine blk_drewN ?_ _ | refine blk_drew ?_ | refine blk_alloc ?_ _)); refine blk_put (cs := #[.int .i64 ((rd_T56 l0 x8_1).f0), .string ((rd_T56 l0 x8_1).f1), .int .i64 ((rd_T56 l0 x8_1).f2), .int .i64 ((rd_T56 l0 x8_1).f3), .int .i64 ((rd_T56 l0 x8_1).f4), .int .i64 ((rd_T56 l0 x8_1).f5), .string (⟨#[]⟩ : ByteArray)]) ?_ 6 _ rfl; (with_reducible repeat (first | refine blk_drewN ?_ _ | refine blk_drew ?_ | refine blk_alloc ?_ _)); refine blk_put (cs := #[.int .i64 ((rd_T56 l0 x8_1).f0), .string ((rd_T56 l0 x8_1).f1), .int .i64 ((rd_T56 l0 x8_1).f2), .int .i64 ((rd_T56 l0 x8_1).f3), .int .i64 ((rd_T56 l0 x8_1).f4), .int .i64 0, .string (⟨#[]⟩ : ByteArray)]) ?_ 5 _ rfl; (with_reducible repeat (first | refine blk_drewN ?_ _ | refine blk_drew ?_ | refine blk_alloc ?_ _)); refine blk_put (cs := #[.int .i64 ((rd_T56 l0 x8_1).f0), .string ((rd_T56 l0 x8_1).f1), .int .i64 ((rd_T56 l0 x8_1).f2), .int .i64 ((rd_T56 l0 x8_1).f3), .int .i64 0, .int .i64 0, .string (⟨#[]⟩ : ByteArray)]) ?_ 4 _ rfl; (with_reducible repeat (first | refine blk_drewN ?_ _ | refine blk_drew ?_ | refine blk_alloc ?_ _)); refine blk_put (cs := #[.int .i64 ((rd_T56 l0 x8_1).f0), .string ((rd_T56 l0 x8_1).f1), .int .i64 ((rd_T56 l0 x8_1).f2), .int .i64 0, .int .i64 0, .int .i64 0, .string (⟨#[]⟩ : ByteArray)]) ?_ 3 _ rfl; (with_reducible repeat (first | refine blk_drewN ?_ _ | refine blk_drew ?_ | refine blk_alloc ?_ _)); refine blk_put (cs := #[.int .i64 ((rd_T56 l0 x8_1).f0), .string ((rd_T56 l0 x8_1).f1), .int .i64 0, .int .i64 0, .int .i64 0, .int .i64 0, .string (⟨#[]⟩ : ByteArray)]) ?_ 2 _ rfl; (with_reducible repeat (first | refine blk_drewN ?_ _ | refine blk_drew ?_ | refine blk_alloc ?_ _)); refine blk_put (cs := #[.int .i64 ((rd_T56 l0 x8_1).f0), .string (⟨#[]⟩ : ByteArray), .int .i64 0, .int .i64 0, .int .i64 0, .int .i64 0, .string (⟨#[]⟩ : ByteArray)]) ?_ 1 _ rfl; (with_reducible repeat (first | refine blk_drewN ?_ _ | refine blk_drew ?_ | refine blk_alloc ?_ _)); refine blk_put (cs := #[.int .i64 0, .string (⟨#[]⟩ : ByteArray), .int .i64 0, .int .i64 0, .int .i64 0, .int .i64 0, .string (⟨#[]⟩ : ByteArray)]) ?_ 0 _ rfl; (with_reducible repeat (first | refine blk_drewN ?_ _ | refine blk_drew ?_ | refine blk_alloc ?_ _)); exact BK369.out) hg (Kd.R_ne HO_3.out BK369.out (by decide))); replace HB := Aside0.mk (hb); have HO372 := Aside0.mk (ho); clear HO_3; clear ho hb hg hat))
    go_roundg k1
    case measure => have := HK1.out; omega
    case rel => exact ⟨(y370), (wrap64 (x8_1 + 1)), qV, H', ⟨by have := HK1.out; omega⟩, ⟨qR HO372⟩, ⟨qS1 HB GE369⟩⟩
   ·obtain rfl := Option.some.inj H
    go_wp2
    go_ret
    exact ⟨_, qE, qR HO_3, qS0 HB⟩
def impl_isWord.l0 : Nat → ByteArray → Int → Int → Option (Bool)
 | 0, _, _, _ => none
 | k + 1, x0, x5, x6 => if x6 < x5 then (if 0 ≤ x6 then (if x6 < (x0.size : Int) then (if (bt x0 x6) < 97 then (some false) else (if (bt x0 x6) > 122 then (some false) else (impl_isWord.l0 k x0 x5 (wrap64 (x6 + 1))))) else (none)) else (none)) else ((impl_within.f (x0.size : Int) 1 32).bind fun t463 => (some t463))
def impl_isWord.f (k : Nat) (a0 : ByteArray) : Option (Bool) := impl_isWord.l0 k a0 (a0.size : Int) 0
theorem impl_isWord.calls (k : Nat) (a0 : ByteArray) (r : Bool) (w : World) (h : impl_isWord.f k a0 = some r) :
  Calls Tryz.prog 114 #[.string a0] w fun e w' => e = .returned (.bool r) ∧ Drawn0 w w' := by
 (have H : (impl_isWord.l0 k a0 (a0.size : Int) 0) = some r := h); clear h; (have H' := Aside0.mk H); clear H
 go_enter Tryz.func114, Tryz.ntmps114
 go_wp2
 go_loopg [6] k (fun kq v6 w' => ∃ (x6_1 : Int), v6 = .int .i64 x6_1 ∧ Aside0 (impl_isWord.l0 kq a0 (a0.size : Int) x6_1 = some r) ∧ Aside0 (kq ≤ k) ∧ Drawn0 w w')
 case atStart => exact ⟨(0), qV, H', ⟨Nat.le_refl _⟩, by repeat (first | exact Drawn0.refl _ | apply Drawn0.step)⟩
 case round =>
  clear H'; (obtain ⟨x6_1, rfl, HA, HK1, ⟨m1, rfl⟩⟩ := hrel)
  cases gk with
  | zero => exact absurd HA.out (by simp [impl_isWord.l0])
  | succ k1 =>
   (have H := HA.out); clear HA; (simp only [impl_isWord.l0] at H)
   rcases qI H with ⟨c2b0, H⟩ | ⟨c2b0, H⟩
   ·obtain ⟨c3b0, H⟩ := qT H
    obtain ⟨c4b0, H⟩ := qT H
    rcases qI H with ⟨c6b0, H⟩ | ⟨c6b0, H⟩
    ·obtain rfl := Option.some.inj H
     (have p5 : 0 ≤ (x6_1 : Int) := qO); (have q5 : x6_1 < (a0.size : Int) := qO); (have hx5 := bt_at a0 x6_1); (replace p5 := eq_true p5); (replace q5 := eq_true q5)
     go_wp2
     go_ret
     exact qZ
    ·rcases qI H with ⟨(c8b0 : decide (122 < (bt a0 x6_1)) = true), H⟩ | ⟨(c8b0 : decide (122 < (bt a0 x6_1)) = false), H⟩
     ·obtain rfl := Option.some.inj H
      (have p5 : 0 ≤ (x6_1 : Int) := qO); (have q5 : x6_1 < (a0.size : Int) := qO); (have hx5 := bt_at a0 x6_1); (replace p5 := eq_true p5); (replace q5 := eq_true q5); (have p7 : 0 ≤ (x6_1 : Int) := qO); (have q7 : x6_1 < (a0.size : Int) := qO); (have hx7 := bt_at a0 x6_1); (replace p7 := eq_true p7); (replace q7 := eq_true q7)
      go_wp2
      go_ret
      exact qZ
     ·have H' := Aside0.mk H
      clear H; (have p5 : 0 ≤ (x6_1 : Int) := qO); (have q5 : x6_1 < (a0.size : Int) := qO); (have hx5 := bt_at a0 x6_1); (replace p5 := eq_true p5); (replace q5 := eq_true q5); (have p7 : 0 ≤ (x6_1 : Int) := qO); (have q7 : x6_1 < (a0.size : Int) := qO); (have hx7 := bt_at a0 x6_1); (replace p7 := eq_true p7); (replace q7 := eq_true q7)
      go_wp2
      go_roundg k1
      case measure => have := HK1.out; omega
      case rel => exact ⟨(wrap64 (x6_1 + 1)), qV, H', ⟨by have := HK1.out; omega⟩, by repeat (first | exact Drawn0.refl _ | apply Drawn0.step)⟩
   ·obtain ⟨t463, A9, H⟩ := qX H
    (replace H : (some t463) = some r := H); (obtain rfl := Option.some.inj H)
    go_wp2_with (first | ((with_reducible refine gate_callee (f := 61) rfl ?_); refine goesL_ (some 22) rfl rfl Tryz.func61 (by kernel_rfl) rfl #[.int .i64 (a0.size : Int), .int .i64 1, .int .i64 32] rfl qL ?_; (with_reducible refine (impl_within.calls (a0.size : Int) 1 32 t463 _ A9.out).mono ?_); rintro e w' ⟨rfl, ⟨nd, rfl⟩⟩; refine ⟨_, rfl, ?_⟩))
    go_ret
    exact qZ
def impl_Fold.f (k : Nat) (a0 : ByteArray) : Option (ByteArray) := (strings_Map.f a0).bind fun t500 => (if (a0.size : Int) > 32 then (some (⟨#[]⟩ : ByteArray)) else ((impl_isWord.f k t500).bind fun t501 => (if t501 = true then (some t500) else (some (⟨#[]⟩ : ByteArray)))))
theorem impl_Fold.calls (k : Nat) (a0 : ByteArray) (r : ByteArray) (w : World) (h : impl_Fold.f k a0 = some r) (hG : TabG w) :
  Calls Tryz.prog 111 #[.string a0] w fun e w' => e = .returned (.string r) ∧ Below w.heap.size w w' := by
 (have HB := Aside0.mk (Below.refl w.heap.size w)); (have H : ((strings_Map.f a0).bind fun t500 => (if (a0.size : Int) > 32 then (some (⟨#[]⟩ : ByteArray)) else ((impl_isWord.f k t500).bind fun t501 => (if t501 = true then (some t500) else (some (⟨#[]⟩ : ByteArray)))))) = some r := h); clear h; (obtain ⟨t500, A2, H⟩ := qX H)
 try dsimp only at H
 rcases qJ H with ⟨c3, H⟩ | ⟨c3, H⟩
 ·have c3b0 : decide (32 < (a0.size : Int)) = true := decide_eq_true c3
  (have c3b1 : decide (32 < a0.size) = true := decide_eq_true (by omega)); clear c3; (obtain rfl := Option.some.inj H)
  go_enter Tryz.func111, Tryz.ntmps111
  go_wp2_with (first | ((with_reducible refine gate_callee (f := 122) rfl ?_); refine goesL_ (some 5) rfl rfl Tryz.func122 (by kernel_rfl) rfl #[.func (.func 123) #[] #[], .string a0] rfl qL ?_; (with_reducible refine (strings_Map.calls a0 t500 _ A2.out (G_below (qS0 HB) hG)).mono ?_); rintro e w4 ⟨rfl, hb⟩; refine ⟨_, rfl, ?_⟩; replace HB := Aside0.mk (below_step (qS0 HB) hb); (try clear hb); (try clear hb2); (try clear hk); (try clear hi)))
  go_ret
  exact ⟨qE, qS0 HB⟩
 ·have c3b0 : decide (32 < (a0.size : Int)) = false := decide_eq_false c3
  (have c3b1 : decide (32 < a0.size) = false := decide_eq_false (by omega)); clear c3; (obtain ⟨t501, A5, H⟩ := qX H); (replace H : (if t501 = true then (some t500) else (some (⟨#[]⟩ : ByteArray))) = some r := H)
  by_cases c6 : t501 = true
  ·subst c6
   (have H1 : (some t500) = some r := by rw [if_pos rfl] at H; exact H); clear H; (have H := H1); clear H1; (obtain rfl := Option.some.inj H)
   go_enter Tryz.func111, Tryz.ntmps111
   go_wp2_with (first | ((with_reducible refine gate_callee (f := 122) rfl ?_); refine goesL_ (some 5) rfl rfl Tryz.func122 (by kernel_rfl) rfl #[.func (.func 123) #[] #[], .string a0] rfl qL ?_; (with_reducible refine (strings_Map.calls a0 t500 _ A2.out (G_below (qS0 HB) hG)).mono ?_); rintro e w7 ⟨rfl, hb⟩; refine ⟨_, rfl, ?_⟩; replace HB := Aside0.mk (below_step (qS0 HB) hb); (try clear hb); (try clear hb2); (try clear hk); (try clear hi)) | (go_at_call 114; (with_reducible refine (impl_isWord.calls k t500 true _ A5.out).mono ?_); rintro e w' ⟨rfl, ⟨nd, rfl⟩⟩))
   go_ret
   exact ⟨qE, qS0 HB⟩
  ·replace c6 := Bool.eq_false_iff.mpr c6
   (subst c6); (have H1 : (some (⟨#[]⟩ : ByteArray)) = some r := by rw [if_neg (show ¬ (false = true) by decide)] at H; exact H); clear H; (have H := H1); clear H1; (obtain rfl := Option.some.inj H)
   go_enter Tryz.func111, Tryz.ntmps111
   go_wp2_with (first | ((with_reducible refine gate_callee (f := 122) rfl ?_); refine goesL_ (some 5) rfl rfl Tryz.func122 (by kernel_rfl) rfl #[.func (.func 123) #[] #[], .string a0] rfl qL ?_; (with_reducible refine (strings_Map.calls a0 t500 _ A2.out (G_below (qS0 HB) hG)).mono ?_); rintro e w8 ⟨rfl, hb⟩; refine ⟨_, rfl, ?_⟩; replace HB := Aside0.mk (below_step (qS0 HB) hb); (try clear hb); (try clear hb2); (try clear hk); (try clear hi)) | (go_at_call 114; (with_reducible refine (impl_isWord.calls k t500 false _ A5.out).mono ?_); rintro e w' ⟨rfl, ⟨nd, rfl⟩⟩))
   go_ret
   exact ⟨qE, qS0 HB⟩
def gapR (x : Nat) : Bool := if (x : Int) = 9 then true else if (x : Int) = 10 then true else if (x : Int) = 13 then true else decide ((x : Int) = 32)
theorem strings_FieldsFunc.closure (x : Nat) (w : World) : Calls Tryz.prog 125 #[.int .i32 (x : Int)] w fun e w' => e = .returned (.bool (gapR x)) ∧ Below w.heap.size w w' := by
 (have hx : ∃ z : Int, (x : Int) = z := ⟨_, rfl⟩); (obtain ⟨z, hz⟩ := hx)
 unfold gapR
 (rw [hz]); clear hz
 by_cases c2 : z = 9
 ·rw [if_pos c2]
  (have c2b0 : (z == 9) = true := by simp [c2]); clear c2
  go_enter Tryz.func125, Tryz.ntmps125
  go_wp2
  go_ret
  exact ⟨rfl, Below.refl _ _⟩
 ·rw [if_neg c2]
  (have c2b0 : (z == 9) = false := by simp [c2]); clear c2
  by_cases c3 : z = 10
  ·rw [if_pos c3]
   (have c3b0 : (z == 10) = true := by simp [c3]); clear c3
   go_enter Tryz.func125, Tryz.ntmps125
   go_wp2
   go_ret
   exact ⟨rfl, Below.refl _ _⟩
  ·rw [if_neg c3]
   (have c3b0 : (z == 10) = false := by simp [c3]); clear c3
   by_cases c4 : z = 13
   ·rw [if_pos c4]
    (have c4b0 : (z == 13) = true := by simp [c4]); clear c4
    go_enter Tryz.func125, Tryz.ntmps125
    go_wp2
    go_ret
    exact ⟨rfl, Below.refl _ _⟩
   ·rw [if_neg c4]
    (have c4b0 : (z == 13) = false := by simp [c4]); clear c4; (have c5b0 : (z == 32) = decide (z = 32) := by by_cases c5 : z = 32 <;> simp [c5])
    go_enter Tryz.func125, Tryz.ntmps125
    go_wp2
    go_ret
    exact ⟨rfl, Below.refl _ _⟩
theorem strings_FieldsFunc.enters : ∀ args w, (callFunc 125 args).run Tryz.prog w = .ok (.enter 125 args) w := enters_of Tryz.func125 (by kernel_rfl) rfl
shelf_lay Lays.n229 Nm 229 at Tryz as Tryz.lays229
def strings_FieldsFunc.f (a0 : ByteArray) : Option (List ByteArray) := if a0.size ≤ 4294967296 then some (Lib.goFieldsP gapR a0) else none
theorem strings_FieldsFunc.calls (a0 : ByteArray) (r : List ByteArray) (w : World) (h : strings_FieldsFunc.f a0 = some r) :
  Calls Tryz.prog 124 #[.string a0, .func (.func 125) #[] #[]] w fun e w' => ∃ v0_ : Value, e = .returned (v0_) ∧ Kd.R Kd.string 9 w' w.heap.size (fun _ => True) v0_ r ∧ Below w.heap.size w w' := by
 unfold strings_FieldsFunc.f at h
 split at h
 ·rename_i hr
  obtain rfl := Option.some.inj h
  refine (Any.strings_FieldsFunc_grows Tryz.lays229 125 #[] strings_FieldsFunc.enters gapR a0 w hr (fun W x hx _ => strings_FieldsFunc.closure x W) (by kernel_rfl) (by kernel_rfl)).mono ?_
  rintro e w' ⟨AA, rfl, _, hown, hb⟩
  exact ⟨_, rfl, Kd.R_of_own (enc := Value.string) (h1 := fun _ => rfl) hown (fun _ _ => trivial), hb⟩
 ·cases h
end Go.Proofs.YtppopmajclmhjaaGreatDoor.QB
