/- Part of the proof of the law FnExactSessPair: what it uses of the texts that this session and the kit's print wrote. -/
import Derived.Test.YtppopmajclmhjaaGreatDoorZFnExactSessPairx2
import Derived.Test.YtppopmajclmhjaaGreatDoorZFnExactSessPairx3
namespace Go.Proofs.YtppopmajclmhjaaGreatDoor.QB
open Go.RowKit Go.Proofs.YtppopmajclmhjaaGreatDoorW.PrintWords Go.Proofs.YtppopmajclmhjaaGreatDoorW.PrintLast Go.Proofs.YtppopmajclmhjaaGreatDoorW.PrintMore
attribute [local go_sem] max2_int min2_int max_two min_two max_three min_three max_four min_four
set_option linter.unusedVariables false
set_option linter.unusedSimpArgs false
set_option maxHeartbeats 8000000
set_option maxRecDepth 100000
def spec_l22Words.j0 : Nat → ByteArray → Int → Bool → Int → ByteArray → Int → Int → Int → Int → ByteArray → Option (List ByteArray)
 | 0, _, _, _, _, _, _, _, _, _, _ => none
 | k + 1, x3, x10, x15, x140000, x140001, x140002, x140003, x140004, x140005, x140006 => if x15 = true then ((spec_l19Weight.f x140002).bind fun t144 => (if t144 = true then (some (([x3, x3] : List ByteArray))) else (some (([(⟨#[]⟩ : ByteArray), (⟨#[]⟩ : ByteArray)] : List ByteArray))))) else (if x10 = 4 then (some (([x3, x3] : List ByteArray))) else (if x10 = 6 then ((spec_Tokens.f k x140006 x140005).bind fun bt154 => (if bt154.2 = true then (some bt154.1) else (if 0 ≤ x140005 then (if (x140005 : Int).toNat ≤ 17592186044416 then (some (List.replicate (x140005 : Int).toNat (⟨#[]⟩ : ByteArray))) else (none)) else (none)))) else (some ([] : List ByteArray))))
def spec_l22Words.f (k : Nat) (a0_0 : Int) (a0_1 : ByteArray) (a0_2 : Int) (a0_3 : Int) (a0_4 : Int) (a0_5 : Int) (a0_6 : ByteArray) : Option (List ByteArray) := (spec_Fold.f k a0_1).bind fun t140 => (if a0_0 = 1 then (some (([t140] : List ByteArray))) else (if a0_0 = 3 then (spec_l22Words.j0 k t140 a0_0 (a0_0 == 3) a0_0 a0_1 a0_2 a0_3 a0_4 a0_5 a0_6) else (spec_l22Words.j0 k t140 a0_0 (a0_0 == 5) a0_0 a0_1 a0_2 a0_3 a0_4 a0_5 a0_6)))
theorem spec_l22Words.calls (k : Nat) (a0_0 : Int) (a0_1 : ByteArray) (a0_2 : Int) (a0_3 : Int) (a0_4 : Int) (a0_5 : Int) (a0_6 : ByteArray) (r : List ByteArray) (w : World) (h : spec_l22Words.f k a0_0 a0_1 a0_2 a0_3 a0_4 a0_5 a0_6 = some r) :
  Calls Tryz.prog 55 #[.agg #[.int .i64 a0_0, .string a0_1, .int .i64 a0_2, .int .i64 a0_3, .int .i64 a0_4, .int .i64 a0_5, .string a0_6]] w fun e w' => ∃ v0_ : Value, e = .returned (v0_) ∧ Kd.R Kd.string 9 w' w.heap.size (fun _ => True) v0_ r ∧ Below w.heap.size w w' := by
 (have hu56 := Tryz.underlying56); (have HB := Aside0.mk (Below.refl w.heap.size w)); (have H : ((spec_Fold.f k a0_1).bind fun t140 => (if a0_0 = 1 then (some (([t140] : List ByteArray))) else (if a0_0 = 3 then (spec_l22Words.j0 k t140 a0_0 (a0_0 == 3) a0_0 a0_1 a0_2 a0_3 a0_4 a0_5 a0_6) else (spec_l22Words.j0 k t140 a0_0 (a0_0 == 5) a0_0 a0_1 a0_2 a0_3 a0_4 a0_5 a0_6)))) = some r := h); clear h; (obtain ⟨t140, A2, H⟩ := qX H)
 try dsimp only at H
 rcases qJ H with ⟨c3, H⟩ | ⟨c3, H⟩
 ·have c3b0 : (a0_0 == 1) = true := beq_iff_eq.mpr c3
  (have c3b1 : (a0_0 != 1) = false := bne_eq_false_iff_eq.mpr c3); clear c3; (obtain ⟨y141, hy141⟩ : ∃ y_ : List ByteArray, y_ = (([t140] : List ByteArray)) := ⟨_, rfl⟩); (replace H : (some y141) = some r := qY hy141 H); (have Ny141 := Aside0.mk hy141); clear hy141; (obtain rfl := Option.some.inj H)
  go_enter Tryz.func55, Tryz.ntmps55
  go_wp2_with (first | ((with_reducible refine gate_dst (N := 1) rfl ?_); refine box_event ?hg (N := 1) ?hd (cs := #[.int .i64 a0_0, .string a0_1, .int .i64 a0_2, .int .i64 a0_3, .int .i64 a0_4, .int .i64 a0_5, .string a0_6]) (t := 56) ?hr ?_; (case hd => rfl); (case hg => rfl); (case hr => first | (go_simp; done) | (go_simp; rfl)); intro gb139 hg w4 hbox hb; have BK139 := Aside0.mk (hbox); have GW139 := qG hg (below_size (qS0 HB)); have GE139 := qG hg (below_size (qS0 HB)); replace HB := Aside0.mk (below_step (qS0 HB) hb); clear hb hbox hg; obtain ⟨hcz5_0, hcz5_1, hcz5_2, hcz5_3, hcz5_4, hcz5_5, hcz5_6, hfz5_0, hfz5_1, hfz5_2, hfz5_3, hfz5_4, hfz5_5, hfz5_6⟩ := qC7 BK139) | ((with_reducible refine gate_callee (f := 98) rfl ?_); refine goesL_ (some 8) rfl rfl Tryz.func98 (by kernel_rfl) rfl #[.string a0_1] rfl qL ?_; (with_reducible refine (spec_Fold.calls k a0_1 t140 _ A2.out).mono ?_); rintro e w6 ⟨rfl, hb⟩; refine ⟨_, rfl, ?_⟩; replace BK139 := qD BK139 hb; replace HB := Aside0.mk (below_step (qS1 HB GE139) hb); (try clear hb); (try clear hb2); (try clear hk); (try clear hi); obtain ⟨hcz7_0, hcz7_1, hcz7_2, hcz7_3, hcz7_4, hcz7_5, hcz7_6, hfz7_0, hfz7_1, hfz7_2, hfz7_3, hfz7_4, hfz7_5, hfz7_6⟩ := qC7 BK139) | ((with_reducible refine gate_dst (N := 14) rfl ?_); refine Kd.R_lit Kd.string _ 9 ?hg (N := 14) ?hd (xs := ([t140] : List ByteArray)) (inner := [.string t140]) (ok := fun _ => True) (okp := fun _ => True) ?hr ?hp (fun _ hk => hk) trivial (Below.refl _ _) (Nat.le_refl _) (by simp) ?_; (case hd => rfl); (case hg => rfl); (case hr => first | (go_simp; done) | (go_simp; rfl)); (case hp => exact (Reps.one (show Kd.M Kd.string _ _ _ t140 [.string t140] from rfl) (Reps.none _ _))); intro v142 w8 ho9 hb hg_ hnew_; clear hg_ hnew_; (first | rw [← Ny141.out] at ho9 | (simp only [Int.reduceToNat] at ho9; rw [← Ny141.out] at ho9)); have HO143 := Aside0.mk (Kd.R_lower ho9 (below_size (qS1 HB GE139))); replace BK139 := qD BK139 hb; replace HB := Aside0.mk (below_step (qS1 HB GE139) hb); clear hb ho9))
  go_ret
  exact ⟨_, qE, qR HO143, qS1 HB GE139⟩
 ·have c3b0 : (a0_0 == 1) = false := beq_eq_false_iff_ne.mpr c3
  (have c3b1 : (a0_0 != 1) = true := bne_iff_ne.mpr c3); (have HC10 := Aside0.mk H); clear H
  go_enter Tryz.func55, Tryz.ntmps55
  go_upto_if 15 with (first | ((with_reducible refine gate_dst (N := 1) rfl ?_); refine box_event ?hg (N := 1) ?hd (cs := #[.int .i64 a0_0, .string a0_1, .int .i64 a0_2, .int .i64 a0_3, .int .i64 a0_4, .int .i64 a0_5, .string a0_6]) (t := 56) ?hr ?_; (case hd => rfl); (case hg => rfl); (case hr => first | (go_simp; done) | (go_simp; rfl)); intro gb139 hg w11 hbox hb; have BK139 := Aside0.mk (hbox); have GW139 := qG hg (below_size (qS0 HB)); have GE139 := qG hg (below_size (qS0 HB)); replace HB := Aside0.mk (below_step (qS0 HB) hb); clear hb hbox hg; obtain ⟨hcz12_0, hcz12_1, hcz12_2, hcz12_3, hcz12_4, hcz12_5, hcz12_6, hfz12_0, hfz12_1, hfz12_2, hfz12_3, hfz12_4, hfz12_5, hfz12_6⟩ := qC7 BK139) | ((with_reducible refine gate_callee (f := 98) rfl ?_); refine goesL_ (some 8) rfl rfl Tryz.func98 (by kernel_rfl) rfl #[.string a0_1] rfl qL ?_; (with_reducible refine (spec_Fold.calls k a0_1 t140 _ A2.out).mono ?_); rintro e w13 ⟨rfl, hb⟩; refine ⟨_, rfl, ?_⟩; replace BK139 := qD BK139 hb; replace HB := Aside0.mk (below_step (qS1 HB GE139) hb); (try clear hb); (try clear hb2); (try clear hk); (try clear hi); obtain ⟨hcz14_0, hcz14_1, hcz14_2, hcz14_3, hcz14_4, hcz14_5, hcz14_6, hfz14_0, hfz14_1, hfz14_2, hfz14_3, hfz14_4, hfz14_5, hfz14_6⟩ := qC7 BK139))
  (try simp only [Act.put, List.setIfInBounds_toArray, List.set_cons_zero, List.set_cons_succ])
  go_cut [15] (fun v15 wc => ∃ (kq : Nat) (x15_9 : Bool), v15 = .bool x15_9 ∧ Aside0 (spec_l22Words.j0 kq t140 a0_0 x15_9 a0_0 a0_1 a0_2 a0_3 a0_4 a0_5 a0_6 = some r) ∧ Aside0 (kq ≤ k) ∧ Aside0 (wc.heap[gb139]? = some (.cells #[.int .i64 a0_0, .string a0_1, .int .i64 a0_2, .int .i64 a0_3, .int .i64 a0_4, .int .i64 a0_5, .string a0_6] 56 (0, 0))) ∧ Aside0 (Below w.heap.size w wc))
  case first =>
   (have H := HC10.out); clear HC10
   rcases qJ H with ⟨c15, H⟩ | ⟨c15, H⟩
   ·have c15b0 : (a0_0 == 3) = true := beq_iff_eq.mpr c15
    (have c15b1 : (a0_0 != 3) = false := bne_eq_false_iff_eq.mpr c15); clear c15
    (first | rw [c15b0] | (simp only [i64_w, i32_w]; rw [c15b0]) | skip)
    (have H' := Aside0.mk H); clear H
    go_wp2
    go_meet
    case rel => exact ⟨_, ((a0_0 == 3)), qV, H', ⟨by first | omega | exact Nat.le_refl _⟩, ⟨qB BK139⟩, ⟨qS1 HB GE139⟩⟩
   ·have c15b0 : (a0_0 == 3) = false := beq_eq_false_iff_ne.mpr c15
    have c15b1 : (a0_0 != 3) = true := bne_iff_ne.mpr c15
    (first | rw [c15b0] | (simp only [i64_w, i32_w]; rw [c15b0]) | skip)
    (have H' := Aside0.mk H); clear H
    go_wp2
    go_meet
    case rel => exact ⟨_, ((a0_0 == 5)), qV, H', ⟨by first | omega | exact Nat.le_refl _⟩, ⟨qB BK139⟩, ⟨qS1 HB GE139⟩⟩
  case rest =>
   clear HC10; (try clear c3b0); (try clear c3b1); (try clear c15b0); (try clear c15b1); (try clear hcz12_0); (try clear hcz12_1); (try clear hcz12_2); (try clear hcz12_3); (try clear hcz12_4); (try clear hcz12_5); (try clear hcz12_6); (try clear hcz14_0); (try clear hcz14_1); (try clear hcz14_2); (try clear hcz14_3); (try clear hcz14_4); (try clear hcz14_5); (try clear hcz14_6); (try clear hcz5_0); (try clear hcz5_1); (try clear hcz5_2); (try clear hcz5_3); (try clear hcz5_4); (try clear hcz5_5); (try clear hcz5_6); (try clear hcz7_0); (try clear hcz7_1); (try clear hcz7_2); (try clear hcz7_3); (try clear hcz7_4); (try clear hcz7_5); (try clear hcz7_6); (try clear hfz12_0); (try clear hfz12_1); (try clear hfz12_2); (try clear hfz12_3); (try clear hfz12_4); (try clear hfz12_5); (try clear hfz12_6); (try clear hfz14_0); (try clear hfz14_1); (try clear hfz14_2); (try clear hfz14_3); (try clear hfz14_4); (try clear hfz14_5); (try clear hfz14_6); (try clear hfz5_0); (try clear hfz5_1); (try clear hfz5_2); (try clear hfz5_3); (try clear hfz5_4); (try clear hfz5_5); (try clear hfz5_6); (try clear hfz7_0); (try clear hfz7_1); (try clear hfz7_2); (try clear hfz7_3); (try clear hfz7_4); (try clear hfz7_5); (try clear hfz7_6); (obtain ⟨kq, x15_9, rfl, HA, HJ9, BK139, HB⟩ := hcut)
   cases kq with
   | zero => exact absurd HA.out (by simp [spec_l22Words.j0])
   | succ kj9 =>
    (have H := HA.out); clear HA; (simp only [spec_l22Words.j0] at H)
    by_cases c16 : x15_9 = true
    ·subst c16
     (have H1 : ((spec_l19Weight.f a0_2).bind fun t144 => (if t144 = true then (some (([t140, t140] : List ByteArray))) else (some (([(⟨#[]⟩ : ByteArray), (⟨#[]⟩ : ByteArray)] : List ByteArray))))) = some r := by rw [if_pos rfl] at H; exact H); clear H; (have H := H1); clear H1; (obtain ⟨t144, A17, H⟩ := qX H)
     try dsimp only at H
     by_cases c18 : t144 = true
     ·subst c18
      (have H1 : (some (([t140, t140] : List ByteArray))) = some r := by rw [if_pos rfl] at H; exact H); clear H; (have H := H1); clear H1; (obtain ⟨y145, hy145⟩ : ∃ y_ : List ByteArray, y_ = (([t140, t140] : List ByteArray)) := ⟨_, rfl⟩); (replace H : (some y145) = some r := qY hy145 H); (have Ny145 := Aside0.mk hy145); clear hy145; (obtain rfl := Option.some.inj H); (obtain ⟨hcz19_0, hcz19_1, hcz19_2, hcz19_3, hcz19_4, hcz19_5, hcz19_6, hfz19_0, hfz19_1, hfz19_2, hfz19_3, hfz19_4, hfz19_5, hfz19_6⟩ := qC7 BK139)
      go_wp2_with (first | ((with_reducible refine gate_callee (f := 99) rfl ?_); refine goesL_ (some 20) rfl rfl Tryz.func99 (by kernel_rfl) rfl #[.int .i64 a0_2] rfl qL ?_; (with_reducible refine (spec_l19Weight.calls a0_2 true _ A17.out).mono ?_); rintro e w' ⟨rfl, ⟨nd, rfl⟩⟩; refine ⟨_, rfl, ?_⟩) | ((with_reducible refine gate_dst (N := 24) rfl ?_); refine Kd.R_lit Kd.string _ 9 ?hg (N := 24) ?hd (xs := ([t140, t140] : List ByteArray)) (inner := [.string t140, .string t140]) (ok := fun _ => True) (okp := fun _ => True) ?hr ?hp (fun _ hk => hk) trivial (Below.refl _ _) (Nat.le_refl _) (by simp) ?_; (case hd => rfl); (case hg => rfl); (case hr => first | (go_simp; done) | (go_simp; rfl)); (case hp => exact (Reps.one (show Kd.M Kd.string _ _ _ t140 [.string t140] from rfl) (Reps.one (show Kd.M Kd.string _ _ _ t140 [.string t140] from rfl) (Reps.none _ _)))); intro v146 w20 ho21 hb hg_ hnew_; clear hg_ hnew_; (first | rw [← Ny145.out] at ho21 | (simp only [Int.reduceToNat] at ho21; rw [← Ny145.out] at ho21)); have HO147 := Aside0.mk (Kd.R_lower ho21 (below_size (qS1 HB GE139))); replace BK139 := qD BK139 hb; replace HB := Aside0.mk (below_step (qS1 HB GE139) hb); clear hb ho21))
      go_ret
      exact ⟨_, qE, qR HO147, qS1 HB GE139⟩
     ·replace c18 := Bool.eq_false_iff.mpr c18
      (subst c18); (have H1 : (some (([(⟨#[]⟩ : ByteArray), (⟨#[]⟩ : ByteArray)] : List ByteArray))) = some r := by rw [if_neg (show ¬ (false = true) by decide)] at H; exact H); clear H; (have H := H1); clear H1; (obtain ⟨y148, hy148⟩ : ∃ y_ : List ByteArray, y_ = (([(⟨#[]⟩ : ByteArray), (⟨#[]⟩ : ByteArray)] : List ByteArray)) := ⟨_, rfl⟩); (replace H : (some y148) = some r := qY hy148 H); (have Ny148 := Aside0.mk hy148); clear hy148; (obtain rfl := Option.some.inj H); (obtain ⟨hcz22_0, hcz22_1, hcz22_2, hcz22_3, hcz22_4, hcz22_5, hcz22_6, hfz22_0, hfz22_1, hfz22_2, hfz22_3, hfz22_4, hfz22_5, hfz22_6⟩ := qC7 BK139)
      go_wp2_with (first | ((with_reducible refine gate_callee (f := 99) rfl ?_); refine goesL_ (some 20) rfl rfl Tryz.func99 (by kernel_rfl) rfl #[.int .i64 a0_2] rfl qL ?_; (with_reducible refine (spec_l19Weight.calls a0_2 false _ A17.out).mono ?_); rintro e w' ⟨rfl, ⟨nd, rfl⟩⟩; refine ⟨_, rfl, ?_⟩) | ((with_reducible refine gate_dst (N := 24) rfl ?_); refine Kd.R_lit Kd.string _ 9 ?hg (N := 24) ?hd (xs := ([(⟨#[]⟩ : ByteArray), (⟨#[]⟩ : ByteArray)] : List ByteArray)) (inner := [.string (⟨#[]⟩ : ByteArray), .string (⟨#[]⟩ : ByteArray)]) (ok := fun _ => True) (okp := fun _ => True) ?hr ?hp (fun _ hk => hk) trivial (Below.refl _ _) (Nat.le_refl _) (by simp) ?_; (case hd => rfl); (case hg => rfl); (case hr => first | (go_simp; done) | (go_simp; rfl)); (case hp => exact (Reps.one (show Kd.M Kd.string _ _ _ (⟨#[]⟩ : ByteArray) [.string (⟨#[]⟩ : ByteArray)] from rfl) (Reps.one (show Kd.M Kd.string _ _ _ (⟨#[]⟩ : ByteArray) [.string (⟨#[]⟩ : ByteArray)] from rfl) (Reps.none _ _)))); intro v149 w23 ho24 hb hg_ hnew_; clear hg_ hnew_; (first | rw [← Ny148.out] at ho24 | (simp only [Int.reduceToNat] at ho24; rw [← Ny148.out] at ho24)); have HO150 := Aside0.mk (Kd.R_lower ho24 (below_size (qS1 HB GE139))); replace BK139 := qD BK139 hb; replace HB := Aside0.mk (below_step (qS1 HB GE139) hb); clear hb ho24))
      go_ret
      exact ⟨_, qE, qR HO150, qS1 HB GE139⟩
    ·replace c16 := Bool.eq_false_iff.mpr c16
     (subst c16); (have H1 : (if a0_0 = 4 then (some (([t140, t140] : List ByteArray))) else (if a0_0 = 6 then ((spec_Tokens.f kj9 a0_6 a0_5).bind fun bt154 => (if bt154.2 = true then (some bt154.1) else (if 0 ≤ a0_5 then (if (a0_5 : Int).toNat ≤ 17592186044416 then (some (List.replicate (a0_5 : Int).toNat (⟨#[]⟩ : ByteArray))) else (none)) else (none)))) else (some ([] : List ByteArray)))) = some r := by rw [if_neg (show ¬ (false = true) by decide)] at H; exact H); clear H; (have H := H1); clear H1
     rcases qJ H with ⟨c25, H⟩ | ⟨c25, H⟩
     ·have c25b0 : (a0_0 == 4) = true := beq_iff_eq.mpr c25
      (have c25b1 : (a0_0 != 4) = false := bne_eq_false_iff_eq.mpr c25); clear c25; (obtain ⟨y151, hy151⟩ : ∃ y_ : List ByteArray, y_ = (([t140, t140] : List ByteArray)) := ⟨_, rfl⟩); (replace H : (some y151) = some r := qY hy151 H); (have Ny151 := Aside0.mk hy151); clear hy151; (obtain rfl := Option.some.inj H)
      go_wp2_with (first | ((with_reducible refine gate_dst (N := 29) rfl ?_); refine Kd.R_lit Kd.string _ 9 ?hg (N := 29) ?hd (xs := ([t140, t140] : List ByteArray)) (inner := [.string t140, .string t140]) (ok := fun _ => True) (okp := fun _ => True) ?hr ?hp (fun _ hk => hk) trivial (Below.refl _ _) (Nat.le_refl _) (by simp) ?_; (case hd => rfl); (case hg => rfl); (case hr => first | (go_simp; done) | (go_simp; rfl)); (case hp => exact (Reps.one (show Kd.M Kd.string _ _ _ t140 [.string t140] from rfl) (Reps.one (show Kd.M Kd.string _ _ _ t140 [.string t140] from rfl) (Reps.none _ _)))); intro v152 w26 ho27 hb hg_ hnew_; clear hg_ hnew_; (first | rw [← Ny151.out] at ho27 | (simp only [Int.reduceToNat] at ho27; rw [← Ny151.out] at ho27)); have HO153 := Aside0.mk (Kd.R_lower ho27 (below_size (qS1 HB GE139))); replace BK139 := qD BK139 hb; replace HB := Aside0.mk (below_step (qS1 HB GE139) hb); clear hb ho27))
      go_ret
      exact ⟨_, qE, qR HO153, qS1 HB GE139⟩
     ·have c25b0 : (a0_0 == 4) = false := beq_eq_false_iff_ne.mpr c25
      have c25b1 : (a0_0 != 4) = true := bne_iff_ne.mpr c25
      rcases qJ H with ⟨c28, H⟩ | ⟨c28, H⟩
      ·have c28b0 : (a0_0 == 6) = true := beq_iff_eq.mpr c28
       (have c28b1 : (a0_0 != 6) = false := bne_eq_false_iff_eq.mpr c28); clear c28; (obtain ⟨⟨t154, t155⟩, A29, H⟩ := qX H)
       try dsimp only at H
       by_cases c30 : t155 = true
       ·subst c30
        (have H1 : (some t154) = some r := by rw [if_pos rfl] at H; exact H); clear H; (have H := H1); clear H1; (obtain rfl := Option.some.inj H); (obtain ⟨hcz31_0, hcz31_1, hcz31_2, hcz31_3, hcz31_4, hcz31_5, hcz31_6, hfz31_0, hfz31_1, hfz31_2, hfz31_3, hfz31_4, hfz31_5, hfz31_6⟩ := qC7 BK139)
        go_wp2_with (first | ((with_reducible refine gate_callee (f := 100) rfl ?_); refine goesL_ (some 37) rfl rfl Tryz.func100 (by kernel_rfl) rfl #[.string a0_6, .int .i64 a0_5] rfl qL ?_; (with_reducible refine (spec_Tokens.calls kj9 a0_6 a0_5 t154 true _ A29.out).mono ?_); rintro e w32 ⟨v156, rfl, ho0, hb⟩; refine ⟨_, rfl, ?_⟩; have HO157 := Aside0.mk (Kd.R_lower ho0 (below_size (qS1 HB GE139))); replace BK139 := qD BK139 hb; replace HB := Aside0.mk (below_step (qS1 HB GE139) hb); (try clear hb); (try clear hb2); (try clear hk); (try clear hi); (try clear ho0)))
        go_ret
        exact ⟨_, qE, qR HO157, qS1 HB GE139⟩
       ·replace c30 := Bool.eq_false_iff.mpr c30
        (subst c30); (have H1 : (if 0 ≤ a0_5 then (if (a0_5 : Int).toNat ≤ 17592186044416 then (some (List.replicate (a0_5 : Int).toNat (⟨#[]⟩ : ByteArray))) else (none)) else (none)) = some r := by rw [if_neg (show ¬ (false = true) by decide)] at H; exact H); clear H; (have H := H1); clear H1; (obtain ⟨c33b0, c33b1, H⟩ := qT2 H); (obtain ⟨c34b0, c34b1, H⟩ := qT2 H); (obtain ⟨y158, hy158⟩ : ∃ y_ : List ByteArray, y_ = (List.replicate (a0_5 : Int).toNat (⟨#[]⟩ : ByteArray)) := ⟨_, rfl⟩); (replace H : (some y158) = some r := qY hy158 H); (have Ny158 := Aside0.mk hy158); clear hy158; (obtain rfl := Option.some.inj H); (obtain ⟨hcz35_0, hcz35_1, hcz35_2, hcz35_3, hcz35_4, hcz35_5, hcz35_6, hfz35_0, hfz35_1, hfz35_2, hfz35_3, hfz35_4, hfz35_5, hfz35_6⟩ := qC7 BK139)
        go_wp2_with (first | ((with_reducible refine gate_callee (f := 100) rfl ?_); refine goesL_ (some 37) rfl rfl Tryz.func100 (by kernel_rfl) rfl #[.string a0_6, .int .i64 a0_5] rfl qL ?_; (with_reducible refine (spec_Tokens.calls kj9 a0_6 a0_5 t154 false _ A29.out).mono ?_); rintro e w36 ⟨v156, rfl, ho0, hb⟩; refine ⟨_, rfl, ?_⟩; have HO157 := Aside0.mk (Kd.R_lower ho0 (below_size (qS1 HB GE139))); replace BK139 := qD BK139 hb; replace HB := Aside0.mk (below_step (qS1 HB GE139) hb); (try clear hb); (try clear hb2); (try clear hk); (try clear hi); (try clear ho0); obtain ⟨hcz37_0, hcz37_1, hcz37_2, hcz37_3, hcz37_4, hcz37_5, hcz37_6, hfz37_0, hfz37_1, hfz37_2, hfz37_3, hfz37_4, hfz37_5, hfz37_6⟩ := qC7 BK139) | ((with_reducible refine gate_dst (N := 44) rfl ?_); refine Kd.R_make Kd.string _ 9 rfl (N := 44) rfl 80 _ _ rfl a0_5 rfl rfl Tryz.underlying80 (.string ⟨#[]⟩) 16 info9 rfl (by decide) (by omega) (⟨#[]⟩ : ByteArray) (ok := fun _ => True) (okp := fun _ => True) rfl (fun _ hk => hk) trivial (qO) (Nat.le_trans (Nat.mul_le_mul_right _ (qO : a0_5.toNat ≤ 17592186044416)) (by omega)) (Below.refl _ _) (Nat.le_refl _) ?_; intro v159 w38 ho39 hb hg_ hnew_; clear hg_ hnew_; (first | rw [← Ny158.out] at ho39 | (simp only [Int.reduceToNat] at ho39; rw [← Ny158.out] at ho39)); have HO160 := Aside0.mk (Kd.R_lower (Kd.R_new' ho39 (Kd.R_lt (qR HO157))) (below_size (qS1 HB GE139))); replace HO157 := Aside0.mk (Kd.R_elder' (qR HO157) (Kd.R_base ho39) hb); replace BK139 := qD BK139 hb; replace HB := Aside0.mk (below_step (qS1 HB GE139) hb); clear hb ho39))
        go_ret
        exact ⟨_, qE, by (with_reducible repeat (first | apply Kd.R_alloc | apply Kd.R_drewN | apply Kd.R_drew)); exact Kd.R_mono HO160.out (fun _ hk => trivial), qS1 HB GE139⟩
      ·have c28b0 : (a0_0 == 6) = false := beq_eq_false_iff_ne.mpr c28
       (have c28b1 : (a0_0 != 6) = true := bne_iff_ne.mpr c28); (obtain rfl := Option.some.inj H)
       go_wp2
       go_ret
       exact ⟨_, qE, by first | exact Kd.R_nil _ _ _ _ _ | exact Kd.N_nil _ _ _ _ _ | exact Kd.V_nil _ _ _ _ _ | exact Kd.Q_nil _ _ _ _ _ | exact Kd.S_nil _ _ _ _ _, qS1 HB GE139⟩
def spec_l11Log.f (a0 : Int) : Option (Bool) := if a0 ≥ 0 then (some (decide (a0 ≤ 6))) else (some false)
theorem spec_l11Log.calls (a0 : Int) (r : Bool) (w : World) (h : spec_l11Log.f a0 = some r) :
  Calls Tryz.prog 60 #[.int .i64 a0] w fun e w' => e = .returned (.bool r) ∧ Drawn0 w w' := by
 (have H : (if a0 ≥ 0 then (some (decide (a0 ≤ 6))) else (some false)) = some r := h); clear h
 rcases qI H with ⟨(c2b0 : decide (0 ≤ a0) = true), H⟩ | ⟨(c2b0 : decide (0 ≤ a0) = false), H⟩
 ·obtain rfl := Option.some.inj H
  go_enter Tryz.func60, Tryz.ntmps60
  go_wp2
  go_ret
  exact qZ
 ·obtain rfl := Option.some.inj H
  go_enter Tryz.func60, Tryz.ntmps60
  go_wp2
  go_ret
  exact qZ
def spec_Pad.l0 : Nat → ByteArray → List Int → Int → Option (List Int)
 | 0, _, _, _ => none
 | k + 1, x0, x3, x4 => if x4 < (x0.size : Int) then (if 0 ≤ x4 then (if 0 ≤ (wrap64 (x4 + 1)) then (if (wrap64 (x4 + 1)) < (x3.length : Int) then (spec_Pad.l0 k x0 (x3.set ((wrap64 (x4 + 1)) : Int).toNat (bt x0 x4)) (wrap64 (x4 + 1))) else (none)) else (none)) else (none)) else (some x3)
def spec_Pad.f (k : Nat) (a0 : ByteArray) : Option (List Int) := if 33 ≤ 281474976710656 then ((some (List.replicate 33 0 : List Int)).bind fun y161 => ((spec_WordOk.f k a0).bind fun t164 => (if t164 = true then (if 0 < (y161.length : Int) then (spec_Pad.l0 k a0 (y161.set (0 : Int).toNat (((a0.size : Int)) % 256)) 0) else (none)) else (some y161)))) else (none)
theorem spec_Pad.calls (k : Nat) (a0 : ByteArray) (r : List Int) (w : World) (h : spec_Pad.f k a0 = some r) :
  Calls Tryz.prog 119 #[.string a0] w fun e w' => ∃ v0_ : Value, e = .returned (v0_) ∧ Kd.R (Kd.int .u8) 5 w' w.heap.size (fun _ => True) v0_ r ∧ Below w.heap.size w w' := by
 (have HB := Aside0.mk (Below.refl w.heap.size w)); (have H : (if 33 ≤ 281474976710656 then ((some (List.replicate 33 0 : List Int)).bind fun y161 => ((spec_WordOk.f k a0).bind fun t164 => (if t164 = true then (if 0 < (y161.length : Int) then (spec_Pad.l0 k a0 (y161.set (0 : Int).toNat (((a0.size : Int)) % 256)) 0) else (none)) else (some y161)))) else (none)) = some r := h); clear h; (obtain ⟨c2b0, c2b1, H⟩ := qT2 H); (obtain ⟨y161, hy161⟩ : ∃ y_ : List Int, y_ = (List.replicate 33 0) := ⟨_, rfl⟩); (replace H : ((spec_WordOk.f k a0).bind fun t164 => (if t164 = true then (if 0 < (y161.length : Int) then (spec_Pad.l0 k a0 (y161.set (0 : Int).toNat (((a0.size : Int)) % 256)) 0) else (none)) else (some y161))) = some r := qY hy161 H); (have Ny161 := Aside0.mk hy161); clear hy161; (obtain ⟨t164, A3, H⟩ := qX H)
 try dsimp only at H
 by_cases c4 : t164 = true
 ·subst c4
  (have H1 : (if 0 < (y161.length : Int) then (spec_Pad.l0 k a0 (y161.set (0 : Int).toNat (((a0.size : Int)) % 256)) 0) else (none)) = some r := by rw [if_pos rfl] at H; exact H); clear H; (have H := H1); clear H1; (obtain ⟨c5, H⟩ := qU H); (have c5b0 : decide (0 < (y161.length : Int)) = true := decide_eq_true c5); (have c5b1 : decide (0 < y161.length) = true := decide_eq_true (by omega)); clear c5; (obtain ⟨y165, hy165⟩ : ∃ y_ : List Int, y_ = (y161.set (0 : Int).toNat (((a0.size : Int)) % 256)) := ⟨_, rfl⟩); (replace H : (spec_Pad.l0 k a0 y165 0) = some r := qY hy165 H); (have Ny165 := Aside0.mk hy165); clear hy165; (have H' := Aside0.mk H); clear H
  go_enter Tryz.func119, Tryz.ntmps119
  go_wp2_with (first | ((with_reducible refine gate_dst (N := 5) rfl ?_); refine Kd.R_make (Kd.int .u8) _ 5 rfl (N := 5) rfl 42 _ _ rfl 33 rfl rfl Tryz.underlying42 (.int .u8 0) 1 info5 rfl (by decide) (by omega) 0 (ok := fun _ => True) (okp := fun _ => True) rfl (fun _ hk => hk) trivial (by omega) (by omega) (Below.refl _ _) (Nat.le_refl _) ?_; intro v162 w7 ho8 hb hg_ hnew_; clear hg_ hnew_; (first | rw [← Ny161.out] at ho8 | (simp only [Int.reduceToNat] at ho8; rw [← Ny161.out] at ho8)); have HO163 := Aside0.mk (Kd.R_lower ho8 (below_size (qS0 HB))); replace HB := Aside0.mk (below_step (qS0 HB) hb); clear hb ho8) | ((with_reducible refine gate_callee (f := 117) rfl ?_); refine goesL_ (some 7) rfl rfl Tryz.func117 (by kernel_rfl) rfl #[.string a0] rfl qL ?_; (with_reducible refine (spec_WordOk.calls k a0 true _ A3.out).mono ?_); rintro e w' ⟨rfl, ⟨nd, rfl⟩⟩; refine ⟨_, rfl, ?_⟩; (try (rw [drewN_self w7]; generalize hq_ : World.drewN w7 _ = w7; have n0_ : Aside0 (Kd.R (Kd.int .u8) 5 w7 w.heap.size (fun _ => True) v162 y161) := ⟨by rw [← hq_]; exact (qR HO163)⟩; have n1_ : Aside0 (Below w.heap.size w w7) := ⟨by rw [← hq_]; exact (qS0 HB)⟩; clear HO163 HB hq_; have HO163 := n0_; have HB := n1_; clear n0_ n1_)); have p6 : 0 ≤ (0 : Int) := (by omega); have q6 : (0 : Int) < ((y161.length : Int) : Int) := qO; have qi6 : (0 < y161.length) = True := eq_true (by omega); obtain ⟨go6, co6, eo6, gb6, gl6, cl6, HG6⟩ := Kd.R_form HO163.out (by omega); (first | cases eo6 | (injection eo6 with ea_ en_ ec_; (first | subst ea_ | (injection ea_ with ea_; subst ea_)); subst ec_; clear en_)); have GB6 := Aside0.mk gb6; have GG6 := Aside0.mk HG6; clear gb6 gl6 HG6; obtain ⟨hx6_0, hf6_0⟩ := Kd.R_celln 0 HO163.out (0 : Int) p6 q6; (try rw [show ((0 : Int)).toNat = 0 from rfl] at hx6_0); (try simp only [Nat.reduceMul, Nat.zero_mul, Nat.zero_add, Nat.reduceAdd] at hx6_0); (try rw [show ((0 : Int)).toNat = 0 from rfl] at hf6_0); (try simp only [Nat.reduceMul, Nat.zero_mul, Nat.zero_add, Nat.reduceAdd] at hf6_0); replace p6 := eq_true p6; replace q6 := eq_true q6; obtain ⟨hy9_, hz9_⟩ := Kd.R_celln 0 HO163.out (0 : Int) (by omega) (qO); (try simp only [Int.reduceToNat, Int.toNat_zero, Int.toNat_ofNat, Nat.reduceMul, Nat.zero_mul, Nat.zero_add] at hy9_ hz9_); (try rw [show ((0 : Int)).toNat = 0 from rfl] at hy9_); (try rw [show ((0 : Int)).toNat = 0 from rfl] at hz9_); have HP9 := Kd.R_putg HO163.out (0 : Int) (((a0.size : Int)) % 256)) | ((with_reducible refine gate_store (t := 5) (p := 14) rfl ?_); refine store_event (t := 5) (p := 14) (v := ?vo_w10) (w1 := (w7.setCell ⟨go6, (0 : Int).toNat, none⟩ (.int .u8 (((a0.size : Int)) % 256)))) ?hg ?ho ?hn ?hr ?_; (case ho => rfl); (case hg => rfl); (case hn => rfl); (case hr => first | (go_simp; done) | (go_simp; rfl)); intro w10 hw; have hg : w7.grownBy w10 (some go6) := (by rw [hw]; exact HP9.2); have hp_ : Kd.R (Kd.int .u8) 5 w10 w.heap.size (fun _ => True) (.slice (some ⟨go6, 0, none⟩) y161.length co6) y165 := (by rw [hw, Ny165.out]; exact HP9.1); clear HP9; replace HO163 := Aside0.mk (hp_); replace HB := Aside0.mk ((by rw [hw]; exact below_set (HB.out) GB6.out : Below w.heap.size w w10)); clear hg hw hp_))
  go_loopg [4] k (fun kq v4 w' => ∃ (x3_1 : List Int) (x4_1 : Int), v4 = .int .i64 x4_1 ∧ Aside0 (spec_Pad.l0 kq a0 x3_1 x4_1 = some r) ∧ Aside0 (kq ≤ k) ∧ Aside0 (Kd.R (Kd.int .u8) 5 w' w.heap.size (fun _ => True) (.slice (some ⟨go6, 0, none⟩) y161.length co6) x3_1) ∧ Aside0 (Below w.heap.size w w'))
  case atStart => exact ⟨(y165), (0), qV, H', ⟨Nat.le_refl _⟩, ⟨qR HO163⟩, ⟨qS0 HB⟩⟩
  case round =>
   clear H'; (try clear c2b0); (try clear c2b1); (try clear c4); (try clear c5b0); (try clear c5b1); (try clear p6); (try clear q6); (try clear hx6); (try clear qi6); (try clear hf6); (try clear hx6_0); (obtain ⟨x3_1, x4_1, rfl, HA, HK1, HO_3, HB⟩ := hrel); (have hl3_1 := (Kd.R_reads' HO_3.out).1); (rw [hl3_1] at HO_3); (try simp only [hl3_1])
   cases gk with
   | zero => exact absurd HA.out (by simp [spec_Pad.l0])
   | succ k1 =>
    (have H := HA.out); clear HA; (simp only [spec_Pad.l0] at H)
    rcases qI H with ⟨c11b0, H⟩ | ⟨c11b0, H⟩
    ·obtain ⟨c12b0, H⟩ := qT H
     (obtain ⟨ji14, hji14⟩ : ∃ j_ : Int, (wrap64 (x4_1 + 1)) = j_ := ⟨_, rfl⟩); (replace H : (if 0 ≤ (ji14) then (if (ji14) < (x3_1.length : Int) then (spec_Pad.l0 k1 a0 (x3_1.set ((ji14) : Int).toNat (bt a0 x4_1)) ji14) else (none)) else (none)) = some r := by first | (rw [hji14] at H; exact H) | (simp only [hji14] at H ⊢; exact H)); (have hji14w : (IntKind.i64.wrap (x4_1 + 1)) = ji14 := (i64_w _).trans hji14); (obtain ⟨c15b0, H⟩ := qT H); (obtain ⟨c16b0, H⟩ := qT H); (obtain ⟨y166, hy166⟩ : ∃ y_ : List Int, y_ = (x3_1.set ((ji14) : Int).toNat (bt a0 x4_1)) := ⟨_, rfl⟩); (replace H : (spec_Pad.l0 k1 a0 y166 ji14) = some r := qY hy166 H); (have Ny166 := Aside0.mk hy166); clear hy166; (have H' := Aside0.mk H); clear H; (have p13 : 0 ≤ (x4_1 : Int) := qO); (have q13 : x4_1 < (a0.size : Int) := qO); (have hx13 := bt_at a0 x4_1); (replace p13 := eq_true p13); (replace q13 := eq_true q13); (have p17 : 0 ≤ ((ji14) : Int) := qO); (have q17 : ((ji14) : Int) < ((x3_1.length : Int) : Int) := qO); (obtain ⟨hx17_0, hf17_0⟩ := Kd.R_celln 0 HO_3.out ((ji14) : Int) p17 q17); (replace p17 := eq_true p17); (replace q17 := eq_true q17); (have HP18 := Kd.R_putg HO_3.out ((ji14) : Int) (bt a0 x4_1))
     go_wp2_with (first | ((with_reducible refine gate_store (t := 5) (p := 27) rfl ?_); refine store_event (t := 5) (p := 27) (v := ?vo_w19) (w1 := (wr.setCell ⟨go6, ((ji14) : Int).toNat, none⟩ (.int .u8 (bt a0 x4_1)))) ?hg ?ho ?hn ?hr ?_; (case ho => rfl); (case hg => rfl); (case hn => rfl); (case hr => first | (go_simp; done) | (go_simp; rfl)); intro w19 hw; have hg : wr.grownBy w19 (some go6) := (by rw [hw]; exact HP18.2); have hp_ : Kd.R (Kd.int .u8) 5 w19 w.heap.size (fun _ => True) (.slice (some ⟨go6, 0, none⟩) x3_1.length co6) y166 := (by rw [hw, Ny166.out]; exact HP18.1); clear HP18; replace HO_3 := Aside0.mk (hp_); replace HB := Aside0.mk ((by rw [hw]; exact below_set (HB.out) GB6.out : Below w.heap.size w w19)); clear hg hw hp_))
     (try simp only [← hl3_1])
     go_roundg k1
     case measure => have := HK1.out; omega
     case rel => exact ⟨(y166), (ji14), (by first | rfl | (simp; done) | (simp only [← hji14] <;> (first | rfl | simp)) | (simp [*]; done)), H', ⟨by have := HK1.out; omega⟩, ⟨by (try simp only [hl3_1]); (with_reducible repeat (first | apply Kd.R_alloc | apply Kd.R_drewN | apply Kd.R_drew)); exact HO_3.out⟩, ⟨qS0 HB⟩⟩
    ·obtain rfl := Option.some.inj H
     go_wp2
     go_ret
     exact ⟨_, qE, qR HO_3, qS0 HB⟩
 ·replace c4 := Bool.eq_false_iff.mpr c4
  (subst c4); (have H1 : (some y161) = some r := by rw [if_neg (show ¬ (false = true) by decide)] at H; exact H); clear H; (have H := H1); clear H1; (obtain rfl := Option.some.inj H)
  go_enter Tryz.func119, Tryz.ntmps119
  go_wp2_with (first | ((with_reducible refine gate_dst (N := 5) rfl ?_); refine Kd.R_make (Kd.int .u8) _ 5 rfl (N := 5) rfl 42 _ _ rfl 33 rfl rfl Tryz.underlying42 (.int .u8 0) 1 info5 rfl (by decide) (by omega) 0 (ok := fun _ => True) (okp := fun _ => True) rfl (fun _ hk => hk) trivial (by omega) (by omega) (Below.refl _ _) (Nat.le_refl _) ?_; intro v162 w20 ho21 hb hg_ hnew_; clear hg_ hnew_; (first | rw [← Ny161.out] at ho21 | (simp only [Int.reduceToNat] at ho21; rw [← Ny161.out] at ho21)); have HO163 := Aside0.mk (Kd.R_lower ho21 (below_size (qS0 HB))); replace HB := Aside0.mk (below_step (qS0 HB) hb); clear hb ho21) | ((with_reducible refine gate_callee (f := 117) rfl ?_); refine goesL_ (some 7) rfl rfl Tryz.func117 (by kernel_rfl) rfl #[.string a0] rfl qL ?_; (with_reducible refine (spec_WordOk.calls k a0 false _ A3.out).mono ?_); rintro e w' ⟨rfl, ⟨nd, rfl⟩⟩; refine ⟨_, rfl, ?_⟩))
  go_ret
  exact ⟨_, qE, qR HO163, qS0 HB⟩
mutual
def spec_HashWord.j0 : Nat → Int → ByteArray → Bool → Option (Int)
 | 0, _, _, _ => none
 | k + 1, x0, x1, x18 => if x18 = true then (some (-1)) else ((spec_Pad.f k x1).bind fun t168 => (spec_HashWord.l0 k x0 t168 0))
def spec_HashWord.l0 : Nat → Int → List Int → Int → Option (Int)
 | 0, _, _, _ => none
 | k + 1, x5, x6, x7 => if x7 < (x6.length : Int) then (if 0 ≤ x7 then (spec_HashWord.l0 k (Int.tmod (wrap64 ((Go.bits .xor .i64 x5 (wrap64 (rd x6 x7))) * 16777619)) 4294967296) x6 (wrap64 (x7 + 1))) else (none)) else (some (Go.bits .xor .i64 x5 (wrap64 (Int.tdiv x5 65536))))
end
def spec_HashWord.f (k : Nat) (a0 : Int) (a1 : ByteArray) : Option (Int) := if a0 < 0 then (spec_HashWord.j0 k a0 a1 true) else (if a0 > 4294967295 then (spec_HashWord.j0 k a0 a1 true) else ((spec_WordOk.f k a1).bind fun t167 => (spec_HashWord.j0 k a0 a1 (!t167))))
theorem spec_HashWord.calls (k : Nat) (a0 : Int) (a1 : ByteArray) (r : Int) (w : World) (h : spec_HashWord.f k a0 a1 = some r) :
  Calls Tryz.prog 101 #[.int .i64 a0, .string a1] w fun e w' => e = .returned (.int .i64 r) ∧ Below w.heap.size w w' := by
 (have HB := Aside0.mk (Below.refl w.heap.size w)); (have H : (if a0 < 0 then (spec_HashWord.j0 k a0 a1 true) else (if a0 > 4294967295 then (spec_HashWord.j0 k a0 a1 true) else ((spec_WordOk.f k a1).bind fun t167 => (spec_HashWord.j0 k a0 a1 (!t167))))) = some r := h); clear h; (have HC3 := Aside0.mk H); clear H
 go_enter Tryz.func101, Tryz.ntmps101
 go_upto_region 1 with (fail)
 go_cut [18] (fun v18 wc => ∃ (kq : Nat) (x18_2 : Bool), v18 = .bool x18_2 ∧ Aside0 (spec_HashWord.j0 kq a0 a1 x18_2 = some r) ∧ Aside0 (kq ≤ k) ∧ Aside0 (Below w.heap.size w wc))
 case first =>
  (have H := HC3.out); clear HC3
  rcases qI H with ⟨c4b0, H⟩ | ⟨c4b0, H⟩
  ·(first | rw [c4b0] | (simp only [i64_w, i32_w]; rw [c4b0]) | skip)
   (have H' := Aside0.mk H); clear H
   go_wp2
   go_meet
   case rel => exact ⟨_, (true), qV, H', ⟨by first | omega | exact Nat.le_refl _⟩, ⟨qS0 HB⟩⟩
  ·(first | rw [c4b0] | (simp only [i64_w, i32_w]; rw [c4b0]) | skip)
   rcases qI H with ⟨(c5b0 : decide (4294967295 < a0) = true), H⟩ | ⟨(c5b0 : decide (4294967295 < a0) = false), H⟩
   ·have H' := Aside0.mk H
    clear H
    go_wp2
    go_meet
    case rel => exact ⟨_, (true), qV, H', ⟨by first | omega | exact Nat.le_refl _⟩, ⟨qS0 HB⟩⟩
   ·obtain ⟨t167, A6, H⟩ := qX H
    (replace H : (spec_HashWord.j0 k a0 a1 (!t167)) = some r := H); (have H' := Aside0.mk H); clear H
    go_wp2_with (first | (go_at_call 117; (with_reducible refine (spec_WordOk.calls k a1 t167 _ A6.out).mono ?_); rintro e w' ⟨rfl, ⟨nd, rfl⟩⟩))
    go_meet
    case rel => exact ⟨_, (!t167), qV, H', ⟨by first | omega | exact Nat.le_refl _⟩, ⟨qS0 HB⟩⟩
 case rest =>
  clear HC3; (try clear c4b0); (try clear c5b0); (obtain ⟨kq, x18_2, rfl, HA, HJ2, HB⟩ := hcut)
  cases kq with
  | zero => exact absurd HA.out (by simp [spec_HashWord.j0])
  | succ kj2 =>
   (have H := HA.out); clear HA; (simp only [spec_HashWord.j0] at H)
   by_cases c7 : x18_2 = true
   ·subst c7
    (have H1 : (some (-1)) = some r := by rw [if_pos rfl] at H; exact H); clear H; (have H := H1); clear H1; (obtain rfl := Option.some.inj H)
    go_wp2
    go_ret
    exact ⟨qE, qS0 HB⟩
   ·replace c7 := Bool.eq_false_iff.mpr c7
    (subst c7); (have H1 : ((spec_Pad.f kj2 a1).bind fun t168 => (spec_HashWord.l0 kj2 a0 t168 0)) = some r := by rw [if_neg (show ¬ (false = true) by decide)] at H; exact H); clear H; (have H := H1); clear H1; (obtain ⟨t168, A8, H⟩ := qX H); (replace H : (spec_HashWord.l0 kj2 a0 t168 0) = some r := H); (have H' := Aside0.mk H); clear H
    go_wp2_with (first | ((with_reducible refine gate_callee (f := 119) rfl ?_); refine goesL_ (some 21) rfl rfl Tryz.func119 (by kernel_rfl) rfl #[.string a1] rfl qL ?_; (with_reducible refine (spec_Pad.calls kj2 a1 t168 _ A8.out).mono ?_); rintro e w9 ⟨v169, rfl, ho0, hb⟩; refine ⟨_, rfl, ?_⟩; have HO170 := Aside0.mk (Kd.R_lower ho0 (below_size (qS0 HB))); replace HB := Aside0.mk (below_step (qS0 HB) hb); (try clear hb); (try clear hb2); (try clear hk); (try clear hi); (try clear ho0)))
    go_loopg [5, 7] kj2 (fun kq v5 v7 w' => ∃ (x5_2 : Int) (x7_2 : Int), v5 = .int .i64 x5_2 ∧ v7 = .int .i64 x7_2 ∧ Aside0 (spec_HashWord.l0 kq x5_2 t168 x7_2 = some r) ∧ Aside0 (kq ≤ kj2) ∧ Aside0 (Kd.R (Kd.int .u8) 5 w' w.heap.size (fun _ => True) v169 t168) ∧ Aside0 (Below w.heap.size w w'))
    case atStart => exact ⟨(a0), (0), qV, qV, H', ⟨Nat.le_refl _⟩, ⟨qR HO170⟩, ⟨qS0 HB⟩⟩
    case round =>
     clear H'; (try clear c7); (obtain ⟨x5_2, x7_2, rfl, rfl, HA, HK2, HO_6, HB⟩ := hrel)
     cases gk with
     | zero => exact absurd HA.out (by simp [spec_HashWord.l0])
     | succ k2 =>
      (have H := HA.out); clear HA; (simp only [spec_HashWord.l0] at H)
      rcases qI H with ⟨c10b0, H⟩ | ⟨c10b0, H⟩
      ·obtain ⟨c11b0, H⟩ := qT H
       (have H' := Aside0.mk H); clear H; (obtain ⟨Ao12, co12, eo12⟩ := Kd.R_slice HO_6.out); (subst eo12); (have p171 : 0 ≤ (x7_2 : Int) := qO); (have q171 : x7_2 < (t168.length : Int) := qO); (obtain ⟨ad171, e171, hx171_0⟩ := Kd.at_int (Kd.R_reads' HO_6.out).2.2 x7_2 p171 q171)
       cases e171
       (replace p171 := eq_true p171); (replace q171 := eq_true q171)
       go_wp2
       go_roundg k2
       case measure => have := HJ2.out; have := HK2.out; omega
       case rel => exact ⟨(Int.tmod (wrap64 ((Go.bits .xor .i64 x5_2 (wrap64 (rd t168 x7_2))) * 16777619)) 4294967296), (wrap64 (x7_2 + 1)), qV, qV, H', ⟨by have := HJ2.out; have := HK2.out; omega⟩, ⟨qR HO_6⟩, ⟨qS0 HB⟩⟩
      ·obtain rfl := Option.some.inj H
       (obtain ⟨Ao13, co13, eo13⟩ := Kd.R_slice HO_6.out); (subst eo13)
       go_wp2
       go_ret
       exact ⟨qE, qS0 HB⟩
def spec_ShelfFor.f (k : Nat) (a0 : Int) (a1 : ByteArray) (a2 : Int) : Option (Int) := (spec_HashWord.f k a0 a1).bind fun t172 => (if t172 < 0 then (some (-1)) else ((spec_l11Log.f a2).bind fun t173 => (if t173 = true then ((spec_l02Pow.f k a2).bind fun t174 => (if t174 = 0 then (none) else (some (Int.tmod t172 t174)))) else (some (-1)))))
theorem spec_ShelfFor.calls (k : Nat) (a0 : Int) (a1 : ByteArray) (a2 : Int) (r : Int) (w : World) (h : spec_ShelfFor.f k a0 a1 a2 = some r) :
  Calls Tryz.prog 56 #[.int .i64 a0, .string a1, .int .i64 a2] w fun e w' => e = .returned (.int .i64 r) ∧ Below w.heap.size w w' := by
 (have HB := Aside0.mk (Below.refl w.heap.size w)); (have H : ((spec_HashWord.f k a0 a1).bind fun t172 => (if t172 < 0 then (some (-1)) else ((spec_l11Log.f a2).bind fun t173 => (if t173 = true then ((spec_l02Pow.f k a2).bind fun t174 => (if t174 = 0 then (none) else (some (Int.tmod t172 t174)))) else (some (-1)))))) = some r := h); clear h; (obtain ⟨t172, A4, H⟩ := qX H)
 try dsimp only at H
 rcases qI H with ⟨c5b0, H⟩ | ⟨c5b0, H⟩
 ·obtain rfl := Option.some.inj H
  go_enter Tryz.func56, Tryz.ntmps56
  go_wp2_with (first | ((with_reducible refine gate_callee (f := 101) rfl ?_); refine goesL_ (some 10) rfl rfl Tryz.func101 (by kernel_rfl) rfl #[.int .i64 a0, .string a1] rfl qL ?_; (with_reducible refine (spec_HashWord.calls k a0 a1 t172 _ A4.out).mono ?_); rintro e w6 ⟨rfl, hb⟩; refine ⟨_, rfl, ?_⟩; replace HB := Aside0.mk (below_step (qS0 HB) hb); (try clear hb); (try clear hb2); (try clear hk); (try clear hi)))
  go_ret
  exact ⟨qE, qS0 HB⟩
 ·obtain ⟨t173, A7, H⟩ := qX H
  try dsimp only at H
  by_cases c8 : t173 = true
  ·subst c8
   (have H1 : ((spec_l02Pow.f k a2).bind fun t174 => (if t174 = 0 then (none) else (some (Int.tmod t172 t174)))) = some r := by rw [if_pos rfl] at H; exact H); clear H; (have H := H1); clear H1; (obtain ⟨t174, A9, H⟩ := qX H); (replace H : (if t174 = 0 then (none) else (some (Int.tmod t172 t174))) = some r := H)
   rcases qJ H with ⟨c10, H⟩ | ⟨c10, H⟩
   ·exact absurd H (by simp)
   ·have c10b0 : (t174 == 0) = false := beq_eq_false_iff_ne.mpr c10
    (have c10b1 : (t174 != 0) = true := bne_iff_ne.mpr c10); (obtain rfl := Option.some.inj H)
    go_enter Tryz.func56, Tryz.ntmps56
    go_wp2_with (first | ((with_reducible refine gate_callee (f := 101) rfl ?_); refine goesL_ (some 10) rfl rfl Tryz.func101 (by kernel_rfl) rfl #[.int .i64 a0, .string a1] rfl qL ?_; (with_reducible refine (spec_HashWord.calls k a0 a1 t172 _ A4.out).mono ?_); rintro e w11 ⟨rfl, hb⟩; refine ⟨_, rfl, ?_⟩; replace HB := Aside0.mk (below_step (qS0 HB) hb); (try clear hb); (try clear hb2); (try clear hk); (try clear hi)) | (go_at_call 60; (with_reducible refine (spec_l11Log.calls a2 true _ A7.out).mono ?_); rintro e w' ⟨rfl, ⟨nd, rfl⟩⟩) | ((with_reducible refine gate_callee (f := 28) rfl ?_); refine goesL_ (some 20) rfl rfl Tryz.func28 (by kernel_rfl) rfl #[.int .i64 a2] rfl qL ?_; (with_reducible refine (spec_l02Pow.calls k a2 t174 _ A9.out).mono ?_); rintro e w' ⟨rfl, ⟨nd, rfl⟩⟩; refine ⟨_, rfl, ?_⟩))
    go_ret
    exact ⟨qE, qS0 HB⟩
  ·replace c8 := Bool.eq_false_iff.mpr c8
   (subst c8); (have H1 : (some (-1)) = some r := by rw [if_neg (show ¬ (false = true) by decide)] at H; exact H); clear H; (have H := H1); clear H1; (obtain rfl := Option.some.inj H)
   go_enter Tryz.func56, Tryz.ntmps56
   go_wp2_with (first | ((with_reducible refine gate_callee (f := 101) rfl ?_); refine goesL_ (some 10) rfl rfl Tryz.func101 (by kernel_rfl) rfl #[.int .i64 a0, .string a1] rfl qL ?_; (with_reducible refine (spec_HashWord.calls k a0 a1 t172 _ A4.out).mono ?_); rintro e w12 ⟨rfl, hb⟩; refine ⟨_, rfl, ?_⟩; replace HB := Aside0.mk (below_step (qS0 HB) hb); (try clear hb); (try clear hb2); (try clear hk); (try clear hi)) | (go_at_call 60; (with_reducible refine (spec_l11Log.calls a2 false _ A7.out).mono ?_); rintro e w' ⟨rfl, ⟨nd, rfl⟩⟩))
   go_ret
   exact ⟨qE, qS0 HB⟩
mutual
def spec_SessIds.j0 : Nat → List (S56) → Bool → Int → Int → Int → Int → Option (List Int × Bool)
 | 0, _, _, _, _, _, _ => none
 | k + 1, x1, x17, x176000, x176001, x176002, x176003 => if x17 = true then (some (([] : List Int), false)) else (spec_SessIds.l0 k x1 (([] : List Int)) 0 x176000 x176001 x176002 x176003)
def spec_SessIds.l0 : Nat → List (S56) → List Int → Int → Int → Int → Int → Int → Option (List Int × Bool)
 | 0, _, _, _, _, _, _, _ => none
 | k + 1, x1, x6, x7, x176000, x176001, x176002, x176003 => if x7 < (x1.length : Int) then (if 0 ≤ x7 then ((spec_l22Words.f k ((rd_T56 x1 x7).f0) ((rd_T56 x1 x7).f1) ((rd_T56 x1 x7).f2) ((rd_T56 x1 x7).f3) ((rd_T56 x1 x7).f4) ((rd_T56 x1 x7).f5) ((rd_T56 x1 x7).f6)).bind fun t182 => (spec_SessIds.l1 k x1 x6 x7 t182 0 x176000 x176001 x176002 x176003)) else (none)) else (some (x6, true))
def spec_SessIds.l1 : Nat → List (S56) → List Int → Int → List ByteArray → Int → Int → Int → Int → Int → Option (List Int × Bool)
 | 0, _, _, _, _, _, _, _, _, _ => none
 | k + 1, x1, x6, x7, x8, x9, x176000, x176001, x176002, x176003 => if x9 < (x8.length : Int) then (if 0 ≤ x9 then ((spec_ShelfFor.f k x176000 (rdOf ByteArray.empty x8 x9) x176001).bind fun t186 => (if x6.length < 17592186044416 then (spec_SessIds.l1 k x1 (x6 ++ [t186]) x7 x8 (wrap64 (x9 + 1)) x176000 x176001 x176002 x176003) else (none))) else (none)) else (spec_SessIds.l0 k x1 x6 (wrap64 (x7 + 1)) x176000 x176001 x176002 x176003)
end
def spec_SessIds.f (k : Nat) (a0_0 : Int) (a0_1 : Int) (a0_2 : Int) (a0_3 : Int) (l1 : List (S56)) : Option (List Int × Bool) := (spec_ConfOk.f a0_0 a0_1 a0_2 a0_3).bind fun t176 => (if t176 = true then ((spec_ReqsOk.f k l1).bind fun t177 => (spec_SessIds.j0 k l1 (!t177) a0_0 a0_1 a0_2 a0_3)) else (spec_SessIds.j0 k l1 true a0_0 a0_1 a0_2 a0_3))
def spec_SessIds.T11 : Bool × List (List Nat × List Nat) := (true, [([], []), ([], []), ([1], [1]), ([], []), ([], []), ([3, 4], [3, 4]), ([5], [5]), ([], []), ([7], [7]), ([2, 6, 8], [2, 6, 8]), ([9], [9]), ([0, 10, 9], [0, 10]), ([11, 11, 0, 1, 2, 3, 4, 5, 6, 7, 8, 9, 10, 11], [0, 11])])
def spec_SessIds.B11 : List Nat := [0, 0, 2, 0, 0, 24, 56, 0, 128, 510, 1022, 2047, 4095]
theorem spec_SessIds.tab11 : rtab .any (opsOf Tryz.f25 11) = spec_SessIds.T11 := by kernel_rfl
theorem spec_SessIds.bits11 : waitsOk spec_SessIds.T11.2 spec_SessIds.B11 = true := by kernel_rfl
theorem spec_SessIds.calls (k : Nat) (a0_0 : Int) (a0_1 : Int) (a0_2 : Int) (a0_3 : Int) (A1 : Option Addr) (c1 : Nat) (l1 : List (S56)) (r1 : List Int) (r2 : Bool) (w : World) (hr1 : Kd.C k56 w A1 l1.length l1) (hc1 : l1.length ≤ c1) (h : spec_SessIds.f k a0_0 a0_1 a0_2 a0_3 l1 = some (r1, r2)) :
  Calls Tryz.prog 25 #[.agg #[.int .i64 a0_0, .int .i64 a0_1, .int .i64 a0_2, .int .i64 a0_3], .slice A1 l1.length c1] w fun e w' => ∃ v0_ : Value, e = .returned (.tuple #[v0_, .bool r2]) ∧ Kd.R (Kd.int .i64) 3 w' w.heap.size (fun _ => True) v0_ r1 ∧ Below w.heap.size w w' := by
 (have hu29 := Tryz.underlying29); (have hu56 := Tryz.underlying56); (have HR1 := Aside0.mk hr1); (have HC1 := Aside0.mk hc1); clear hr1 hc1; (have HB := Aside0.mk (Below.refl w.heap.size w)); (have H : ((spec_ConfOk.f a0_0 a0_1 a0_2 a0_3).bind fun t176 => (if t176 = true then ((spec_ReqsOk.f k l1).bind fun t177 => (spec_SessIds.j0 k l1 (!t177) a0_0 a0_1 a0_2 a0_3)) else (spec_SessIds.j0 k l1 true a0_0 a0_1 a0_2 a0_3))) = some (r1, r2) := h); clear h; (have HC3 := Aside0.mk H); clear H
 go_enter Tryz.func25, Tryz.ntmps25
 go_upto_region 1 with (first | ((with_reducible refine gate_dst (N := 2) rfl ?_); refine box_event ?hg (N := 2) ?hd (cs := #[.int .i64 a0_0, .int .i64 a0_1, .int .i64 a0_2, .int .i64 a0_3]) (t := 29) ?hr ?_; (case hd => rfl); (case hg => rfl); (case hr => first | (go_simp; done) | (go_simp; rfl)); intro gb175 hg w4 hbox hb; have BK175 := Aside0.mk (hbox); have GW175 := qG hg (below_size (qS0 HB)); have GE175 := qG hg (below_size (qS0 HB)); replace HB := Aside0.mk (below_step (qS0 HB) hb); clear hb hbox hg))
 (try simp only [Act.put, List.setIfInBounds_toArray, List.set_cons_zero, List.set_cons_succ])
 go_cut [17] (fun v17 wc => ∃ (kq : Nat) (x17_2 : Bool), v17 = .bool x17_2 ∧ Aside0 (spec_SessIds.j0 kq l1 x17_2 a0_0 a0_1 a0_2 a0_3 = some (r1, r2)) ∧ Aside0 (kq ≤ k) ∧ Aside0 (wc.heap[gb175]? = some (.cells #[.int .i64 a0_0, .int .i64 a0_1, .int .i64 a0_2, .int .i64 a0_3] 29 (0, 0))) ∧ Aside0 (Below w.heap.size w wc))
 case first =>
  (have H := HC3.out); clear HC3; (obtain ⟨t176, A5, H⟩ := qX H)
  try dsimp only at H
  by_cases c6 : t176 = true
  ·subst c6
   (have H1 : ((spec_ReqsOk.f k l1).bind fun t177 => (spec_SessIds.j0 k l1 (!t177) a0_0 a0_1 a0_2 a0_3)) = some (r1, r2) := by rw [if_pos rfl] at H; exact H); clear H; (have H := H1); clear H1; (obtain ⟨t177, A7, H⟩ := qX H); (replace H : (spec_SessIds.j0 k l1 (!t177) a0_0 a0_1 a0_2 a0_3) = some (r1, r2) := H); (have H' := Aside0.mk H); clear H; (obtain ⟨hcz8_0, hcz8_1, hcz8_2, hcz8_3, hfz8_0, hfz8_1, hfz8_2, hfz8_3⟩ := qC4 BK175)
   go_wp2_with (first | ((with_reducible refine gate_callee (f := 53) rfl ?_); refine goesL_ (some 11) rfl rfl Tryz.func53 (by kernel_rfl) rfl #[.agg #[.int .i64 a0_0, .int .i64 a0_1, .int .i64 a0_2, .int .i64 a0_3]] rfl qL ?_; (with_reducible refine (spec_ConfOk.calls a0_0 a0_1 a0_2 a0_3 true _ A5.out).mono ?_); rintro e w9 ⟨rfl, hb⟩; refine ⟨_, rfl, ?_⟩; replace BK175 := qD BK175 hb; replace HB := Aside0.mk (below_step (qS1 HB GE175) hb); (try clear hb); (try clear hb2); (try clear hk); (try clear hi)) | (go_at_call 54; (with_reducible refine (spec_ReqsOk.calls k _ _ l1 t177 _ ?side1 ?side2 A7.out).mono ?_); (case side1 => exact qW (Kd.C_below HR1.out HB.out)); (case side2 => exact HC1.out); rintro e w10 ⟨rfl, hb⟩; replace BK175 := qD BK175 hb; replace HB := Aside0.mk (below_step (qS1 HB GE175) hb); (try clear hb); (try clear hb2); (try clear hk); (try clear hi)))
   go_meet
   case rel => exact ⟨_, (!t177), qV, H', ⟨by first | omega | exact Nat.le_refl _⟩, ⟨qB BK175⟩, ⟨qS1 HB GE175⟩⟩
  ·replace c6 := Bool.eq_false_iff.mpr c6
   (subst c6); (have H1 : (spec_SessIds.j0 k l1 true a0_0 a0_1 a0_2 a0_3) = some (r1, r2) := by rw [if_neg (show ¬ (false = true) by decide)] at H; exact H); clear H; (have H := H1); clear H1; (have H' := Aside0.mk H); clear H; (obtain ⟨hcz11_0, hcz11_1, hcz11_2, hcz11_3, hfz11_0, hfz11_1, hfz11_2, hfz11_3⟩ := qC4 BK175)
   go_wp2_with (first | ((with_reducible refine gate_callee (f := 53) rfl ?_); refine goesL_ (some 11) rfl rfl Tryz.func53 (by kernel_rfl) rfl #[.agg #[.int .i64 a0_0, .int .i64 a0_1, .int .i64 a0_2, .int .i64 a0_3]] rfl qL ?_; (with_reducible refine (spec_ConfOk.calls a0_0 a0_1 a0_2 a0_3 false _ A5.out).mono ?_); rintro e w12 ⟨rfl, hb⟩; refine ⟨_, rfl, ?_⟩; replace BK175 := qD BK175 hb; replace HB := Aside0.mk (below_step (qS1 HB GE175) hb); (try clear hb); (try clear hb2); (try clear hk); (try clear hi)))
   go_meet
   case rel => exact ⟨_, (true), qV, H', ⟨by first | omega | exact Nat.le_refl _⟩, ⟨qB BK175⟩, ⟨qS1 HB GE175⟩⟩
 case rest =>
  clear HC3; (try clear c6); (try clear hcz11_0); (try clear hcz11_1); (try clear hcz11_2); (try clear hcz11_3); (try clear hcz8_0); (try clear hcz8_1); (try clear hcz8_2); (try clear hcz8_3); (try clear hfz11_0); (try clear hfz11_1); (try clear hfz11_2); (try clear hfz11_3); (try clear hfz8_0); (try clear hfz8_1); (try clear hfz8_2); (try clear hfz8_3); (obtain ⟨kq, x17_2, rfl, HA, HJ2, BK175, HB⟩ := hcut)
  cases kq with
  | zero => exact absurd HA.out (by simp [spec_SessIds.j0])
  | succ kj2 =>
   (have H := HA.out); clear HA; (simp only [spec_SessIds.j0] at H)
   by_cases c13 : x17_2 = true
   ·subst c13
    (have H1 : (some (([] : List Int), false)) = some (r1, r2) := by rw [if_pos rfl] at H; exact H); clear H; (have H := H1); clear H1; (simp only [Option.some.injEq, Prod.mk.injEq] at H); (obtain ⟨rfl, rfl⟩ := H)
    go_wp2
    go_ret2
    exact ⟨_, qE, by first | exact Kd.R_nil _ _ _ _ _ | exact Kd.N_nil _ _ _ _ _ | exact Kd.V_nil _ _ _ _ _ | exact Kd.Q_nil _ _ _ _ _ | exact Kd.S_nil _ _ _ _ _, qS1 HB GE175⟩
   ·replace c13 := Bool.eq_false_iff.mpr c13
    (subst c13); (have H1 : (spec_SessIds.l0 kj2 l1 (([] : List Int)) 0 a0_0 a0_1 a0_2 a0_3) = some (r1, r2) := by rw [if_neg (show ¬ (false = true) by decide)] at H; exact H); clear H; (have H := H1); clear H1; (obtain ⟨y178, hy178⟩ : ∃ y_ : List Int, y_ = (([] : List Int)) := ⟨_, rfl⟩); (replace H : (spec_SessIds.l0 kj2 l1 y178 0 a0_0 a0_1 a0_2 a0_3) = some (r1, r2) := qY hy178 H); (have Ny178 := Aside0.mk hy178); clear hy178; (have H' := Aside0.mk H); clear H
    go_wp2_with (first | ((with_reducible refine gate_dst (N := 18) rfl ?_); refine Kd.R_lit (Kd.int .i64) _ 3 ?hg (N := 18) ?hd (xs := ([] : List Int)) (inner := []) (ok := fun _ => True) (okp := fun _ => True) ?hr ?hp (fun _ hk => hk) trivial (Below.refl _ _) (Nat.le_refl _) (by simp) ?_; (case hd => rfl); (case hg => rfl); (case hr => first | (go_simp; done) | (go_simp; rfl)); (case hp => exact (Reps.none _ _)); intro v179 w14 ho15 hb hg_ hnew_; clear hg_ hnew_; (first | rw [← Ny178.out] at ho15 | (simp only [Int.reduceToNat] at ho15; rw [← Ny178.out] at ho15)); have HO180 := Aside0.mk (Kd.R_lower ho15 (below_size (qS1 HB GE175))); replace BK175 := qD BK175 hb; replace HB := Aside0.mk (below_step (qS1 HB GE175) hb); clear hb ho15))
    go_loopg [6, 7] kj2 (fun kq v6 v7 w' => ∃ (x6_2 : List Int) (x7_2 : Int), v7 = .int .i64 x7_2 ∧ Aside0 (spec_SessIds.l0 kq l1 x6_2 x7_2 a0_0 a0_1 a0_2 a0_3 = some (r1, r2)) ∧ Aside0 (kq ≤ kj2) ∧ Aside0 (Kd.R (Kd.int .i64) 3 w' w.heap.size (fun _ => True) v6 x6_2) ∧ Aside0 (w'.heap[gb175]? = some (.cells #[.int .i64 a0_0, .int .i64 a0_1, .int .i64 a0_2, .int .i64 a0_3] 29 (0, 0))) ∧ Aside0 (Below w.heap.size w w'))
    case atStart => exact ⟨(y178), (0), qV, H', ⟨Nat.le_refl _⟩, ⟨qR HO180⟩, ⟨qB BK175⟩, ⟨qS1 HB GE175⟩⟩
    case round =>
     clear H'; (try clear c13); (obtain ⟨x6_2, x7_2, rfl, HA, HK2, HO_6, BK175, HB⟩ := hrel)
     cases gk with
     | zero => exact absurd HA.out (by simp [spec_SessIds.l0])
     | succ k2 =>
      (have H := HA.out); clear HA; (simp only [spec_SessIds.l0] at H)
      rcases qI H with ⟨c16b0, H⟩ | ⟨c16b0, H⟩
      ·obtain ⟨c17b0, H⟩ := qT H
       (obtain ⟨t182, A18, H⟩ := qX H); (replace H : (spec_SessIds.l1 k2 l1 x6_2 x7_2 t182 0 a0_0 a0_1 a0_2 a0_3) = some (r1, r2) := H); (have H' := Aside0.mk H); clear H; (have p181 : 0 ≤ (x7_2 : Int) := qO); (have q181 : x7_2 < (l1.length : Int) := qO); (obtain ⟨ad181, e181, hx181_0, hx181_1, hx181_2, hx181_3, hx181_4, hx181_5, hx181_6⟩ := at_T56 HR1.out x7_2 p181 q181)
       cases e181
       (replace hx181_0 := qF HB hx181_0); (replace hx181_1 := qF HB hx181_1); (replace hx181_2 := qF HB hx181_2); (replace hx181_3 := qF HB hx181_3); (replace hx181_4 := qF HB hx181_4); (replace hx181_5 := qF HB hx181_5); (replace hx181_6 := qF HB hx181_6); (replace p181 := eq_true p181); (replace q181 := eq_true q181)
       go_wp2_with (first | ((with_reducible refine gate_callee (f := 55) rfl ?_); refine goesL_ (some 29) rfl rfl Tryz.func55 (by kernel_rfl) rfl #[.agg #[.int .i64 ((rd_T56 l1 x7_2).f0), .string ((rd_T56 l1 x7_2).f1), .int .i64 ((rd_T56 l1 x7_2).f2), .int .i64 ((rd_T56 l1 x7_2).f3), .int .i64 ((rd_T56 l1 x7_2).f4), .int .i64 ((rd_T56 l1 x7_2).f5), .string ((rd_T56 l1 x7_2).f6)]] rfl qL ?_; (with_reducible refine (spec_l22Words.calls k2 ((rd_T56 l1 x7_2).f0) ((rd_T56 l1 x7_2).f1) ((rd_T56 l1 x7_2).f2) ((rd_T56 l1 x7_2).f3) ((rd_T56 l1 x7_2).f4) ((rd_T56 l1 x7_2).f5) ((rd_T56 l1 x7_2).f6) t182 _ A18.out).mono ?_); rintro e w19 ⟨v183, rfl, ho0, hb⟩; refine ⟨_, rfl, ?_⟩; replace HO_6 := Aside0.mk (Kd.R_below (qR HO_6) hb); have HO184 := Aside0.mk (Kd.R_lower ho0 (below_size (qS1 HB GE175))); replace BK175 := qD BK175 hb; replace HB := Aside0.mk (below_step (qS1 HB GE175) hb); (try clear hb); (try clear hb2); (try clear hk); (try clear hi); (try clear ho0)))
       go_loopg [6, 9] k2 (fun kq v6 v9 w' => ∃ (x6_3 : List Int) (x9_3 : Int), v9 = .int .i64 x9_3 ∧ Aside0 (spec_SessIds.l1 kq l1 x6_3 x7_2 t182 x9_3 a0_0 a0_1 a0_2 a0_3 = some (r1, r2)) ∧ Aside0 (kq ≤ k2) ∧ Aside0 (Kd.R (Kd.int .i64) 3 w' w.heap.size (fun _ => True) v6 x6_3) ∧ Aside0 (Kd.R Kd.string 9 w' w.heap.size (fun _ => True) v183 t182) ∧ Aside0 (w'.heap[gb175]? = some (.cells #[.int .i64 a0_0, .int .i64 a0_1, .int .i64 a0_2, .int .i64 a0_3] 29 (0, 0))) ∧ Aside0 (Below w.heap.size w w'))
       case atStart => exact ⟨(x6_2), (0), qV, H', ⟨Nat.le_refl _⟩, ⟨qR HO_6⟩, ⟨qR HO184⟩, ⟨qB BK175⟩, ⟨qS1 HB GE175⟩⟩
       case round =>
        clear H'; (try clear hx1); (try clear c16b0); (try clear c17b0); (try clear hx18); (try clear hx181_0); (try clear hx181_1); (try clear hx181_2); (try clear hx181_3); (try clear hx181_4); (try clear hx181_5); (try clear hx181_6); (try clear p181); (try clear q181); (obtain ⟨x6_3, x9_3, rfl, HA, HK3, HO_6, HO_8, BK175, HB⟩ := hrel)
        cases gk with
        | zero => exact absurd HA.out (by simp [spec_SessIds.l1])
        | succ k3 =>
         (have H := HA.out); clear HA; (simp only [spec_SessIds.l1] at H)
         rcases qI H with ⟨c20b0, H⟩ | ⟨c20b0, H⟩
         ·obtain ⟨c21b0, H⟩ := qT H
          obtain ⟨t186, A22, H⟩ := qX H
          try dsimp only at H
          (obtain ⟨c23, H⟩ := qU H); (have LMc23 := Aside0.mk c23); clear c23; (obtain ⟨y187, hy187⟩ : ∃ y_ : List Int, y_ = (x6_3 ++ [t186]) := ⟨_, rfl⟩); (replace H : (spec_SessIds.l1 k3 l1 y187 x7_2 t182 (wrap64 (x9_3 + 1)) a0_0 a0_1 a0_2 a0_3) = some (r1, r2) := qY hy187 H); (have Ny187 := Aside0.mk hy187); clear hy187; (have H' := Aside0.mk H); clear H; (obtain ⟨Ao24, co24, eo24⟩ := Kd.R_slice HO_8.out); (subst eo24)
          try go_wp2
          (replace HO_6 := Aside0.mk (Kd.R_drew HO_6.out)); (replace HO_8 := Aside0.mk (Kd.R_drew HO_8.out)); (replace BK175 := Aside0.mk (blk_drew BK175.out)); (replace HB := Aside0.mk (below_drew1 HB.out)); (have p185 : 0 ≤ (x9_3 : Int) := qO); (have q185 : x9_3 < (t182.length : Int) := qO); (obtain ⟨ad185, e185, hx185_0⟩ := Kd.at_string (Kd.R_reads' HO_8.out).2.2 x9_3 p185 q185)
          cases e185
          (replace p185 := eq_true p185); (replace q185 := eq_true q185)
          refine start_ (n := 13) (S := fun w' => w'.cell? ⟨gb175, 0, none⟩ = some (.int .i64 a0_0) ∧ w'.cell? ⟨gb175, 1, none⟩ = some (.int .i64 a0_1) ∧ w'.cell? ⟨gb175, 2, none⟩ = some (.int .i64 a0_2) ∧ w'.cell? ⟨gb175, 3, none⟩ = some (.int .i64 a0_3) ∧ w'.cell? (ad185.add (x9_3).toNat) = some (.string (rdOf ByteArray.empty t182 x9_3))) (ds := [10, 11]) #[false, false, false, false, false, false, false, false, false, false, false, false, false] (by kernel_rfl) rfl rfl ⟨(blk_cell BK175.out 0).trans rfl, (blk_cell BK175.out 1).trans rfl, (blk_cell BK175.out 2).trans rfl, (blk_cell BK175.out 3).trans rfl, hx185_0⟩ (fun hHeld => ?_); refine with_tabW spec_SessIds.tab11 spec_SessIds.bits11 (fun HT_ HW_ => ?_)
          generalize wr.drew = w25 at HO_6 HO_8 BK175 HB hx185_0 hHeld ⊢
          refine pure_ (i := 0) (N := some 36) (v := ?_) (a' := ?_) #[true, false, false, false, false, false, false, false, false, false, false, false, false] rfl rfl (any_of HT_.out (by kernel_rfl)) (fun _ _ _ h => h) (Or.inl ⟨by rfl, ?_⟩) ?_ ?_
          rotate_left
          ·intro w'
           go_simp
           with_reducible rfl
          rotate_left
          ·exact qPu
          refine pure_ (i := 1) (N := some 37) (v := ?_) (a' := ?_) #[true, true, false, false, false, false, false, false, false, false, false, false, false] rfl rfl (any_of HT_.out (by kernel_rfl)) (fun _ _ _ h => h) (Or.inl ⟨by rfl, ?_⟩) ?_ ?_
          rotate_left
          ·intro w'
           go_simp
           with_reducible rfl
          rotate_left
          ·exact qPu
          refine pure_ (i := 3) (N := some 39) (v := ?_) (a' := ?_) #[true, true, false, true, false, false, false, false, false, false, false, false, false] rfl rfl (any_of HT_.out (by kernel_rfl)) (fun _ _ _ h => h) (Or.inl ⟨by rfl, ?_⟩) ?_ ?_
          rotate_left
          ·intro w'
           go_simp
           with_reducible rfl
          rotate_left
          ·exact qPu
          refine pure_ (i := 4) (N := some 40) (v := ?_) (a' := ?_) #[true, true, false, true, true, false, false, false, false, false, false, false, false] rfl rfl (any_of HT_.out (by kernel_rfl)) (fun _ _ _ h => h) (Or.inl ⟨by rfl, ?_⟩) ?_ ?_
          rotate_left
          ·intro w'
           go_simp
           with_reducible rfl
          rotate_left
          ·exact qPu
          refine pure_ (i := 5) (N := some 41) (v := ?_) (a' := ?_) #[true, true, false, true, true, true, false, false, false, false, false, false, false] rfl rfl (any_of HT_.out (by kernel_rfl)) (fun _ _ _ h => h) (Or.inl ⟨by rfl, ?_⟩) ?_ ?_
          rotate_left
          ·intro w'
           go_simp
           with_reducible rfl
          rotate_left
          ·exact qPu
          refine pure_ (i := 7) (N := some 43) (v := ?_) (a' := ?_) #[true, true, false, true, true, true, false, true, false, false, false, false, false] rfl rfl (any_of HT_.out (by kernel_rfl)) (fun _ _ _ h => h) (Or.inl ⟨by rfl, ?_⟩) ?_ ?_
          rotate_left
          ·intro w'
           go_simp
           with_reducible rfl
          rotate_left
          ·exact qPu
          refine take_ (i := 2) (N := some 38) (v := ?_) (a' := ?_) #[true, true, true, true, true, true, false, true, false, false, false, false, false] rfl rfl (take_ofW HT_.out HW_.out (by kernel_rfl)) (fun _ _ _ h => h) (Or.inl ⟨by rfl, ?_⟩) hHeld ?_ ?_
          rotate_left
          ·rintro w' ⟨s0, s1, s2, s3, s4⟩
           go_simp
           with_reducible rfl
          rotate_left
          ·exact qPu
          refine take_ (i := 6) (N := some 42) (v := ?_) (a' := ?_) #[true, true, true, true, true, true, true, true, false, false, false, false, false] rfl rfl (take_ofW HT_.out HW_.out (by kernel_rfl)) (fun _ _ _ h => h) (Or.inl ⟨by rfl, ?_⟩) hHeld ?_ ?_
          rotate_left
          ·rintro w' ⟨s0, s1, s2, s3, s4⟩
           go_simp
           with_reducible rfl
          rotate_left
          ·exact qPu
          refine take_ (i := 8) (N := some 44) (v := ?_) (a' := ?_) #[true, true, true, true, true, true, true, true, true, false, false, false, false] rfl rfl (take_ofW HT_.out HW_.out (by kernel_rfl)) (fun _ _ _ h => h) (Or.inl ⟨by rfl, ?_⟩) hHeld ?_ ?_
          rotate_left
          ·rintro w' ⟨s0, s1, s2, s3, s4⟩
           go_simp
           with_reducible rfl
          rotate_left
          ·exact qPu
          refine one_ (i := 9) (N := some 45) #[true, true, true, true, true, true, true, true, true, true, false, false, false] rfl rfl (one_of HT_.out (by kernel_rfl)) (by decide) (fun K hK => ?_)
          refine goes_ Tryz.func56 (by kernel_rfl) rfl #[.int .i64 a0_0, .string (rdOf ByteArray.empty t182 x9_3), .int .i64 a0_1] (by rfl) rfl rfl qL ?_
          with_reducible refine (spec_ShelfFor.calls k3 a0_0 (rdOf ByteArray.empty t182 x9_3) a0_1 t186 _ A22.out).mono ?_
          rintro e w26 ⟨rfl, hb⟩
          have HS4_ := (hb.cell (World.block_lt_of_cell? _ _ (hHeld.2.2.2.2))).trans (hHeld.2.2.2.2)
          refine ⟨_, rfl, ?_⟩
          (replace HO_6 := Aside0.mk (Kd.R_below (qR HO_6) hb)); (replace HO_8 := Aside0.mk (Kd.R_below (qR HO_8) hb)); (replace BK175 := qD BK175 hb); (replace HB := Aside0.mk (below_step (qS1 HB GE175) hb)); (try clear hb); (try clear hb2); (try clear hk); (try clear hi)
          refine hK.out _ _ ⟨(blk_cell BK175.out 0).trans rfl, (blk_cell BK175.out 1).trans rfl, (blk_cell BK175.out 2).trans rfl, (blk_cell BK175.out 3).trans rfl, HS4_⟩ (fun hHeld => ?_)
          clear hK K
          refine norm_ (a' := ?_) ?_ ?_
          rotate_left
          ·show Act.put _ (some 45) _ = _
           exact qPu
          refine last_ (i := 10) (N := some 46) #[true, true, true, true, true, true, true, true, true, true, true, false, false] rfl rfl (one_of HT_.out (by kernel_rfl)) (by decide) (fun K hK => ?_)
          refine value_ (w1 := ?_) (v := ?_) (by rfl) rfl ?_ ?_
          rotate_left 2
          ·go_simp
           constructor
           ·rfl
           ·rfl
          refine hK.out _ _ ?_
          clear hK K
          refine norm_ (a' := ?_) ?_ ?_
          rotate_left
          ·show Act.put _ (some 46) _ = _
           exact qPu
          refine last_ (i := 11) (N := some 47) #[true, true, true, true, true, true, true, true, true, true, true, true, false] rfl rfl (one_of HT_.out (by kernel_rfl)) (by decide) (fun K hK => ?_)
          refine Kd.R_append_step (Kd.int .i64) (w0 := w) w.heap.size (by rfl) (.tmp 36) (.tmp 46) 25 3 (.int .i64 0) 8 rfl Tryz.underlying25 info3 rfl (by decide) (by omega) u6 x6_3 t186 [.int .i64 t186] (fun _ => True) (fun _ => False) rfl rfl ?aP (fun _ hk => hk.elim) ?aF ?aO ?aB ?aS ?aL ?_
          (case aP => exact rfl)
          (case aB => exact (qS1 HB GE175))
          (case aF => exact (fun _ _ => trivial))
          (case aO => exact (qR HO_6))
          (case aS => exact (below_size (qS1 HB GE175)))
          (case aL => have := LMc23.out; omega)
          intro v188 w27 ho hb hg hat
          (rw [← Ny187.out] at ho); (replace HO_8 := Aside0.mk (Kd.R_over' (qR HO_8) (Kd.R_typed (qR HO_6)) (by decide) hg)); (replace BK175 := Aside0.mk (blk_grown (qB BK175) hg (Kd.R_ne HO_6.out BK175.out (by decide)))); (replace HB := Aside0.mk (hb)); (have HO189 := Aside0.mk (ho)); clear HO_6 ho hb hg hat
          refine hK.out _ _ ?_
          clear hK K
          refine norm_ (a' := ?_) ?_ ?_
          rotate_left
          ·show Act.put _ (some 47) _ = _
           exact qPu
          refine pure_ (i := 12) (N := some 6) (v := ?_) (a' := ?_) #[true, true, true, true, true, true, true, true, true, true, true, true, true] rfl rfl (any_of HT_.out (by kernel_rfl)) (fun _ _ _ h => h) (Or.inl ⟨by rfl, ?_⟩) ?_ ?_
          rotate_left
          ·intro w'
           go_simp
           with_reducible rfl
          rotate_left
          ·exact qPu
          refine done_ (done_of HT_.out (by kernel_rfl)) ?_
          try go_wp2
          go_roundg k3
          case measure => have := HJ2.out; have := HK2.out; have := HK3.out; omega
          case rel => exact ⟨(y187), (wrap64 (x9_3 + 1)), qV, H', ⟨by have := HJ2.out; have := HK2.out; have := HK3.out; omega⟩, ⟨qR HO189⟩, ⟨qR HO_8⟩, ⟨qB BK175⟩, ⟨qS1 HB GE175⟩⟩
         ·have H' := Aside0.mk H
          clear H; (obtain ⟨Ao28, co28, eo28⟩ := Kd.R_slice HO_8.out); (subst eo28)
          go_wp2
          go_roundg k3
          case measure => have := HJ2.out; have := HK2.out; have := HK3.out; omega
          case rel => exact ⟨(x6_3), (wrap64 (x7_2 + 1)), qV, H', ⟨by have := HJ2.out; have := HK2.out; have := HK3.out; omega⟩, ⟨qR HO_6⟩, ⟨qB BK175⟩, ⟨qS1 HB GE175⟩⟩
      ·simp only [Option.some.injEq, Prod.mk.injEq] at H
       obtain ⟨rfl, rfl⟩ := H
       go_wp2
       go_ret2
       exact ⟨_, qE, qR HO_6, qS1 HB GE175⟩
def spec_DeepDraws.f (k : Nat) (a0 : Int) : Option (Int) := (spec_l16Log.f a0).bind fun t201 => (if t201 = true then ((spec_l02Pow.f k (wrap64 (a0 - 2))).bind fun t202 => (some (wrap64 (6 * t202)))) else (some (-1)))
theorem spec_DeepDraws.calls (k : Nat) (a0 : Int) (r : Int) (w : World) (h : spec_DeepDraws.f k a0 = some r) :
  Calls Tryz.prog 43 #[.int .i64 a0] w fun e w' => e = .returned (.int .i64 r) ∧ Drawn0 w w' := by
 (have H : ((spec_l16Log.f a0).bind fun t201 => (if t201 = true then ((spec_l02Pow.f k (wrap64 (a0 - 2))).bind fun t202 => (some (wrap64 (6 * t202)))) else (some (-1)))) = some r := h); clear h; (obtain ⟨t201, A2, H⟩ := qX H)
 try dsimp only at H
 by_cases c3 : t201 = true
 ·subst c3
  (have H1 : ((spec_l02Pow.f k (wrap64 (a0 - 2))).bind fun t202 => (some (wrap64 (6 * t202)))) = some r := by rw [if_pos rfl] at H; exact H); clear H; (have H := H1); clear H1; (obtain ⟨t202, A4, H⟩ := qX H); (replace H : (some (wrap64 (6 * t202))) = some r := H); (obtain rfl := Option.some.inj H)
  go_enter Tryz.func43, Tryz.ntmps43
  go_wp2_with (first | ((with_reducible refine gate_callee (f := 81) rfl ?_); refine goesL_ (some 4) rfl rfl Tryz.func81 (by kernel_rfl) rfl #[.int .i64 a0] rfl qL ?_; (with_reducible refine (spec_l16Log.calls a0 true _ A2.out).mono ?_); rintro e w' ⟨rfl, ⟨nd, rfl⟩⟩; refine ⟨_, rfl, ?_⟩) | ((with_reducible refine gate_callee (f := 28) rfl ?_); refine goesL_ (some 8) rfl rfl Tryz.func28 (by kernel_rfl) rfl #[.int .i64 (wrap64 (a0 - 2))] rfl qL ?_; (with_reducible refine (spec_l02Pow.calls k (wrap64 (a0 - 2)) t202 _ A4.out).mono ?_); rintro e w' ⟨rfl, ⟨nd, rfl⟩⟩; refine ⟨_, rfl, ?_⟩))
  go_ret
  exact qZ
 ·replace c3 := Bool.eq_false_iff.mpr c3
  (subst c3); (have H1 : (some (-1)) = some r := by rw [if_neg (show ¬ (false = true) by decide)] at H; exact H); clear H; (have H := H1); clear H1; (obtain rfl := Option.some.inj H)
  go_enter Tryz.func43, Tryz.ntmps43
  go_wp2_with (first | ((with_reducible refine gate_callee (f := 81) rfl ?_); refine goesL_ (some 4) rfl rfl Tryz.func81 (by kernel_rfl) rfl #[.int .i64 a0] rfl qL ?_; (with_reducible refine (spec_l16Log.calls a0 false _ A2.out).mono ?_); rintro e w' ⟨rfl, ⟨nd, rfl⟩⟩; refine ⟨_, rfl, ?_⟩))
  go_ret
  exact qZ
def spec_ShapesOf.l0 : Nat → List (S56) → List (S79) → Int → Option ((List (S79)) × Bool)
 | 0, _, _, _ => none
 | k + 1, x0, x4, x5 => if x5 < (x0.length : Int) then (if 0 ≤ x5 then (if x4.length < 8796093022208 then (spec_ShapesOf.l0 k x0 (x4 ++ [(⟨(rd_T56 x0 x5).f0, (rd_T56 x0 x5).f5⟩ : S79)]) (wrap64 (x5 + 1))) else (none)) else (none)) else (some (x4, true))
def spec_ShapesOf.f (k : Nat) (l0 : List (S56)) : Option ((List (S79)) × Bool) := (spec_ReqsOk.f k l0).bind fun t190 => (if t190 = true then (spec_ShapesOf.l0 k l0 (([] : List (S79))) 0) else (some (([] : List (S79)), false)))
def spec_ShapesOf.T7 : Bool × List (List Nat × List Nat) := (true, [([], []), ([], []), ([], []), ([1, 2], [1, 2]), ([3], [3]), ([4], [4]), ([], []), ([], []), ([6, 7], [6, 7]), ([8], [8]), ([9], [9]), ([5, 10], [5, 10]), ([11], [11]), ([0, 12], [0, 12]), ([13, 13, 0, 1, 2, 3, 4, 5, 6, 7, 8, 9, 10, 11, 12, 13], [0, 13])])
def spec_ShapesOf.B7 : List Nat := [0, 0, 0, 6, 14, 30, 0, 0, 192, 448, 960, 2046, 4094, 8191, 16383]
theorem spec_ShapesOf.tab7 : rtab .any (opsOf Tryz.f52 7) = spec_ShapesOf.T7 := by kernel_rfl
theorem spec_ShapesOf.bits7 : waitsOk spec_ShapesOf.T7.2 spec_ShapesOf.B7 = true := by kernel_rfl
theorem spec_ShapesOf.calls (k : Nat) (A0 : Option Addr) (c0 : Nat) (l0 : List (S56)) (r1 : List (S79)) (r2 : Bool) (w : World) (hr0 : Kd.C k56 w A0 l0.length l0) (hc0 : l0.length ≤ c0) (h : spec_ShapesOf.f k l0 = some (r1, r2)) :
  Calls Tryz.prog 52 #[.slice A0 l0.length c0] w fun e w' => ∃ v0_ : Value, e = .returned (.tuple #[v0_, .bool r2]) ∧ Kd.R k79 79 w' w.heap.size (fun _ => True) v0_ r1 ∧ Below w.heap.size w w' := by
 (have hu79 := Tryz.underlying79); (have HR0 := Aside0.mk hr0); (have HC0 := Aside0.mk hc0); clear hr0 hc0; (have HB := Aside0.mk (Below.refl w.heap.size w)); (have H : ((spec_ReqsOk.f k l0).bind fun t190 => (if t190 = true then (spec_ShapesOf.l0 k l0 (([] : List (S79))) 0) else (some (([] : List (S79)), false)))) = some (r1, r2) := h); clear h; (obtain ⟨t190, A2, H⟩ := qX H)
 try dsimp only at H
 by_cases c3 : t190 = true
 ·subst c3
  (have H1 : (spec_ShapesOf.l0 k l0 (([] : List (S79))) 0) = some (r1, r2) := by rw [if_pos rfl] at H; exact H); clear H; (have H := H1); clear H1; (obtain ⟨y191, hy191⟩ : ∃ y_ : List (S79), y_ = (([] : List (S79))) := ⟨_, rfl⟩); (replace H : (spec_ShapesOf.l0 k l0 y191 0) = some (r1, r2) := qY hy191 H); (have Ny191 := Aside0.mk hy191); clear hy191; (have H' := Aside0.mk H); clear H
  go_enter Tryz.func52, Tryz.ntmps52
  go_wp2_with (first | ((with_reducible refine gate_callee (f := 54) rfl ?_); refine goesL_ (some 7) rfl rfl Tryz.func54 (by kernel_rfl) rfl #[.slice A0 l0.length c0] rfl qL ?_; (with_reducible refine (spec_ReqsOk.calls k _ _ l0 true _ ?side1 ?side2 A2.out).mono ?_); (case side1 => exact qW HR0.out); (case side2 => exact HC0.out); rintro e w4 ⟨rfl, hb⟩; refine ⟨_, rfl, ?_⟩; replace HB := Aside0.mk (below_step (qS0 HB) hb); (try clear hb); (try clear hb2); (try clear hk); (try clear hi)) | ((with_reducible refine gate_dst (N := 9) rfl ?_); refine Kd.R_lit k79 _ 79 ?hg (N := 9) ?hd (xs := ([] : List (S79))) (inner := []) (ok := fun _ => True) (okp := fun _ => True) ?hr ?hp (fun _ hk => hk) trivial (Below.refl _ _) (Nat.le_refl _) (by simp) ?_; (case hd => rfl); (case hg => rfl); (case hr => first | (go_simp; done) | (go_simp; rfl)); (case hp => exact (Reps.none _ _)); intro v192 w5 ho6 hb hg_ hnew_; clear hg_ hnew_; (first | rw [← Ny191.out] at ho6 | (simp only [Int.reduceToNat] at ho6; rw [← Ny191.out] at ho6)); have HO193 := Aside0.mk (Kd.R_lower ho6 (below_size (qS0 HB))); replace HB := Aside0.mk (below_step (qS0 HB) hb); clear hb ho6))
  go_loopg [4, 5] k (fun kq v4 v5 w' => ∃ (x4_1 : List (S79)) (x5_1 : Int), v5 = .int .i64 x5_1 ∧ Aside0 (spec_ShapesOf.l0 kq l0 x4_1 x5_1 = some (r1, r2)) ∧ Aside0 (kq ≤ k) ∧ Aside0 (Kd.R k79 79 w' w.heap.size (fun _ => True) v4 x4_1) ∧ Aside0 (Below w.heap.size w w'))
  case atStart => exact ⟨(y191), (0), qV, H', ⟨Nat.le_refl _⟩, ⟨qR HO193⟩, ⟨qS0 HB⟩⟩
  case round =>
   clear H'; (try clear c3); (obtain ⟨x4_1, x5_1, rfl, HA, HK1, HO_4, HB⟩ := hrel)
   cases gk with
   | zero => exact absurd HA.out (by simp [spec_ShapesOf.l0])
   | succ k1 =>
    (have H := HA.out); clear HA; (simp only [spec_ShapesOf.l0] at H)
    rcases qI H with ⟨c7b0, H⟩ | ⟨c7b0, H⟩
    ·obtain ⟨c8b0, H⟩ := qT H
     (obtain ⟨c9, H⟩ := qU H); (have LMc9 := Aside0.mk c9); clear c9; (obtain ⟨y196, hy196⟩ : ∃ y_ : List (S79), y_ = (x4_1 ++ [(⟨(rd_T56 l0 x5_1).f0, (rd_T56 l0 x5_1).f5⟩ : S79)]) := ⟨_, rfl⟩); (replace H : (spec_ShapesOf.l0 k1 l0 y196 (wrap64 (x5_1 + 1))) = some (r1, r2) := qY hy196 H); (have Ny196 := Aside0.mk hy196); clear hy196; (have H' := Aside0.mk H); clear H
     try go_wp2
     (replace HO_4 := Aside0.mk (Kd.R_drew HO_4.out)); (replace HB := Aside0.mk (below_drew1 HB.out)); (have p194 : 0 ≤ (x5_1 : Int) := qO); (have q194 : x5_1 < (l0.length : Int) := qO); (obtain ⟨ad194, e194, hx194_0, hx194_1, hx194_2, hx194_3, hx194_4, hx194_5, hx194_6⟩ := at_T56 HR0.out x5_1 p194 q194); (have hw194_6 := hx194_6); (have hw194_5 := hx194_5); (have hw194_4 := hx194_4); (have hw194_3 := hx194_3); (have hw194_2 := hx194_2); (have hw194_1 := hx194_1); (have hw194_0 := hx194_0)
     cases e194
     (replace hx194_0 := qF HB hx194_0); (replace hx194_1 := qF HB hx194_1); (replace hx194_2 := qF HB hx194_2); (replace hx194_3 := qF HB hx194_3); (replace hx194_4 := qF HB hx194_4); (replace hx194_5 := qF HB hx194_5); (replace hx194_6 := qF HB hx194_6); (replace p194 := eq_true p194); (replace q194 := eq_true q194); (have p195 : 0 ≤ (x5_1 : Int) := qO); (have q195 : x5_1 < (l0.length : Int) := qO); (obtain ⟨ad195, e195, hx195_0, hx195_1, hx195_2, hx195_3, hx195_4, hx195_5, hx195_6⟩ := at_T56 HR0.out x5_1 p195 q195); (have hw195_6 := hx195_6); (have hw195_5 := hx195_5); (have hw195_4 := hx195_4); (have hw195_3 := hx195_3); (have hw195_2 := hx195_2); (have hw195_1 := hx195_1); (have hw195_0 := hx195_0); (obtain rfl : ad194 = ad195 := (by injection e195)); (replace hx195_0 := qF HB hx195_0); (replace hx195_1 := qF HB hx195_1); (replace hx195_2 := qF HB hx195_2); (replace hx195_3 := qF HB hx195_3); (replace hx195_4 := qF HB hx195_4); (replace hx195_5 := qF HB hx195_5); (replace hx195_6 := qF HB hx195_6); (replace p195 := eq_true p195); (replace q195 := eq_true q195)
     refine start_ (n := 15) (S := fun w' => w'.cell? (ad194.add ((x5_1).toNat * 7)) = some (.int .i64 ((rd_T56 l0 x5_1).f0)) ∧ w'.cell? ⟨(ad194.add ((x5_1).toNat * 7)).block, (ad194.add ((x5_1).toNat * 7)).off + 1, none⟩ = some (.string ((rd_T56 l0 x5_1).f1)) ∧ w'.cell? ⟨(ad194.add ((x5_1).toNat * 7)).block, (ad194.add ((x5_1).toNat * 7)).off + 2, none⟩ = some (.int .i64 ((rd_T56 l0 x5_1).f2)) ∧ w'.cell? ⟨(ad194.add ((x5_1).toNat * 7)).block, (ad194.add ((x5_1).toNat * 7)).off + 3, none⟩ = some (.int .i64 ((rd_T56 l0 x5_1).f3)) ∧ w'.cell? ⟨(ad194.add ((x5_1).toNat * 7)).block, (ad194.add ((x5_1).toNat * 7)).off + 4, none⟩ = some (.int .i64 ((rd_T56 l0 x5_1).f4)) ∧ w'.cell? ⟨(ad194.add ((x5_1).toNat * 7)).block, (ad194.add ((x5_1).toNat * 7)).off + 5, none⟩ = some (.int .i64 ((rd_T56 l0 x5_1).f5)) ∧ w'.cell? ⟨(ad194.add ((x5_1).toNat * 7)).block, (ad194.add ((x5_1).toNat * 7)).off + 6, none⟩ = some (.string ((rd_T56 l0 x5_1).f6)) ∧ w'.cell? (ad194.add ((x5_1).toNat * 7)) = some (.int .i64 ((rd_T56 l0 x5_1).f0)) ∧ w'.cell? ⟨(ad194.add ((x5_1).toNat * 7)).block, (ad194.add ((x5_1).toNat * 7)).off + 1, none⟩ = some (.string ((rd_T56 l0 x5_1).f1)) ∧ w'.cell? ⟨(ad194.add ((x5_1).toNat * 7)).block, (ad194.add ((x5_1).toNat * 7)).off + 2, none⟩ = some (.int .i64 ((rd_T56 l0 x5_1).f2)) ∧ w'.cell? ⟨(ad194.add ((x5_1).toNat * 7)).block, (ad194.add ((x5_1).toNat * 7)).off + 3, none⟩ = some (.int .i64 ((rd_T56 l0 x5_1).f3)) ∧ w'.cell? ⟨(ad194.add ((x5_1).toNat * 7)).block, (ad194.add ((x5_1).toNat * 7)).off + 4, none⟩ = some (.int .i64 ((rd_T56 l0 x5_1).f4)) ∧ w'.cell? ⟨(ad194.add ((x5_1).toNat * 7)).block, (ad194.add ((x5_1).toNat * 7)).off + 5, none⟩ = some (.int .i64 ((rd_T56 l0 x5_1).f5)) ∧ w'.cell? ⟨(ad194.add ((x5_1).toNat * 7)).block, (ad194.add ((x5_1).toNat * 7)).off + 6, none⟩ = some (.string ((rd_T56 l0 x5_1).f6))) (ds := []) #[false, false, false, false, false, false, false, false, false, false, false, false, false, false, false] (by kernel_rfl) rfl rfl ⟨(qF HB hw194_0), (qF HB hw194_1), (qF HB hw194_2), (qF HB hw194_3), (qF HB hw194_4), (qF HB hw194_5), (qF HB hw194_6), (qF HB hw195_0), (qF HB hw195_1), (qF HB hw195_2), (qF HB hw195_3), (qF HB hw195_4), (qF HB hw195_5), (qF HB hw195_6)⟩ (fun hHeld => ?_); refine with_tabW spec_ShapesOf.tab7 spec_ShapesOf.bits7 (fun HT_ HW_ => ?_)
     generalize wr.drew = w10 at HO_4 HB hx194_0 hx194_1 hx194_2 hx194_3 hx194_4 hx194_5 hx194_6 hx195_0 hx195_1 hx195_2 hx195_3 hx195_4 hx195_5 hx195_6 hHeld ⊢
     refine pure_ (i := 0) (N := some 16) (v := ?_) (a' := ?_) #[true, false, false, false, false, false, false, false, false, false, false, false, false, false, false] rfl rfl (any_of HT_.out (by kernel_rfl)) (fun _ _ _ h => h) (Or.inl ⟨by rfl, ?_⟩) ?_ ?_
     rotate_left
     ·intro w'
      go_simp
      with_reducible rfl
     rotate_left
     ·exact qPu
     refine pure_ (i := 1) (N := some 17) (v := ?_) (a' := ?_) #[true, true, false, false, false, false, false, false, false, false, false, false, false, false, false] rfl rfl (any_of HT_.out (by kernel_rfl)) (fun _ _ _ h => h) (Or.inl ⟨by rfl, ?_⟩) ?_ ?_
     rotate_left
     ·intro w'
      go_simp
      with_reducible rfl
     rotate_left
     ·exact qPu
     refine pure_ (i := 2) (N := some 18) (v := ?_) (a' := ?_) #[true, true, true, false, false, false, false, false, false, false, false, false, false, false, false] rfl rfl (any_of HT_.out (by kernel_rfl)) (fun _ _ _ h => h) (Or.inl ⟨by rfl, ?_⟩) ?_ ?_
     rotate_left
     ·intro w'
      go_simp
      with_reducible rfl
     rotate_left
     ·exact qPu
     refine pure_ (i := 3) (N := some 19) (v := ?_) (a' := ?_) #[true, true, true, true, false, false, false, false, false, false, false, false, false, false, false] rfl rfl (any_of HT_.out (by kernel_rfl)) (fun _ _ _ h => h) (Or.inl ⟨by rfl, ?_⟩) ?_ ?_
     rotate_left
     ·intro w'
      go_simp
      with_reducible rfl
     rotate_left
     ·exact qPu
     refine pure_ (i := 4) (N := some 20) (v := ?_) (a' := ?_) #[true, true, true, true, true, false, false, false, false, false, false, false, false, false, false] rfl rfl (any_of HT_.out (by kernel_rfl)) (fun _ _ _ h => h) (Or.inl ⟨by rfl, ?_⟩) ?_ ?_
     rotate_left
     ·intro w'
      go_simp
      with_reducible rfl
     rotate_left
     ·exact qPu
     refine pure_ (i := 6) (N := some 22) (v := ?_) (a' := ?_) #[true, true, true, true, true, false, true, false, false, false, false, false, false, false, false] rfl rfl (any_of HT_.out (by kernel_rfl)) (fun _ _ _ h => h) (Or.inl ⟨by rfl, ?_⟩) ?_ ?_
     rotate_left
     ·intro w'
      go_simp
      with_reducible rfl
     rotate_left
     ·exact qPu
     refine pure_ (i := 7) (N := some 23) (v := ?_) (a' := ?_) #[true, true, true, true, true, false, true, true, false, false, false, false, false, false, false] rfl rfl (any_of HT_.out (by kernel_rfl)) (fun _ _ _ h => h) (Or.inl ⟨by rfl, ?_⟩) ?_ ?_
     rotate_left
     ·intro w'
      go_simp
      with_reducible rfl
     rotate_left
     ·exact qPu
     refine pure_ (i := 8) (N := some 24) (v := ?_) (a' := ?_) #[true, true, true, true, true, false, true, true, true, false, false, false, false, false, false] rfl rfl (any_of HT_.out (by kernel_rfl)) (fun _ _ _ h => h) (Or.inl ⟨by rfl, ?_⟩) ?_ ?_
     rotate_left
     ·intro w'
      go_simp
      with_reducible rfl
     rotate_left
     ·exact qPu
     refine pure_ (i := 9) (N := some 25) (v := ?_) (a' := ?_) #[true, true, true, true, true, false, true, true, true, true, false, false, false, false, false] rfl rfl (any_of HT_.out (by kernel_rfl)) (fun _ _ _ h => h) (Or.inl ⟨by rfl, ?_⟩) ?_ ?_
     rotate_left
     ·intro w'
      go_simp
      with_reducible rfl
     rotate_left
     ·exact qPu
     refine take_ (i := 5) (N := some 21) (v := ?_) (a' := ?_) #[true, true, true, true, true, true, true, true, true, true, false, false, false, false, false] rfl rfl (take_ofW HT_.out HW_.out (by kernel_rfl)) (fun _ _ _ h => h) (Or.inl ⟨by rfl, ?_⟩) hHeld ?_ ?_
     rotate_left
     ·rintro w' ⟨s0, s1, s2, s3, s4, s5, s6, s7, s8, s9, s10, s11, s12, s13⟩
      go_simp
      with_reducible rfl
     rotate_left
     ·exact qPu
     refine take_ (i := 10) (N := some 26) (v := ?_) (a' := ?_) #[true, true, true, true, true, true, true, true, true, true, true, false, false, false, false] rfl rfl (take_ofW HT_.out HW_.out (by kernel_rfl)) (fun _ _ _ h => h) (Or.inl ⟨by rfl, ?_⟩) hHeld ?_ ?_
     rotate_left
     ·rintro w' ⟨s0, s1, s2, s3, s4, s5, s6, s7, s8, s9, s10, s11, s12, s13⟩
      go_simp
      with_reducible rfl
     rotate_left
     ·exact qPu
     refine pure_ (i := 11) (N := some 27) (v := ?_) (a' := ?_) #[true, true, true, true, true, true, true, true, true, true, true, true, false, false, false] rfl rfl (any_of HT_.out (by kernel_rfl)) (fun _ _ _ h => h) (Or.inl ⟨by rfl, ?_⟩) ?_ ?_
     rotate_left
     ·intro w'
      go_simp
      with_reducible rfl
     rotate_left
     ·exact qPu
     refine one_ (i := 12) (N := some 28) #[true, true, true, true, true, true, true, true, true, true, true, true, true, false, false] rfl rfl (one_of HT_.out (by kernel_rfl)) (by decide) (fun K hK => ?_)
     refine value_ (w1 := ?_) (v := ?_) (by rfl) rfl ?_ ?_
     rotate_left 2
     ·go_simp
      constructor
      ·rfl
      ·rfl
     refine hK.out _ _ ⟨(World.cell?_alloc_lt _ _ _ (World.block_lt_of_cell? _ _ ((qF HB hw194_0)))).trans ((qF HB hw194_0)), (World.cell?_alloc_lt _ _ _ (World.block_lt_of_cell? _ _ ((qF HB hw194_1)))).trans ((qF HB hw194_1)), (World.cell?_alloc_lt _ _ _ (World.block_lt_of_cell? _ _ ((qF HB hw194_2)))).trans ((qF HB hw194_2)), (World.cell?_alloc_lt _ _ _ (World.block_lt_of_cell? _ _ ((qF HB hw194_3)))).trans ((qF HB hw194_3)), (World.cell?_alloc_lt _ _ _ (World.block_lt_of_cell? _ _ ((qF HB hw194_4)))).trans ((qF HB hw194_4)), (World.cell?_alloc_lt _ _ _ (World.block_lt_of_cell? _ _ ((qF HB hw194_5)))).trans ((qF HB hw194_5)), (World.cell?_alloc_lt _ _ _ (World.block_lt_of_cell? _ _ ((qF HB hw194_6)))).trans ((qF HB hw194_6)), (World.cell?_alloc_lt _ _ _ (World.block_lt_of_cell? _ _ ((qF HB hw195_0)))).trans ((qF HB hw195_0)), (World.cell?_alloc_lt _ _ _ (World.block_lt_of_cell? _ _ ((qF HB hw195_1)))).trans ((qF HB hw195_1)), (World.cell?_alloc_lt _ _ _ (World.block_lt_of_cell? _ _ ((qF HB hw195_2)))).trans ((qF HB hw195_2)), (World.cell?_alloc_lt _ _ _ (World.block_lt_of_cell? _ _ ((qF HB hw195_3)))).trans ((qF HB hw195_3)), (World.cell?_alloc_lt _ _ _ (World.block_lt_of_cell? _ _ ((qF HB hw195_4)))).trans ((qF HB hw195_4)), (World.cell?_alloc_lt _ _ _ (World.block_lt_of_cell? _ _ ((qF HB hw195_5)))).trans ((qF HB hw195_5)), (World.cell?_alloc_lt _ _ _ (World.block_lt_of_cell? _ _ ((qF HB hw195_6)))).trans ((qF HB hw195_6))⟩ (fun hHeld => ?_)
     clear hK K
     refine norm_ (a' := ?_) ?_ ?_
     rotate_left
     ·show Act.put _ (some 28) _ = _
      exact qPu
     refine one_ (i := 13) (N := some 29) #[true, true, true, true, true, true, true, true, true, true, true, true, true, true, false] rfl rfl (one_of HT_.out (by kernel_rfl)) (by decide) (fun K hK => ?_)
     refine Kd.R_append_step k79 (w0 := w) w.heap.size (by rfl) (.tmp 16) (.tmp 28) 62 79 (.agg #[(.int .i64 0), (.int .i64 0)]) 16 rfl Tryz.underlying62 info79 rfl (by decide) (by omega) u4 x4_1 (⟨(rd_T56 l0 x5_1).f0, (rd_T56 l0 x5_1).f5⟩ : S79) [.int .i64 ((rd_T56 l0 x5_1).f0), .int .i64 ((rd_T56 l0 x5_1).f5)] (fun _ => True) (fun _ => False) rfl rfl ?aP (fun _ hk => hk.elim) ?aF ?aO ?aB ?aS ?aL ?_
     (case aP => exact k79_mkM _ _ _ (⟨(rd_T56 l0 x5_1).f0, (rd_T56 l0 x5_1).f5⟩ : S79))
     (case aB => exact (qS0 HB))
     (case aF => exact (fun _ _ => trivial))
     (case aO => exact (qR HO_4))
     (case aS => exact (below_size (qS0 HB)))
     (case aL => have := LMc9.out; omega)
     intro v197 w11 ho hb hg hat
     (rw [← Ny196.out] at ho); (replace HB := Aside0.mk (hb)); (have HO198 := Aside0.mk (ho)); clear HO_4 ho hb hg hat
     refine hK.out _ _ ⟨(qF HB hw194_0), (qF HB hw194_1), (qF HB hw194_2), (qF HB hw194_3), (qF HB hw194_4), (qF HB hw194_5), (qF HB hw194_6), (qF HB hw195_0), (qF HB hw195_1), (qF HB hw195_2), (qF HB hw195_3), (qF HB hw195_4), (qF HB hw195_5), (qF HB hw195_6)⟩ (fun hHeld => ?_)
     clear hK K
     refine norm_ (a' := ?_) ?_ ?_
     rotate_left
     ·show Act.put _ (some 29) _ = _
      exact qPu
     refine pure_ (i := 14) (N := some 4) (v := ?_) (a' := ?_) #[true, true, true, true, true, true, true, true, true, true, true, true, true, true, true] rfl rfl (any_of HT_.out (by kernel_rfl)) (fun _ _ _ h => h) (Or.inl ⟨by rfl, ?_⟩) ?_ ?_
     rotate_left
     ·intro w'
      go_simp
      with_reducible rfl
     rotate_left
     ·exact qPu
     refine done_ (done_of HT_.out (by kernel_rfl)) ?_
     try go_wp2
     go_roundg k1
     case measure => have := HK1.out; omega
     case rel => exact ⟨(y196), (wrap64 (x5_1 + 1)), qV, H', ⟨by have := HK1.out; omega⟩, ⟨qR HO198⟩, ⟨qS0 HB⟩⟩
    ·simp only [Option.some.injEq, Prod.mk.injEq] at H
     obtain ⟨rfl, rfl⟩ := H
     go_wp2
     go_ret2
     exact ⟨_, qE, qR HO_4, qS0 HB⟩
 ·replace c3 := Bool.eq_false_iff.mpr c3
  (subst c3); (have H1 : (some (([] : List (S79)), false)) = some (r1, r2) := by rw [if_neg (show ¬ (false = true) by decide)] at H; exact H); clear H; (have H := H1); clear H1; (simp only [Option.some.injEq, Prod.mk.injEq] at H); (obtain ⟨rfl, rfl⟩ := H)
  go_enter Tryz.func52, Tryz.ntmps52
  go_wp2_with (first | ((with_reducible refine gate_callee (f := 54) rfl ?_); refine goesL_ (some 7) rfl rfl Tryz.func54 (by kernel_rfl) rfl #[.slice A0 l0.length c0] rfl qL ?_; (with_reducible refine (spec_ReqsOk.calls k _ _ l0 false _ ?side1 ?side2 A2.out).mono ?_); (case side1 => exact qW HR0.out); (case side2 => exact HC0.out); rintro e w12 ⟨rfl, hb⟩; refine ⟨_, rfl, ?_⟩; replace HB := Aside0.mk (below_step (qS0 HB) hb); (try clear hb); (try clear hb2); (try clear hk); (try clear hi)))
  go_ret2
  exact ⟨_, qE, by first | exact Kd.R_nil _ _ _ _ _ | exact Kd.N_nil _ _ _ _ _ | exact Kd.V_nil _ _ _ _ _ | exact Kd.Q_nil _ _ _ _ _ | exact Kd.S_nil _ _ _ _ _, qS0 HB⟩
def spec_l15Draws.l0 : Nat → List Int → Int → Option (Bool)
 | 0, _, _ => none
 | k + 1, x2, x7 => if x7 < (x2.length : Int) then (if 0 ≤ x7 then (if (rd x2 x7) < 0 then (some false) else (if (rd x2 x7) > 65535 then (some false) else (spec_l15Draws.l0 k x2 (wrap64 (x7 + 1))))) else (none)) else (some true)
def spec_l15Draws.f (k : Nat) (a0 : Int) (l1 : List Int) (l2 : List Int) : Option (Bool) := if (l2.length : Int) = (wrap64 (a0 + (l1.length : Int))) then (spec_l15Draws.l0 k l2 0) else (some false)
theorem spec_l15Draws.calls (k : Nat) (a0 : Int) (A1 : Option Addr) (c1 : Nat) (l1 : List Int) (A2 : Option Addr) (c2 : Nat) (l2 : List Int) (r : Bool) (w : World) (hr1 : Kd.C (Kd.int .i64) w A1 l1.length l1) (hc1 : l1.length ≤ c1) (hr2 : Kd.C (Kd.int .i64) w A2 l2.length l2) (hc2 : l2.length ≤ c2) (h : spec_l15Draws.f k a0 l1 l2 = some r) :
  Calls Tryz.prog 57 #[.int .i64 a0, .slice A1 l1.length c1, .slice A2 l2.length c2] w fun e w' => e = .returned (.bool r) ∧ Drawn0 w w' := by
 (have HR1 := Aside0.mk hr1); (have HC1 := Aside0.mk hc1); clear hr1 hc1; (have HR2 := Aside0.mk hr2); (have HC2 := Aside0.mk hc2); clear hr2 hc2; (have H : (if (l2.length : Int) = (wrap64 (a0 + (l1.length : Int))) then (spec_l15Draws.l0 k l2 0) else (some false)) = some r := h); clear h
 rcases qJ H with ⟨c4, H⟩ | ⟨c4, H⟩
 ·have c4b0 : ((l2.length : Int) == (wrap64 (a0 + (l1.length : Int)))) = true := beq_iff_eq.mpr c4
  (have c4b1 : ((l2.length : Int) != (wrap64 (a0 + (l1.length : Int)))) = false := bne_eq_false_iff_eq.mpr c4); clear c4; (have H' := Aside0.mk H); clear H
  go_enter Tryz.func57, Tryz.ntmps57
  go_wp2
  go_loopg [7] k (fun kq v7 w' => ∃ (x7_1 : Int), v7 = .int .i64 x7_1 ∧ Aside0 (spec_l15Draws.l0 kq l2 x7_1 = some r) ∧ Aside0 (kq ≤ k) ∧ Drawn0 w w')
  case atStart => exact ⟨(0), qV, H', ⟨Nat.le_refl _⟩, by repeat (first | exact Drawn0.refl _ | apply Drawn0.step)⟩
  case round =>
   clear H'; (try clear c4b0); (try clear c4b1); (obtain ⟨x7_1, rfl, HA, HK1, ⟨m1, rfl⟩⟩ := hrel)
   cases gk with
   | zero => exact absurd HA.out (by simp [spec_l15Draws.l0])
   | succ k1 =>
    (have H := HA.out); clear HA; (simp only [spec_l15Draws.l0] at H)
    rcases qI H with ⟨c5b0, H⟩ | ⟨c5b0, H⟩
    ·obtain ⟨c6b0, H⟩ := qT H
     rcases qI H with ⟨c7b0, H⟩ | ⟨c7b0, H⟩
     ·obtain rfl := Option.some.inj H
      (have p199 : 0 ≤ (x7_1 : Int) := qO); (have q199 : x7_1 < (l2.length : Int) := qO); (obtain ⟨ad199, e199, hx199_0⟩ := Kd.at_int HR2.out x7_1 p199 q199)
      cases e199
      (replace p199 := eq_true p199); (replace q199 := eq_true q199)
      go_wp2
      go_ret
      exact qZ
     ·rcases qI H with ⟨(c8b0 : decide (65535 < (rd l2 x7_1)) = true), H⟩ | ⟨(c8b0 : decide (65535 < (rd l2 x7_1)) = false), H⟩
      ·obtain rfl := Option.some.inj H
       (have p199 : 0 ≤ (x7_1 : Int) := qO); (have q199 : x7_1 < (l2.length : Int) := qO); (obtain ⟨ad199, e199, hx199_0⟩ := Kd.at_int HR2.out x7_1 p199 q199)
       cases e199
       (replace p199 := eq_true p199); (replace q199 := eq_true q199); (have p200 : 0 ≤ (x7_1 : Int) := qO); (have q200 : x7_1 < (l2.length : Int) := qO); (obtain ⟨ad200, e200, hx200_0⟩ := Kd.at_int HR2.out x7_1 p200 q200); (obtain rfl : ad199 = ad200 := (by injection e200)); (replace p200 := eq_true p200); (replace q200 := eq_true q200)
       go_wp2
       go_ret
       exact qZ
      ·have H' := Aside0.mk H
       clear H; (have p199 : 0 ≤ (x7_1 : Int) := qO); (have q199 : x7_1 < (l2.length : Int) := qO); (obtain ⟨ad199, e199, hx199_0⟩ := Kd.at_int HR2.out x7_1 p199 q199)
       cases e199
       (replace p199 := eq_true p199); (replace q199 := eq_true q199); (have p200 : 0 ≤ (x7_1 : Int) := qO); (have q200 : x7_1 < (l2.length : Int) := qO); (obtain ⟨ad200, e200, hx200_0⟩ := Kd.at_int HR2.out x7_1 p200 q200); (obtain rfl : ad199 = ad200 := (by injection e200)); (replace p200 := eq_true p200); (replace q200 := eq_true q200)
       go_wp2
       go_roundg k1
       case measure => have := HK1.out; omega
       case rel => exact ⟨(wrap64 (x7_1 + 1)), qV, H', ⟨by have := HK1.out; omega⟩, by repeat (first | exact Drawn0.refl _ | apply Drawn0.step)⟩
    ·obtain rfl := Option.some.inj H
     go_wp2
     go_ret
     exact qZ
 ·have c4b0 : ((l2.length : Int) == (wrap64 (a0 + (l1.length : Int)))) = false := beq_eq_false_iff_ne.mpr c4
  (have c4b1 : ((l2.length : Int) != (wrap64 (a0 + (l1.length : Int)))) = true := bne_iff_ne.mpr c4); (obtain rfl := Option.some.inj H)
  go_enter Tryz.func57, Tryz.ntmps57
  go_wp2
  go_ret
  exact qZ
def spec_ShapesOk.l0 : Nat → List (S79) → Int → Option (Bool)
 | 0, _, _ => none
 | k + 1, x0, x3 => if x3 < (x0.length : Int) then (if 0 ≤ x3 then ((spec_l18Shape.f ((rd_T79 x0 x3).f0) ((rd_T79 x0 x3).f1)).bind fun t205 => (if t205 = true then (spec_ShapesOk.l0 k x0 (wrap64 (x3 + 1))) else (some false))) else (none)) else (some true)
def spec_ShapesOk.f (k : Nat) (l0 : List (S79)) : Option (Bool) := if (l0.length : Int) > 40 then (some false) else (spec_ShapesOk.l0 k l0 0)
theorem spec_ShapesOk.calls (k : Nat) (A0 : Option Addr) (c0 : Nat) (l0 : List (S79)) (r : Bool) (w : World) (hr0 : Kd.C k79 w A0 l0.length l0) (hc0 : l0.length ≤ c0) (h : spec_ShapesOk.f k l0 = some r) :
  Calls Tryz.prog 102 #[.slice A0 l0.length c0] w fun e w' => e = .returned (.bool r) ∧ Drawn0 w w' := by
 (have HR0 := Aside0.mk hr0); (have HC0 := Aside0.mk hc0); clear hr0 hc0; (have H : (if (l0.length : Int) > 40 then (some false) else (spec_ShapesOk.l0 k l0 0)) = some r := h); clear h
 rcases qJ H with ⟨c2, H⟩ | ⟨c2, H⟩
 ·have c2b0 : decide (40 < (l0.length : Int)) = true := decide_eq_true c2
  (have c2b1 : decide (40 < l0.length) = true := decide_eq_true (by omega)); clear c2; (obtain rfl := Option.some.inj H)
  go_enter Tryz.func102, Tryz.ntmps102
  go_wp2
  repeat (go_quiet (fail); try go_wp2)
  go_ret
  exact qZ
 ·have c2b0 : decide (40 < (l0.length : Int)) = false := decide_eq_false c2
  (have c2b1 : decide (40 < l0.length) = false := decide_eq_false (by omega)); clear c2; (have H' := Aside0.mk H); clear H
  go_enter Tryz.func102, Tryz.ntmps102
  go_wp2
  repeat (go_quiet (fail); try go_wp2)
  go_loopg [3] k (fun kq v3 w' => ∃ (x3_1 : Int), v3 = .int .i64 x3_1 ∧ Aside0 (spec_ShapesOk.l0 kq l0 x3_1 = some r) ∧ Aside0 (kq ≤ k) ∧ Drawn0 w w')
  case atStart => exact ⟨(0), qV, H', ⟨Nat.le_refl _⟩, by repeat (first | exact Drawn0.refl _ | apply Drawn0.step)⟩
  case round =>
   clear H'; (try clear c2b0); (try clear c2b1); (obtain ⟨x3_1, rfl, HA, HK1, ⟨m1, rfl⟩⟩ := hrel)
   cases gk with
   | zero => exact absurd HA.out (by simp [spec_ShapesOk.l0])
   | succ k1 =>
    (have H := HA.out); clear HA; (simp only [spec_ShapesOk.l0] at H)
    rcases qI H with ⟨c3b0, H⟩ | ⟨c3b0, H⟩
    ·obtain ⟨c4b0, H⟩ := qT H
     obtain ⟨t205, A5, H⟩ := qX H
     try dsimp only at H
     by_cases c6 : t205 = true
     ·subst c6
      (have H1 : (spec_ShapesOk.l0 k1 l0 (wrap64 (x3_1 + 1))) = some r := by rw [if_pos rfl] at H; exact H); clear H; (have H := H1); clear H1; (have H' := Aside0.mk H); clear H; (have p203 : 0 ≤ (x3_1 : Int) := qO); (have q203 : x3_1 < (l0.length : Int) := qO); (obtain ⟨ad203, e203, hx203_0, hx203_1⟩ := at_T79 HR0.out x3_1 p203 q203)
      cases e203
      (replace p203 := eq_true p203); (replace q203 := eq_true q203); (have p204 : 0 ≤ (x3_1 : Int) := qO); (have q204 : x3_1 < (l0.length : Int) := qO); (obtain ⟨ad204, e204, hx204_0, hx204_1⟩ := at_T79 HR0.out x3_1 p204 q204); (obtain rfl : ad203 = ad204 := (by injection e204)); (replace p204 := eq_true p204); (replace q204 := eq_true q204)
      go_wp2_with (first | (go_at_call 116; (with_reducible refine (spec_l18Shape.calls ((rd_T79 l0 x3_1).f0) ((rd_T79 l0 x3_1).f1) true _ A5.out).mono ?_); rintro e w' ⟨rfl, ⟨nd, rfl⟩⟩; (try first | exact ⟨rfl, _, World.drewN_drewN _ _ _⟩ | exact ⟨rfl, _, Eq.trans (World.drewN_drewN _ _ _) (congrArg (World.drewN _) (Nat.add_assoc _ _ _))⟩)))
      repeat (go_quiet (first | (go_at_call 116; (with_reducible refine (spec_l18Shape.calls ((rd_T79 l0 x3_1).f0) ((rd_T79 l0 x3_1).f1) true _ A5.out).mono ?_); rintro e w' ⟨rfl, ⟨nd, rfl⟩⟩; (try first | exact ⟨rfl, _, World.drewN_drewN _ _ _⟩ | exact ⟨rfl, _, Eq.trans (World.drewN_drewN _ _ _) (congrArg (World.drewN _) (Nat.add_assoc _ _ _))⟩))); try go_wp2_with (first | (go_at_call 116; (with_reducible refine (spec_l18Shape.calls ((rd_T79 l0 x3_1).f0) ((rd_T79 l0 x3_1).f1) true _ A5.out).mono ?_); rintro e w' ⟨rfl, ⟨nd, rfl⟩⟩; (try first | exact ⟨rfl, _, World.drewN_drewN _ _ _⟩ | exact ⟨rfl, _, Eq.trans (World.drewN_drewN _ _ _) (congrArg (World.drewN _) (Nat.add_assoc _ _ _))⟩))))
      go_roundg k1
      case measure => have := HK1.out; omega
      case rel => exact ⟨(wrap64 (x3_1 + 1)), qV, H', ⟨by have := HK1.out; omega⟩, by repeat (first | exact Drawn0.refl _ | apply Drawn0.step)⟩
     ·replace c6 := Bool.eq_false_iff.mpr c6
      (subst c6); (have H1 : (some false) = some r := by rw [if_neg (show ¬ (false = true) by decide)] at H; exact H); clear H; (have H := H1); clear H1; (obtain rfl := Option.some.inj H); (have p203 : 0 ≤ (x3_1 : Int) := qO); (have q203 : x3_1 < (l0.length : Int) := qO); (obtain ⟨ad203, e203, hx203_0, hx203_1⟩ := at_T79 HR0.out x3_1 p203 q203)
      cases e203
      (replace p203 := eq_true p203); (replace q203 := eq_true q203); (have p204 : 0 ≤ (x3_1 : Int) := qO); (have q204 : x3_1 < (l0.length : Int) := qO); (obtain ⟨ad204, e204, hx204_0, hx204_1⟩ := at_T79 HR0.out x3_1 p204 q204); (obtain rfl : ad203 = ad204 := (by injection e204)); (replace p204 := eq_true p204); (replace q204 := eq_true q204)
      go_wp2_with (first | (go_at_call 116; (with_reducible refine (spec_l18Shape.calls ((rd_T79 l0 x3_1).f0) ((rd_T79 l0 x3_1).f1) false _ A5.out).mono ?_); rintro e w' ⟨rfl, ⟨nd, rfl⟩⟩; (try first | exact ⟨rfl, _, World.drewN_drewN _ _ _⟩ | exact ⟨rfl, _, Eq.trans (World.drewN_drewN _ _ _) (congrArg (World.drewN _) (Nat.add_assoc _ _ _))⟩)))
      repeat (go_quiet (first | (go_at_call 116; (with_reducible refine (spec_l18Shape.calls ((rd_T79 l0 x3_1).f0) ((rd_T79 l0 x3_1).f1) false _ A5.out).mono ?_); rintro e w' ⟨rfl, ⟨nd, rfl⟩⟩; (try first | exact ⟨rfl, _, World.drewN_drewN _ _ _⟩ | exact ⟨rfl, _, Eq.trans (World.drewN_drewN _ _ _) (congrArg (World.drewN _) (Nat.add_assoc _ _ _))⟩))); try go_wp2_with (first | (go_at_call 116; (with_reducible refine (spec_l18Shape.calls ((rd_T79 l0 x3_1).f0) ((rd_T79 l0 x3_1).f1) false _ A5.out).mono ?_); rintro e w' ⟨rfl, ⟨nd, rfl⟩⟩; (try first | exact ⟨rfl, _, World.drewN_drewN _ _ _⟩ | exact ⟨rfl, _, Eq.trans (World.drewN_drewN _ _ _) (congrArg (World.drewN _) (Nat.add_assoc _ _ _))⟩))))
      go_ret
      exact qZ
    ·obtain rfl := Option.some.inj H
     go_wp2
     repeat (go_quiet (fail); try go_wp2)
     go_ret
     exact qZ
def spec_l22Takes.j0 : Nat → Int → Int → Bool → Option (Int)
 | 0, _, _, _ => none
 | k + 1, x1, x5, x8 => if x8 = true then (some 2) else (if x5 = 6 then (some x1) else (some 0))
def spec_l22Takes.f (k : Nat) (a0 : Int) (a1 : Int) : Option (Int) := if a0 = 1 then (some 1) else (if a0 = 3 then (spec_l22Takes.j0 k a1 a0 (a0 == 3)) else (if a0 = 4 then (spec_l22Takes.j0 k a1 a0 (a0 == 4)) else (spec_l22Takes.j0 k a1 a0 (a0 == 5))))
theorem spec_l22Takes.calls (k : Nat) (a0 : Int) (a1 : Int) (r : Int) (w : World) (h : spec_l22Takes.f k a0 a1 = some r) :
  Calls Tryz.prog 127 #[.int .i64 a0, .int .i64 a1] w fun e w' => e = .returned (.int .i64 r) ∧ Drawn0 w w' := by
 (have H : (if a0 = 1 then (some 1) else (if a0 = 3 then (spec_l22Takes.j0 k a1 a0 (a0 == 3)) else (if a0 = 4 then (spec_l22Takes.j0 k a1 a0 (a0 == 4)) else (spec_l22Takes.j0 k a1 a0 (a0 == 5))))) = some r := h); clear h
 rcases qJ H with ⟨c3, H⟩ | ⟨c3, H⟩
 ·have c3b0 : (a0 == 1) = true := beq_iff_eq.mpr c3
  (have c3b1 : (a0 != 1) = false := bne_eq_false_iff_eq.mpr c3); clear c3; (obtain rfl := Option.some.inj H)
  go_enter Tryz.func127, Tryz.ntmps127
  go_wp2
  go_ret
  exact qZ
 ·have c3b0 : (a0 == 1) = false := beq_eq_false_iff_ne.mpr c3
  (have c3b1 : (a0 != 1) = true := bne_iff_ne.mpr c3); (have HC4 := Aside0.mk H); clear H
  go_enter Tryz.func127, Tryz.ntmps127
  go_upto_if 8 with (fail)
  go_cut [8] (fun v8 wc => ∃ (kq : Nat) (x8_3 : Bool), v8 = .bool x8_3 ∧ Aside0 (spec_l22Takes.j0 kq a1 a0 x8_3 = some r) ∧ Aside0 (kq ≤ k) ∧ Drawn0 w wc)
  case first =>
   (have H := HC4.out); clear HC4
   rcases qJ H with ⟨c5, H⟩ | ⟨c5, H⟩
   ·have c5b0 : (a0 == 3) = true := beq_iff_eq.mpr c5
    (have c5b1 : (a0 != 3) = false := bne_eq_false_iff_eq.mpr c5); clear c5
    (first | rw [c5b0] | (simp only [i64_w, i32_w]; rw [c5b0]) | skip)
    (have H' := Aside0.mk H); clear H
    go_wp2
    go_meet
    case rel => exact ⟨_, ((a0 == 3)), qV, H', ⟨by first | omega | exact Nat.le_refl _⟩, by repeat (first | exact Drawn0.refl _ | apply Drawn0.step)⟩
   ·have c5b0 : (a0 == 3) = false := beq_eq_false_iff_ne.mpr c5
    have c5b1 : (a0 != 3) = true := bne_iff_ne.mpr c5
    (first | rw [c5b0] | (simp only [i64_w, i32_w]; rw [c5b0]) | skip)
    rcases qJ H with ⟨c6, H⟩ | ⟨c6, H⟩
    ·have c6b0 : (a0 == 4) = true := beq_iff_eq.mpr c6
     (have c6b1 : (a0 != 4) = false := bne_eq_false_iff_eq.mpr c6); clear c6; (have H' := Aside0.mk H); clear H
     go_wp2
     go_meet
     case rel => exact ⟨_, ((a0 == 4)), qV, H', ⟨by first | omega | exact Nat.le_refl _⟩, by repeat (first | exact Drawn0.refl _ | apply Drawn0.step)⟩
    ·have c6b0 : (a0 == 4) = false := beq_eq_false_iff_ne.mpr c6
     (have c6b1 : (a0 != 4) = true := bne_iff_ne.mpr c6); (have H' := Aside0.mk H); clear H
     go_wp2
     go_meet
     case rel => exact ⟨_, ((a0 == 5)), qV, H', ⟨by first | omega | exact Nat.le_refl _⟩, by repeat (first | exact Drawn0.refl _ | apply Drawn0.step)⟩
  case rest =>
   clear HC4; (try clear c3b0); (try clear c3b1); (try clear c5b0); (try clear c5b1); (try clear c6b0); (try clear c6b1); (obtain ⟨kq, x8_3, rfl, HA, HJ3, ⟨mc3, rfl⟩⟩ := hcut)
   cases kq with
   | zero => exact absurd HA.out (by simp [spec_l22Takes.j0])
   | succ kj3 =>
    (have H := HA.out); clear HA; (simp only [spec_l22Takes.j0] at H)
    by_cases c7 : x8_3 = true
    ·subst c7
     (have H1 : (some 2) = some r := by rw [if_pos rfl] at H; exact H); clear H; (have H := H1); clear H1; (obtain rfl := Option.some.inj H)
     go_wp2
     go_ret
     exact qZ
    ·replace c7 := Bool.eq_false_iff.mpr c7
     (subst c7); (have H1 : (if a0 = 6 then (some a1) else (some 0)) = some r := by rw [if_neg (show ¬ (false = true) by decide)] at H; exact H); clear H; (have H := H1); clear H1
     rcases qJ H with ⟨c8, H⟩ | ⟨c8, H⟩
     ·have c8b0 : (a0 == 6) = true := beq_iff_eq.mpr c8
      (have c8b1 : (a0 != 6) = false := bne_eq_false_iff_eq.mpr c8); clear c8; (obtain rfl := Option.some.inj H)
      go_wp2
      go_ret
      exact qZ
     ·have c8b0 : (a0 == 6) = false := beq_eq_false_iff_ne.mpr c8
      (have c8b1 : (a0 != 6) = true := bne_iff_ne.mpr c8); (obtain rfl := Option.some.inj H)
      go_wp2
      go_ret
      exact qZ
def spec_ShapeTakes.f (k : Nat) (a0_0 : Int) (a0_1 : Int) : Option (Int) := (spec_l18Shape.f a0_0 a0_1).bind fun t207 => (if t207 = true then ((spec_l22Takes.f k a0_0 a0_1).bind fun t208 => (some t208)) else (some (-1)))
theorem spec_ShapeTakes.calls (k : Nat) (a0_0 : Int) (a0_1 : Int) (r : Int) (w : World) (h : spec_ShapeTakes.f k a0_0 a0_1 = some r) :
  Calls Tryz.prog 120 #[.agg #[.int .i64 a0_0, .int .i64 a0_1]] w fun e w' => e = .returned (.int .i64 r) ∧ Below w.heap.size w w' := by
 (have hu79 := Tryz.underlying79); (have HB := Aside0.mk (Below.refl w.heap.size w)); (have H : ((spec_l18Shape.f a0_0 a0_1).bind fun t207 => (if t207 = true then ((spec_l22Takes.f k a0_0 a0_1).bind fun t208 => (some t208)) else (some (-1)))) = some r := h); clear h; (obtain ⟨t207, A2, H⟩ := qX H)
 try dsimp only at H
 by_cases c3 : t207 = true
 ·subst c3
  (have H1 : ((spec_l22Takes.f k a0_0 a0_1).bind fun t208 => (some t208)) = some r := by rw [if_pos rfl] at H; exact H); clear H; (have H := H1); clear H1; (obtain ⟨t208, A4, H⟩ := qX H); (replace H : (some t208) = some r := H); (obtain rfl := Option.some.inj H)
  go_enter Tryz.func120, Tryz.ntmps120
  go_wp2_with (first | ((with_reducible refine gate_dst (N := 1) rfl ?_); refine box_event ?hg (N := 1) ?hd (cs := #[.int .i64 a0_0, .int .i64 a0_1]) (t := 79) ?hr ?_; (case hd => rfl); (case hg => rfl); (case hr => first | (go_simp; done) | (go_simp; rfl)); intro gb206 hg w5 hbox hb; have BK206 := Aside0.mk (hbox); have GW206 := qG hg (below_size (qS0 HB)); have GE206 := qG hg (below_size (qS0 HB)); replace HB := Aside0.mk (below_step (qS0 HB) hb); clear hb hbox hg; obtain ⟨hcz6_0, hcz6_1, hfz6_0, hfz6_1⟩ := qC2 BK206) | ((with_reducible refine gate_callee (f := 116) rfl ?_); refine goesL_ (some 7) rfl rfl Tryz.func116 (by kernel_rfl) rfl #[.int .i64 a0_0, .int .i64 a0_1] rfl qL ?_; (with_reducible refine (spec_l18Shape.calls a0_0 a0_1 true _ A2.out).mono ?_); rintro e w' ⟨rfl, ⟨nd, rfl⟩⟩; refine ⟨_, rfl, ?_⟩) | ((with_reducible refine gate_callee (f := 127) rfl ?_); refine goesL_ (some 13) rfl rfl Tryz.func127 (by kernel_rfl) rfl #[.int .i64 a0_0, .int .i64 a0_1] rfl qL ?_; (with_reducible refine (spec_l22Takes.calls k a0_0 a0_1 t208 _ A4.out).mono ?_); rintro e w' ⟨rfl, ⟨nd, rfl⟩⟩; refine ⟨_, rfl, ?_⟩))
  go_ret
  exact ⟨qE, qS1 HB GE206⟩
 ·replace c3 := Bool.eq_false_iff.mpr c3
  (subst c3); (have H1 : (some (-1)) = some r := by rw [if_neg (show ¬ (false = true) by decide)] at H; exact H); clear H; (have H := H1); clear H1; (obtain rfl := Option.some.inj H)
  go_enter Tryz.func120, Tryz.ntmps120
  go_wp2_with (first | ((with_reducible refine gate_dst (N := 1) rfl ?_); refine box_event ?hg (N := 1) ?hd (cs := #[.int .i64 a0_0, .int .i64 a0_1]) (t := 79) ?hr ?_; (case hd => rfl); (case hg => rfl); (case hr => first | (go_simp; done) | (go_simp; rfl)); intro gb206 hg w7 hbox hb; have BK206 := Aside0.mk (hbox); have GW206 := qG hg (below_size (qS0 HB)); have GE206 := qG hg (below_size (qS0 HB)); replace HB := Aside0.mk (below_step (qS0 HB) hb); clear hb hbox hg; obtain ⟨hcz8_0, hcz8_1, hfz8_0, hfz8_1⟩ := qC2 BK206) | ((with_reducible refine gate_callee (f := 116) rfl ?_); refine goesL_ (some 7) rfl rfl Tryz.func116 (by kernel_rfl) rfl #[.int .i64 a0_0, .int .i64 a0_1] rfl qL ?_; (with_reducible refine (spec_l18Shape.calls a0_0 a0_1 false _ A2.out).mono ?_); rintro e w' ⟨rfl, ⟨nd, rfl⟩⟩; refine ⟨_, rfl, ?_⟩))
  go_ret
  exact ⟨qE, qS1 HB GE206⟩
def spec_l23Takes.l0 : Nat → List (S79) → Int → Int → Option (Int)
 | 0, _, _, _ => none
 | k + 1, x0, x3, x4 => if x4 < (x0.length : Int) then (if 0 ≤ x4 then ((spec_ShapeTakes.f k ((rd_T79 x0 x4).f0) ((rd_T79 x0 x4).f1)).bind fun t210 => (spec_l23Takes.l0 k x0 (wrap64 (x3 + t210)) (wrap64 (x4 + 1)))) else (none)) else (some x3)
def spec_l23Takes.f (k : Nat) (l0 : List (S79)) : Option (Int) := spec_l23Takes.l0 k l0 0 0
theorem spec_l23Takes.calls (k : Nat) (A0 : Option Addr) (c0 : Nat) (l0 : List (S79)) (r : Int) (w : World) (hr0 : Kd.C k79 w A0 l0.length l0) (hc0 : l0.length ≤ c0) (h : spec_l23Takes.f k l0 = some r) :
  Calls Tryz.prog 103 #[.slice A0 l0.length c0] w fun e w' => e = .returned (.int .i64 r) ∧ Below w.heap.size w w' := by
 (have hu79 := Tryz.underlying79); (have HR0 := Aside0.mk hr0); (have HC0 := Aside0.mk hc0); clear hr0 hc0; (have HB := Aside0.mk (Below.refl w.heap.size w)); (have H : (spec_l23Takes.l0 k l0 0 0) = some r := h); clear h; (have H' := Aside0.mk H); clear H
 go_enter Tryz.func103, Tryz.ntmps103
 go_wp2
 go_loopg [3, 4] k (fun kq v3 v4 w' => ∃ (x3_1 : Int) (x4_1 : Int), v3 = .int .i64 x3_1 ∧ v4 = .int .i64 x4_1 ∧ Aside0 (spec_l23Takes.l0 kq l0 x3_1 x4_1 = some r) ∧ Aside0 (kq ≤ k) ∧ Aside0 (Below w.heap.size w w'))
 case atStart => exact ⟨(0), (0), qV, qV, H', ⟨Nat.le_refl _⟩, ⟨qS0 HB⟩⟩
 case round =>
  clear H'; (obtain ⟨x3_1, x4_1, rfl, rfl, HA, HK1, HB⟩ := hrel)
  cases gk with
  | zero => exact absurd HA.out (by simp [spec_l23Takes.l0])
  | succ k1 =>
   (have H := HA.out); clear HA; (simp only [spec_l23Takes.l0] at H)
   rcases qI H with ⟨c2b0, H⟩ | ⟨c2b0, H⟩
   ·obtain ⟨c3b0, H⟩ := qT H
    (obtain ⟨t210, A4, H⟩ := qX H); (replace H : (spec_l23Takes.l0 k1 l0 (wrap64 (x3_1 + t210)) (wrap64 (x4_1 + 1))) = some r := H); (have H' := Aside0.mk H); clear H; (have p209 : 0 ≤ (x4_1 : Int) := qO); (have q209 : x4_1 < (l0.length : Int) := qO); (obtain ⟨ad209, e209, hx209_0, hx209_1⟩ := at_T79 HR0.out x4_1 p209 q209)
    cases e209
    (replace hx209_0 := qF HB hx209_0); (replace hx209_1 := qF HB hx209_1); (replace p209 := eq_true p209); (replace q209 := eq_true q209)
    go_wp2_with (first | ((with_reducible refine gate_callee (f := 120) rfl ?_); refine goesL_ (some 16) rfl rfl Tryz.func120 (by kernel_rfl) rfl #[.agg #[.int .i64 ((rd_T79 l0 x4_1).f0), .int .i64 ((rd_T79 l0 x4_1).f1)]] rfl qL ?_; (with_reducible refine (spec_ShapeTakes.calls k1 ((rd_T79 l0 x4_1).f0) ((rd_T79 l0 x4_1).f1) t210 _ A4.out).mono ?_); rintro e w5 ⟨rfl, hb⟩; refine ⟨_, rfl, ?_⟩; replace HB := Aside0.mk (below_step (qS0 HB) hb); (try clear hb); (try clear hb2); (try clear hk); (try clear hi)))
    go_roundg k1
    case measure => have := HK1.out; omega
    case rel => exact ⟨(wrap64 (x3_1 + t210)), (wrap64 (x4_1 + 1)), qV, qV, H', ⟨by have := HK1.out; omega⟩, ⟨qS0 HB⟩⟩
   ·obtain rfl := Option.some.inj H
    go_wp2
    go_ret
    exact ⟨qE, qS0 HB⟩
def spec_ShapeDraws.j0 : Nat → List (S79) → Bool → Int → Int → Int → Int → Option (Int)
 | 0, _, _, _, _, _, _ => none
 | k + 1, x1, x12, x212000, x212001, x212002, x212003 => if x12 = true then (some (-1)) else ((spec_DeepDraws.f k x212001).bind fun t214 => ((spec_l23Takes.f k x1).bind fun t215 => (some (wrap64 (t214 + (wrap64 (2 * t215)))))))
def spec_ShapeDraws.f (k : Nat) (a0_0 : Int) (a0_1 : Int) (a0_2 : Int) (a0_3 : Int) (l1 : List (S79)) : Option (Int) := (spec_ConfOk.f a0_0 a0_1 a0_2 a0_3).bind fun t212 => (if t212 = true then ((spec_ShapesOk.f k l1).bind fun t213 => (spec_ShapeDraws.j0 k l1 (!t213) a0_0 a0_1 a0_2 a0_3)) else (spec_ShapeDraws.j0 k l1 true a0_0 a0_1 a0_2 a0_3))
theorem spec_ShapeDraws.calls (k : Nat) (a0_0 : Int) (a0_1 : Int) (a0_2 : Int) (a0_3 : Int) (A1 : Option Addr) (c1 : Nat) (l1 : List (S79)) (r : Int) (w : World) (hr1 : Kd.C k79 w A1 l1.length l1) (hc1 : l1.length ≤ c1) (h : spec_ShapeDraws.f k a0_0 a0_1 a0_2 a0_3 l1 = some r) :
  Calls Tryz.prog 58 #[.agg #[.int .i64 a0_0, .int .i64 a0_1, .int .i64 a0_2, .int .i64 a0_3], .slice A1 l1.length c1] w fun e w' => e = .returned (.int .i64 r) ∧ Below w.heap.size w w' := by
 (have hu29 := Tryz.underlying29); (have HR1 := Aside0.mk hr1); (have HC1 := Aside0.mk hc1); clear hr1 hc1; (have HB := Aside0.mk (Below.refl w.heap.size w)); (have H : ((spec_ConfOk.f a0_0 a0_1 a0_2 a0_3).bind fun t212 => (if t212 = true then ((spec_ShapesOk.f k l1).bind fun t213 => (spec_ShapeDraws.j0 k l1 (!t213) a0_0 a0_1 a0_2 a0_3)) else (spec_ShapeDraws.j0 k l1 true a0_0 a0_1 a0_2 a0_3))) = some r := h); clear h; (have HC3 := Aside0.mk H); clear H
 go_enter Tryz.func58, Tryz.ntmps58
 go_upto_region 1 with (first | ((with_reducible refine gate_dst (N := 2) rfl ?_); refine box_event ?hg (N := 2) ?hd (cs := #[.int .i64 a0_0, .int .i64 a0_1, .int .i64 a0_2, .int .i64 a0_3]) (t := 29) ?hr ?_; (case hd => rfl); (case hg => rfl); (case hr => first | (go_simp; done) | (go_simp; rfl)); intro gb211 hg w4 hbox hb; have BK211 := Aside0.mk (hbox); have GW211 := qG hg (below_size (qS0 HB)); have GE211 := qG hg (below_size (qS0 HB)); replace HB := Aside0.mk (below_step (qS0 HB) hb); clear hb hbox hg))
 (try simp only [Act.put, List.setIfInBounds_toArray, List.set_cons_zero, List.set_cons_succ])
 go_cut [12] (fun v12 wc => ∃ (kq : Nat) (x12_2 : Bool), v12 = .bool x12_2 ∧ Aside0 (spec_ShapeDraws.j0 kq l1 x12_2 a0_0 a0_1 a0_2 a0_3 = some r) ∧ Aside0 (kq ≤ k) ∧ Aside0 (wc.heap[gb211]? = some (.cells #[.int .i64 a0_0, .int .i64 a0_1, .int .i64 a0_2, .int .i64 a0_3] 29 (0, 0))) ∧ Aside0 (Below w.heap.size w wc))
 case first =>
  (have H := HC3.out); clear HC3; (obtain ⟨t212, A5, H⟩ := qX H)
  try dsimp only at H
  by_cases c6 : t212 = true
  ·subst c6
   (have H1 : ((spec_ShapesOk.f k l1).bind fun t213 => (spec_ShapeDraws.j0 k l1 (!t213) a0_0 a0_1 a0_2 a0_3)) = some r := by rw [if_pos rfl] at H; exact H); clear H; (have H := H1); clear H1; (obtain ⟨t213, A7, H⟩ := qX H); (replace H : (spec_ShapeDraws.j0 k l1 (!t213) a0_0 a0_1 a0_2 a0_3) = some r := H); (have H' := Aside0.mk H); clear H; (obtain ⟨hcz8_0, hcz8_1, hcz8_2, hcz8_3, hfz8_0, hfz8_1, hfz8_2, hfz8_3⟩ := qC4 BK211)
   go_wp2_with (first | ((with_reducible refine gate_callee (f := 53) rfl ?_); refine goesL_ (some 6) rfl rfl Tryz.func53 (by kernel_rfl) rfl #[.agg #[.int .i64 a0_0, .int .i64 a0_1, .int .i64 a0_2, .int .i64 a0_3]] rfl qL ?_; (with_reducible refine (spec_ConfOk.calls a0_0 a0_1 a0_2 a0_3 true _ A5.out).mono ?_); rintro e w9 ⟨rfl, hb⟩; refine ⟨_, rfl, ?_⟩; replace BK211 := qD BK211 hb; replace HB := Aside0.mk (below_step (qS1 HB GE211) hb); (try clear hb); (try clear hb2); (try clear hk); (try clear hi)) | (go_at_call 102; (with_reducible refine (spec_ShapesOk.calls k _ _ l1 t213 _ ?side1 ?side2 A7.out).mono ?_); (case side1 => exact qW (Kd.C_below HR1.out HB.out)); (case side2 => exact HC1.out); rintro e w' ⟨rfl, ⟨nd, rfl⟩⟩))
   go_meet
   case rel => exact ⟨_, (!t213), qV, H', ⟨by first | omega | exact Nat.le_refl _⟩, ⟨qB BK211⟩, ⟨qS1 HB GE211⟩⟩
  ·replace c6 := Bool.eq_false_iff.mpr c6
   (subst c6); (have H1 : (spec_ShapeDraws.j0 k l1 true a0_0 a0_1 a0_2 a0_3) = some r := by rw [if_neg (show ¬ (false = true) by decide)] at H; exact H); clear H; (have H := H1); clear H1; (have H' := Aside0.mk H); clear H; (obtain ⟨hcz10_0, hcz10_1, hcz10_2, hcz10_3, hfz10_0, hfz10_1, hfz10_2, hfz10_3⟩ := qC4 BK211)
   go_wp2_with (first | ((with_reducible refine gate_callee (f := 53) rfl ?_); refine goesL_ (some 6) rfl rfl Tryz.func53 (by kernel_rfl) rfl #[.agg #[.int .i64 a0_0, .int .i64 a0_1, .int .i64 a0_2, .int .i64 a0_3]] rfl qL ?_; (with_reducible refine (spec_ConfOk.calls a0_0 a0_1 a0_2 a0_3 false _ A5.out).mono ?_); rintro e w11 ⟨rfl, hb⟩; refine ⟨_, rfl, ?_⟩; replace BK211 := qD BK211 hb; replace HB := Aside0.mk (below_step (qS1 HB GE211) hb); (try clear hb); (try clear hb2); (try clear hk); (try clear hi)))
   go_meet
   case rel => exact ⟨_, (true), qV, H', ⟨by first | omega | exact Nat.le_refl _⟩, ⟨qB BK211⟩, ⟨qS1 HB GE211⟩⟩
 case rest =>
  clear HC3; (try clear c6); (try clear hcz10_0); (try clear hcz10_1); (try clear hcz10_2); (try clear hcz10_3); (try clear hcz8_0); (try clear hcz8_1); (try clear hcz8_2); (try clear hcz8_3); (try clear hfz10_0); (try clear hfz10_1); (try clear hfz10_2); (try clear hfz10_3); (try clear hfz8_0); (try clear hfz8_1); (try clear hfz8_2); (try clear hfz8_3); (obtain ⟨kq, x12_2, rfl, HA, HJ2, BK211, HB⟩ := hcut)
  cases kq with
  | zero => exact absurd HA.out (by simp [spec_ShapeDraws.j0])
  | succ kj2 =>
   (have H := HA.out); clear HA; (simp only [spec_ShapeDraws.j0] at H)
   by_cases c12 : x12_2 = true
   ·subst c12
    (have H1 : (some (-1)) = some r := by rw [if_pos rfl] at H; exact H); clear H; (have H := H1); clear H1; (obtain rfl := Option.some.inj H)
    go_wp2
    go_ret
    exact ⟨qE, qS1 HB GE211⟩
   ·replace c12 := Bool.eq_false_iff.mpr c12
    (subst c12); (have H1 : ((spec_DeepDraws.f kj2 a0_1).bind fun t214 => ((spec_l23Takes.f kj2 l1).bind fun t215 => (some (wrap64 (t214 + (wrap64 (2 * t215))))))) = some r := by rw [if_neg (show ¬ (false = true) by decide)] at H; exact H); clear H; (have H := H1); clear H1; (obtain ⟨t214, A13, H⟩ := qX H)
    try dsimp only at H
    (obtain ⟨t215, A14, H⟩ := qX H); (replace H : (some (wrap64 (t214 + (wrap64 (2 * t215))))) = some r := H); (obtain rfl := Option.some.inj H); (obtain ⟨hcz15_0, hcz15_1, hcz15_2, hcz15_3, hfz15_0, hfz15_1, hfz15_2, hfz15_3⟩ := qC4 BK211)
    go_wp2_with (first | ((with_reducible refine gate_callee (f := 43) rfl ?_); refine goesL_ (some 15) rfl rfl Tryz.func43 (by kernel_rfl) rfl #[.int .i64 a0_1] rfl qL ?_; (with_reducible refine (spec_DeepDraws.calls kj2 a0_1 t214 _ A13.out).mono ?_); rintro e w' ⟨rfl, ⟨nd, rfl⟩⟩; refine ⟨_, rfl, ?_⟩) | ((with_reducible refine gate_callee (f := 103) rfl ?_); refine goesL_ (some 17) rfl rfl Tryz.func103 (by kernel_rfl) rfl #[.slice A1 l1.length c1] rfl qL ?_; (with_reducible refine (spec_l23Takes.calls kj2 _ _ l1 t215 _ ?side1 ?side2 A14.out).mono ?_); (case side1 => repeat (first | exact (Kd.C_below HR1.out (qS1 HB GE211)) | (with_reducible refine Kd.C_alloc ?_ _) | (with_reducible refine Kd.C_drewN ?_ _) | (with_reducible refine Kd.C_drew ?_))); (case side2 => exact HC1.out); rintro e w16 ⟨rfl, hb⟩; refine ⟨_, rfl, ?_⟩; replace BK211 := qD BK211 hb; replace HB := Aside0.mk (below_step (qS1 HB GE211) hb); (try clear hb); (try clear hb2); (try clear hk); (try clear hi)))
    go_ret
    exact ⟨qE, qS1 HB GE211⟩
def spec_l24Right.f (k : Nat) (a0_0 : Int) (a0_1 : Int) (a0_2 : Int) (a0_3 : Int) (l1 : List (S56)) (l2 : List Int) : Option (Bool) := (spec_ShapesOf.f k l1).bind fun bt217 => (if bt217.2 = true then ((spec_ConfOk.f a0_0 a0_1 a0_2 a0_3).bind fun t221 => (if t221 = true then ((spec_ShapeDraws.f k a0_0 a0_1 a0_2 a0_3 bt217.1).bind fun t222 => ((spec_l15Draws.f k t222 ([] : List Int) l2).bind fun t223 => (some t223))) else (some false))) else (some false))
theorem spec_l24Right.calls (k : Nat) (a0_0 : Int) (a0_1 : Int) (a0_2 : Int) (a0_3 : Int) (A1 : Option Addr) (c1 : Nat) (l1 : List (S56)) (A2 : Option Addr) (c2 : Nat) (l2 : List Int) (r : Bool) (w : World) (hr1 : Kd.C k56 w A1 l1.length l1) (hc1 : l1.length ≤ c1) (hr2 : Kd.C (Kd.int .i64) w A2 l2.length l2) (hc2 : l2.length ≤ c2) (h : spec_l24Right.f k a0_0 a0_1 a0_2 a0_3 l1 l2 = some r) :
  Calls Tryz.prog 26 #[.agg #[.int .i64 a0_0, .int .i64 a0_1, .int .i64 a0_2, .int .i64 a0_3], .slice A1 l1.length c1, .slice A2 l2.length c2] w fun e w' => e = .returned (.bool r) ∧ Below w.heap.size w w' := by
 (have hu29 := Tryz.underlying29); (have HR1 := Aside0.mk hr1); (have HC1 := Aside0.mk hc1); clear hr1 hc1; (have HR2 := Aside0.mk hr2); (have HC2 := Aside0.mk hc2); clear hr2 hc2; (have HB := Aside0.mk (Below.refl w.heap.size w)); (have H : ((spec_ShapesOf.f k l1).bind fun bt217 => (if bt217.2 = true then ((spec_ConfOk.f a0_0 a0_1 a0_2 a0_3).bind fun t221 => (if t221 = true then ((spec_ShapeDraws.f k a0_0 a0_1 a0_2 a0_3 bt217.1).bind fun t222 => ((spec_l15Draws.f k t222 ([] : List Int) l2).bind fun t223 => (some t223))) else (some false))) else (some false))) = some r := h); clear h; (obtain ⟨⟨t217, t218⟩, A4, H⟩ := qX H)
 try dsimp only at H
 by_cases c5 : t218 = true
 ·subst c5
  (have H1 : ((spec_ConfOk.f a0_0 a0_1 a0_2 a0_3).bind fun t221 => (if t221 = true then ((spec_ShapeDraws.f k a0_0 a0_1 a0_2 a0_3 t217).bind fun t222 => ((spec_l15Draws.f k t222 ([] : List Int) l2).bind fun t223 => (some t223))) else (some false))) = some r := by rw [if_pos rfl] at H; exact H); clear H; (have H := H1); clear H1; (obtain ⟨t221, A6, H⟩ := qX H)
  try dsimp only at H
  by_cases c7 : t221 = true
  ·subst c7
   (have H1 : ((spec_ShapeDraws.f k a0_0 a0_1 a0_2 a0_3 t217).bind fun t222 => ((spec_l15Draws.f k t222 ([] : List Int) l2).bind fun t223 => (some t223))) = some r := by rw [if_pos rfl] at H; exact H); clear H; (have H := H1); clear H1; (obtain ⟨t222, A8, H⟩ := qX H); (replace H : ((spec_l15Draws.f k t222 ([] : List Int) l2).bind fun t223 => (some t223)) = some r := H); (obtain ⟨t223, A9, H⟩ := qX H); (replace H : (some t223) = some r := H); (obtain rfl := Option.some.inj H)
   go_enter Tryz.func26, Tryz.ntmps26
   go_wp2_with (first | ((with_reducible refine gate_dst (N := 3) rfl ?_); refine box_event ?hg (N := 3) ?hd (cs := #[.int .i64 a0_0, .int .i64 a0_1, .int .i64 a0_2, .int .i64 a0_3]) (t := 29) ?hr ?_; (case hd => rfl); (case hg => rfl); (case hr => first | (go_simp; done) | (go_simp; rfl)); intro gb216 hg w10 hbox hb; have BK216 := Aside0.mk (hbox); have GW216 := qG hg (below_size (qS0 HB)); have GE216 := qG hg (below_size (qS0 HB)); replace HB := Aside0.mk (below_step (qS0 HB) hb); clear hb hbox hg) | ((with_reducible refine gate_callee (f := 52) rfl ?_); refine goesL_ (some 11) rfl rfl Tryz.func52 (by kernel_rfl) rfl #[.slice A1 l1.length c1] rfl qL ?_; (with_reducible refine (spec_ShapesOf.calls k _ _ l1 t217 true _ ?side1 ?side2 A4.out).mono ?_); (case side1 => exact qW (Kd.C_below HR1.out HB.out)); (case side2 => exact HC1.out); rintro e w11 ⟨v219, rfl, ho0, hb⟩; refine ⟨_, rfl, ?_⟩; have HO220 := Aside0.mk (Kd.R_lower ho0 (below_size (qS1 HB GE216))); replace BK216 := qD BK216 hb; replace HB := Aside0.mk (below_step (qS1 HB GE216) hb); (try clear hb); (try clear hb2); (try clear hk); (try clear hi); (try clear ho0); obtain ⟨hcz12_0, hcz12_1, hcz12_2, hcz12_3, hfz12_0, hfz12_1, hfz12_2, hfz12_3⟩ := qC4 BK216) | (go_at_call 53; (with_reducible refine (spec_ConfOk.calls a0_0 a0_1 a0_2 a0_3 true _ A6.out).mono ?_); rintro e w13 ⟨rfl, hb⟩; replace HO220 := Aside0.mk (Kd.R_below (qR HO220) hb); replace BK216 := qD BK216 hb; replace HB := Aside0.mk (below_step (qS1 HB GE216) hb); (try clear hb); (try clear hb2); (try clear hk); (try clear hi); obtain ⟨hcz14_0, hcz14_1, hcz14_2, hcz14_3, hfz14_0, hfz14_1, hfz14_2, hfz14_3⟩ := qC4 BK216; obtain ⟨Ao15, co15, eo15⟩ := Kd.R_slice HO220.out; subst eo15) | (go_at_call 58; (with_reducible refine (spec_ShapeDraws.calls k a0_0 a0_1 a0_2 a0_3 _ _ t217 t222 _ ?side1 ?side2 A8.out).mono ?_); (case side1 => repeat (first | exact (Kd.R_reads' HO220.out).2.2 | (with_reducible refine Kd.C_alloc ?_ _) | (with_reducible refine Kd.C_drewN ?_ _) | (with_reducible refine Kd.C_drew ?_))); (case side2 => exact (Kd.R_reads' HO220.out).2.1); rintro e w16 ⟨rfl, hb⟩; replace HO220 := Aside0.mk (Kd.R_below (qR HO220) hb); replace BK216 := qD BK216 hb; replace HB := Aside0.mk (below_step (qS1 HB GE216) hb); (try clear hb); (try clear hb2); (try clear hk); (try clear hi)) | (go_at_call 57; (refine (spec_l15Draws.calls k t222 _ _ ([] : List Int) _ _ l2 t223 _ ?side1 ?side2 ?side3 ?side4 A9.out).mono ?_); (case side1 => exact Kd.C_nil _ _); (case side2 => exact Nat.le_refl _); (case side3 => exact qW (Kd.C_below HR2.out HB.out)); (case side4 => exact HC2.out); rintro e w' ⟨rfl, ⟨nd, rfl⟩⟩))
   go_ret
   exact ⟨qE, qS1 HB GE216⟩
  ·replace c7 := Bool.eq_false_iff.mpr c7
   (subst c7); (have H1 : (some false) = some r := by rw [if_neg (show ¬ (false = true) by decide)] at H; exact H); clear H; (have H := H1); clear H1; (obtain rfl := Option.some.inj H)
   go_enter Tryz.func26, Tryz.ntmps26
   go_wp2_with (first | ((with_reducible refine gate_dst (N := 3) rfl ?_); refine box_event ?hg (N := 3) ?hd (cs := #[.int .i64 a0_0, .int .i64 a0_1, .int .i64 a0_2, .int .i64 a0_3]) (t := 29) ?hr ?_; (case hd => rfl); (case hg => rfl); (case hr => first | (go_simp; done) | (go_simp; rfl)); intro gb216 hg w17 hbox hb; have BK216 := Aside0.mk (hbox); have GW216 := qG hg (below_size (qS0 HB)); have GE216 := qG hg (below_size (qS0 HB)); replace HB := Aside0.mk (below_step (qS0 HB) hb); clear hb hbox hg) | ((with_reducible refine gate_callee (f := 52) rfl ?_); refine goesL_ (some 11) rfl rfl Tryz.func52 (by kernel_rfl) rfl #[.slice A1 l1.length c1] rfl qL ?_; (with_reducible refine (spec_ShapesOf.calls k _ _ l1 t217 true _ ?side1 ?side2 A4.out).mono ?_); (case side1 => exact qW (Kd.C_below HR1.out HB.out)); (case side2 => exact HC1.out); rintro e w18 ⟨v219, rfl, ho0, hb⟩; refine ⟨_, rfl, ?_⟩; have HO220 := Aside0.mk (Kd.R_lower ho0 (below_size (qS1 HB GE216))); replace BK216 := qD BK216 hb; replace HB := Aside0.mk (below_step (qS1 HB GE216) hb); (try clear hb); (try clear hb2); (try clear hk); (try clear hi); (try clear ho0); obtain ⟨hcz19_0, hcz19_1, hcz19_2, hcz19_3, hfz19_0, hfz19_1, hfz19_2, hfz19_3⟩ := qC4 BK216) | (go_at_call 53; (with_reducible refine (spec_ConfOk.calls a0_0 a0_1 a0_2 a0_3 false _ A6.out).mono ?_); rintro e w20 ⟨rfl, hb⟩; replace HO220 := Aside0.mk (Kd.R_below (qR HO220) hb); replace BK216 := qD BK216 hb; replace HB := Aside0.mk (below_step (qS1 HB GE216) hb); (try clear hb); (try clear hb2); (try clear hk); (try clear hi)))
   go_ret
   exact ⟨qE, qS1 HB GE216⟩
 ·replace c5 := Bool.eq_false_iff.mpr c5
  (subst c5); (have H1 : (some false) = some r := by rw [if_neg (show ¬ (false = true) by decide)] at H; exact H); clear H; (have H := H1); clear H1; (obtain rfl := Option.some.inj H)
  go_enter Tryz.func26, Tryz.ntmps26
  go_wp2_with (first | ((with_reducible refine gate_dst (N := 3) rfl ?_); refine box_event ?hg (N := 3) ?hd (cs := #[.int .i64 a0_0, .int .i64 a0_1, .int .i64 a0_2, .int .i64 a0_3]) (t := 29) ?hr ?_; (case hd => rfl); (case hg => rfl); (case hr => first | (go_simp; done) | (go_simp; rfl)); intro gb216 hg w21 hbox hb; have BK216 := Aside0.mk (hbox); have GW216 := qG hg (below_size (qS0 HB)); have GE216 := qG hg (below_size (qS0 HB)); replace HB := Aside0.mk (below_step (qS0 HB) hb); clear hb hbox hg) | ((with_reducible refine gate_callee (f := 52) rfl ?_); refine goesL_ (some 11) rfl rfl Tryz.func52 (by kernel_rfl) rfl #[.slice A1 l1.length c1] rfl qL ?_; (with_reducible refine (spec_ShapesOf.calls k _ _ l1 t217 false _ ?side1 ?side2 A4.out).mono ?_); (case side1 => exact qW (Kd.C_below HR1.out HB.out)); (case side2 => exact HC1.out); rintro e w22 ⟨v219, rfl, ho0, hb⟩; refine ⟨_, rfl, ?_⟩; have HO220 := Aside0.mk (Kd.R_lower ho0 (below_size (qS1 HB GE216))); replace BK216 := qD BK216 hb; replace HB := Aside0.mk (below_step (qS1 HB GE216) hb); (try clear hb); (try clear hb2); (try clear hk); (try clear hi); (try clear ho0)))
  go_ret
  exact ⟨qE, qS1 HB GE216⟩
end Go.Proofs.YtppopmajclmhjaaGreatDoor.QB
