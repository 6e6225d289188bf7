/- Part of the proof of the law FnIdsBook: what it uses of the texts that this session and the kit's print wrote. -/
import Derived.Test.YtbpffdhkeinmcaaDoorZFnIdsBookx2
namespace Go.Proofs.YtbpffdhkeinmcaaDoor.QE
open Go.RowKit Go.Proofs.YtbpffdhkeinmcaaDoorW.PrintWords Go.Proofs.YtbpffdhkeinmcaaDoorW.PrintLast Go.Proofs.YtbpffdhkeinmcaaDoorW.PrintMore
attribute [local go_sem] max2_int min2_int max_two min_two max_three min_three max_four min_four
set_option linter.unusedVariables false
set_option linter.unusedSimpArgs false
def spec_l22Words.j0 : Nat → ByteArray → Int → Bool → Int → ByteArray → Int → Int → Int → Int → ByteArray → Option (List ByteArray)
 | 0, _, _, _, _, _, _, _, _, _, _ => none
 | k + 1, x3, x10, x15, x137000, x137001, x137002, x137003, x137004, x137005, x137006 => if x15 = true then ((spec_l19Weight.f x137002).bind fun t141 => (if t141 = true then (some (([x3, x3] : List ByteArray))) else (some (([(⟨#[]⟩ : ByteArray), (⟨#[]⟩ : ByteArray)] : List ByteArray))))) else (if x10 = 4 then (some (([x3, x3] : List ByteArray))) else (if x10 = 6 then ((spec_Tokens.f k x137006 x137005).bind fun bt151 => (if bt151.2 = true then (some bt151.1) else (if 0 ≤ x137005 then (if (x137005 : Int).toNat ≤ 17592186044416 then (some (List.replicate (x137005 : Int).toNat (⟨#[]⟩ : ByteArray))) else (none)) else (none)))) else (some ([] : List ByteArray))))
def spec_l22Words.f (k : Nat) (a0_0 : Int) (a0_1 : ByteArray) (a0_2 : Int) (a0_3 : Int) (a0_4 : Int) (a0_5 : Int) (a0_6 : ByteArray) : Option (List ByteArray) := (spec_Fold.f k a0_1).bind fun t137 => (if a0_0 = 1 then (some (([t137] : List ByteArray))) else (if a0_0 = 3 then (spec_l22Words.j0 k t137 a0_0 (a0_0 == 3) a0_0 a0_1 a0_2 a0_3 a0_4 a0_5 a0_6) else (spec_l22Words.j0 k t137 a0_0 (a0_0 == 5) a0_0 a0_1 a0_2 a0_3 a0_4 a0_5 a0_6)))
set_option maxHeartbeats 8000000 in
set_option maxRecDepth 100000 in
theorem spec_l22Words.calls (k : Nat) (a0_0 : Int) (a0_1 : ByteArray) (a0_2 : Int) (a0_3 : Int) (a0_4 : Int) (a0_5 : Int) (a0_6 : ByteArray) (r : List ByteArray) (w : World) (h : spec_l22Words.f k a0_0 a0_1 a0_2 a0_3 a0_4 a0_5 a0_6 = some r) :
  Calls Tryd.prog 55 #[.agg #[.int .i64 a0_0, .string a0_1, .int .i64 a0_2, .int .i64 a0_3, .int .i64 a0_4, .int .i64 a0_5, .string a0_6]] w fun e w' => ∃ v0_ : Value, e = .returned (v0_) ∧ Kd.R Kd.string 9 w' w.heap.size (fun _ => True) v0_ r ∧ Below w.heap.size w w' := by
 (have hu32 := Tryd.underlying32); (have HB := Aside0.mk (Below.refl w.heap.size w)); (have H : ((spec_Fold.f k a0_1).bind fun t137 => (if a0_0 = 1 then (some (([t137] : List ByteArray))) else (if a0_0 = 3 then (spec_l22Words.j0 k t137 a0_0 (a0_0 == 3) a0_0 a0_1 a0_2 a0_3 a0_4 a0_5 a0_6) else (spec_l22Words.j0 k t137 a0_0 (a0_0 == 5) a0_0 a0_1 a0_2 a0_3 a0_4 a0_5 a0_6)))) = some r := h); clear h; (replace H := Option.bind_eq_some_iff.mp H); (obtain ⟨t137, A20, H⟩ := H)
 try dsimp only at H
 (have A2 := Aside0.mk A20); clear A20
 by_cases c3 : a0_0 = 1
 ·rw [if_pos c3] at H
  (have c3b0 : (a0_0 == 1) = true := beq_iff_eq.mpr c3); (have c3b1 : (a0_0 != 1) = false := bne_eq_false_iff_eq.mpr c3); clear c3; (obtain ⟨y138, hy138⟩ : ∃ y_ : List ByteArray, y_ = (([t137] : List ByteArray)) := ⟨_, rfl⟩); (replace H : (some y138) = some r := by first | (rw [hy138]; with_reducible exact H) | (have H2_ := (Option.bind_some _ _).symm.trans H; rw [hy138]; with_reducible exact H2_) | (have H2_ := (Option.bind_some _ _).symm.trans H; with_reducible exact H2_) | with_reducible exact H | (rw [hy138]; exact H) | exact H); (have Ny138 := Aside0.mk hy138); clear hy138; (obtain rfl := Option.some.inj H)
  go_enter Tryd.func55, Tryd.ntmps55
  go_wp2_with (first | ((with_reducible refine gate_dst (N := 1) rfl ?_); refine box_event ?hg (N := 1) ?hd (cs := #[.int .i64 a0_0, .string a0_1, .int .i64 a0_2, .int .i64 a0_3, .int .i64 a0_4, .int .i64 a0_5, .string a0_6]) (t := 32) ?hr ?_; (case hd => rfl); (case hg => rfl); (case hr => first | (go_simp; done) | (go_simp; rfl)); intro gb136 hg w4 hbox hb; have n0_ := Aside0.mk (below_step (qS0 HB) hb); have n1_ := Aside0.mk (hbox); have n2_ := qG hg (below_size (qS0 HB)); have n3_ := qG hg (below_size (qS0 HB)); clear HB; have HB := n0_; have BK136 := n1_; have GW136 := n2_; have GE136 := n3_; clear n0_ n1_ n2_ n3_ hb hbox hg; obtain ⟨hcz5_0, hcz5_1, hcz5_2, hcz5_3, hcz5_4, hcz5_5, hcz5_6, hfz5_0, hfz5_1, hfz5_2, hfz5_3, hfz5_4, hfz5_5, hfz5_6⟩ := qC7 BK136) | ((with_reducible refine gate_callee (f := 34) rfl ?_); refine goesL_ (some 8) rfl rfl Tryd.func34 (by kernel_rfl) rfl #[.string a0_1] rfl qL ?_; (with_reducible refine (spec_Fold.calls k a0_1 t137 _ A2.out).mono ?_); rintro e w6 ⟨rfl, hb⟩; refine ⟨_, rfl, ?_⟩; have n0_ := qD BK136 hb; have n1_ := Aside0.mk (below_step (qS1 HB GE136) hb); clear BK136 HB; have BK136 := n0_; have HB := n1_; clear n0_ n1_; (try clear hb); (try clear hb2); (try clear hk); (try clear hi); obtain ⟨hcz7_0, hcz7_1, hcz7_2, hcz7_3, hcz7_4, hcz7_5, hcz7_6, hfz7_0, hfz7_1, hfz7_2, hfz7_3, hfz7_4, hfz7_5, hfz7_6⟩ := qC7 BK136) | ((with_reducible refine gate_dst (N := 14) rfl ?_); refine Kd.R_lit Kd.string _ 9 ?hg (N := 14) ?hd (xs := ([t137] : List ByteArray)) (inner := [.string t137]) (ok := fun _ => True) (okp := fun _ => True) ?hr ?hp (fun _ hk => hk) trivial (Below.refl _ _) (Nat.le_refl _) (by simp) ?_; (case hd => rfl); (case hg => rfl); (case hr => first | (go_simp; done) | (go_simp; rfl)); (case hp => exact (Reps.one (show Kd.M Kd.string _ _ _ t137 [.string t137] from rfl) (Reps.none _ _))); intro v139 w8 ho9 hb hg_ hnew_; clear hg_ hnew_; (first | rw [← Ny138.out] at ho9 | (simp only [Int.reduceToNat] at ho9; rw [← Ny138.out] at ho9)); have n0_ := Aside0.mk (Kd.R_lower ho9 (below_size (qS1 HB GE136))); have n1_ := qD BK136 hb; have n2_ := Aside0.mk (below_step (qS1 HB GE136) hb); clear BK136 HB; have HO140 := n0_; have BK136 := n1_; have HB := n2_; clear n0_ n1_ n2_; clear hb ho9))
  go_ret
  exact ⟨_, qE, qR HO140, qS1 HB GE136⟩
 ·rw [if_neg c3] at H
  (have c3b0 : (a0_0 == 1) = false := beq_eq_false_iff_ne.mpr c3); (have c3b1 : (a0_0 != 1) = true := bne_iff_ne.mpr c3); (have HC10 := Aside0.mk H); clear H
  go_enter Tryd.func55, Tryd.ntmps55
  go_upto_if 15 with (first | ((with_reducible refine gate_dst (N := 1) rfl ?_); refine box_event ?hg (N := 1) ?hd (cs := #[.int .i64 a0_0, .string a0_1, .int .i64 a0_2, .int .i64 a0_3, .int .i64 a0_4, .int .i64 a0_5, .string a0_6]) (t := 32) ?hr ?_; (case hd => rfl); (case hg => rfl); (case hr => first | (go_simp; done) | (go_simp; rfl)); intro gb136 hg w11 hbox hb; have n0_ := Aside0.mk (below_step (qS0 HB) hb); have n1_ := Aside0.mk (hbox); have n2_ := qG hg (below_size (qS0 HB)); have n3_ := qG hg (below_size (qS0 HB)); clear HB; have HB := n0_; have BK136 := n1_; have GW136 := n2_; have GE136 := n3_; clear n0_ n1_ n2_ n3_ hb hbox hg; obtain ⟨hcz12_0, hcz12_1, hcz12_2, hcz12_3, hcz12_4, hcz12_5, hcz12_6, hfz12_0, hfz12_1, hfz12_2, hfz12_3, hfz12_4, hfz12_5, hfz12_6⟩ := qC7 BK136) | ((with_reducible refine gate_callee (f := 34) rfl ?_); refine goesL_ (some 8) rfl rfl Tryd.func34 (by kernel_rfl) rfl #[.string a0_1] rfl qL ?_; (with_reducible refine (spec_Fold.calls k a0_1 t137 _ A2.out).mono ?_); rintro e w13 ⟨rfl, hb⟩; refine ⟨_, rfl, ?_⟩; have n0_ := qD BK136 hb; have n1_ := Aside0.mk (below_step (qS1 HB GE136) hb); clear BK136 HB; have BK136 := n0_; have HB := n1_; clear n0_ n1_; (try clear hb); (try clear hb2); (try clear hk); (try clear hi); obtain ⟨hcz14_0, hcz14_1, hcz14_2, hcz14_3, hcz14_4, hcz14_5, hcz14_6, hfz14_0, hfz14_1, hfz14_2, hfz14_3, hfz14_4, hfz14_5, hfz14_6⟩ := qC7 BK136))
  (try simp only [Act.put, List.setIfInBounds_toArray, List.set_cons_zero, List.set_cons_succ])
  go_cut [15] (fun v15 wc => ∃ (kq : Nat) (x15_9 : Bool), v15 = .bool x15_9 ∧ Aside0 (spec_l22Words.j0 kq t137 a0_0 x15_9 a0_0 a0_1 a0_2 a0_3 a0_4 a0_5 a0_6 = some r) ∧ Aside0 (kq ≤ k) ∧ Aside0 (wc.heap[gb136]? = some (.cells #[.int .i64 a0_0, .string a0_1, .int .i64 a0_2, .int .i64 a0_3, .int .i64 a0_4, .int .i64 a0_5, .string a0_6] 32 (0, 0))) ∧ Aside0 (Below w.heap.size w wc))
  case first =>
   (have H := HC10.out); clear HC10
   by_cases c15 : a0_0 = 3
   ·rw [if_pos c15] at H
    (have c15b0 : (a0_0 == 3) = true := beq_iff_eq.mpr c15); (have c15b1 : (a0_0 != 3) = false := bne_eq_false_iff_eq.mpr c15); clear c15
    (first | rw [c15b0] | (simp only [i64_w, i32_w]; rw [c15b0]) | skip)
    (have H' := Aside0.mk H); clear H
    go_wp2
    go_meet
    case rel => exact ⟨_, ((a0_0 == 3)), (by first | rfl | (simp; done) | (simp [*]; done)), H', ⟨by first | omega | exact Nat.le_refl _⟩, ⟨qB BK136⟩, ⟨qS1 HB GE136⟩⟩
   ·rw [if_neg c15] at H
    (have c15b0 : (a0_0 == 3) = false := beq_eq_false_iff_ne.mpr c15); (have c15b1 : (a0_0 != 3) = true := bne_iff_ne.mpr c15)
    (first | rw [c15b0] | (simp only [i64_w, i32_w]; rw [c15b0]) | skip)
    (have H' := Aside0.mk H); clear H
    go_wp2
    go_meet
    case rel => exact ⟨_, ((a0_0 == 5)), (by first | rfl | (simp; done) | (simp [*]; done)), H', ⟨by first | omega | exact Nat.le_refl _⟩, ⟨qB BK136⟩, ⟨qS1 HB GE136⟩⟩
  case rest =>
   clear HC10; (try clear c1); (try clear p2); (try clear c3); (try clear c3b0); (try clear c3b1); (try clear c5); (try clear c15); (try clear c15b0); (try clear c15b1); (try clear hcz12_0); (try clear hcz12_1); (try clear hcz12_2); (try clear hcz12_3); (try clear hcz12_4); (try clear hcz12_5); (try clear hcz12_6); (try clear hcz14_0); (try clear hcz14_1); (try clear hcz14_2); (try clear hcz14_3); (try clear hcz14_4); (try clear hcz14_5); (try clear hcz14_6); (try clear hcz5_0); (try clear hcz5_1); (try clear hcz5_2); (try clear hcz5_3); (try clear hcz5_4); (try clear hcz5_5); (try clear hcz5_6); (try clear hcz7_0); (try clear hcz7_1); (try clear hcz7_2); (try clear hcz7_3); (try clear hcz7_4); (try clear hcz7_5); (try clear hcz7_6); (try clear hfz12_0); (try clear hfz12_1); (try clear hfz12_2); (try clear hfz12_3); (try clear hfz12_4); (try clear hfz12_5); (try clear hfz12_6); (try clear hfz14_0); (try clear hfz14_1); (try clear hfz14_2); (try clear hfz14_3); (try clear hfz14_4); (try clear hfz14_5); (try clear hfz14_6); (try clear hfz5_0); (try clear hfz5_1); (try clear hfz5_2); (try clear hfz5_3); (try clear hfz5_4); (try clear hfz5_5); (try clear hfz5_6); (try clear hfz7_0); (try clear hfz7_1); (try clear hfz7_2); (try clear hfz7_3); (try clear hfz7_4); (try clear hfz7_5); (try clear hfz7_6); (obtain ⟨kq, x15_9, rfl, HA, HJ9, BK136, HB⟩ := hcut)
   cases kq with
   | zero => exact absurd HA.out (by simp [spec_l22Words.j0])
   | succ kj9 =>
    (have H := HA.out); clear HA; (simp only [spec_l22Words.j0] at H)
    by_cases c16 : x15_9 = true
    ·subst c16
     (have H1 : ((spec_l19Weight.f a0_2).bind fun t141 => (if t141 = true then (some (([t137, t137] : List ByteArray))) else (some (([(⟨#[]⟩ : ByteArray), (⟨#[]⟩ : ByteArray)] : List ByteArray))))) = some r := by rw [if_pos rfl] at H; exact H); clear H; (have H := H1); clear H1; (replace H := Option.bind_eq_some_iff.mp H); (obtain ⟨t141, A170, H⟩ := H)
     try dsimp only at H
     (have A17 := Aside0.mk A170); clear A170
     by_cases c18 : t141 = true
     ·subst c18
      (have H1 : (some (([t137, t137] : List ByteArray))) = some r := by rw [if_pos rfl] at H; exact H); clear H; (have H := H1); clear H1; (obtain ⟨y142, hy142⟩ : ∃ y_ : List ByteArray, y_ = (([t137, t137] : List ByteArray)) := ⟨_, rfl⟩); (replace H : (some y142) = some r := by first | (rw [hy142]; with_reducible exact H) | (have H2_ := (Option.bind_some _ _).symm.trans H; rw [hy142]; with_reducible exact H2_) | (have H2_ := (Option.bind_some _ _).symm.trans H; with_reducible exact H2_) | with_reducible exact H | (rw [hy142]; exact H) | exact H); (have Ny142 := Aside0.mk hy142); clear hy142; (obtain rfl := Option.some.inj H); (obtain ⟨hcz19_0, hcz19_1, hcz19_2, hcz19_3, hcz19_4, hcz19_5, hcz19_6, hfz19_0, hfz19_1, hfz19_2, hfz19_3, hfz19_4, hfz19_5, hfz19_6⟩ := qC7 BK136)
      go_wp2_with (first | ((with_reducible refine gate_callee (f := 93) rfl ?_); refine goesL_ (some 20) rfl rfl Tryd.func93 (by kernel_rfl) rfl #[.int .i64 a0_2] rfl qL ?_; (with_reducible refine (spec_l19Weight.calls a0_2 true _ A17.out).mono ?_); rintro e w' ⟨rfl, ⟨nd, rfl⟩⟩; refine ⟨_, rfl, ?_⟩) | ((with_reducible refine gate_dst (N := 24) rfl ?_); refine Kd.R_lit Kd.string _ 9 ?hg (N := 24) ?hd (xs := ([t137, t137] : List ByteArray)) (inner := [.string t137, .string t137]) (ok := fun _ => True) (okp := fun _ => True) ?hr ?hp (fun _ hk => hk) trivial (Below.refl _ _) (Nat.le_refl _) (by simp) ?_; (case hd => rfl); (case hg => rfl); (case hr => first | (go_simp; done) | (go_simp; rfl)); (case hp => exact (Reps.one (show Kd.M Kd.string _ _ _ t137 [.string t137] from rfl) (Reps.one (show Kd.M Kd.string _ _ _ t137 [.string t137] from rfl) (Reps.none _ _)))); intro v143 w20 ho21 hb hg_ hnew_; clear hg_ hnew_; (first | rw [← Ny142.out] at ho21 | (simp only [Int.reduceToNat] at ho21; rw [← Ny142.out] at ho21)); have n0_ := Aside0.mk (Kd.R_lower ho21 (below_size (qS1 HB GE136))); have n1_ := qD BK136 hb; have n2_ := Aside0.mk (below_step (qS1 HB GE136) hb); clear BK136 HB; have HO144 := n0_; have BK136 := n1_; have HB := n2_; clear n0_ n1_ n2_; clear hb ho21))
      go_ret
      exact ⟨_, qE, qR HO144, qS1 HB GE136⟩
     ·replace c18 := Bool.eq_false_iff.mpr c18
      (subst c18); (have H1 : (some (([(⟨#[]⟩ : ByteArray), (⟨#[]⟩ : ByteArray)] : List ByteArray))) = some r := by rw [if_neg (show ¬ (false = true) by decide)] at H; exact H); clear H; (have H := H1); clear H1; (obtain ⟨y145, hy145⟩ : ∃ y_ : List ByteArray, y_ = (([(⟨#[]⟩ : ByteArray), (⟨#[]⟩ : ByteArray)] : List ByteArray)) := ⟨_, rfl⟩); (replace H : (some y145) = some r := by first | (rw [hy145]; with_reducible exact H) | (have H2_ := (Option.bind_some _ _).symm.trans H; rw [hy145]; with_reducible exact H2_) | (have H2_ := (Option.bind_some _ _).symm.trans H; with_reducible exact H2_) | with_reducible exact H | (rw [hy145]; exact H) | exact H); (have Ny145 := Aside0.mk hy145); clear hy145; (obtain rfl := Option.some.inj H); (obtain ⟨hcz22_0, hcz22_1, hcz22_2, hcz22_3, hcz22_4, hcz22_5, hcz22_6, hfz22_0, hfz22_1, hfz22_2, hfz22_3, hfz22_4, hfz22_5, hfz22_6⟩ := qC7 BK136)
      go_wp2_with (first | ((with_reducible refine gate_callee (f := 93) rfl ?_); refine goesL_ (some 20) rfl rfl Tryd.func93 (by kernel_rfl) rfl #[.int .i64 a0_2] rfl qL ?_; (with_reducible refine (spec_l19Weight.calls a0_2 false _ A17.out).mono ?_); rintro e w' ⟨rfl, ⟨nd, rfl⟩⟩; refine ⟨_, rfl, ?_⟩) | ((with_reducible refine gate_dst (N := 24) rfl ?_); refine Kd.R_lit Kd.string _ 9 ?hg (N := 24) ?hd (xs := ([(⟨#[]⟩ : ByteArray), (⟨#[]⟩ : ByteArray)] : List ByteArray)) (inner := [.string (⟨#[]⟩ : ByteArray), .string (⟨#[]⟩ : ByteArray)]) (ok := fun _ => True) (okp := fun _ => True) ?hr ?hp (fun _ hk => hk) trivial (Below.refl _ _) (Nat.le_refl _) (by simp) ?_; (case hd => rfl); (case hg => rfl); (case hr => first | (go_simp; done) | (go_simp; rfl)); (case hp => exact (Reps.one (show Kd.M Kd.string _ _ _ (⟨#[]⟩ : ByteArray) [.string (⟨#[]⟩ : ByteArray)] from rfl) (Reps.one (show Kd.M Kd.string _ _ _ (⟨#[]⟩ : ByteArray) [.string (⟨#[]⟩ : ByteArray)] from rfl) (Reps.none _ _)))); intro v146 w23 ho24 hb hg_ hnew_; clear hg_ hnew_; (first | rw [← Ny145.out] at ho24 | (simp only [Int.reduceToNat] at ho24; rw [← Ny145.out] at ho24)); have n0_ := Aside0.mk (Kd.R_lower ho24 (below_size (qS1 HB GE136))); have n1_ := qD BK136 hb; have n2_ := Aside0.mk (below_step (qS1 HB GE136) hb); clear BK136 HB; have HO147 := n0_; have BK136 := n1_; have HB := n2_; clear n0_ n1_ n2_; clear hb ho24))
      go_ret
      exact ⟨_, qE, qR HO147, qS1 HB GE136⟩
    ·replace c16 := Bool.eq_false_iff.mpr c16
     (subst c16); (have H1 : (if a0_0 = 4 then (some (([t137, t137] : List ByteArray))) else (if a0_0 = 6 then ((spec_Tokens.f kj9 a0_6 a0_5).bind fun bt151 => (if bt151.2 = true then (some bt151.1) else (if 0 ≤ a0_5 then (if (a0_5 : Int).toNat ≤ 17592186044416 then (some (List.replicate (a0_5 : Int).toNat (⟨#[]⟩ : ByteArray))) else (none)) else (none)))) else (some ([] : List ByteArray)))) = some r := by rw [if_neg (show ¬ (false = true) by decide)] at H; exact H); clear H; (have H := H1); clear H1
     by_cases c25 : a0_0 = 4
     ·rw [if_pos c25] at H
      (have c25b0 : (a0_0 == 4) = true := beq_iff_eq.mpr c25); (have c25b1 : (a0_0 != 4) = false := bne_eq_false_iff_eq.mpr c25); clear c25; (obtain ⟨y148, hy148⟩ : ∃ y_ : List ByteArray, y_ = (([t137, t137] : List ByteArray)) := ⟨_, rfl⟩); (replace H : (some y148) = some r := by first | (rw [hy148]; with_reducible exact H) | (have H2_ := (Option.bind_some _ _).symm.trans H; rw [hy148]; with_reducible exact H2_) | (have H2_ := (Option.bind_some _ _).symm.trans H; with_reducible exact H2_) | with_reducible exact H | (rw [hy148]; exact H) | exact H); (have Ny148 := Aside0.mk hy148); clear hy148; (obtain rfl := Option.some.inj H)
      go_wp2_with (first | ((with_reducible refine gate_dst (N := 29) rfl ?_); refine Kd.R_lit Kd.string _ 9 ?hg (N := 29) ?hd (xs := ([t137, t137] : List ByteArray)) (inner := [.string t137, .string t137]) (ok := fun _ => True) (okp := fun _ => True) ?hr ?hp (fun _ hk => hk) trivial (Below.refl _ _) (Nat.le_refl _) (by simp) ?_; (case hd => rfl); (case hg => rfl); (case hr => first | (go_simp; done) | (go_simp; rfl)); (case hp => exact (Reps.one (show Kd.M Kd.string _ _ _ t137 [.string t137] from rfl) (Reps.one (show Kd.M Kd.string _ _ _ t137 [.string t137] from rfl) (Reps.none _ _)))); intro v149 w26 ho27 hb hg_ hnew_; clear hg_ hnew_; (first | rw [← Ny148.out] at ho27 | (simp only [Int.reduceToNat] at ho27; rw [← Ny148.out] at ho27)); have n0_ := Aside0.mk (Kd.R_lower ho27 (below_size (qS1 HB GE136))); have n1_ := qD BK136 hb; have n2_ := Aside0.mk (below_step (qS1 HB GE136) hb); clear BK136 HB; have HO150 := n0_; have BK136 := n1_; have HB := n2_; clear n0_ n1_ n2_; clear hb ho27))
      go_ret
      exact ⟨_, qE, qR HO150, qS1 HB GE136⟩
     ·rw [if_neg c25] at H
      (have c25b0 : (a0_0 == 4) = false := beq_eq_false_iff_ne.mpr c25); (have c25b1 : (a0_0 != 4) = true := bne_iff_ne.mpr c25)
      by_cases c28 : a0_0 = 6
      ·rw [if_pos c28] at H
       (have c28b0 : (a0_0 == 6) = true := beq_iff_eq.mpr c28); (have c28b1 : (a0_0 != 6) = false := bne_eq_false_iff_eq.mpr c28); clear c28; (replace H := Option.bind_eq_some_iff.mp H); (obtain ⟨⟨t151, t152⟩, A290, H⟩ := H)
       try dsimp only at H
       (have A29 := Aside0.mk A290); clear A290
       by_cases c30 : t152 = true
       ·subst c30
        (have H1 : (some t151) = some r := by rw [if_pos rfl] at H; exact H); clear H; (have H := H1); clear H1; (obtain rfl := Option.some.inj H); (obtain ⟨hcz31_0, hcz31_1, hcz31_2, hcz31_3, hcz31_4, hcz31_5, hcz31_6, hfz31_0, hfz31_1, hfz31_2, hfz31_3, hfz31_4, hfz31_5, hfz31_6⟩ := qC7 BK136)
        go_wp2_with (first | ((with_reducible refine gate_callee (f := 94) rfl ?_); refine goesL_ (some 37) rfl rfl Tryd.func94 (by kernel_rfl) rfl #[.string a0_6, .int .i64 a0_5] rfl qL ?_; (with_reducible refine (spec_Tokens.calls kj9 a0_6 a0_5 t151 true _ A29.out).mono ?_); rintro e w32 ⟨v153, rfl, ho0, hb⟩; refine ⟨_, rfl, ?_⟩; have n0_ := Aside0.mk (Kd.R_lower ho0 (below_size (qS1 HB GE136))); have n1_ := qD BK136 hb; have n2_ := Aside0.mk (below_step (qS1 HB GE136) hb); clear BK136 HB; have HO154 := n0_; have BK136 := n1_; have HB := n2_; clear n0_ n1_ n2_; (try clear hb); (try clear hb2); (try clear hk); (try clear hi); (try clear ho0)))
        go_ret
        exact ⟨_, qE, qR HO154, qS1 HB GE136⟩
       ·replace c30 := Bool.eq_false_iff.mpr c30
        (subst c30); (have H1 : (if 0 ≤ a0_5 then (if (a0_5 : Int).toNat ≤ 17592186044416 then (some (List.replicate (a0_5 : Int).toNat (⟨#[]⟩ : ByteArray))) else (none)) else (none)) = some r := by rw [if_neg (show ¬ (false = true) by decide)] at H; exact H); clear H; (have H := H1); clear H1
        by_cases c33 : 0 ≤ a0_5
        ·rw [if_pos c33] at H
         (have c33b0 := eq_true c33); (have c33b1 : decide (0 ≤ a0_5) = true := decide_eq_true c33); clear c33
         by_cases c34 : (a0_5 : Int).toNat ≤ 17592186044416
         ·rw [if_pos c34] at H
          (have c34b0 := eq_true c34); (have c34b1 : decide ((a0_5 : Int).toNat ≤ 17592186044416) = true := decide_eq_true c34); clear c34; (obtain ⟨y155, hy155⟩ : ∃ y_ : List ByteArray, y_ = (List.replicate (a0_5 : Int).toNat (⟨#[]⟩ : ByteArray)) := ⟨_, rfl⟩); (replace H : (some y155) = some r := by first | (rw [hy155]; with_reducible exact H) | (have H2_ := (Option.bind_some _ _).symm.trans H; rw [hy155]; with_reducible exact H2_) | (have H2_ := (Option.bind_some _ _).symm.trans H; with_reducible exact H2_) | with_reducible exact H | (rw [hy155]; exact H) | exact H); (have Ny155 := Aside0.mk hy155); clear hy155; (obtain rfl := Option.some.inj H); (obtain ⟨hcz35_0, hcz35_1, hcz35_2, hcz35_3, hcz35_4, hcz35_5, hcz35_6, hfz35_0, hfz35_1, hfz35_2, hfz35_3, hfz35_4, hfz35_5, hfz35_6⟩ := qC7 BK136)
          go_wp2_with (first | ((with_reducible refine gate_callee (f := 94) rfl ?_); refine goesL_ (some 37) rfl rfl Tryd.func94 (by kernel_rfl) rfl #[.string a0_6, .int .i64 a0_5] rfl qL ?_; (with_reducible refine (spec_Tokens.calls kj9 a0_6 a0_5 t151 false _ A29.out).mono ?_); rintro e w36 ⟨v153, rfl, ho0, hb⟩; refine ⟨_, rfl, ?_⟩; have n0_ := Aside0.mk (Kd.R_lower ho0 (below_size (qS1 HB GE136))); have n1_ := qD BK136 hb; have n2_ := Aside0.mk (below_step (qS1 HB GE136) hb); clear BK136 HB; have HO154 := n0_; have BK136 := n1_; have HB := n2_; clear n0_ n1_ n2_; (try clear hb); (try clear hb2); (try clear hk); (try clear hi); (try clear ho0); obtain ⟨hcz37_0, hcz37_1, hcz37_2, hcz37_3, hcz37_4, hcz37_5, hcz37_6, hfz37_0, hfz37_1, hfz37_2, hfz37_3, hfz37_4, hfz37_5, hfz37_6⟩ := qC7 BK136) | ((with_reducible refine gate_dst (N := 44) rfl ?_); refine Kd.R_make Kd.string _ 9 rfl (N := 44) rfl 84 _ _ rfl a0_5 rfl rfl Tryd.underlying84 (.string ⟨#[]⟩) 16 info9 rfl (by decide) (by omega) (⟨#[]⟩ : ByteArray) (ok := fun _ => True) (okp := fun _ => True) rfl (fun _ hk => hk) trivial (of_decide_eq_true (by first | (with_reducible assumption) | assumption)) (Nat.le_trans (Nat.mul_le_mul_right _ (of_decide_eq_true (by first | (with_reducible assumption) | assumption) : a0_5.toNat ≤ 17592186044416)) (by omega)) (Below.refl _ _) (Nat.le_refl _) ?_; intro v156 w38 ho39 hb hg_ hnew_; clear hg_ hnew_; (first | rw [← Ny155.out] at ho39 | (simp only [Int.reduceToNat] at ho39; rw [← Ny155.out] at ho39)); have n0_ := Aside0.mk (Kd.R_elder' (qR HO154) (Kd.R_base ho39) hb); have n1_ := Aside0.mk (Kd.R_lower (Kd.R_new' ho39 (Kd.R_lt (qR HO154))) (below_size (qS1 HB GE136))); have n2_ := qD BK136 hb; have n3_ := Aside0.mk (below_step (qS1 HB GE136) hb); clear HO154 BK136 HB; have HO154 := n0_; have HO157 := n1_; have BK136 := n2_; have HB := n3_; clear n0_ n1_ n2_ n3_; clear hb ho39))
          go_ret
          exact ⟨_, qE, by (with_reducible repeat (first | apply Kd.R_alloc | apply Kd.R_drewN | apply Kd.R_drew)); exact Kd.R_mono HO157.out (fun _ hk => trivial), qS1 HB GE136⟩
         ·rw [if_neg c34] at H
          exact absurd H (by simp)
        ·rw [if_neg c33] at H
         exact absurd H (by simp)
      ·rw [if_neg c28] at H
       (have c28b0 : (a0_0 == 6) = false := beq_eq_false_iff_ne.mpr c28); (have c28b1 : (a0_0 != 6) = true := bne_iff_ne.mpr c28); (obtain rfl := Option.some.inj H)
       go_wp2
       go_ret
       exact ⟨_, qE, by first | exact Kd.R_nil _ _ _ _ _ | exact Kd.N_nil _ _ _ _ _ | exact Kd.V_nil _ _ _ _ _ | exact Kd.Q_nil _ _ _ _ _ | exact Kd.S_nil _ _ _ _ _, qS1 HB GE136⟩
def spec_Pad.l0 : Nat → ByteArray → List Int → Int → Option (List Int)
 | 0, _, _, _ => none
 | k + 1, x0, x3, x4 => if x4 < (x0.size : Int) then (if 0 ≤ x4 then (if 0 ≤ (wrap64 (x4 + 1)) then (if (wrap64 (x4 + 1)) < (x3.length : Int) then (spec_Pad.l0 k x0 (x3.set ((wrap64 (x4 + 1)) : Int).toNat (bt x0 x4)) (wrap64 (x4 + 1))) else (none)) else (none)) else (none)) else (some x3)
def spec_Pad.f (k : Nat) (a0 : ByteArray) : Option (List Int) := if 33 ≤ 281474976710656 then ((some (List.replicate 33 0 : List Int)).bind fun y158 => ((spec_WordOk.f k a0).bind fun t161 => (if t161 = true then (if 0 < (y158.length : Int) then (spec_Pad.l0 k a0 (y158.set (0 : Int).toNat (((a0.size : Int)) % 256)) 0) else (none)) else (some y158)))) else (none)
set_option maxHeartbeats 8000000 in
set_option maxRecDepth 100000 in
theorem spec_Pad.calls (k : Nat) (a0 : ByteArray) (r : List Int) (w : World) (h : spec_Pad.f k a0 = some r) :
  Calls Tryd.prog 127 #[.string a0] w fun e w' => ∃ v0_ : Value, e = .returned (v0_) ∧ Kd.R (Kd.int .u8) 5 w' w.heap.size (fun _ => True) v0_ r ∧ Below w.heap.size w w' := by
 (have HB := Aside0.mk (Below.refl w.heap.size w)); (have H : (if 33 ≤ 281474976710656 then ((some (List.replicate 33 0 : List Int)).bind fun y158 => ((spec_WordOk.f k a0).bind fun t161 => (if t161 = true then (if 0 < (y158.length : Int) then (spec_Pad.l0 k a0 (y158.set (0 : Int).toNat (((a0.size : Int)) % 256)) 0) else (none)) else (some y158)))) else (none)) = some r := h); clear h
 by_cases c2 : 33 ≤ 281474976710656
 ·rw [if_pos c2] at H
  (have c2b0 := eq_true c2); (have c2b1 : decide (33 ≤ 281474976710656) = true := decide_eq_true c2); clear c2; (obtain ⟨y158, hy158⟩ : ∃ y_ : List Int, y_ = (List.replicate 33 0) := ⟨_, rfl⟩); (replace H : ((spec_WordOk.f k a0).bind fun t161 => (if t161 = true then (if 0 < (y158.length : Int) then (spec_Pad.l0 k a0 (y158.set (0 : Int).toNat (((a0.size : Int)) % 256)) 0) else (none)) else (some y158))) = some r := by first | (rw [hy158]; with_reducible exact H) | (have H2_ := (Option.bind_some _ _).symm.trans H; rw [hy158]; with_reducible exact H2_) | (have H2_ := (Option.bind_some _ _).symm.trans H; with_reducible exact H2_) | with_reducible exact H | (rw [hy158]; exact H) | exact H); (have Ny158 := Aside0.mk hy158); clear hy158; (replace H := Option.bind_eq_some_iff.mp H); (obtain ⟨t161, A30, H⟩ := H)
  try dsimp only at H
  (have A3 := Aside0.mk A30); clear A30
  by_cases c4 : t161 = true
  ·subst c4
   (have H1 : (if 0 < (y158.length : Int) then (spec_Pad.l0 k a0 (y158.set (0 : Int).toNat (((a0.size : Int)) % 256)) 0) else (none)) = some r := by rw [if_pos rfl] at H; exact H); clear H; (have H := H1); clear H1
   by_cases c5 : 0 < (y158.length : Int)
   ·rw [if_pos c5] at H
    (have c5b0 : decide (0 < (y158.length : Int)) = true := decide_eq_true c5); (have c5b1 : decide (0 < y158.length) = true := decide_eq_true (by omega)); clear c5; (obtain ⟨y162, hy162⟩ : ∃ y_ : List Int, y_ = (y158.set (0 : Int).toNat (((a0.size : Int)) % 256)) := ⟨_, rfl⟩); (replace H : (spec_Pad.l0 k a0 y162 0) = some r := by first | (rw [hy162]; with_reducible exact H) | (have H2_ := (Option.bind_some _ _).symm.trans H; rw [hy162]; with_reducible exact H2_) | (have H2_ := (Option.bind_some _ _).symm.trans H; with_reducible exact H2_) | with_reducible exact H | (rw [hy162]; exact H) | exact H); (have Ny162 := Aside0.mk hy162); clear hy162; (have H' := Aside0.mk H); clear H
    go_enter Tryd.func127, Tryd.ntmps127
    go_wp2_with (first | ((with_reducible refine gate_dst (N := 5) rfl ?_); refine Kd.R_make (Kd.int .u8) _ 5 rfl (N := 5) rfl 58 _ _ rfl 33 rfl rfl Tryd.underlying58 (.int .u8 0) 1 info5 rfl (by decide) (by omega) 0 (ok := fun _ => True) (okp := fun _ => True) rfl (fun _ hk => hk) trivial (by omega) (by omega) (Below.refl _ _) (Nat.le_refl _) ?_; intro v159 w7 ho8 hb hg_ hnew_; clear hg_ hnew_; (first | rw [← Ny158.out] at ho8 | (simp only [Int.reduceToNat] at ho8; rw [← Ny158.out] at ho8)); have n0_ := Aside0.mk (Kd.R_lower ho8 (below_size (qS0 HB))); have n1_ := Aside0.mk (below_step (qS0 HB) hb); clear HB; have HO160 := n0_; have HB := n1_; clear n0_ n1_; clear hb ho8) | ((with_reducible refine gate_callee (f := 73) rfl ?_); refine goesL_ (some 7) rfl rfl Tryd.func73 (by kernel_rfl) rfl #[.string a0] rfl qL ?_; (with_reducible refine (spec_WordOk.calls k a0 true _ A3.out).mono ?_); rintro e w' ⟨rfl, ⟨nd, rfl⟩⟩; refine ⟨_, rfl, ?_⟩; (try (rw [drewN_self w7]; generalize hq_ : World.drewN w7 _ = w7; have n0_ : Aside0 (Kd.R (Kd.int .u8) 5 w7 w.heap.size (fun _ => True) v159 y158) := ⟨by rw [← hq_]; exact (qR HO160)⟩; have n1_ : Aside0 (Below w.heap.size w w7) := ⟨by rw [← hq_]; exact (qS0 HB)⟩; clear HO160 HB hq_; have HO160 := n0_; have HB := n1_; clear n0_ n1_)); have p6 : 0 ≤ (0 : Int) := (by omega); have q6 : (0 : Int) < ((y158.length : Int) : Int) := of_decide_eq_true (by first | (with_reducible assumption) | assumption); have qi6 : (0 < y158.length) = True := eq_true (by omega); obtain ⟨go6, co6, eo6, gb6, gl6, cl6, HG6⟩ := Kd.R_form HO160.out (by omega); (first | cases eo6 | (injection eo6 with ea_ en_ ec_; (first | subst ea_ | (injection ea_ with ea_; subst ea_)); subst ec_; clear en_)); have GB6 := Aside0.mk gb6; have GG6 := Aside0.mk HG6; clear gb6 gl6 HG6; obtain ⟨hx6_0, hf6_0⟩ := Kd.R_celln 0 HO160.out (0 : Int) p6 q6; (try rw [show ((0 : Int)).toNat = 0 from rfl] at hx6_0); (try simp only [Nat.reduceMul, Nat.zero_mul, Nat.zero_add, Nat.reduceAdd] at hx6_0); (try rw [show ((0 : Int)).toNat = 0 from rfl] at hf6_0); (try simp only [Nat.reduceMul, Nat.zero_mul, Nat.zero_add, Nat.reduceAdd] at hf6_0); replace p6 := eq_true p6; replace q6 := eq_true q6; obtain ⟨hy9_, hz9_⟩ := Kd.R_celln 0 HO160.out (0 : Int) (by omega) (of_decide_eq_true (by first | (with_reducible assumption) | assumption)); (try simp only [Int.reduceToNat, Int.toNat_zero, Int.toNat_ofNat, Nat.reduceMul, Nat.zero_mul, Nat.zero_add] at hy9_ hz9_); (try rw [show ((0 : Int)).toNat = 0 from rfl] at hy9_); (try rw [show ((0 : Int)).toNat = 0 from rfl] at hz9_); have HP9 := Kd.R_putg HO160.out (0 : Int) (((a0.size : Int)) % 256)) | ((with_reducible refine gate_store (t := 5) (p := 14) rfl ?_); refine store_event (t := 5) (p := 14) (v := ?vo_w10) (w1 := (w7.setCell ⟨go6, (0 : Int).toNat, none⟩ (.int .u8 (((a0.size : Int)) % 256)))) ?hg ?ho ?hn ?hr ?_; (case ho => rfl); (case hg => rfl); (case hn => rfl); (case hr => first | (go_simp; done) | (go_simp; rfl)); intro w10 hw; have hg : w7.grownBy w10 (some go6) := (by rw [hw]; exact HP9.2); have hp_ : Kd.R (Kd.int .u8) 5 w10 w.heap.size (fun _ => True) (.slice (some ⟨go6, 0, none⟩) y158.length co6) y162 := (by rw [hw, Ny162.out]; exact HP9.1); clear HP9; have n0_ := Aside0.mk (hp_); have n1_ := Aside0.mk ((by rw [hw]; exact below_set (HB.out) GB6.out : Below w.heap.size w w10)); clear HO160 HB; have HO160 := n0_; have HB := n1_; clear n0_ n1_; clear hg hw hp_))
    go_loopg [4] k (fun kq v4 w' => ∃ (x3_1 : List Int) (x4_1 : Int), v4 = .int .i64 x4_1 ∧ Aside0 (spec_Pad.l0 kq a0 x3_1 x4_1 = some r) ∧ Aside0 (kq ≤ k) ∧ Aside0 (Kd.R (Kd.int .u8) 5 w' w.heap.size (fun _ => True) (.slice (some ⟨go6, 0, none⟩) y158.length co6) x3_1) ∧ Aside0 (Below w.heap.size w w'))
    case atStart => exact ⟨(y162), (0), (by first | rfl | (simp; done) | (simp [*]; done)), H', ⟨Nat.le_refl _⟩, ⟨qR HO160⟩, ⟨qS0 HB⟩⟩
    case round =>
     clear H'; (try clear c1); (try clear c2); (try clear c2b0); (try clear c2b1); (try clear p2); (try clear c4); (try clear c5); (try clear c5b0); (try clear c5b1); (try clear p6); (try clear q6); (try clear hx6); (try clear qi6); (try clear hf6); (try clear c7); (try clear hx6_0); (try clear p6); (try clear q6); (obtain ⟨x3_1, x4_1, rfl, HA, HK1, HO_3, HB⟩ := hrel); (have hl3_1 := (Kd.R_reads' HO_3.out).1); (rw [hl3_1] at HO_3); (try simp only [hl3_1])
     cases gk with
     | zero => exact absurd HA.out (by simp [spec_Pad.l0])
     | succ k1 =>
      (have H := HA.out); clear HA; (simp only [spec_Pad.l0] at H)
      by_cases c11 : x4_1 < (a0.size : Int)
      ·rw [if_pos c11] at H
       (have c11b0 : decide (x4_1 < (a0.size : Int)) = true := decide_eq_true c11); clear c11
       by_cases c12 : 0 ≤ x4_1
       ·rw [if_pos c12] at H
        (have c12b0 : decide (0 ≤ x4_1) = true := decide_eq_true c12); clear c12; (obtain ⟨ji14, hji14⟩ : ∃ j_ : Int, (wrap64 (x4_1 + 1)) = j_ := ⟨_, rfl⟩); (replace H : (if 0 ≤ (ji14) then (if (ji14) < (x3_1.length : Int) then (spec_Pad.l0 k1 a0 (x3_1.set ((ji14) : Int).toNat (bt a0 x4_1)) ji14) else (none)) else (none)) = some r := by first | (rw [hji14] at H; exact H) | (simp only [hji14] at H ⊢; exact H)); (have hji14w : (IntKind.i64.wrap (x4_1 + 1)) = ji14 := (i64_w _).trans hji14)
        by_cases c15 : 0 ≤ (ji14)
        ·rw [if_pos c15] at H
         (have c15b0 : decide (0 ≤ (ji14)) = true := decide_eq_true c15); clear c15
         by_cases c16 : (ji14) < (x3_1.length : Int)
         ·rw [if_pos c16] at H
          (have c16b0 : decide ((ji14) < (x3_1.length : Int)) = true := decide_eq_true c16); clear c16; (obtain ⟨y163, hy163⟩ : ∃ y_ : List Int, y_ = (x3_1.set ((ji14) : Int).toNat (bt a0 x4_1)) := ⟨_, rfl⟩); (replace H : (spec_Pad.l0 k1 a0 y163 ji14) = some r := by first | (rw [hy163]; with_reducible exact H) | (have H2_ := (Option.bind_some _ _).symm.trans H; rw [hy163]; with_reducible exact H2_) | (have H2_ := (Option.bind_some _ _).symm.trans H; with_reducible exact H2_) | with_reducible exact H | (rw [hy163]; exact H) | exact H); (have Ny163 := Aside0.mk hy163); clear hy163; (have H' := Aside0.mk H); clear H; (have p13 : 0 ≤ (x4_1 : Int) := of_decide_eq_true (by first | (with_reducible assumption) | assumption)); (have q13 : x4_1 < (a0.size : Int) := of_decide_eq_true (by first | (with_reducible assumption) | assumption)); (have hx13 := bt_at a0 x4_1); (replace p13 := eq_true p13); (replace q13 := eq_true q13); (have p17 : 0 ≤ ((ji14) : Int) := of_decide_eq_true (by first | (with_reducible assumption) | assumption)); (have q17 : ((ji14) : Int) < ((x3_1.length : Int) : Int) := of_decide_eq_true (by first | (with_reducible assumption) | assumption)); (obtain ⟨hx17_0, hf17_0⟩ := Kd.R_celln 0 HO_3.out ((ji14) : Int) p17 q17); (replace p17 := eq_true p17); (replace q17 := eq_true q17); (have HP18 := Kd.R_putg HO_3.out ((ji14) : Int) (bt a0 x4_1))
          go_wp2_with (first | ((with_reducible refine gate_store (t := 5) (p := 27) rfl ?_); refine store_event (t := 5) (p := 27) (v := ?vo_w19) (w1 := (wr.setCell ⟨go6, ((ji14) : Int).toNat, none⟩ (.int .u8 (bt a0 x4_1)))) ?hg ?ho ?hn ?hr ?_; (case ho => rfl); (case hg => rfl); (case hn => rfl); (case hr => first | (go_simp; done) | (go_simp; rfl)); intro w19 hw; have hg : wr.grownBy w19 (some go6) := (by rw [hw]; exact HP18.2); have hp_ : Kd.R (Kd.int .u8) 5 w19 w.heap.size (fun _ => True) (.slice (some ⟨go6, 0, none⟩) x3_1.length co6) y163 := (by rw [hw, Ny163.out]; exact HP18.1); clear HP18; have n0_ := Aside0.mk (hp_); have n1_ := Aside0.mk ((by rw [hw]; exact below_set (HB.out) GB6.out : Below w.heap.size w w19)); clear HO_3 HB; have HO_3 := n0_; have HB := n1_; clear n0_ n1_; clear hg hw hp_))
          (try simp only [← hl3_1])
          go_roundg k1
          case measure => have := HK1.out; omega
          case rel => exact ⟨(y163), (ji14), (by first | rfl | (simp; done) | (simp only [← hji14] <;> (first | rfl | simp)) | (simp [*]; done)), H', ⟨by have := HK1.out; omega⟩, ⟨by (try simp only [hl3_1]); (with_reducible repeat (first | apply Kd.R_alloc | apply Kd.R_drewN | apply Kd.R_drew)); exact HO_3.out⟩, ⟨qS0 HB⟩⟩
         ·rw [if_neg c16] at H
          exact absurd H (by simp)
        ·rw [if_neg c15] at H
         exact absurd H (by simp)
       ·rw [if_neg c12] at H
        exact absurd H (by simp)
      ·rw [if_neg c11] at H
       (have c11b0 : decide (x4_1 < (a0.size : Int)) = false := decide_eq_false c11); clear c11; (obtain rfl := Option.some.inj H)
       go_wp2
       go_ret
       exact ⟨_, qE, qR HO_3, qS0 HB⟩
   ·rw [if_neg c5] at H
    exact absurd H (by simp)
  ·replace c4 := Bool.eq_false_iff.mpr c4
   (subst c4); (have H1 : (some y158) = some r := by rw [if_neg (show ¬ (false = true) by decide)] at H; exact H); clear H; (have H := H1); clear H1; (obtain rfl := Option.some.inj H)
   go_enter Tryd.func127, Tryd.ntmps127
   go_wp2_with (first | ((with_reducible refine gate_dst (N := 5) rfl ?_); refine Kd.R_make (Kd.int .u8) _ 5 rfl (N := 5) rfl 58 _ _ rfl 33 rfl rfl Tryd.underlying58 (.int .u8 0) 1 info5 rfl (by decide) (by omega) 0 (ok := fun _ => True) (okp := fun _ => True) rfl (fun _ hk => hk) trivial (by omega) (by omega) (Below.refl _ _) (Nat.le_refl _) ?_; intro v159 w20 ho21 hb hg_ hnew_; clear hg_ hnew_; (first | rw [← Ny158.out] at ho21 | (simp only [Int.reduceToNat] at ho21; rw [← Ny158.out] at ho21)); have n0_ := Aside0.mk (Kd.R_lower ho21 (below_size (qS0 HB))); have n1_ := Aside0.mk (below_step (qS0 HB) hb); clear HB; have HO160 := n0_; have HB := n1_; clear n0_ n1_; clear hb ho21) | ((with_reducible refine gate_callee (f := 73) rfl ?_); refine goesL_ (some 7) rfl rfl Tryd.func73 (by kernel_rfl) rfl #[.string a0] rfl qL ?_; (with_reducible refine (spec_WordOk.calls k a0 false _ A3.out).mono ?_); rintro e w' ⟨rfl, ⟨nd, rfl⟩⟩; refine ⟨_, rfl, ?_⟩))
   go_ret
   exact ⟨_, qE, qR HO160, qS0 HB⟩
 ·rw [if_neg c2] at H
  exact absurd H (by simp)
mutual
def spec_HashWord.j0 : Nat → Int → ByteArray → Bool → Option (Int)
 | 0, _, _, _ => none
 | k + 1, x0, x1, x18 => if x18 = true then (some (-1)) else ((spec_Pad.f k x1).bind fun t165 => (spec_HashWord.l0 k x0 t165 0))
def spec_HashWord.l0 : Nat → Int → List Int → Int → Option (Int)
 | 0, _, _, _ => none
 | k + 1, x5, x6, x7 => if x7 < (x6.length : Int) then (if 0 ≤ x7 then (spec_HashWord.l0 k (Int.tmod (wrap64 ((Go.bits .xor .i64 x5 (wrap64 (rd x6 x7))) * 16777619)) 4294967296) x6 (wrap64 (x7 + 1))) else (none)) else (some (Go.bits .xor .i64 x5 (wrap64 (Int.tdiv x5 65536))))
end
def spec_HashWord.f (k : Nat) (a0 : Int) (a1 : ByteArray) : Option (Int) := if a0 < 0 then (spec_HashWord.j0 k a0 a1 true) else (if a0 > 4294967295 then (spec_HashWord.j0 k a0 a1 true) else ((spec_WordOk.f k a1).bind fun t164 => (spec_HashWord.j0 k a0 a1 (!t164))))
set_option maxHeartbeats 8000000 in
set_option maxRecDepth 100000 in
theorem spec_HashWord.calls (k : Nat) (a0 : Int) (a1 : ByteArray) (r : Int) (w : World) (h : spec_HashWord.f k a0 a1 = some r) :
  Calls Tryd.prog 95 #[.int .i64 a0, .string a1] w fun e w' => e = .returned (.int .i64 r) ∧ Below w.heap.size w w' := by
 (have HB := Aside0.mk (Below.refl w.heap.size w)); (have H : (if a0 < 0 then (spec_HashWord.j0 k a0 a1 true) else (if a0 > 4294967295 then (spec_HashWord.j0 k a0 a1 true) else ((spec_WordOk.f k a1).bind fun t164 => (spec_HashWord.j0 k a0 a1 (!t164))))) = some r := h); clear h; (have HC3 := Aside0.mk H); clear H
 go_enter Tryd.func95, Tryd.ntmps95
 go_upto_region 1 with (fail)
 go_cut [18] (fun v18 wc => ∃ (kq : Nat) (x18_2 : Bool), v18 = .bool x18_2 ∧ Aside0 (spec_HashWord.j0 kq a0 a1 x18_2 = some r) ∧ Aside0 (kq ≤ k) ∧ Aside0 (Below w.heap.size w wc))
 case first =>
  (have H := HC3.out); clear HC3
  by_cases c4 : a0 < 0
  ·rw [if_pos c4] at H
   (have c4b0 : decide (a0 < 0) = true := decide_eq_true c4); clear c4
   (first | rw [c4b0] | (simp only [i64_w, i32_w]; rw [c4b0]) | skip)
   (have H' := Aside0.mk H); clear H
   go_wp2
   go_meet
   case rel => exact ⟨_, (true), (by first | rfl | (simp; done) | (simp [*]; done)), H', ⟨by first | omega | exact Nat.le_refl _⟩, ⟨qS0 HB⟩⟩
  ·rw [if_neg c4] at H
   (have c4b0 : decide (a0 < 0) = false := decide_eq_false c4); clear c4
   (first | rw [c4b0] | (simp only [i64_w, i32_w]; rw [c4b0]) | skip)
   by_cases c5 : a0 > 4294967295
   ·rw [if_pos c5] at H
    (have c5b0 : decide (4294967295 < a0) = true := decide_eq_true c5); clear c5; (have H' := Aside0.mk H); clear H
    go_wp2
    go_meet
    case rel => exact ⟨_, (true), (by first | rfl | (simp; done) | (simp [*]; done)), H', ⟨by first | omega | exact Nat.le_refl _⟩, ⟨qS0 HB⟩⟩
   ·rw [if_neg c5] at H
    (have c5b0 : decide (4294967295 < a0) = false := decide_eq_false c5); clear c5; (replace H := Option.bind_eq_some_iff.mp H); (obtain ⟨t164, A60, H⟩ := H); (replace H : (spec_HashWord.j0 k a0 a1 (!t164)) = some r := H); (have A6 := Aside0.mk A60); clear A60; (have H' := Aside0.mk H); clear H
    go_wp2_with (first | (go_at_call 73; (with_reducible refine (spec_WordOk.calls k a1 t164 _ A6.out).mono ?_); rintro e w' ⟨rfl, ⟨nd, rfl⟩⟩))
    go_meet
    case rel => exact ⟨_, (!t164), (by first | rfl | (simp; done) | (simp [*]; done)), H', ⟨by first | omega | exact Nat.le_refl _⟩, ⟨qS0 HB⟩⟩
 case rest =>
  clear HC3; (try clear p2); (try clear c4); (try clear c4b0); (try clear c5); (try clear c5b0); (obtain ⟨kq, x18_2, rfl, HA, HJ2, HB⟩ := hcut)
  cases kq with
  | zero => exact absurd HA.out (by simp [spec_HashWord.j0])
  | succ kj2 =>
   (have H := HA.out); clear HA; (simp only [spec_HashWord.j0] at H)
   by_cases c7 : x18_2 = true
   ·subst c7
    (have H1 : (some (-1)) = some r := by rw [if_pos rfl] at H; exact H); clear H; (have H := H1); clear H1; (obtain rfl := Option.some.inj H)
    go_wp2
    go_ret
    exact ⟨qE, qS0 HB⟩
   ·replace c7 := Bool.eq_false_iff.mpr c7
    (subst c7); (have H1 : ((spec_Pad.f kj2 a1).bind fun t165 => (spec_HashWord.l0 kj2 a0 t165 0)) = some r := by rw [if_neg (show ¬ (false = true) by decide)] at H; exact H); clear H; (have H := H1); clear H1; (replace H := Option.bind_eq_some_iff.mp H); (obtain ⟨t165, A80, H⟩ := H); (replace H : (spec_HashWord.l0 kj2 a0 t165 0) = some r := H); (have A8 := Aside0.mk A80); clear A80; (have H' := Aside0.mk H); clear H
    go_wp2_with (first | ((with_reducible refine gate_callee (f := 127) rfl ?_); refine goesL_ (some 21) rfl rfl Tryd.func127 (by kernel_rfl) rfl #[.string a1] rfl qL ?_; (with_reducible refine (spec_Pad.calls kj2 a1 t165 _ A8.out).mono ?_); rintro e w9 ⟨v166, rfl, ho0, hb⟩; refine ⟨_, rfl, ?_⟩; have n0_ := Aside0.mk (Kd.R_lower ho0 (below_size (qS0 HB))); have n1_ := Aside0.mk (below_step (qS0 HB) hb); clear HB; have HO167 := n0_; have HB := n1_; clear n0_ n1_; (try clear hb); (try clear hb2); (try clear hk); (try clear hi); (try clear ho0)))
    go_loopg [5, 7] kj2 (fun kq v5 v7 w' => ∃ (x5_2 : Int) (x7_2 : Int), v5 = .int .i64 x5_2 ∧ v7 = .int .i64 x7_2 ∧ Aside0 (spec_HashWord.l0 kq x5_2 t165 x7_2 = some r) ∧ Aside0 (kq ≤ kj2) ∧ Aside0 (Kd.R (Kd.int .u8) 5 w' w.heap.size (fun _ => True) v166 t165) ∧ Aside0 (Below w.heap.size w w'))
    case atStart => exact ⟨(a0), (0), (by first | rfl | (simp; done) | (simp [*]; done)), (by first | rfl | (simp; done) | (simp [*]; done)), H', ⟨Nat.le_refl _⟩, ⟨qR HO167⟩, ⟨qS0 HB⟩⟩
    case round =>
     clear H'; (try clear c1); (try clear p2); (try clear c4); (try clear c4b0); (try clear c5); (try clear c5b0); (try clear c7); (try clear c9); (try clear p2); (obtain ⟨x5_2, x7_2, rfl, rfl, HA, HK2, HO_6, HB⟩ := hrel)
     cases gk with
     | zero => exact absurd HA.out (by simp [spec_HashWord.l0])
     | succ k2 =>
      (have H := HA.out); clear HA; (simp only [spec_HashWord.l0] at H)
      by_cases c10 : x7_2 < (t165.length : Int)
      ·rw [if_pos c10] at H
       (have c10b0 : decide (x7_2 < (t165.length : Int)) = true := decide_eq_true c10); clear c10
       by_cases c11 : 0 ≤ x7_2
       ·rw [if_pos c11] at H
        (have c11b0 : decide (0 ≤ x7_2) = true := decide_eq_true c11); clear c11; (have H' := Aside0.mk H); clear H; (obtain ⟨Ao12, co12, eo12⟩ := Kd.R_slice HO_6.out); (subst eo12); (have p168 : 0 ≤ (x7_2 : Int) := of_decide_eq_true (by first | (with_reducible assumption) | assumption)); (have q168 : x7_2 < (t165.length : Int) := of_decide_eq_true (by first | (with_reducible assumption) | assumption)); (obtain ⟨ad168, e168, hx168_0⟩ := Kd.at_int (Kd.R_reads' HO_6.out).2.2 x7_2 p168 q168)
        cases e168
        (replace p168 := eq_true p168); (replace q168 := eq_true q168)
        go_wp2
        go_roundg k2
        case measure => have := HJ2.out; have := HK2.out; omega
        case rel => exact ⟨(Int.tmod (wrap64 ((Go.bits .xor .i64 x5_2 (wrap64 (rd t165 x7_2))) * 16777619)) 4294967296), (wrap64 (x7_2 + 1)), (by first | rfl | (simp; done) | (simp [*]; done)), (by first | rfl | (simp; done) | (simp [*]; done)), H', ⟨by have := HJ2.out; have := HK2.out; omega⟩, ⟨qR HO_6⟩, ⟨qS0 HB⟩⟩
       ·rw [if_neg c11] at H
        exact absurd H (by simp)
      ·rw [if_neg c10] at H
       (have c10b0 : decide (x7_2 < (t165.length : Int)) = false := decide_eq_false c10); clear c10; (obtain rfl := Option.some.inj H); (obtain ⟨Ao13, co13, eo13⟩ := Kd.R_slice HO_6.out); (subst eo13)
       go_wp2
       go_ret
       exact ⟨qE, qS0 HB⟩
def spec_l11Log.f (a0 : Int) : Option (Bool) := if a0 ≥ 0 then (some (decide (a0 ≤ 6))) else (some false)
set_option maxHeartbeats 8000000 in
set_option maxRecDepth 100000 in
theorem spec_l11Log.calls (a0 : Int) (r : Bool) (w : World) (h : spec_l11Log.f a0 = some r) :
  Calls Tryd.prog 96 #[.int .i64 a0] w fun e w' => e = .returned (.bool r) ∧ Drawn0 w w' := by
 (have H : (if a0 ≥ 0 then (some (decide (a0 ≤ 6))) else (some false)) = some r := h); clear h
 by_cases c2 : a0 ≥ 0
 ·rw [if_pos c2] at H
  (have c2b0 : decide (0 ≤ a0) = true := decide_eq_true c2); clear c2; (obtain rfl := Option.some.inj H)
  go_enter Tryd.func96, Tryd.ntmps96
  go_wp2
  go_ret
  exact ⟨by first | rfl | (simp; done) | (simp [*]; done), by repeat (first | exact Drawn0.refl _ | apply Drawn0.step)⟩
 ·rw [if_neg c2] at H
  (have c2b0 : decide (0 ≤ a0) = false := decide_eq_false c2); clear c2; (obtain rfl := Option.some.inj H)
  go_enter Tryd.func96, Tryd.ntmps96
  go_wp2
  go_ret
  exact ⟨by first | rfl | (simp; done) | (simp [*]; done), by repeat (first | exact Drawn0.refl _ | apply Drawn0.step)⟩
def spec_l02Pow.l0 : Nat → Int → Int → Option (Int)
 | 0, _, _ => none
 | k + 1, x0, x3 => if x0 > 0 then (spec_l02Pow.l0 k (wrap64 (x0 - 1)) (wrap64 (2 * x3))) else (some x3)
def spec_l02Pow.f (k : Nat) (a0 : Int) : Option (Int) := spec_l02Pow.l0 k a0 1
set_option maxHeartbeats 8000000 in
set_option maxRecDepth 100000 in
theorem spec_l02Pow.calls (k : Nat) (a0 : Int) (r : Int) (w : World) (h : spec_l02Pow.f k a0 = some r) :
  Calls Tryd.prog 97 #[.int .i64 a0] w fun e w' => e = .returned (.int .i64 r) ∧ Drawn0 w w' := by
 (have H : (spec_l02Pow.l0 k a0 1) = some r := h); clear h; (have H' := Aside0.mk H); clear H
 go_enter Tryd.func97, Tryd.ntmps97
 go_wp2
 go_loopg [0, 3] k (fun kq v0 v3 w' => ∃ (x0_1 : Int) (x3_1 : Int), v0 = .int .i64 x0_1 ∧ v3 = .int .i64 x3_1 ∧ Aside0 (spec_l02Pow.l0 kq x0_1 x3_1 = some r) ∧ Aside0 (kq ≤ k) ∧ Drawn0 w w')
 case atStart => exact ⟨(a0), (1), (by first | rfl | (simp; done) | (simp [*]; done)), (by first | rfl | (simp; done) | (simp [*]; done)), H', ⟨Nat.le_refl _⟩, by repeat (first | exact Drawn0.refl _ | apply Drawn0.step)⟩
 case round =>
  clear H'; (obtain ⟨x0_1, x3_1, rfl, rfl, HA, HK1, ⟨m1, rfl⟩⟩ := hrel)
  cases gk with
  | zero => exact absurd HA.out (by simp [spec_l02Pow.l0])
  | succ k1 =>
   (have H := HA.out); clear HA; (simp only [spec_l02Pow.l0] at H)
   by_cases c2 : x0_1 > 0
   ·rw [if_pos c2] at H
    (have c2b0 : decide (0 < x0_1) = true := decide_eq_true c2); clear c2; (have H' := Aside0.mk H); clear H
    go_wp2
    go_roundg k1
    case measure => have := HK1.out; omega
    case rel => exact ⟨(wrap64 (x0_1 - 1)), (wrap64 (2 * x3_1)), (by first | rfl | (simp; done) | (simp [*]; done)), (by first | rfl | (simp; done) | (simp [*]; done)), H', ⟨by have := HK1.out; omega⟩, by repeat (first | exact Drawn0.refl _ | apply Drawn0.step)⟩
   ·rw [if_neg c2] at H
    (have c2b0 : decide (0 < x0_1) = false := decide_eq_false c2); clear c2; (obtain rfl := Option.some.inj H)
    go_wp2
    go_ret
    exact ⟨by first | rfl | (simp; done) | (simp [*]; done), by repeat (first | exact Drawn0.refl _ | apply Drawn0.step)⟩
def spec_ShelfFor.f (k : Nat) (a0 : Int) (a1 : ByteArray) (a2 : Int) : Option (Int) := (spec_HashWord.f k a0 a1).bind fun t169 => (if t169 < 0 then (some (-1)) else ((spec_l11Log.f a2).bind fun t170 => (if t170 = true then ((spec_l02Pow.f k a2).bind fun t171 => (if t171 = 0 then (none) else (some (Int.tmod t169 t171)))) else (some (-1)))))
set_option maxHeartbeats 8000000 in
set_option maxRecDepth 100000 in
theorem spec_ShelfFor.calls (k : Nat) (a0 : Int) (a1 : ByteArray) (a2 : Int) (r : Int) (w : World) (h : spec_ShelfFor.f k a0 a1 a2 = some r) :
  Calls Tryd.prog 56 #[.int .i64 a0, .string a1, .int .i64 a2] w fun e w' => e = .returned (.int .i64 r) ∧ Below w.heap.size w w' := by
 (have HB := Aside0.mk (Below.refl w.heap.size w)); (have H : ((spec_HashWord.f k a0 a1).bind fun t169 => (if t169 < 0 then (some (-1)) else ((spec_l11Log.f a2).bind fun t170 => (if t170 = true then ((spec_l02Pow.f k a2).bind fun t171 => (if t171 = 0 then (none) else (some (Int.tmod t169 t171)))) else (some (-1)))))) = some r := h); clear h; (replace H := Option.bind_eq_some_iff.mp H); (obtain ⟨t169, A40, H⟩ := H)
 try dsimp only at H
 (have A4 := Aside0.mk A40); clear A40
 by_cases c5 : t169 < 0
 ·rw [if_pos c5] at H
  (have c5b0 : decide (t169 < 0) = true := decide_eq_true c5); clear c5; (obtain rfl := Option.some.inj H)
  go_enter Tryd.func56, Tryd.ntmps56
  go_wp2_with (first | ((with_reducible refine gate_callee (f := 95) rfl ?_); refine goesL_ (some 10) rfl rfl Tryd.func95 (by kernel_rfl) rfl #[.int .i64 a0, .string a1] rfl qL ?_; (with_reducible refine (spec_HashWord.calls k a0 a1 t169 _ A4.out).mono ?_); rintro e w6 ⟨rfl, hb⟩; refine ⟨_, rfl, ?_⟩; have n0_ := Aside0.mk (below_step (qS0 HB) hb); clear HB; have HB := n0_; clear n0_; (try clear hb); (try clear hb2); (try clear hk); (try clear hi)))
  go_ret
  exact ⟨qE, qS0 HB⟩
 ·rw [if_neg c5] at H
  (have c5b0 : decide (t169 < 0) = false := decide_eq_false c5); clear c5; (replace H := Option.bind_eq_some_iff.mp H); (obtain ⟨t170, A70, H⟩ := H)
  try dsimp only at H
  (have A7 := Aside0.mk A70); clear A70
  by_cases c8 : t170 = true
  ·subst c8
   (have H1 : ((spec_l02Pow.f k a2).bind fun t171 => (if t171 = 0 then (none) else (some (Int.tmod t169 t171)))) = some r := by rw [if_pos rfl] at H; exact H); clear H; (have H := H1); clear H1; (replace H := Option.bind_eq_some_iff.mp H); (obtain ⟨t171, A90, H⟩ := H); (replace H : (if t171 = 0 then (none) else (some (Int.tmod t169 t171))) = some r := H); (have A9 := Aside0.mk A90); clear A90
   by_cases c10 : t171 = 0
   ·rw [if_pos c10] at H
    exact absurd H (by simp)
   ·rw [if_neg c10] at H
    (have c10b0 : (t171 == 0) = false := beq_eq_false_iff_ne.mpr c10); (have c10b1 : (t171 != 0) = true := bne_iff_ne.mpr c10); (obtain rfl := Option.some.inj H)
    go_enter Tryd.func56, Tryd.ntmps56
    go_wp2_with (first | ((with_reducible refine gate_callee (f := 95) rfl ?_); refine goesL_ (some 10) rfl rfl Tryd.func95 (by kernel_rfl) rfl #[.int .i64 a0, .string a1] rfl qL ?_; (with_reducible refine (spec_HashWord.calls k a0 a1 t169 _ A4.out).mono ?_); rintro e w11 ⟨rfl, hb⟩; refine ⟨_, rfl, ?_⟩; have n0_ := Aside0.mk (below_step (qS0 HB) hb); clear HB; have HB := n0_; clear n0_; (try clear hb); (try clear hb2); (try clear hk); (try clear hi)) | (go_at_call 96; (with_reducible refine (spec_l11Log.calls a2 true _ A7.out).mono ?_); rintro e w' ⟨rfl, ⟨nd, rfl⟩⟩) | ((with_reducible refine gate_callee (f := 97) rfl ?_); refine goesL_ (some 20) rfl rfl Tryd.func97 (by kernel_rfl) rfl #[.int .i64 a2] rfl qL ?_; (with_reducible refine (spec_l02Pow.calls k a2 t171 _ A9.out).mono ?_); rintro e w' ⟨rfl, ⟨nd, rfl⟩⟩; refine ⟨_, rfl, ?_⟩))
    go_ret
    exact ⟨qE, qS0 HB⟩
  ·replace c8 := Bool.eq_false_iff.mpr c8
   (subst c8); (have H1 : (some (-1)) = some r := by rw [if_neg (show ¬ (false = true) by decide)] at H; exact H); clear H; (have H := H1); clear H1; (obtain rfl := Option.some.inj H)
   go_enter Tryd.func56, Tryd.ntmps56
   go_wp2_with (first | ((with_reducible refine gate_callee (f := 95) rfl ?_); refine goesL_ (some 10) rfl rfl Tryd.func95 (by kernel_rfl) rfl #[.int .i64 a0, .string a1] rfl qL ?_; (with_reducible refine (spec_HashWord.calls k a0 a1 t169 _ A4.out).mono ?_); rintro e w12 ⟨rfl, hb⟩; refine ⟨_, rfl, ?_⟩; have n0_ := Aside0.mk (below_step (qS0 HB) hb); clear HB; have HB := n0_; clear n0_; (try clear hb); (try clear hb2); (try clear hk); (try clear hi)) | (go_at_call 96; (with_reducible refine (spec_l11Log.calls a2 false _ A7.out).mono ?_); rintro e w' ⟨rfl, ⟨nd, rfl⟩⟩))
   go_ret
   exact ⟨qE, qS0 HB⟩
mutual
def spec_SessIds.j0 : Nat → List (S32) → Bool → Int → Int → Int → Int → Option (List Int × Bool)
 | 0, _, _, _, _, _, _ => none
 | k + 1, x1, x17, x173000, x173001, x173002, x173003 => if x17 = true then (some (([] : List Int), false)) else (spec_SessIds.l0 k x1 (([] : List Int)) 0 x173000 x173001 x173002 x173003)
def spec_SessIds.l0 : Nat → List (S32) → List Int → Int → Int → Int → Int → Int → Option (List Int × Bool)
 | 0, _, _, _, _, _, _, _ => none
 | k + 1, x1, x6, x7, x173000, x173001, x173002, x173003 => if x7 < (x1.length : Int) then (if 0 ≤ x7 then ((spec_l22Words.f k ((rd_T32 x1 x7).f0) ((rd_T32 x1 x7).f1) ((rd_T32 x1 x7).f2) ((rd_T32 x1 x7).f3) ((rd_T32 x1 x7).f4) ((rd_T32 x1 x7).f5) ((rd_T32 x1 x7).f6)).bind fun t179 => (spec_SessIds.l1 k x1 x6 x7 t179 0 x173000 x173001 x173002 x173003)) else (none)) else (some (x6, true))
def spec_SessIds.l1 : Nat → List (S32) → List Int → Int → List ByteArray → Int → Int → Int → Int → Int → Option (List Int × Bool)
 | 0, _, _, _, _, _, _, _, _, _ => none
 | k + 1, x1, x6, x7, x8, x9, x173000, x173001, x173002, x173003 => if x9 < (x8.length : Int) then (if 0 ≤ x9 then ((spec_ShelfFor.f k x173000 (rdOf ByteArray.empty x8 x9) x173001).bind fun t183 => (if x6.length < 17592186044416 then (spec_SessIds.l1 k x1 (x6 ++ [t183]) x7 x8 (wrap64 (x9 + 1)) x173000 x173001 x173002 x173003) else (none))) else (none)) else (spec_SessIds.l0 k x1 x6 (wrap64 (x7 + 1)) x173000 x173001 x173002 x173003)
end
def spec_SessIds.f (k : Nat) (a0_0 : Int) (a0_1 : Int) (a0_2 : Int) (a0_3 : Int) (l1 : List (S32)) : Option (List Int × Bool) := (spec_ConfOk.f a0_0 a0_1 a0_2 a0_3).bind fun t173 => (if t173 = true then ((spec_ReqsOk.f k l1).bind fun t174 => (spec_SessIds.j0 k l1 (!t174) a0_0 a0_1 a0_2 a0_3)) else (spec_SessIds.j0 k l1 true a0_0 a0_1 a0_2 a0_3))
def spec_SessIds.T11 : Bool × List (List Nat × List Nat) := (true, [([], []), ([], []), ([1], [1]), ([], []), ([], []), ([3, 4], [3, 4]), ([5], [5]), ([], []), ([7], [7]), ([2, 6, 8], [2, 6, 8]), ([9], [9]), ([0, 10, 9], [0, 10]), ([11, 11, 0, 1, 2, 3, 4, 5, 6, 7, 8, 9, 10, 11], [0, 11])])
def spec_SessIds.B11 : List Nat := [0, 0, 2, 0, 0, 24, 56, 0, 128, 510, 1022, 2047, 4095]
theorem spec_SessIds.tab11 : rtab .any (opsOf Tryd.f22 11) = spec_SessIds.T11 := by kernel_rfl
theorem spec_SessIds.bits11 : waitsOk spec_SessIds.T11.2 spec_SessIds.B11 = true := by kernel_rfl
set_option maxHeartbeats 8000000 in
set_option maxRecDepth 100000 in
theorem spec_SessIds.calls (k : Nat) (a0_0 : Int) (a0_1 : Int) (a0_2 : Int) (a0_3 : Int) (A1 : Option Addr) (c1 : Nat) (l1 : List (S32)) (r1 : List Int) (r2 : Bool) (w : World) (hr1 : Kd.C k32 w A1 l1.length l1) (hc1 : l1.length ≤ c1) (h : spec_SessIds.f k a0_0 a0_1 a0_2 a0_3 l1 = some (r1, r2)) :
  Calls Tryd.prog 22 #[.agg #[.int .i64 a0_0, .int .i64 a0_1, .int .i64 a0_2, .int .i64 a0_3], .slice A1 l1.length c1] w fun e w' => ∃ v0_ : Value, e = .returned (.tuple #[v0_, .bool r2]) ∧ Kd.R (Kd.int .i64) 3 w' w.heap.size (fun _ => True) v0_ r1 ∧ Below w.heap.size w w' := by
 (have hu25 := Tryd.underlying25); (have hu32 := Tryd.underlying32); (have HR1 := Aside0.mk hr1); (have HC1 := Aside0.mk hc1); clear hr1 hc1; (have HB := Aside0.mk (Below.refl w.heap.size w)); (have H : ((spec_ConfOk.f a0_0 a0_1 a0_2 a0_3).bind fun t173 => (if t173 = true then ((spec_ReqsOk.f k l1).bind fun t174 => (spec_SessIds.j0 k l1 (!t174) a0_0 a0_1 a0_2 a0_3)) else (spec_SessIds.j0 k l1 true a0_0 a0_1 a0_2 a0_3))) = some (r1, r2) := h); clear h; (have HC3 := Aside0.mk H); clear H
 go_enter Tryd.func22, Tryd.ntmps22
 go_upto_region 1 with (first | ((with_reducible refine gate_dst (N := 2) rfl ?_); refine box_event ?hg (N := 2) ?hd (cs := #[.int .i64 a0_0, .int .i64 a0_1, .int .i64 a0_2, .int .i64 a0_3]) (t := 25) ?hr ?_; (case hd => rfl); (case hg => rfl); (case hr => first | (go_simp; done) | (go_simp; rfl)); intro gb172 hg w4 hbox hb; have n0_ := Aside0.mk (below_step (qS0 HB) hb); have n1_ := Aside0.mk (hbox); have n2_ := qG hg (below_size (qS0 HB)); have n3_ := qG hg (below_size (qS0 HB)); clear HB; have HB := n0_; have BK172 := n1_; have GW172 := n2_; have GE172 := n3_; clear n0_ n1_ n2_ n3_; clear hb hbox hg))
 (try simp only [Act.put, List.setIfInBounds_toArray, List.set_cons_zero, List.set_cons_succ])
 go_cut [17] (fun v17 wc => ∃ (kq : Nat) (x17_2 : Bool), v17 = .bool x17_2 ∧ Aside0 (spec_SessIds.j0 kq l1 x17_2 a0_0 a0_1 a0_2 a0_3 = some (r1, r2)) ∧ Aside0 (kq ≤ k) ∧ Aside0 (wc.heap[gb172]? = some (.cells #[.int .i64 a0_0, .int .i64 a0_1, .int .i64 a0_2, .int .i64 a0_3] 25 (0, 0))) ∧ Aside0 (Below w.heap.size w wc))
 case first =>
  (have H := HC3.out); clear HC3; (replace H := Option.bind_eq_some_iff.mp H); (obtain ⟨t173, A50, H⟩ := H)
  try dsimp only at H
  (have A5 := Aside0.mk A50); clear A50
  by_cases c6 : t173 = true
  ·subst c6
   (have H1 : ((spec_ReqsOk.f k l1).bind fun t174 => (spec_SessIds.j0 k l1 (!t174) a0_0 a0_1 a0_2 a0_3)) = some (r1, r2) := by rw [if_pos rfl] at H; exact H); clear H; (have H := H1); clear H1; (replace H := Option.bind_eq_some_iff.mp H); (obtain ⟨t174, A70, H⟩ := H); (replace H : (spec_SessIds.j0 k l1 (!t174) a0_0 a0_1 a0_2 a0_3) = some (r1, r2) := H); (have A7 := Aside0.mk A70); clear A70; (have H' := Aside0.mk H); clear H; (obtain ⟨hcz8_0, hcz8_1, hcz8_2, hcz8_3, hfz8_0, hfz8_1, hfz8_2, hfz8_3⟩ := qC4 BK172)
   go_wp2_with (first | ((with_reducible refine gate_callee (f := 39) rfl ?_); refine goesL_ (some 11) rfl rfl Tryd.func39 (by kernel_rfl) rfl #[.agg #[.int .i64 a0_0, .int .i64 a0_1, .int .i64 a0_2, .int .i64 a0_3]] rfl qL ?_; (with_reducible refine (spec_ConfOk.calls a0_0 a0_1 a0_2 a0_3 true _ A5.out).mono ?_); rintro e w9 ⟨rfl, hb⟩; refine ⟨_, rfl, ?_⟩; have n0_ := qD BK172 hb; have n1_ := Aside0.mk (below_step (qS1 HB GE172) hb); clear BK172 HB; have BK172 := n0_; have HB := n1_; clear n0_ n1_; (try clear hb); (try clear hb2); (try clear hk); (try clear hi)) | (go_at_call 54; (with_reducible refine (spec_ReqsOk.calls k _ _ l1 t174 _ ?side1 ?side2 A7.out).mono ?_); (case side1 => repeat (first | exact (Kd.C_below HR1.out HB.out) | (with_reducible refine Kd.C_alloc ?_ _) | (with_reducible refine Kd.C_drewN ?_ _) | (with_reducible refine Kd.C_drew ?_))); (case side2 => exact HC1.out); rintro e w10 ⟨rfl, hb⟩; have n0_ := qD BK172 hb; have n1_ := Aside0.mk (below_step (qS1 HB GE172) hb); clear BK172 HB; have BK172 := n0_; have HB := n1_; clear n0_ n1_; (try clear hb); (try clear hb2); (try clear hk); (try clear hi)))
   go_meet
   case rel => exact ⟨_, (!t174), (by first | rfl | (simp; done) | (simp [*]; done)), H', ⟨by first | omega | exact Nat.le_refl _⟩, ⟨qB BK172⟩, ⟨qS1 HB GE172⟩⟩
  ·replace c6 := Bool.eq_false_iff.mpr c6
   (subst c6); (have H1 : (spec_SessIds.j0 k l1 true a0_0 a0_1 a0_2 a0_3) = some (r1, r2) := by rw [if_neg (show ¬ (false = true) by decide)] at H; exact H); clear H; (have H := H1); clear H1; (have H' := Aside0.mk H); clear H; (obtain ⟨hcz11_0, hcz11_1, hcz11_2, hcz11_3, hfz11_0, hfz11_1, hfz11_2, hfz11_3⟩ := qC4 BK172)
   go_wp2_with (first | ((with_reducible refine gate_callee (f := 39) rfl ?_); refine goesL_ (some 11) rfl rfl Tryd.func39 (by kernel_rfl) rfl #[.agg #[.int .i64 a0_0, .int .i64 a0_1, .int .i64 a0_2, .int .i64 a0_3]] rfl qL ?_; (with_reducible refine (spec_ConfOk.calls a0_0 a0_1 a0_2 a0_3 false _ A5.out).mono ?_); rintro e w12 ⟨rfl, hb⟩; refine ⟨_, rfl, ?_⟩; have n0_ := qD BK172 hb; have n1_ := Aside0.mk (below_step (qS1 HB GE172) hb); clear BK172 HB; have BK172 := n0_; have HB := n1_; clear n0_ n1_; (try clear hb); (try clear hb2); (try clear hk); (try clear hi)))
   go_meet
   case rel => exact ⟨_, (true), (by first | rfl | (simp; done) | (simp [*]; done)), H', ⟨by first | omega | exact Nat.le_refl _⟩, ⟨qB BK172⟩, ⟨qS1 HB GE172⟩⟩
 case rest =>
  clear HC3; (try clear c1); (try clear c2); (try clear p2); (try clear c3); (try clear c6); (try clear hcz11_0); (try clear hcz11_1); (try clear hcz11_2); (try clear hcz11_3); (try clear hcz8_0); (try clear hcz8_1); (try clear hcz8_2); (try clear hcz8_3); (try clear hfz11_0); (try clear hfz11_1); (try clear hfz11_2); (try clear hfz11_3); (try clear hfz8_0); (try clear hfz8_1); (try clear hfz8_2); (try clear hfz8_3); (obtain ⟨kq, x17_2, rfl, HA, HJ2, BK172, HB⟩ := hcut)
  cases kq with
  | zero => exact absurd HA.out (by simp [spec_SessIds.j0])
  | succ kj2 =>
   (have H := HA.out); clear HA; (simp only [spec_SessIds.j0] at H)
   by_cases c13 : x17_2 = true
   ·subst c13
    (have H1 : (some (([] : List Int), false)) = some (r1, r2) := by rw [if_pos rfl] at H; exact H); clear H; (have H := H1); clear H1; (simp only [Option.some.injEq, Prod.mk.injEq] at H); (obtain ⟨rfl, rfl⟩ := H)
    go_wp2
    go_ret2
    exact ⟨_, qE, by first | exact Kd.R_nil _ _ _ _ _ | exact Kd.N_nil _ _ _ _ _ | exact Kd.V_nil _ _ _ _ _ | exact Kd.Q_nil _ _ _ _ _ | exact Kd.S_nil _ _ _ _ _, qS1 HB GE172⟩
   ·replace c13 := Bool.eq_false_iff.mpr c13
    (subst c13); (have H1 : (spec_SessIds.l0 kj2 l1 (([] : List Int)) 0 a0_0 a0_1 a0_2 a0_3) = some (r1, r2) := by rw [if_neg (show ¬ (false = true) by decide)] at H; exact H); clear H; (have H := H1); clear H1; (obtain ⟨y175, hy175⟩ : ∃ y_ : List Int, y_ = (([] : List Int)) := ⟨_, rfl⟩); (replace H : (spec_SessIds.l0 kj2 l1 y175 0 a0_0 a0_1 a0_2 a0_3) = some (r1, r2) := by first | (rw [hy175]; with_reducible exact H) | (have H2_ := (Option.bind_some _ _).symm.trans H; rw [hy175]; with_reducible exact H2_) | (have H2_ := (Option.bind_some _ _).symm.trans H; with_reducible exact H2_) | with_reducible exact H | (rw [hy175]; exact H) | exact H); (have Ny175 := Aside0.mk hy175); clear hy175; (have H' := Aside0.mk H); clear H
    go_wp2_with (first | ((with_reducible refine gate_dst (N := 18) rfl ?_); refine Kd.R_lit (Kd.int .i64) _ 3 ?hg (N := 18) ?hd (xs := ([] : List Int)) (inner := []) (ok := fun _ => True) (okp := fun _ => True) ?hr ?hp (fun _ hk => hk) trivial (Below.refl _ _) (Nat.le_refl _) (by simp) ?_; (case hd => rfl); (case hg => rfl); (case hr => first | (go_simp; done) | (go_simp; rfl)); (case hp => exact (Reps.none _ _)); intro v176 w14 ho15 hb hg_ hnew_; clear hg_ hnew_; (first | rw [← Ny175.out] at ho15 | (simp only [Int.reduceToNat] at ho15; rw [← Ny175.out] at ho15)); have n0_ := Aside0.mk (Kd.R_lower ho15 (below_size (qS1 HB GE172))); have n1_ := qD BK172 hb; have n2_ := Aside0.mk (below_step (qS1 HB GE172) hb); clear BK172 HB; have HO177 := n0_; have BK172 := n1_; have HB := n2_; clear n0_ n1_ n2_; clear hb ho15))
    go_loopg [6, 7] kj2 (fun kq v6 v7 w' => ∃ (x6_2 : List Int) (x7_2 : Int), v7 = .int .i64 x7_2 ∧ Aside0 (spec_SessIds.l0 kq l1 x6_2 x7_2 a0_0 a0_1 a0_2 a0_3 = some (r1, r2)) ∧ Aside0 (kq ≤ kj2) ∧ Aside0 (Kd.R (Kd.int .i64) 3 w' w.heap.size (fun _ => True) v6 x6_2) ∧ Aside0 (w'.heap[gb172]? = some (.cells #[.int .i64 a0_0, .int .i64 a0_1, .int .i64 a0_2, .int .i64 a0_3] 25 (0, 0))) ∧ Aside0 (Below w.heap.size w w'))
    case atStart => exact ⟨(y175), (0), (by first | rfl | (simp; done) | (simp [*]; done)), H', ⟨Nat.le_refl _⟩, ⟨qR HO177⟩, ⟨qB BK172⟩, ⟨qS1 HB GE172⟩⟩
    case round =>
     clear H'; (try clear c1); (try clear c2); (try clear p2); (try clear c3); (try clear c6); (try clear c13); (try clear hcz11_0); (try clear hcz11_1); (try clear hcz11_2); (try clear hcz11_3); (try clear hcz8_0); (try clear hcz8_1); (try clear hcz8_2); (try clear hcz8_3); (try clear hfz11_0); (try clear hfz11_1); (try clear hfz11_2); (try clear hfz11_3); (try clear hfz8_0); (try clear hfz8_1); (try clear hfz8_2); (try clear hfz8_3); (try clear p2); (obtain ⟨x6_2, x7_2, rfl, HA, HK2, HO_6, BK172, HB⟩ := hrel)
     cases gk with
     | zero => exact absurd HA.out (by simp [spec_SessIds.l0])
     | succ k2 =>
      (have H := HA.out); clear HA; (simp only [spec_SessIds.l0] at H)
      by_cases c16 : x7_2 < (l1.length : Int)
      ·rw [if_pos c16] at H
       (have c16b0 : decide (x7_2 < (l1.length : Int)) = true := decide_eq_true c16); clear c16
       by_cases c17 : 0 ≤ x7_2
       ·rw [if_pos c17] at H
        (have c17b0 : decide (0 ≤ x7_2) = true := decide_eq_true c17); clear c17; (replace H := Option.bind_eq_some_iff.mp H); (obtain ⟨t179, A180, H⟩ := H); (replace H : (spec_SessIds.l1 k2 l1 x6_2 x7_2 t179 0 a0_0 a0_1 a0_2 a0_3) = some (r1, r2) := H); (have A18 := Aside0.mk A180); clear A180; (have H' := Aside0.mk H); clear H; (have p178 : 0 ≤ (x7_2 : Int) := of_decide_eq_true (by first | (with_reducible assumption) | assumption)); (have q178 : x7_2 < (l1.length : Int) := of_decide_eq_true (by first | (with_reducible assumption) | assumption)); (obtain ⟨ad178, e178, hx178_0, hx178_1, hx178_2, hx178_3, hx178_4, hx178_5, hx178_6⟩ := at_T32 HR1.out x7_2 p178 q178)
        cases e178
        (replace hx178_0 := (HB.out.cell (World.block_lt_of_cell? w _ hx178_0)).trans hx178_0); (replace hx178_1 := (HB.out.cell (World.block_lt_of_cell? w _ hx178_1)).trans hx178_1); (replace hx178_2 := (HB.out.cell (World.block_lt_of_cell? w _ hx178_2)).trans hx178_2); (replace hx178_3 := (HB.out.cell (World.block_lt_of_cell? w _ hx178_3)).trans hx178_3); (replace hx178_4 := (HB.out.cell (World.block_lt_of_cell? w _ hx178_4)).trans hx178_4); (replace hx178_5 := (HB.out.cell (World.block_lt_of_cell? w _ hx178_5)).trans hx178_5); (replace hx178_6 := (HB.out.cell (World.block_lt_of_cell? w _ hx178_6)).trans hx178_6); (replace p178 := eq_true p178); (replace q178 := eq_true q178)
        go_wp2_with (first | ((with_reducible refine gate_callee (f := 55) rfl ?_); refine goesL_ (some 29) rfl rfl Tryd.func55 (by kernel_rfl) rfl #[.agg #[.int .i64 ((rd_T32 l1 x7_2).f0), .string ((rd_T32 l1 x7_2).f1), .int .i64 ((rd_T32 l1 x7_2).f2), .int .i64 ((rd_T32 l1 x7_2).f3), .int .i64 ((rd_T32 l1 x7_2).f4), .int .i64 ((rd_T32 l1 x7_2).f5), .string ((rd_T32 l1 x7_2).f6)]] rfl qL ?_; (with_reducible refine (spec_l22Words.calls k2 ((rd_T32 l1 x7_2).f0) ((rd_T32 l1 x7_2).f1) ((rd_T32 l1 x7_2).f2) ((rd_T32 l1 x7_2).f3) ((rd_T32 l1 x7_2).f4) ((rd_T32 l1 x7_2).f5) ((rd_T32 l1 x7_2).f6) t179 _ A18.out).mono ?_); rintro e w19 ⟨v180, rfl, ho0, hb⟩; refine ⟨_, rfl, ?_⟩; have n0_ := Aside0.mk (Kd.R_below (qR HO_6) hb); have n1_ := Aside0.mk (Kd.R_lower ho0 (below_size (qS1 HB GE172))); have n2_ := qD BK172 hb; have n3_ := Aside0.mk (below_step (qS1 HB GE172) hb); clear HO_6 BK172 HB; have HO_6 := n0_; have HO181 := n1_; have BK172 := n2_; have HB := n3_; clear n0_ n1_ n2_ n3_; (try clear hb); (try clear hb2); (try clear hk); (try clear hi); (try clear ho0)))
        go_loopg [6, 9] k2 (fun kq v6 v9 w' => ∃ (x6_3 : List Int) (x9_3 : Int), v9 = .int .i64 x9_3 ∧ Aside0 (spec_SessIds.l1 kq l1 x6_3 x7_2 t179 x9_3 a0_0 a0_1 a0_2 a0_3 = some (r1, r2)) ∧ Aside0 (kq ≤ k2) ∧ Aside0 (Kd.R (Kd.int .i64) 3 w' w.heap.size (fun _ => True) v6 x6_3) ∧ Aside0 (Kd.R Kd.string 9 w' w.heap.size (fun _ => True) v180 t179) ∧ Aside0 (w'.heap[gb172]? = some (.cells #[.int .i64 a0_0, .int .i64 a0_1, .int .i64 a0_2, .int .i64 a0_3] 25 (0, 0))) ∧ Aside0 (Below w.heap.size w w'))
        case atStart => exact ⟨(x6_2), (0), (by first | rfl | (simp; done) | (simp [*]; done)), H', ⟨Nat.le_refl _⟩, ⟨qR HO_6⟩, ⟨qR HO181⟩, ⟨qB BK172⟩, ⟨qS1 HB GE172⟩⟩
        case round =>
         clear H'; (try clear c1); (try clear p1); (try clear q1); (try clear hx1); (try clear c2); (try clear p2); (try clear c3); (try clear c5); (try clear c6); (try clear c13); (try clear c16); (try clear c16b0); (try clear c17); (try clear c17b0); (try clear p17); (try clear q17); (try clear hx17); (try clear hcz11_0); (try clear hcz11_1); (try clear hcz11_2); (try clear hcz11_3); (try clear hcz8_0); (try clear hcz8_1); (try clear hcz8_2); (try clear hcz8_3); (try clear hfz11_0); (try clear hfz11_1); (try clear hfz11_2); (try clear hfz11_3); (try clear hfz8_0); (try clear hfz8_1); (try clear hfz8_2); (try clear hfz8_3); (try clear hx178_0); (try clear hx178_1); (try clear hx178_2); (try clear hx178_3); (try clear hx178_4); (try clear hx178_5); (try clear hx178_6); (try clear p178); (try clear p2); (try clear q178); (obtain ⟨x6_3, x9_3, rfl, HA, HK3, HO_6, HO_8, BK172, HB⟩ := hrel)
         cases gk with
         | zero => exact absurd HA.out (by simp [spec_SessIds.l1])
         | succ k3 =>
          (have H := HA.out); clear HA; (simp only [spec_SessIds.l1] at H)
          by_cases c20 : x9_3 < (t179.length : Int)
          ·rw [if_pos c20] at H
           (have c20b0 : decide (x9_3 < (t179.length : Int)) = true := decide_eq_true c20); clear c20
           by_cases c21 : 0 ≤ x9_3
           ·rw [if_pos c21] at H
            (have c21b0 : decide (0 ≤ x9_3) = true := decide_eq_true c21); clear c21; (replace H := Option.bind_eq_some_iff.mp H); (obtain ⟨t183, A220, H⟩ := H)
            try dsimp only at H
            (have A22 := Aside0.mk A220); clear A220
            by_cases c23 : x6_3.length < 17592186044416
            ·rw [if_pos c23] at H
             (have LMc23 := Aside0.mk c23); clear c23; (obtain ⟨y184, hy184⟩ : ∃ y_ : List Int, y_ = (x6_3 ++ [t183]) := ⟨_, rfl⟩); (replace H : (spec_SessIds.l1 k3 l1 y184 x7_2 t179 (wrap64 (x9_3 + 1)) a0_0 a0_1 a0_2 a0_3) = some (r1, r2) := by first | (rw [hy184]; with_reducible exact H) | (have H2_ := (Option.bind_some _ _).symm.trans H; rw [hy184]; with_reducible exact H2_) | (have H2_ := (Option.bind_some _ _).symm.trans H; with_reducible exact H2_) | with_reducible exact H | (rw [hy184]; exact H) | exact H); (have Ny184 := Aside0.mk hy184); clear hy184; (have H' := Aside0.mk H); clear H; (obtain ⟨Ao24, co24, eo24⟩ := Kd.R_slice HO_8.out); (subst eo24)
             try go_wp2
             (have n0_ := Aside0.mk (Kd.R_drew HO_6.out)); (have n1_ := Aside0.mk (Kd.R_drew HO_8.out)); (have n2_ := Aside0.mk (blk_drew BK172.out)); (have n3_ := Aside0.mk (below_drew1 HB.out)); clear HO_6 HO_8 BK172 HB; (have HO_6 := n0_); (have HO_8 := n1_); (have BK172 := n2_); (have HB := n3_); clear n0_ n1_ n2_ n3_; (have p182 : 0 ≤ (x9_3 : Int) := of_decide_eq_true (by first | (with_reducible assumption) | assumption)); (have q182 : x9_3 < (t179.length : Int) := of_decide_eq_true (by first | (with_reducible assumption) | assumption)); (obtain ⟨ad182, e182, hx182_0⟩ := Kd.at_string (Kd.R_reads' HO_8.out).2.2 x9_3 p182 q182)
             cases e182
             (replace p182 := eq_true p182); (replace q182 := eq_true q182)
             refine start_ (n := 13) (S := fun w' => w'.cell? ⟨gb172, 0, none⟩ = some (.int .i64 a0_0) ∧ w'.cell? ⟨gb172, 1, none⟩ = some (.int .i64 a0_1) ∧ w'.cell? ⟨gb172, 2, none⟩ = some (.int .i64 a0_2) ∧ w'.cell? ⟨gb172, 3, none⟩ = some (.int .i64 a0_3) ∧ w'.cell? (ad182.add (x9_3).toNat) = some (.string (rdOf ByteArray.empty t179 x9_3))) (ds := [10, 11]) #[false, false, false, false, false, false, false, false, false, false, false, false, false] (by kernel_rfl) rfl rfl ⟨(blk_cell BK172.out 0).trans rfl, (blk_cell BK172.out 1).trans rfl, (blk_cell BK172.out 2).trans rfl, (blk_cell BK172.out 3).trans rfl, hx182_0⟩ (fun hHeld => ?_); refine with_tabW spec_SessIds.tab11 spec_SessIds.bits11 (fun HT_ HW_ => ?_)
             generalize wr.drew = w25 at HO_6 HO_8 BK172 HB hx182_0 hHeld ⊢
             refine pure_ (i := 0) (N := some 36) (v := ?_) (a' := ?_) #[true, false, false, false, false, false, false, false, false, false, false, false, false] rfl rfl (any_of HT_.out (by kernel_rfl)) (fun _ _ _ h => h) (Or.inl ⟨by rfl, ?_⟩) ?_ ?_
             rotate_left
             ·intro w'
              go_simp
              with_reducible rfl
             rotate_left
             ·simp only [Act.put, List.setIfInBounds_toArray, List.set_cons_zero, List.set_cons_succ, i64_w, i32_w]
              rfl
             refine pure_ (i := 1) (N := some 37) (v := ?_) (a' := ?_) #[true, true, false, false, false, false, false, false, false, false, false, false, false] rfl rfl (any_of HT_.out (by kernel_rfl)) (fun _ _ _ h => h) (Or.inl ⟨by rfl, ?_⟩) ?_ ?_
             rotate_left
             ·intro w'
              go_simp
              with_reducible rfl
             rotate_left
             ·simp only [Act.put, List.setIfInBounds_toArray, List.set_cons_zero, List.set_cons_succ, i64_w, i32_w]
              rfl
             refine pure_ (i := 3) (N := some 39) (v := ?_) (a' := ?_) #[true, true, false, true, false, false, false, false, false, false, false, false, false] rfl rfl (any_of HT_.out (by kernel_rfl)) (fun _ _ _ h => h) (Or.inl ⟨by rfl, ?_⟩) ?_ ?_
             rotate_left
             ·intro w'
              go_simp
              with_reducible rfl
             rotate_left
             ·simp only [Act.put, List.setIfInBounds_toArray, List.set_cons_zero, List.set_cons_succ, i64_w, i32_w]
              rfl
             refine pure_ (i := 4) (N := some 40) (v := ?_) (a' := ?_) #[true, true, false, true, true, false, false, false, false, false, false, false, false] rfl rfl (any_of HT_.out (by kernel_rfl)) (fun _ _ _ h => h) (Or.inl ⟨by rfl, ?_⟩) ?_ ?_
             rotate_left
             ·intro w'
              go_simp
              with_reducible rfl
             rotate_left
             ·simp only [Act.put, List.setIfInBounds_toArray, List.set_cons_zero, List.set_cons_succ, i64_w, i32_w]
              rfl
             refine pure_ (i := 5) (N := some 41) (v := ?_) (a' := ?_) #[true, true, false, true, true, true, false, false, false, false, false, false, false] rfl rfl (any_of HT_.out (by kernel_rfl)) (fun _ _ _ h => h) (Or.inl ⟨by rfl, ?_⟩) ?_ ?_
             rotate_left
             ·intro w'
              go_simp
              with_reducible rfl
             rotate_left
             ·simp only [Act.put, List.setIfInBounds_toArray, List.set_cons_zero, List.set_cons_succ, i64_w, i32_w]
              rfl
             refine pure_ (i := 7) (N := some 43) (v := ?_) (a' := ?_) #[true, true, false, true, true, true, false, true, false, false, false, false, false] rfl rfl (any_of HT_.out (by kernel_rfl)) (fun _ _ _ h => h) (Or.inl ⟨by rfl, ?_⟩) ?_ ?_
             rotate_left
             ·intro w'
              go_simp
              with_reducible rfl
             rotate_left
             ·simp only [Act.put, List.setIfInBounds_toArray, List.set_cons_zero, List.set_cons_succ, i64_w, i32_w]
              rfl
             refine take_ (i := 2) (N := some 38) (v := ?_) (a' := ?_) #[true, true, true, true, true, true, false, true, false, false, false, false, false] rfl rfl (take_ofW HT_.out HW_.out (by kernel_rfl)) (fun _ _ _ h => h) (Or.inl ⟨by rfl, ?_⟩) hHeld ?_ ?_
             rotate_left
             ·rintro w' ⟨s0, s1, s2, s3, s4⟩
              go_simp
              with_reducible rfl
             rotate_left
             ·simp only [Act.put, List.setIfInBounds_toArray, List.set_cons_zero, List.set_cons_succ, i64_w, i32_w]
              rfl
             refine take_ (i := 6) (N := some 42) (v := ?_) (a' := ?_) #[true, true, true, true, true, true, true, true, false, false, false, false, false] rfl rfl (take_ofW HT_.out HW_.out (by kernel_rfl)) (fun _ _ _ h => h) (Or.inl ⟨by rfl, ?_⟩) hHeld ?_ ?_
             rotate_left
             ·rintro w' ⟨s0, s1, s2, s3, s4⟩
              go_simp
              with_reducible rfl
             rotate_left
             ·simp only [Act.put, List.setIfInBounds_toArray, List.set_cons_zero, List.set_cons_succ, i64_w, i32_w]
              rfl
             refine take_ (i := 8) (N := some 44) (v := ?_) (a' := ?_) #[true, true, true, true, true, true, true, true, true, false, false, false, false] rfl rfl (take_ofW HT_.out HW_.out (by kernel_rfl)) (fun _ _ _ h => h) (Or.inl ⟨by rfl, ?_⟩) hHeld ?_ ?_
             rotate_left
             ·rintro w' ⟨s0, s1, s2, s3, s4⟩
              go_simp
              with_reducible rfl
             rotate_left
             ·simp only [Act.put, List.setIfInBounds_toArray, List.set_cons_zero, List.set_cons_succ, i64_w, i32_w]
              rfl
             refine one_ (i := 9) (N := some 45) #[true, true, true, true, true, true, true, true, true, true, false, false, false] rfl rfl (one_of HT_.out (by kernel_rfl)) (by decide) (fun K hK => ?_)
             refine goes_ Tryd.func56 (by kernel_rfl) rfl #[.int .i64 a0_0, .string (rdOf ByteArray.empty t179 x9_3), .int .i64 a0_1] (by rfl) rfl rfl qL ?_
             with_reducible refine (spec_ShelfFor.calls k3 a0_0 (rdOf ByteArray.empty t179 x9_3) a0_1 t183 _ A22.out).mono ?_
             rintro e w26 ⟨rfl, hb⟩
             have HS4_ := (hb.cell (World.block_lt_of_cell? _ _ (hHeld.2.2.2.2))).trans (hHeld.2.2.2.2)
             refine ⟨_, rfl, ?_⟩
             (have n0_ := Aside0.mk (Kd.R_below (qR HO_6) hb)); (have n1_ := Aside0.mk (Kd.R_below (qR HO_8) hb)); (have n2_ := qD BK172 hb); (have n3_ := Aside0.mk (below_step (qS1 HB GE172) hb)); clear HO_6 HO_8 BK172 HB; (have HO_6 := n0_); (have HO_8 := n1_); (have BK172 := n2_); (have HB := n3_); clear n0_ n1_ n2_ n3_; (try clear hb); (try clear hb2); (try clear hk); (try clear hi)
             refine hK.out _ _ ⟨(blk_cell BK172.out 0).trans rfl, (blk_cell BK172.out 1).trans rfl, (blk_cell BK172.out 2).trans rfl, (blk_cell BK172.out 3).trans rfl, HS4_⟩ (fun hHeld => ?_)
             clear hK K
             refine norm_ (a' := ?_) ?_ ?_
             rotate_left
             ·show Act.put _ (some 45) _ = _
              simp only [Act.put, List.setIfInBounds_toArray, List.set_cons_zero, List.set_cons_succ, i64_w, i32_w]
              rfl
             refine last_ (i := 10) (N := some 46) #[true, true, true, true, true, true, true, true, true, true, true, false, false] rfl rfl (one_of HT_.out (by kernel_rfl)) (by decide) (fun K hK => ?_)
             refine value_ (w1 := ?_) (v := ?_) (by rfl) rfl ?_ ?_
             rotate_left 2
             ·go_simp
              constructor
              ·rfl
              ·rfl
             refine hK.out _ _ ?_
             clear hK K
             refine norm_ (a' := ?_) ?_ ?_
             rotate_left
             ·show Act.put _ (some 46) _ = _
              simp only [Act.put, List.setIfInBounds_toArray, List.set_cons_zero, List.set_cons_succ, i64_w, i32_w]
              rfl
             refine last_ (i := 11) (N := some 47) #[true, true, true, true, true, true, true, true, true, true, true, true, false] rfl rfl (one_of HT_.out (by kernel_rfl)) (by decide) (fun K hK => ?_)
             refine Kd.R_append_step (Kd.int .i64) (w0 := w) w.heap.size (by rfl) (.tmp 36) (.tmp 46) 36 3 (.int .i64 0) 8 rfl Tryd.underlying36 info3 rfl (by decide) (by omega) u6 x6_3 t183 [.int .i64 t183] (fun _ => True) (fun _ => False) rfl rfl ?aP (fun _ hk => hk.elim) ?aF ?aO ?aB ?aS ?aL ?_
             (case aP => exact rfl)
             (case aB => exact (qS1 HB GE172))
             (case aF => exact (fun _ _ => trivial))
             (case aO => exact (qR HO_6))
             (case aS => exact (below_size (qS1 HB GE172)))
             (case aL => have := LMc23.out; omega)
             intro v185 w27 ho hb hg hat
             (rw [← Ny184.out] at ho); (have n0_ := Aside0.mk (Kd.R_over' (qR HO_8) (Kd.R_typed (qR HO_6)) (by decide) hg)); (have n1_ := Aside0.mk (blk_grown (qB BK172) hg (Kd.R_ne HO_6.out BK172.out (by decide)))); (have n2_ := Aside0.mk (hb)); (have n3_ := Aside0.mk (ho)); clear HO_8 BK172 HB HO_6; (have HO_8 := n0_); (have BK172 := n1_); (have HB := n2_); (have HO186 := n3_); clear n0_ n1_ n2_ n3_ ho hb hg hat
             refine hK.out _ _ ?_
             clear hK K
             refine norm_ (a' := ?_) ?_ ?_
             rotate_left
             ·show Act.put _ (some 47) _ = _
              simp only [Act.put, List.setIfInBounds_toArray, List.set_cons_zero, List.set_cons_succ, i64_w, i32_w]
              rfl
             refine pure_ (i := 12) (N := some 6) (v := ?_) (a' := ?_) #[true, true, true, true, true, true, true, true, true, true, true, true, true] rfl rfl (any_of HT_.out (by kernel_rfl)) (fun _ _ _ h => h) (Or.inl ⟨by rfl, ?_⟩) ?_ ?_
             rotate_left
             ·intro w'
              go_simp
              with_reducible rfl
             rotate_left
             ·simp only [Act.put, List.setIfInBounds_toArray, List.set_cons_zero, List.set_cons_succ, i64_w, i32_w]
              rfl
             refine done_ (done_of HT_.out (by kernel_rfl)) ?_
             try go_wp2
             go_roundg k3
             case measure => have := HJ2.out; have := HK2.out; have := HK3.out; omega
             case rel => exact ⟨(y184), (wrap64 (x9_3 + 1)), (by first | rfl | (simp; done) | (simp [*]; done)), H', ⟨by have := HJ2.out; have := HK2.out; have := HK3.out; omega⟩, ⟨qR HO186⟩, ⟨qR HO_8⟩, ⟨qB BK172⟩, ⟨qS1 HB GE172⟩⟩
            ·rw [if_neg c23] at H
             exact absurd H (by simp)
           ·rw [if_neg c21] at H
            exact absurd H (by simp)
          ·rw [if_neg c20] at H
           (have c20b0 : decide (x9_3 < (t179.length : Int)) = false := decide_eq_false c20); clear c20; (have H' := Aside0.mk H); clear H; (obtain ⟨Ao28, co28, eo28⟩ := Kd.R_slice HO_8.out); (subst eo28)
           go_wp2
           go_roundg k3
           case measure => have := HJ2.out; have := HK2.out; have := HK3.out; omega
           case rel => exact ⟨(x6_3), (wrap64 (x7_2 + 1)), (by first | rfl | (simp; done) | (simp [*]; done)), H', ⟨by have := HJ2.out; have := HK2.out; have := HK3.out; omega⟩, ⟨qR HO_6⟩, ⟨qB BK172⟩, ⟨qS1 HB GE172⟩⟩
       ·rw [if_neg c17] at H
        exact absurd H (by simp)
      ·rw [if_neg c16] at H
       (have c16b0 : decide (x7_2 < (l1.length : Int)) = false := decide_eq_false c16); clear c16; (simp only [Option.some.injEq, Prod.mk.injEq] at H); (obtain ⟨rfl, rfl⟩ := H)
       go_wp2
       go_ret2
       exact ⟨_, qE, qR HO_6, qS1 HB GE172⟩
structure TabG (w : World) : Prop where
 utf8 : Lib.Utf8Tabs 5 6 w
theorem G_below {w w' : World} (hb : Below w.heap.size w w') (hG : TabG w) : TabG w' := ⟨Go.Proofs.Utf8Tabs_below hG.utf8 hb⟩
def lowR (x : Int) : Int := if x ≥ 65 then (if x ≤ 90 then x + 32 else x) else x
theorem lowR_range (x : Int) (h0 : 0 ≤ x) (h1 : x ≤ 1114111) : -2147483648 ≤ lowR x ∧ lowR x ≤ 2147483647 := by
 unfold lowR
 split
 ·split <;> omega
 ·omega
set_option maxHeartbeats 8000000 in
set_option maxRecDepth 100000 in
theorem strings_Map.closure (x : Int) (h0 : 0 ≤ x) (h1 : x ≤ 1114111) (w : World) : Calls Tryd.prog 152 #[.int .i32 x] w fun e w' => e = .returned (.int .i32 (lowR x)) ∧ Below w.heap.size w w' := by
 unfold lowR
 by_cases c2 : x ≥ 65
 ·rw [if_pos c2]
  have c2b0 : decide (65 ≤ x) = true := decide_eq_true c2
  by_cases c3 : x ≤ 90
  ·rw [if_pos c3]
   (have c3b0 : decide (x ≤ 90) = true := decide_eq_true c3); (rw [show x + 32 = wrap32 (x + 32) by unfold wrap32; omega]); clear c2 c3 h0 h1
   go_enter Tryd.func152, Tryd.ntmps152
   go_wp2
   go_ret
   exact ⟨by first | rfl | (simp; done) | (simp [*]; done), by first | exact Below.refl _ _ | (with_reducible repeat (first | exact Below.refl _ _ | apply below_drew1))⟩
  ·rw [if_neg c3]
   (have c3b0 : decide (x ≤ 90) = false := decide_eq_false c3); clear c2 c3 h0 h1
   go_enter Tryd.func152, Tryd.ntmps152
   go_wp2
   go_ret
   exact ⟨by first | rfl | (simp; done) | (simp [*]; done), by first | exact Below.refl _ _ | (with_reducible repeat (first | exact Below.refl _ _ | apply below_drew1))⟩
 ·rw [if_neg c2]
  (have c2b0 : decide (65 ≤ x) = false := decide_eq_false c2); clear c2 h0 h1
  go_enter Tryd.func152, Tryd.ntmps152
  go_wp2
  go_ret
  exact ⟨by first | rfl | (simp; done) | (simp [*]; done), by first | exact Below.refl _ _ | (with_reducible repeat (first | exact Below.refl _ _ | apply below_drew1))⟩
theorem strings_Map.enters : ∀ args w, (callFunc 152 args).run Tryd.prog w = .ok (.enter 152 args) w := enters_of Tryd.func152 (by kernel_rfl) rfl
shelf_lay Lays.n230 Nm 230 at Tryd as Tryd.lays230
theorem strings_Map.extra : Builder.Extra Tryd.prog Tryd.lays230_ren where
 sizeBuilder := by kernel_rfl
 liesBuilder := by kernel_rfl
 t5 := Tryd.underlying5
 a5 := Tryd.isAgg5
 z5 := Tryd.sizeOf5
 v5 := Tryd.zeroValue5
 infoByte := by kernel_rfl
 cellsByte := by kernel_rfl
 sizeByte := by kernel_rfl
 neB5 := by decide
def strings_Map.f (a0 : ByteArray) : Option ByteArray := if a0.size < 35184372088832 then some ⟨(Lib.mapD lowR a0.data.toList).toArray⟩ else none
theorem strings_Map.calls (a0 : ByteArray) (r : ByteArray) (w : World) (h : strings_Map.f a0 = some r) (hG : TabG w) :
  Calls Tryd.prog 151 #[.func (.func 152) #[] #[], .string a0] w fun e w' => e = .returned (.string r) ∧ Below w.heap.size w w' := by
 unfold strings_Map.f at h
 split at h
 ·rename_i hr
  obtain rfl := Option.some.inj h
  exact Any.strings_Map_grows Tryd.lays230 strings_Map.extra 152 #[] strings_Map.enters lowR a0 w hr (fun W x hx _ => strings_Map.closure x (by omega) (by omega) W) (fun x hx => lowR_range x (by omega) (by omega)) (TabG.utf8 hG)
 ·cases h
end Go.Proofs.YtbpffdhkeinmcaaDoor.QE
namespace Go.Proofs.YtbpffdhkeinmcaaDoor.QE
open Go.RowKit Go.Proofs.YtbpffdhkeinmcaaDoorW.PrintWords Go.Proofs.YtbpffdhkeinmcaaDoorW.PrintLast Go.Proofs.YtbpffdhkeinmcaaDoorW.PrintMore
attribute [local go_sem] max2_int min2_int max_two min_two max_three min_three max_four min_four
set_option linter.unusedVariables false
set_option linter.unusedSimpArgs false
def impl_within.f (a0 : Int) (a1 : Int) (a2 : Int) : Option (Bool) := if a0 ≥ a1 then (some (decide (a0 ≤ a2))) else (some false)
set_option maxHeartbeats 8000000 in
set_option maxRecDepth 100000 in
theorem impl_within.calls (a0 : Int) (a1 : Int) (a2 : Int) (r : Bool) (w : World) (h : impl_within.f a0 a1 a2 = some r) :
  Calls Tryd.prog 69 #[.int .i64 a0, .int .i64 a1, .int .i64 a2] w fun e w' => e = .returned (.bool r) ∧ Drawn0 w w' := by
 (have H : (if a0 ≥ a1 then (some (decide (a0 ≤ a2))) else (some false)) = some r := h); clear h
 by_cases c4 : a0 ≥ a1
 ·rw [if_pos c4] at H
  (have c4b0 : decide (a1 ≤ a0) = true := decide_eq_true c4); clear c4; (obtain rfl := Option.some.inj H)
  go_enter Tryd.func69, Tryd.ntmps69
  go_wp2
  go_ret
  exact ⟨by first | rfl | (simp; done) | (simp [*]; done), by repeat (first | exact Drawn0.refl _ | apply Drawn0.step)⟩
 ·rw [if_neg c4] at H
  (have c4b0 : decide (a1 ≤ a0) = false := decide_eq_false c4); clear c4; (obtain rfl := Option.some.inj H)
  go_enter Tryd.func69, Tryd.ntmps69
  go_wp2
  go_ret
  exact ⟨by first | rfl | (simp; done) | (simp [*]; done), by repeat (first | exact Drawn0.refl _ | apply Drawn0.step)⟩
def impl_isWord.l0 : Nat → ByteArray → Int → Int → Option (Bool)
 | 0, _, _, _ => none
 | k + 1, x0, x5, x6 => if x6 < x5 then (if 0 ≤ x6 then (if x6 < (x0.size : Int) then (if (bt x0 x6) < 97 then (some false) else (if (bt x0 x6) > 122 then (some false) else (impl_isWord.l0 k x0 x5 (wrap64 (x6 + 1))))) else (none)) else (none)) else ((impl_within.f (x0.size : Int) 1 32).bind fun t199 => (some t199))
def impl_isWord.f (k : Nat) (a0 : ByteArray) : Option (Bool) := impl_isWord.l0 k a0 (a0.size : Int) 0
set_option maxHeartbeats 8000000 in
set_option maxRecDepth 100000 in
theorem impl_isWord.calls (k : Nat) (a0 : ByteArray) (r : Bool) (w : World) (h : impl_isWord.f k a0 = some r) :
  Calls Tryd.prog 70 #[.string a0] w fun e w' => e = .returned (.bool r) ∧ Drawn0 w w' := by
 (have H : (impl_isWord.l0 k a0 (a0.size : Int) 0) = some r := h); clear h; (have H' := Aside0.mk H); clear H
 go_enter Tryd.func70, Tryd.ntmps70
 go_wp2
 go_loopg [6] k (fun kq v6 w' => ∃ (x6_1 : Int), v6 = .int .i64 x6_1 ∧ Aside0 (impl_isWord.l0 kq a0 (a0.size : Int) x6_1 = some r) ∧ Aside0 (kq ≤ k) ∧ Drawn0 w w')
 case atStart => exact ⟨(0), (by first | rfl | (simp; done) | (simp [*]; done)), H', ⟨Nat.le_refl _⟩, by repeat (first | exact Drawn0.refl _ | apply Drawn0.step)⟩
 case round =>
  clear H'; (obtain ⟨x6_1, rfl, HA, HK1, ⟨m1, rfl⟩⟩ := hrel)
  cases gk with
  | zero => exact absurd HA.out (by simp [impl_isWord.l0])
  | succ k1 =>
   (have H := HA.out); clear HA; (simp only [impl_isWord.l0] at H)
   by_cases c2 : x6_1 < (a0.size : Int)
   ·rw [if_pos c2] at H
    (have c2b0 : decide (x6_1 < (a0.size : Int)) = true := decide_eq_true c2); clear c2
    by_cases c3 : 0 ≤ x6_1
    ·rw [if_pos c3] at H
     (have c3b0 : decide (0 ≤ x6_1) = true := decide_eq_true c3); clear c3
     by_cases c4 : x6_1 < (a0.size : Int)
     ·rw [if_pos c4] at H
      (have c4b0 : decide (x6_1 < (a0.size : Int)) = true := decide_eq_true c4); clear c4
      by_cases c6 : (bt a0 x6_1) < 97
      ·rw [if_pos c6] at H
       (have c6b0 : decide ((bt a0 x6_1) < 97) = true := decide_eq_true c6); clear c6; (obtain rfl := Option.some.inj H); (have p5 : 0 ≤ (x6_1 : Int) := of_decide_eq_true (by first | (with_reducible assumption) | assumption)); (have q5 : x6_1 < (a0.size : Int) := of_decide_eq_true (by first | (with_reducible assumption) | assumption)); (have hx5 := bt_at a0 x6_1); (replace p5 := eq_true p5); (replace q5 := eq_true q5)
       go_wp2
       go_ret
       exact ⟨by first | rfl | (simp; done) | (simp [*]; done), by repeat (first | exact Drawn0.refl _ | apply Drawn0.step)⟩
      ·rw [if_neg c6] at H
       (have c6b0 : decide ((bt a0 x6_1) < 97) = false := decide_eq_false c6); clear c6
       by_cases c8 : (bt a0 x6_1) > 122
       ·rw [if_pos c8] at H
        (have c8b0 : decide (122 < (bt a0 x6_1)) = true := decide_eq_true c8); clear c8; (obtain rfl := Option.some.inj H); (have p5 : 0 ≤ (x6_1 : Int) := of_decide_eq_true (by first | (with_reducible assumption) | assumption)); (have q5 : x6_1 < (a0.size : Int) := of_decide_eq_true (by first | (with_reducible assumption) | assumption)); (have hx5 := bt_at a0 x6_1); (replace p5 := eq_true p5); (replace q5 := eq_true q5); (have p7 : 0 ≤ (x6_1 : Int) := of_decide_eq_true (by first | (with_reducible assumption) | assumption)); (have q7 : x6_1 < (a0.size : Int) := of_decide_eq_true (by first | (with_reducible assumption) | assumption)); (have hx7 := bt_at a0 x6_1); (replace p7 := eq_true p7); (replace q7 := eq_true q7)
        go_wp2
        go_ret
        exact ⟨by first | rfl | (simp; done) | (simp [*]; done), by repeat (first | exact Drawn0.refl _ | apply Drawn0.step)⟩
       ·rw [if_neg c8] at H
        (have c8b0 : decide (122 < (bt a0 x6_1)) = false := decide_eq_false c8); clear c8; (have H' := Aside0.mk H); clear H; (have p5 : 0 ≤ (x6_1 : Int) := of_decide_eq_true (by first | (with_reducible assumption) | assumption)); (have q5 : x6_1 < (a0.size : Int) := of_decide_eq_true (by first | (with_reducible assumption) | assumption)); (have hx5 := bt_at a0 x6_1); (replace p5 := eq_true p5); (replace q5 := eq_true q5); (have p7 : 0 ≤ (x6_1 : Int) := of_decide_eq_true (by first | (with_reducible assumption) | assumption)); (have q7 : x6_1 < (a0.size : Int) := of_decide_eq_true (by first | (with_reducible assumption) | assumption)); (have hx7 := bt_at a0 x6_1); (replace p7 := eq_true p7); (replace q7 := eq_true q7)
        go_wp2
        go_roundg k1
        case measure => have := HK1.out; omega
        case rel => exact ⟨(wrap64 (x6_1 + 1)), (by first | rfl | (simp; done) | (simp [*]; done)), H', ⟨by have := HK1.out; omega⟩, by repeat (first | exact Drawn0.refl _ | apply Drawn0.step)⟩
     ·rw [if_neg c4] at H
      exact absurd H (by simp)
    ·rw [if_neg c3] at H
     exact absurd H (by simp)
   ·rw [if_neg c2] at H
    (have c2b0 : decide (x6_1 < (a0.size : Int)) = false := decide_eq_false c2); clear c2; (replace H := Option.bind_eq_some_iff.mp H); (obtain ⟨t199, A90, H⟩ := H); (replace H : (some t199) = some r := H); (have A9 := Aside0.mk A90); clear A90; (obtain rfl := Option.some.inj H)
    go_wp2_with (first | ((with_reducible refine gate_callee (f := 69) rfl ?_); refine goesL_ (some 22) rfl rfl Tryd.func69 (by kernel_rfl) rfl #[.int .i64 (a0.size : Int), .int .i64 1, .int .i64 32] rfl qL ?_; (with_reducible refine (impl_within.calls (a0.size : Int) 1 32 t199 _ A9.out).mono ?_); rintro e w' ⟨rfl, ⟨nd, rfl⟩⟩; refine ⟨_, rfl, ?_⟩))
    go_ret
    exact ⟨by first | rfl | (simp; done) | (simp [*]; done), by repeat (first | exact Drawn0.refl _ | apply Drawn0.step)⟩
def impl_isLog.f (a0 : Int) : Option (Bool) := (impl_within.f a0 0 6).bind fun t262 => (some t262)
set_option maxHeartbeats 8000000 in
set_option maxRecDepth 100000 in
theorem impl_isLog.calls (a0 : Int) (r : Bool) (w : World) (h : impl_isLog.f a0 = some r) :
  Calls Tryd.prog 71 #[.int .i64 a0] w fun e w' => e = .returned (.bool r) ∧ Drawn0 w w' := by
 (have H : ((impl_within.f a0 0 6).bind fun t262 => (some t262)) = some r := h); clear h; (replace H := Option.bind_eq_some_iff.mp H); (obtain ⟨t262, A20, H⟩ := H); (replace H : (some t262) = some r := H); (have A2 := Aside0.mk A20); clear A20; (obtain rfl := Option.some.inj H)
 go_enter Tryd.func71, Tryd.ntmps71
 go_wp2_with (first | ((with_reducible refine gate_callee (f := 69) rfl ?_); refine goesL_ (some 4) rfl rfl Tryd.func69 (by kernel_rfl) rfl #[.int .i64 a0, .int .i64 0, .int .i64 6] rfl qL ?_; (with_reducible refine (impl_within.calls a0 0 6 t262 _ A2.out).mono ?_); rintro e w' ⟨rfl, ⟨nd, rfl⟩⟩; refine ⟨_, rfl, ?_⟩))
 go_ret
 exact ⟨by first | rfl | (simp; done) | (simp [*]; done), by repeat (first | exact Drawn0.refl _ | apply Drawn0.step)⟩
theorem wpList_copy_str {P : Program} {w : World} {ops : Array Oper} {rest : List Oper} {o : Oper} {a : Act} {Q : Exit → Act → World → Prop} (hgd : o.guard = none) (d s : Operand) (dT sT : TypeId)
  (ho : o.op = .call { callee := .builtin .copy, args := #[d, s], argTypes := #[dT, sT] }) (elem : TypeId) (hu : P.underlying dT = some (.slice elem)) (hsz : (P.info? elem).map (·.size) = some 1)
  (g off dLen dCap : Nat) (str : ByteArray) (hd : a.eval d = .slice (some ⟨g, off, none⟩) dLen dCap) (hs : a.eval s = .string str)
  (cur : Array Value) (t : TypeId) (hg : w.heap[g]? = some (.cells cur t (0, 0))) (hle : str.size ≤ dLen) (hfit : off + str.size ≤ cur.size)
  (h : wpList P ops Q rest (a.put o.dst (goInt str.size)) (w.setRow g (cur.toList.take off ++ Lib.byteCells str.data.toList ++ cur.toList.drop (off + str.size)).toArray)) : wpList P ops Q (o :: rest) a w := by
 refine wpList_plain hgd fun K hK => ?_
 have hrun := Lib.run_copy_row_string (P := P) w dT sT o.type elem g off dLen dCap str cur t hu hsz hg hle hfit
 unfold Oper.wp
 simp [execOp, ho, resolve, invoke, builtin, hd, hs, hrun, Result.andThen]
 exact hK _ _ (by simpa using h)
theorem byteCells_nums (s : ByteArray) : Lib.byteCells s.data.toList = nums .u8 (bytesOf s) := by simp [nums, bytesOf, Lib.byteCells]
theorem made_nums (k : IntKind) (m : Nat) : (madeCells #[Value.int k 0] m).toList = nums k (List.replicate m 0) := by
 apply List.ext_getElem
 ·simp [nums, madeCells]
 ·intro i h1 h2
  simp [nums, madeCells, Nat.mod_one]
theorem made33 : (madeCells #[Value.int IntKind.u8 0] 33).toList = nums .u8 (List.replicate 33 0) := made_nums .u8 33
theorem pad_cells (s : ByteArray) (hs : s.size ≤ 32) : ((nums .u8 (List.replicate 33 0)).set 0 (Value.int .u8 (s.size : Int))).take 1 ++ nums .u8 (bytesOf s) ++ ((nums .u8 (List.replicate 33 0)).set 0 (Value.int .u8 (s.size : Int))).drop (1 + s.size) = nums .u8 ((s.size : Int) :: (bytesOf s ++ List.replicate (32 - s.size) 0)) := by
 (have e : nums .u8 (List.replicate 33 0) = Value.int .u8 0 :: List.replicate 32 (Value.int .u8 0) := by simp [nums, List.replicate_succ]); (rw [e, List.set_cons_zero, Nat.add_comm 1 s.size, List.drop_succ_cons, List.drop_replicate])
 simp [nums]
def impl_pad.f (k : Nat) (a0 : ByteArray) : Option (List Int) := (impl_isWord.f k a0).bind fun b => if b = true then (if a0.size ≤ 32 then some ((a0.size : Int) :: (bytesOf a0 ++ List.replicate (32 - a0.size) 0)) else none) else some (List.replicate 33 0)
theorem impl_pad.hi : (Tryd.prog.info? 5).map (fun i => (i.zero, i.size, i.bytes)) = some (some (.int .u8 0), 1, 1) := by kernel_rfl
set_option maxHeartbeats 8000000 in
set_option maxRecDepth 100000 in
theorem impl_pad.calls (k : Nat) (a0 : ByteArray) (r : List Int) (w : World) (h : impl_pad.f k a0 = some r) :
  Calls Tryd.prog 134 #[.string a0] w fun e w' => ∃ v0_ : Value, e = .returned (v0_) ∧ Kd.R (Kd.int .u8) 5 w' w.heap.size (fun _ => True) v0_ r ∧ Below w.heap.size w w' := by
 unfold impl_pad.f at h
 (obtain ⟨b, hb, h2⟩ := Option.bind_eq_some_iff.mp h); clear h; (have HA := Aside0.mk hb); clear hb; (have hmk : ∀ W : World, (Instr.makeSlice 58 (.int .i64 33) (.int .i64 33)).run Tryd.prog W = .ok (.slice (some ⟨W.heap.size, 0, none⟩) 33 33) (W.alloc (.cells (madeCells #[.int .u8 0] 33) 5)) := print_make (P := Tryd.prog) 58 5 .u8 1 Tryd.underlying58 impl_pad.hi (by decide) 33 (by decide))
 cases b with
 | true =>
  simp only [if_true] at h2
  by_cases hs : a0.size ≤ 32
  ·rw [if_pos hs] at h2
   (obtain rfl := Option.some.inj h2); clear h2; (have hz5 : (Tryd.prog.info? 5).map (·.size) = some 1 := by kernel_rfl); (have HZ := Aside0.mk hz5); clear hz5; (have hm0 : (madeCells #[Value.int IntKind.u8 0] 33)[0]? = some (.int .u8 0) := by simp [madeCells])
   go_enter Tryd.func134, Tryd.ntmps134
   go_wp2_with (first | (go_at_call 70; refine (impl_isWord.calls k a0 true _ HA.out).mono ?_; rintro e w' ⟨rfl, ⟨n, rfl⟩⟩) | (with_reducible refine wpList_copy_str rfl (.tmp 13) (.tmp 14) 58 9 rfl 5 Tryd.underlying58 HZ.out w.heap.size 1 32 32 a0 rfl rfl ((madeCells #[.int .u8 0] 33).setIfInBounds 0 (.int .u8 (a0.size : Int))) 5 ?hg hs ?hfit ?_))
   case hg => exact blk_set (blk_drewN (blk_new w _) n) 0 _
   case hfit => simp only [Array.size_setIfInBounds, size_madeCells, List.size_toArray, List.length_singleton]; omega
   go_ret
   have hr : ∀ c W, ((((w.alloc (.cells (madeCells #[Value.int IntKind.u8 0] 33) 5)).drewN n).setCell ⟨w.heap.size, 0, none⟩ (.int .u8 (a0.size : Int))).setRow w.heap.size c).heap[w.heap.size]? = W → W = some (.cells c 5 (0, 0)) := by
    intro c W h
    rw [← h]
    exact setRow_heap _ _ _ _ _ _ (blk_set (blk_drewN (blk_new w _) n) 0 _)
   refine ⟨_, rfl, Kd.R_of_own (enc := Value.int .u8) ?_ (fun _ _ => trivial), ?_⟩
   ·refine ⟨by simp [encs], .inr ⟨w.heap.size, 33, _, ?_, Nat.le_refl _, hr _ _ rfl, ?_, by simp [maxLen], ?_, ?_⟩⟩
    ·simp [bytesOf_length]; omega
    ·simp [bytesOf_length]; omega
    ·simp [Lib.byteCells, made33, nums, data_length]; omega
    ·rw [show ((a0.size : Int) :: (bytesOf a0 ++ List.replicate (32 - a0.size) 0)).length * 1 = 33 by simp [bytesOf_length]; omega]
     (rw [List.take_of_length_le (by simp [Lib.byteCells, made33, nums, data_length]; omega)]); (have := pad_cells a0 hs)
     simpa [made33, byteCells_nums, encs, nums] using this
   ·refine below_setRow (Below.setCell (p := ⟨w.heap.size, 0, none⟩) ?_ (Nat.le_refl _) _) (Nat.le_refl _) _
    exact pw_below_drewN ((Below.refl _ w).alloc (Nat.le_refl _) _) n
  ·rw [if_neg hs] at h2; cases h2
 | false =>
  (simp only [Bool.false_eq_true, if_false] at h2); (obtain rfl := Option.some.inj h2); clear h2
  go_enter Tryd.func134, Tryd.ntmps134
  go_wp2_with (go_at_call 70; refine (impl_isWord.calls k a0 false _ HA.out).mono ?_; rintro e w' ⟨rfl, ⟨n, rfl⟩⟩)
  go_ret
  refine ⟨_, rfl, Kd.R_of_own (enc := Value.int .u8) ?_ (fun _ _ => trivial), pw_below_drewN ((Below.refl _ w).alloc (Nat.le_refl _) _) n⟩
  (have := own_made w w.heap.size 5 .u8 33 (Nat.le_refl _) (by decide)); (rw [List.length_replicate])
  exact own_move this (fun _ _ => rfl)
def impl_hashWord.l0 : Nat → Int → List Int → Int → Int → Option (Int)
 | 0, _, _, _, _ => none
 | k + 1, x5, x11, x12, x13 => if x13 < x12 then (if 0 ≤ x13 then (if x13 < (x11.length : Int) then (impl_hashWord.l0 k (((Go.bits .xor .u32 x5 ((rd x11 x13) % 4294967296)) * 16777619) % 4294967296) x11 x12 (wrap64 (x13 + 1))) else (none)) else (none)) else (some (wrap64 (Go.bits .xor .u32 x5 (x5 / 65536))))
def impl_hashWord.f (k : Nat) (a0 : Int) (a1 : ByteArray) : Option (Int) := (impl_pad.f k a1).bind fun t263 => (impl_hashWord.l0 k ((a0) % 4294967296) t263 (t263.length : Int) 0)
set_option maxHeartbeats 8000000 in
set_option maxRecDepth 100000 in
theorem impl_hashWord.calls (k : Nat) (a0 : Int) (a1 : ByteArray) (r : Int) (w : World) (h : impl_hashWord.f k a0 a1 = some r) :
  Calls Tryd.prog 114 #[.int .i64 a0, .string a1] w fun e w' => e = .returned (.int .i64 r) ∧ Below w.heap.size w w' := by
 (have HB := Aside0.mk (Below.refl w.heap.size w)); (have H : ((impl_pad.f k a1).bind fun t263 => (impl_hashWord.l0 k ((a0) % 4294967296) t263 (t263.length : Int) 0)) = some r := h); clear h; (replace H := Option.bind_eq_some_iff.mp H); (obtain ⟨t263, A30, H⟩ := H); (replace H : (impl_hashWord.l0 k ((a0) % 4294967296) t263 (t263.length : Int) 0) = some r := H); (have A3 := Aside0.mk A30); clear A30; (have H' := Aside0.mk H); clear H
 go_enter Tryd.func114, Tryd.ntmps114
 go_wp2_with (first | ((with_reducible refine gate_callee (f := 134) rfl ?_); refine goesL_ (some 11) rfl rfl Tryd.func134 (by kernel_rfl) rfl #[.string a1] rfl qL ?_; (with_reducible refine (impl_pad.calls k a1 t263 _ A3.out).mono ?_); rintro e w4 ⟨v264, rfl, ho0, hb⟩; refine ⟨_, rfl, ?_⟩; have n0_ := Aside0.mk (Kd.R_lower ho0 (below_size (qS0 HB))); have n1_ := Aside0.mk (below_step (qS0 HB) hb); clear HB; have HO265 := n0_; have HB := n1_; clear n0_ n1_; (try clear hb); (try clear hb2); (try clear hk); (try clear hi); (try clear ho0); obtain ⟨Ao5, co5, eo5⟩ := Kd.R_slice HO265.out; subst eo5))
 go_loopg [5, 13] k (fun kq v5 v13 w' => ∃ (x5_1 : Int) (x13_1 : Int), v5 = .int .u32 x5_1 ∧ v13 = .int .i64 x13_1 ∧ Aside0 (impl_hashWord.l0 kq x5_1 t263 (t263.length : Int) x13_1 = some r) ∧ Aside0 (kq ≤ k) ∧ Aside0 (Kd.R (Kd.int .u8) 5 w' w.heap.size (fun _ => True) (.slice Ao5 t263.length co5) t263) ∧ Aside0 (Below w.heap.size w w'))
 case atStart => exact ⟨((a0) % 4294967296), (0), (by first | rfl | (simp; done) | (simp [*]; done)), (by first | rfl | (simp; done) | (simp [*]; done)), H', ⟨Nat.le_refl _⟩, ⟨qR HO265⟩, ⟨qS0 HB⟩⟩
 case round =>
  clear H'; (try clear c1); (try clear p2); (obtain ⟨x5_1, x13_1, rfl, rfl, HA, HK1, HO_11, HB⟩ := hrel)
  cases gk with
  | zero => exact absurd HA.out (by simp [impl_hashWord.l0])
  | succ k1 =>
   (have H := HA.out); clear HA; (simp only [impl_hashWord.l0] at H)
   by_cases c6 : x13_1 < (t263.length : Int)
   ·rw [if_pos c6] at H
    (have c6b0 : decide (x13_1 < (t263.length : Int)) = true := decide_eq_true c6); clear c6
    by_cases c7 : 0 ≤ x13_1
    ·rw [if_pos c7] at H
     (have c7b0 : decide (0 ≤ x13_1) = true := decide_eq_true c7); clear c7
     by_cases c8 : x13_1 < (t263.length : Int)
     ·rw [if_pos c8] at H
      (have c8b0 : decide (x13_1 < (t263.length : Int)) = true := decide_eq_true c8); clear c8; (have H' := Aside0.mk H); clear H; (have p266 : 0 ≤ (x13_1 : Int) := of_decide_eq_true (by first | (with_reducible assumption) | assumption)); (have q266 : x13_1 < (t263.length : Int) := of_decide_eq_true (by first | (with_reducible assumption) | assumption)); (obtain ⟨ad266, e266, hx266_0⟩ := Kd.at_int (Kd.R_reads' HO_11.out).2.2 x13_1 p266 q266)
      cases e266
      (replace p266 := eq_true p266); (replace q266 := eq_true q266)
      go_wp2
      go_roundg k1
      case measure => have := HK1.out; omega
      case rel => exact ⟨(((Go.bits .xor .u32 x5_1 ((rd t263 x13_1) % 4294967296)) * 16777619) % 4294967296), (wrap64 (x13_1 + 1)), (by first | rfl | (simp; done) | (simp [*]; done)), (by first | rfl | (simp; done) | (simp [*]; done)), H', ⟨by have := HK1.out; omega⟩, ⟨qR HO_11⟩, ⟨qS0 HB⟩⟩
     ·rw [if_neg c8] at H
      exact absurd H (by simp)
    ·rw [if_neg c7] at H
     exact absurd H (by simp)
   ·rw [if_neg c6] at H
    (have c6b0 : decide (x13_1 < (t263.length : Int)) = false := decide_eq_false c6); clear c6; (obtain rfl := Option.some.inj H)
    go_wp2
    go_ret
    exact ⟨qE, qS0 HB⟩
def impl_shelfFor.f (k : Nat) (a0 : Int) (a1 : ByteArray) (a2 : Int) : Option (Int) := (impl_hashWord.f k a0 a1).bind fun t267 => (if 0 ≤ a2 then (some (Go.bits .and .i64 t267 (wrap64 ((shl .i64 1 a2) - 1)))) else (none))
def impl_shelfFor.T1 : Bool × List (List Nat × List Nat) := (true, [([], []), ([], []), ([0, 1], [0, 1]), ([], []), ([3], [3]), ([4], [4]), ([2, 5], [2, 5]), ([6, 2, 0, 1, 2, 3, 4, 5, 6], [6])])
def impl_shelfFor.B1 : List Nat := [0, 0, 3, 0, 8, 24, 63, 127]
theorem impl_shelfFor.tab1 : rtab .any (opsOf Tryd.f72 1) = impl_shelfFor.T1 := by kernel_rfl
theorem impl_shelfFor.bits1 : waitsOk impl_shelfFor.T1.2 impl_shelfFor.B1 = true := by kernel_rfl
set_option maxHeartbeats 8000000 in
set_option maxRecDepth 100000 in
theorem impl_shelfFor.calls (k : Nat) (a0 : Int) (a1 : ByteArray) (a2 : Int) (r : Int) (w : World) (h : impl_shelfFor.f k a0 a1 a2 = some r) :
  Calls Tryd.prog 72 #[.int .i64 a0, .string a1, .int .i64 a2] w fun e w' => e = .returned (.int .i64 r) ∧ Below w.heap.size w w' := by
 (have HB := Aside0.mk (Below.refl w.heap.size w)); (have H : ((impl_hashWord.f k a0 a1).bind fun t267 => (if 0 ≤ a2 then (some (Go.bits .and .i64 t267 (wrap64 ((shl .i64 1 a2) - 1)))) else (none))) = some r := h); clear h; (replace H := Option.bind_eq_some_iff.mp H); (obtain ⟨t267, A40, H⟩ := H); (replace H : (if 0 ≤ a2 then (some (Go.bits .and .i64 t267 (wrap64 ((shl .i64 1 a2) - 1)))) else (none)) = some r := H); (have A4 := Aside0.mk A40); clear A40
 by_cases c5 : 0 ≤ a2
 ·rw [if_pos c5] at H
  (have c5b0 := eq_true c5); (have c5b1 : decide (0 ≤ a2) = true := decide_eq_true c5); clear c5; (obtain ⟨ji6, hji6⟩ : ∃ j_ : Int, (shl .i64 1 a2) = j_ := ⟨_, rfl⟩); (replace H : (some (Go.bits .and .i64 t267 (wrap64 ((ji6) - 1)))) = some r := by first | (rw [hji6] at H; exact H) | (simp only [hji6] at H ⊢; exact H)); (try rw [hji6] at A4); (have hji6_ : (IntKind.i64.wrap (1 * 2 ^ min a2.toNat 64)) = ji6 := hji6); (have hji6z : a2 ≤ 64 → (IntKind.i64.wrap (1 * 2 ^ a2.toNat)) = ji6 := shl_small hji6); (have hji6u : (IntKind.i64.wrap (2 ^ min a2.toNat 64)) = ji6 := by have h_ := hji6_; rw [Int.one_mul] at h_; exact h_); (have hji6v : a2 ≤ 64 → (IntKind.i64.wrap (2 ^ a2.toNat)) = ji6 := fun hle_ => by have h_ := hji6z hle_; rw [Int.one_mul] at h_; exact h_); (have hji6y : (wrap64 (1 * 2 ^ min a2.toNat 64)) = ji6 := (i64_w _).symm.trans hji6_); (have hji6x : a2 ≤ 64 → (wrap64 (1 * 2 ^ a2.toNat)) = ji6 := fun h_ => (i64_w _).symm.trans (hji6z h_)); (obtain rfl := Option.some.inj H)
  go_enter Tryd.func72, Tryd.ntmps72
  try go_wp2
  (have n0_ := Aside0.mk (below_drew1 HB.out)); clear HB; (have HB := n0_); clear n0_
  refine start_ (n := 8) (S := fun w' => True) (ds := []) #[false, false, false, false, false, false, false, false] (by kernel_rfl) rfl rfl trivial (fun hHeld => ?_); refine with_tabW impl_shelfFor.tab1 impl_shelfFor.bits1 (fun HT_ HW_ => ?_)
  generalize w.drew = w7 at HB hHeld ⊢
  refine pure_ (i := 0) (N := some 7) (v := ?_) (a' := ?_) #[true, false, false, false, false, false, false, false] rfl rfl (any_of HT_.out (by kernel_rfl)) (fun _ _ _ h => h) (Or.inl ⟨by rfl, ?_⟩) ?_ ?_
  rotate_left
  ·intro w'
   go_simp
   with_reducible rfl
  rotate_left
  ·simp only [Act.put, List.setIfInBounds_toArray, List.set_cons_zero, List.set_cons_succ, i64_w, i32_w]
   rfl
  refine pure_ (i := 1) (N := some 8) (v := ?_) (a' := ?_) #[true, true, false, false, false, false, false, false] rfl rfl (any_of HT_.out (by kernel_rfl)) (fun _ _ _ h => h) (Or.inl ⟨by rfl, ?_⟩) ?_ ?_
  rotate_left
  ·intro w'
   go_simp
   with_reducible rfl
  rotate_left
  ·simp only [Act.put, List.setIfInBounds_toArray, List.set_cons_zero, List.set_cons_succ, i64_w, i32_w]
   rfl
  refine pure_ (i := 3) (N := some 10) (v := ?_) (a' := ?_) #[true, true, false, true, false, false, false, false] rfl rfl (any_of HT_.out (by kernel_rfl)) (fun _ _ _ h => h) (Or.inl ⟨by rfl, ?_⟩) ?_ ?_
  rotate_left
  ·intro w'
   go_simp
   with_reducible rfl
  rotate_left
  ·simp only [Act.put, List.setIfInBounds_toArray, List.set_cons_zero, List.set_cons_succ, i64_w, i32_w]
   rfl
  refine pure_ (i := 4) (N := some 11) (v := ?_) (a' := ?_) #[true, true, false, true, true, false, false, false] rfl rfl (any_of HT_.out (by kernel_rfl)) (fun _ _ _ h => h) (Or.inl ⟨by rfl, ?_⟩) ?_ ?_
  rotate_left
  ·intro w'
   go_simp
   with_reducible rfl
  rotate_left
  ·simp only [Act.put, List.setIfInBounds_toArray, List.set_cons_zero, List.set_cons_succ, i64_w, i32_w]
   rfl
  refine pure_ (i := 5) (N := some 12) (v := ?_) (a' := ?_) #[true, true, false, true, true, true, false, false] rfl rfl (any_of HT_.out (by kernel_rfl)) (fun _ _ _ h => h) (Or.inl ⟨by rfl, ?_⟩) ?_ ?_
  rotate_left
  ·intro w'
   go_simp
   with_reducible rfl
  rotate_left
  ·simp only [Act.put, List.setIfInBounds_toArray, List.set_cons_zero, List.set_cons_succ, i64_w, i32_w]
   rfl
  refine one_ (i := 2) (N := some 9) #[true, true, true, true, true, true, false, false] rfl rfl (one_of HT_.out (by kernel_rfl)) (by decide) (fun K hK => ?_)
  refine goes_ Tryd.func114 (by kernel_rfl) rfl #[.int .i64 a0, .string a1] (by rfl) rfl rfl qL ?_
  with_reducible refine (impl_hashWord.calls k a0 a1 t267 _ A4.out).mono ?_
  rintro e w8 ⟨rfl, hb⟩
  refine ⟨_, rfl, ?_⟩
  (have n0_ := Aside0.mk (below_step (qS0 HB) hb)); clear HB; (have HB := n0_); clear n0_; (try clear hb); (try clear hb2); (try clear hk); (try clear hi)
  refine hK.out _ _ trivial (fun hHeld => ?_)
  clear hK K
  refine norm_ (a' := ?_) ?_ ?_
  rotate_left
  ·show Act.put _ (some 9) _ = _
   simp only [Act.put, List.setIfInBounds_toArray, List.set_cons_zero, List.set_cons_succ, i64_w, i32_w]
   rfl
  refine pure_ (i := 6) (N := some 13) (v := ?_) (a' := ?_) #[true, true, true, true, true, true, true, false] rfl rfl (any_of HT_.out (by kernel_rfl)) (fun _ _ _ h => h) (Or.inl ⟨by rfl, ?_⟩) ?_ ?_
  rotate_left
  ·intro w'
   go_simp
   with_reducible rfl
  rotate_left
  ·simp only [Act.put, List.setIfInBounds_toArray, List.set_cons_zero, List.set_cons_succ, i64_w, i32_w]
   rfl
  refine pure_ (i := 7) (N := some 6) (v := ?_) (a' := ?_) #[true, true, true, true, true, true, true, true] rfl rfl (any_of HT_.out (by kernel_rfl)) (fun _ _ _ h => h) (Or.inl ⟨by rfl, ?_⟩) ?_ ?_
  rotate_left
  ·intro w'
   go_simp
   with_reducible rfl
  rotate_left
  ·simp only [Act.put, List.setIfInBounds_toArray, List.set_cons_zero, List.set_cons_succ, i64_w, i32_w]
   rfl
  refine done_ (done_of HT_.out (by kernel_rfl)) ?_
  try go_wp2
  go_ret
  exact ⟨by first | rfl | (simp [errW_none, errW_some] <;> rfl) | (simp only [← hji6]; first | rfl | (simp [errW_none, errW_some] <;> rfl)) | (simp [*, errW_none, errW_some] <;> rfl), qS0 HB⟩
 ·rw [if_neg c5] at H
  exact absurd H (by simp)
def impl_ShelfFor.f (k : Nat) (a0 : Int) (a1 : ByteArray) (a2 : Int) : Option (Int) := (impl_within.f a0 0 4294967295).bind fun t268 => (if t268 = true then ((impl_isWord.f k a1).bind fun t269 => (if t269 = true then ((impl_isLog.f a2).bind fun t270 => (if t270 = true then ((impl_shelfFor.f k a0 a1 a2).bind fun t271 => (some t271)) else (some (-1)))) else (some (-1)))) else (some (-1)))
set_option maxHeartbeats 8000000 in
set_option maxRecDepth 100000 in
theorem impl_ShelfFor.calls (k : Nat) (a0 : Int) (a1 : ByteArray) (a2 : Int) (r : Int) (w : World) (h : impl_ShelfFor.f k a0 a1 a2 = some r) :
  Calls Tryd.prog 33 #[.int .i64 a0, .string a1, .int .i64 a2] w fun e w' => e = .returned (.int .i64 r) ∧ Below w.heap.size w w' := by
 (have HB := Aside0.mk (Below.refl w.heap.size w)); (have H : ((impl_within.f a0 0 4294967295).bind fun t268 => (if t268 = true then ((impl_isWord.f k a1).bind fun t269 => (if t269 = true then ((impl_isLog.f a2).bind fun t270 => (if t270 = true then ((impl_shelfFor.f k a0 a1 a2).bind fun t271 => (some t271)) else (some (-1)))) else (some (-1)))) else (some (-1)))) = some r := h); clear h; (replace H := Option.bind_eq_some_iff.mp H); (obtain ⟨t268, A40, H⟩ := H)
 try dsimp only at H
 (have A4 := Aside0.mk A40); clear A40
 by_cases c5 : t268 = true
 ·subst c5
  (have H1 : ((impl_isWord.f k a1).bind fun t269 => (if t269 = true then ((impl_isLog.f a2).bind fun t270 => (if t270 = true then ((impl_shelfFor.f k a0 a1 a2).bind fun t271 => (some t271)) else (some (-1)))) else (some (-1)))) = some r := by rw [if_pos rfl] at H; exact H); clear H; (have H := H1); clear H1; (replace H := Option.bind_eq_some_iff.mp H); (obtain ⟨t269, A60, H⟩ := H)
  try dsimp only at H
  (have A6 := Aside0.mk A60); clear A60
  by_cases c7 : t269 = true
  ·subst c7
   (have H1 : ((impl_isLog.f a2).bind fun t270 => (if t270 = true then ((impl_shelfFor.f k a0 a1 a2).bind fun t271 => (some t271)) else (some (-1)))) = some r := by rw [if_pos rfl] at H; exact H); clear H; (have H := H1); clear H1; (replace H := Option.bind_eq_some_iff.mp H); (obtain ⟨t270, A80, H⟩ := H)
   try dsimp only at H
   (have A8 := Aside0.mk A80); clear A80
   by_cases c9 : t270 = true
   ·subst c9
    (have H1 : ((impl_shelfFor.f k a0 a1 a2).bind fun t271 => (some t271)) = some r := by rw [if_pos rfl] at H; exact H); clear H; (have H := H1); clear H1; (replace H := Option.bind_eq_some_iff.mp H); (obtain ⟨t271, A100, H⟩ := H); (replace H : (some t271) = some r := H); (have A10 := Aside0.mk A100); clear A100; (obtain rfl := Option.some.inj H)
    go_enter Tryd.func33, Tryd.ntmps33
    go_wp2_with (first | ((with_reducible refine gate_callee (f := 69) rfl ?_); refine goesL_ (some 8) rfl rfl Tryd.func69 (by kernel_rfl) rfl #[.int .i64 a0, .int .i64 0, .int .i64 4294967295] rfl qL ?_; (with_reducible refine (impl_within.calls a0 0 4294967295 true _ A4.out).mono ?_); rintro e w' ⟨rfl, ⟨nd, rfl⟩⟩; refine ⟨_, rfl, ?_⟩) | (go_at_call 70; (with_reducible refine (impl_isWord.calls k a1 true _ A6.out).mono ?_); rintro e w' ⟨rfl, ⟨nd, rfl⟩⟩) | (go_at_call 71; (with_reducible refine (impl_isLog.calls a2 true _ A8.out).mono ?_); rintro e w' ⟨rfl, ⟨nd, rfl⟩⟩) | ((with_reducible refine gate_callee (f := 72) rfl ?_); refine goesL_ (some 23) rfl rfl Tryd.func72 (by kernel_rfl) rfl #[.int .i64 a0, .string a1, .int .i64 a2] rfl qL ?_; (with_reducible refine (impl_shelfFor.calls k a0 a1 a2 t271 _ A10.out).mono ?_); rintro e w11 ⟨rfl, hb⟩; refine ⟨_, rfl, ?_⟩; have n0_ := Aside0.mk (below_step (qS0 HB) hb); clear HB; have HB := n0_; clear n0_; (try clear hb); (try clear hb2); (try clear hk); (try clear hi)))
    go_ret
    exact ⟨qE, qS0 HB⟩
   ·replace c9 := Bool.eq_false_iff.mpr c9
    (subst c9); (have H1 : (some (-1)) = some r := by rw [if_neg (show ¬ (false = true) by decide)] at H; exact H); clear H; (have H := H1); clear H1; (obtain rfl := Option.some.inj H)
    go_enter Tryd.func33, Tryd.ntmps33
    go_wp2_with (first | ((with_reducible refine gate_callee (f := 69) rfl ?_); refine goesL_ (some 8) rfl rfl Tryd.func69 (by kernel_rfl) rfl #[.int .i64 a0, .int .i64 0, .int .i64 4294967295] rfl qL ?_; (with_reducible refine (impl_within.calls a0 0 4294967295 true _ A4.out).mono ?_); rintro e w' ⟨rfl, ⟨nd, rfl⟩⟩; refine ⟨_, rfl, ?_⟩) | (go_at_call 70; (with_reducible refine (impl_isWord.calls k a1 true _ A6.out).mono ?_); rintro e w' ⟨rfl, ⟨nd, rfl⟩⟩) | (go_at_call 71; (with_reducible refine (impl_isLog.calls a2 false _ A8.out).mono ?_); rintro e w' ⟨rfl, ⟨nd, rfl⟩⟩))
    go_ret
    exact ⟨qE, qS0 HB⟩
  ·replace c7 := Bool.eq_false_iff.mpr c7
   (subst c7); (have H1 : (some (-1)) = some r := by rw [if_neg (show ¬ (false = true) by decide)] at H; exact H); clear H; (have H := H1); clear H1; (obtain rfl := Option.some.inj H)
   go_enter Tryd.func33, Tryd.ntmps33
   go_wp2_with (first | ((with_reducible refine gate_callee (f := 69) rfl ?_); refine goesL_ (some 8) rfl rfl Tryd.func69 (by kernel_rfl) rfl #[.int .i64 a0, .int .i64 0, .int .i64 4294967295] rfl qL ?_; (with_reducible refine (impl_within.calls a0 0 4294967295 true _ A4.out).mono ?_); rintro e w' ⟨rfl, ⟨nd, rfl⟩⟩; refine ⟨_, rfl, ?_⟩) | (go_at_call 70; (with_reducible refine (impl_isWord.calls k a1 false _ A6.out).mono ?_); rintro e w' ⟨rfl, ⟨nd, rfl⟩⟩))
   go_ret
   exact ⟨qE, qS0 HB⟩
 ·replace c5 := Bool.eq_false_iff.mpr c5
  (subst c5); (have H1 : (some (-1)) = some r := by rw [if_neg (show ¬ (false = true) by decide)] at H; exact H); clear H; (have H := H1); clear H1; (obtain rfl := Option.some.inj H)
  go_enter Tryd.func33, Tryd.ntmps33
  go_wp2_with (first | ((with_reducible refine gate_callee (f := 69) rfl ?_); refine goesL_ (some 8) rfl rfl Tryd.func69 (by kernel_rfl) rfl #[.int .i64 a0, .int .i64 0, .int .i64 4294967295] rfl qL ?_; (with_reducible refine (impl_within.calls a0 0 4294967295 false _ A4.out).mono ?_); rintro e w' ⟨rfl, ⟨nd, rfl⟩⟩; refine ⟨_, rfl, ?_⟩))
  go_ret
  exact ⟨qE, qS0 HB⟩
def impl_isDeepLog.f (a0 : Int) : Option (Bool) := (impl_within.f a0 2 6).bind fun t187 => (some t187)
set_option maxHeartbeats 8000000 in
set_option maxRecDepth 100000 in
theorem impl_isDeepLog.calls (a0 : Int) (r : Bool) (w : World) (h : impl_isDeepLog.f a0 = some r) :
  Calls Tryd.prog 98 #[.int .i64 a0] w fun e w' => e = .returned (.bool r) ∧ Drawn0 w w' := by
 (have H : ((impl_within.f a0 2 6).bind fun t187 => (some t187)) = some r := h); clear h; (replace H := Option.bind_eq_some_iff.mp H); (obtain ⟨t187, A20, H⟩ := H); (replace H : (some t187) = some r := H); (have A2 := Aside0.mk A20); clear A20; (obtain rfl := Option.some.inj H)
 go_enter Tryd.func98, Tryd.ntmps98
 go_wp2_with (first | ((with_reducible refine gate_callee (f := 69) rfl ?_); refine goesL_ (some 4) rfl rfl Tryd.func69 (by kernel_rfl) rfl #[.int .i64 a0, .int .i64 2, .int .i64 6] rfl qL ?_; (with_reducible refine (impl_within.calls a0 2 6 t187 _ A2.out).mono ?_); rintro e w' ⟨rfl, ⟨nd, rfl⟩⟩; refine ⟨_, rfl, ?_⟩))
 go_ret
 exact ⟨by first | rfl | (simp; done) | (simp [*]; done), by repeat (first | exact Drawn0.refl _ | apply Drawn0.step)⟩
end Go.Proofs.YtbpffdhkeinmcaaDoor.QE
