/- Part of the proof of the law FnIdsBook: what it uses of the texts that this session and the kit's print wrote. -/
import Derived.Test.YtbpffdhkeinmcaaDoorZFnIdsBookx2
import Derived.Test.YtbpffdhkeinmcaaDoorZFnIdsBookx5
import Derived.Test.YtbpffdhkeinmcaaDoorZFnIdsBookx7
namespace Go.Proofs.YtbpffdhkeinmcaaDoor.QE
open Go.RowKit Go.Proofs.YtbpffdhkeinmcaaDoorW.PrintWords Go.Proofs.YtbpffdhkeinmcaaDoorW.PrintLast Go.Proofs.YtbpffdhkeinmcaaDoorW.PrintMore
attribute [local go_sem] max2_int min2_int max_two min_two max_three min_three max_four min_four
set_option linter.unusedVariables false
set_option linter.unusedSimpArgs false
private theorem qIsS122_12_0 {p  q : Prop} (h : Aside0 p) (h' : p → q := by intro h_ ; repeat (first | (with_reducible first | exact h_ | apply IsS122.alloc | apply IsS122.drewN | apply IsS122.drew | apply IsS122.set_1 | apply IsS122.set_2) | exact h_)) : q := h' h.out
def spec_l01Cur_text.l0 : Nat → ByteArray → Int → List Int → Int → Int → Option (ByteArray × Int × Int)
 | 0, _, _, _, _, _ => none
 | k + 1, x5, x6, x1000, x1001, x1002 => if x6 > 0 then ((spec_l01Cur_badWord.f k x1000 x1001 x1002).bind fun bt491 => (if x5.size + bt491.1.size ≤ 9223372036854775807 then ((some (([(⟨#[32]⟩ : ByteArray), (⟨#[10]⟩ : ByteArray), (⟨#[32, 32]⟩ : ByteArray), (⟨#[9, 32, 13]⟩ : ByteArray), (⟨#[32]⟩ : ByteArray)] : List ByteArray) : List ByteArray)).bind fun y494 => ((spec_l01Cur_pick.f x1000 bt491.2.1 bt491.2.2 5).bind fun bt497 => (if 0 ≤ bt497.1 then (if bt497.1 < (y494.length : Int) then (if (x5 ++ bt491.1).size + (rdOf ByteArray.empty y494 bt497.1).size ≤ 9223372036854775807 then (spec_l01Cur_text.l0 k ((x5 ++ bt491.1) ++ (rdOf ByteArray.empty y494 bt497.1)) (wrap64 (x6 - 1)) x1000 bt497.2.1 bt497.2.2) else (none)) else (none)) else (none)))) else (none))) else (some (x5, x1001, x1002))
def spec_l01Cur_text.f (k : Nat) (s0_0 : List Int) (s0_1 : Int) (s0_2 : Int) (a1 : Int) : Option (ByteArray × Int × Int) := (spec_l01Cur_pick.f s0_0 s0_1 s0_2 (wrap64 (a1 + 1))).bind fun bt488 => (spec_l01Cur_text.l0 k (⟨#[]⟩ : ByteArray) bt488.1 s0_0 bt488.2.1 bt488.2.2)
set_option maxHeartbeats 8000000 in
set_option maxRecDepth 100000 in
theorem spec_l01Cur_text.calls (k : Nat) (g : Nat) (s0_0 : List Int) (s0_1 : Int) (s0_2 : Int) (a1 : Int) (r1 : ByteArray) (r2 : Int) (r3 : Int) (w0 w : World) (hI : IsS122 w0 w g s0_0 s0_1 s0_2) (hB : Below w0.heap.size w0 w) (h : spec_l01Cur_text.f k s0_0 s0_1 s0_2 a1 = some (r1, r2, r3)) :
  Calls Tryd.prog 133 #[.pointer (some ⟨g, 0, none⟩), .int .i64 a1] w fun e w' => e = .returned (.string r1) ∧ IsS122 w0 w' g s0_0 r2 r3 ∧ Below w0.heap.size w0 w' ∧ KeepBut w w' g none := by
 (have HI0 := Aside0.mk hI); (have HK := Aside0.mk (KeepBut.refl w g none)); (have HL := Aside0.mk hB.size); clear hI; (have HW0 := Aside0.mk hB.size); (have HB := Aside0.mk hB); clear hB; (have H : ((spec_l01Cur_pick.f s0_0 s0_1 s0_2 (wrap64 (a1 + 1))).bind fun bt488 => (spec_l01Cur_text.l0 k (⟨#[]⟩ : ByteArray) bt488.1 s0_0 bt488.2.1 bt488.2.2)) = some (r1, r2, r3) := h); clear h; (replace H := Option.bind_eq_some_iff.mp H); (obtain ⟨⟨t488, t489, t490⟩, A30, H⟩ := H); (replace H : (spec_l01Cur_text.l0 k (⟨#[]⟩ : ByteArray) t488 s0_0 t489 t490) = some (r1, r2, r3) := H); (have A3 := Aside0.mk A30); clear A30; (have H' := Aside0.mk H); clear H
 go_enter Tryd.func133, Tryd.ntmps133
 go_wp2_with (first | ((with_reducible refine gate_callee (f := 107) rfl ?_); refine goesL_ (some 10) rfl rfl Tryd.func107 (by kernel_rfl) rfl #[.pointer (some ⟨g, 0, none⟩), .int .i64 (wrap64 (a1 + 1))] rfl qL ?_; (with_reducible refine (spec_l01Cur_pick.calls g s0_0 s0_1 s0_2 (wrap64 (a1 + 1)) t488 t489 t490 w0 _ ?side1 ?side2 A3.out).mono ?_); (case side1 => exact qIsS122_12_0 HI0); (case side2 => exact qS1 HB ⟨IsS122.ge HI0.out⟩); rintro e w4 ⟨rfl, hi, hb, hk⟩; refine ⟨_, rfl, ?_⟩; have n0_ := Aside0.mk (KeepBut.trans (qK0 HK) hk (.inl rfl)); have n1_ := Aside0.mk (hb); have n2_ := Aside0.mk (hi); clear HK HB HI0; have HK := n0_; have HB := n1_; have HI0 := n2_; clear n0_ n1_ n2_; (try clear hb); (try clear hb2); (try clear hk); (try clear hi)))
 go_loopg [5, 6] k (fun kq v5 v6 w' => ∃ (x5_1 : ByteArray) (x6_1 : Int) (x1001_1 : Int) (x1002_1 : Int), v5 = .string x5_1 ∧ v6 = .int .i64 x6_1 ∧ Aside0 (spec_l01Cur_text.l0 kq x5_1 x6_1 s0_0 x1001_1 x1002_1 = some (r1, r2, r3)) ∧ Aside0 (kq ≤ k) ∧ Aside0 (IsS122 w0 w' g s0_0 x1001_1 x1002_1) ∧ Aside0 (KeepBut w w' g none) ∧ Aside0 (Below w0.heap.size w0 w'))
 case atStart => exact ⟨((⟨#[]⟩ : ByteArray)), (t488), (t489), (t490), (by first | rfl | (simp; done) | (simp [*]; done)), (by first | rfl | (simp; done) | (simp [*]; done)), H', ⟨Nat.le_refl _⟩, ⟨qIsS122_12_0 HI0⟩, ⟨qK0 HK⟩, ⟨qS1 HB ⟨IsS122.ge HI0.out⟩⟩⟩
 case round =>
  clear H'; (try clear c1); (try clear p2); (obtain ⟨x5_1, x6_1, x1001_1, x1002_1, rfl, rfl, HA, HK1, HI0, HK, HB⟩ := hrel)
  cases gk with
  | zero => exact absurd HA.out (by simp [spec_l01Cur_text.l0])
  | succ k1 =>
   (have H := HA.out); clear HA; (simp only [spec_l01Cur_text.l0] at H)
   by_cases c5 : x6_1 > 0
   ·rw [if_pos c5] at H
    (have c5b0 : decide (0 < x6_1) = true := decide_eq_true c5); clear c5; (replace H := Option.bind_eq_some_iff.mp H); (obtain ⟨⟨t491, t492, t493⟩, A60, H⟩ := H)
    try dsimp only at H
    (have A6 := Aside0.mk A60); clear A60
    by_cases c7 : x5_1.size + t491.size ≤ 9223372036854775807
    ·rw [if_pos c7] at H
     (have c7b0 := eq_true c7); (have c7b1 : decide (x5_1.size + t491.size ≤ 9223372036854775807) = true := decide_eq_true c7)
     try have c7b2 : (9223372036854775807 < x5_1.size + t491.size) = False := eq_false (Nat.not_lt.2 c7)
     (obtain ⟨y494, hy494⟩ : ∃ y_ : List ByteArray, y_ = (([(⟨#[32]⟩ : ByteArray), (⟨#[10]⟩ : ByteArray), (⟨#[32, 32]⟩ : ByteArray), (⟨#[9, 32, 13]⟩ : ByteArray), (⟨#[32]⟩ : ByteArray)] : List ByteArray)) := ⟨_, rfl⟩); (replace H : ((spec_l01Cur_pick.f s0_0 t492 t493 5).bind fun bt497 => (if 0 ≤ bt497.1 then (if bt497.1 < (y494.length : Int) then (if (x5_1 ++ t491).size + (rdOf ByteArray.empty y494 bt497.1).size ≤ 9223372036854775807 then (spec_l01Cur_text.l0 k1 ((x5_1 ++ t491) ++ (rdOf ByteArray.empty y494 bt497.1)) (wrap64 (x6_1 - 1)) s0_0 bt497.2.1 bt497.2.2) else (none)) else (none)) else (none))) = some (r1, r2, r3) := by first | (rw [hy494]; with_reducible exact H) | (have H2_ := (Option.bind_some _ _).symm.trans H; rw [hy494]; with_reducible exact H2_) | (have H2_ := (Option.bind_some _ _).symm.trans H; with_reducible exact H2_) | with_reducible exact H | (rw [hy494]; exact H) | exact H); (have Ny494 := Aside0.mk hy494); clear hy494; (replace H := Option.bind_eq_some_iff.mp H); (obtain ⟨⟨t497, t498, t499⟩, A80, H⟩ := H)
     try dsimp only at H
     (have A8 := Aside0.mk A80); clear A80
     by_cases c9 : 0 ≤ t497
     ·rw [if_pos c9] at H
      (have c9b0 : decide (0 ≤ t497) = true := decide_eq_true c9); clear c9
      by_cases c10 : t497 < (y494.length : Int)
      ·rw [if_pos c10] at H
       (have c10b0 : decide (t497 < (y494.length : Int)) = true := decide_eq_true c10); clear c10
       by_cases c11 : (x5_1 ++ t491).size + (rdOf ByteArray.empty y494 t497).size ≤ 9223372036854775807
       ·rw [if_pos c11] at H
        (have c11b0 := eq_true c11); (have c11b1 : decide ((x5_1 ++ t491).size + (rdOf ByteArray.empty y494 t497).size ≤ 9223372036854775807) = true := decide_eq_true c11)
        try have c11b2 : (9223372036854775807 < (x5_1 ++ t491).size + (rdOf ByteArray.empty y494 t497).size) = False := eq_false (Nat.not_lt.2 c11)
        try have c11b3 := c11b2
        try simp only [ByteArray.size_append] at c11b3
        (have H' := Aside0.mk H); clear H
        go_wp2_with (first | ((with_reducible refine gate_callee (f := 132) rfl ?_); refine goesL_ (some 17) rfl rfl Tryd.func132 (by kernel_rfl) rfl #[.pointer (some ⟨g, 0, none⟩)] rfl qL ?_; (with_reducible refine (spec_l01Cur_badWord.calls k1 g s0_0 x1001_1 x1002_1 t491 t492 t493 w0 _ ?side1 ?side2 A6.out).mono ?_); (case side1 => exact qIsS122_12_0 HI0); (case side2 => exact qS1 HB ⟨IsS122.ge HI0.out⟩); rintro e w12 ⟨rfl, hi, hb, hk⟩; refine ⟨_, rfl, ?_⟩; have n0_ := Aside0.mk (KeepBut.trans (qK0 HK) hk (.inl rfl)); have n1_ := Aside0.mk (hb); have n2_ := Aside0.mk (hi); clear HK HB HI0; have HK := n0_; have HB := n1_; have HI0 := n2_; clear n0_ n1_ n2_; (try clear hb); (try clear hb2); (try clear hk); (try clear hi)) | ((with_reducible refine gate_dst (N := 19) rfl ?_); refine Kd.R_lit Kd.string _ 9 ?hg (N := 19) ?hd (xs := ([(⟨#[32]⟩ : ByteArray), (⟨#[10]⟩ : ByteArray), (⟨#[32, 32]⟩ : ByteArray), (⟨#[9, 32, 13]⟩ : ByteArray), (⟨#[32]⟩ : ByteArray)] : List ByteArray)) (inner := [.string (⟨#[32]⟩ : ByteArray), .string (⟨#[10]⟩ : ByteArray), .string (⟨#[32, 32]⟩ : ByteArray), .string (⟨#[9, 32, 13]⟩ : ByteArray), .string (⟨#[32]⟩ : ByteArray)]) (ok := fun _ => True) (okp := fun _ => True) ?hr ?hp (fun _ hk => hk) trivial (Below.refl _ _) (Nat.le_refl _) (by simp) ?_; (case hd => rfl); (case hg => rfl); (case hr => first | (go_simp; done) | (go_simp; rfl)); (case hp => exact (Reps.one (show Kd.M Kd.string _ _ _ (⟨#[32]⟩ : ByteArray) [.string (⟨#[32]⟩ : ByteArray)] from rfl) (Reps.one (show Kd.M Kd.string _ _ _ (⟨#[10]⟩ : ByteArray) [.string (⟨#[10]⟩ : ByteArray)] from rfl) (Reps.one (show Kd.M Kd.string _ _ _ (⟨#[32, 32]⟩ : ByteArray) [.string (⟨#[32, 32]⟩ : ByteArray)] from rfl) (Reps.one (show Kd.M Kd.string _ _ _ (⟨#[9, 32, 13]⟩ : ByteArray) [.string (⟨#[9, 32, 13]⟩ : ByteArray)] from rfl) (Reps.one (show Kd.M Kd.string _ _ _ (⟨#[32]⟩ : ByteArray) [.string (⟨#[32]⟩ : ByteArray)] from rfl) (Reps.none _ _))))))); intro v495 w13 ho14 hb hg_ hnew_; clear hg_ hnew_; (first | rw [← Ny494.out] at ho14 | (simp only [Int.reduceToNat] at ho14; rw [← Ny494.out] at ho14)); have n0_ := Aside0.mk (Kd.R_lower ho14 (keep_size (w := w) (g := g) (row := none) (qK0 HK))); have n1_ := Aside0.mk (IsS122.below (qIsS122_12_0 HI0) hb); have n2_ := qH (qK0 HK) hb; have n3_ := Aside0.mk (below_step (qS1 HB ⟨IsS122.ge HI0.out⟩) hb); clear HI0 HK HB; have HO496 := n0_; have HI0 := n1_; have HK := n2_; have HB := n3_; clear n0_ n1_ n2_ n3_; clear hb ho14) | ((with_reducible refine gate_callee (f := 107) rfl ?_); refine goesL_ (some 21) rfl rfl Tryd.func107 (by kernel_rfl) rfl #[.pointer (some ⟨g, 0, none⟩), .int .i64 5] rfl qL ?_; (with_reducible refine (spec_l01Cur_pick.calls g s0_0 t492 t493 5 t497 t498 t499 w0 _ ?side1 ?side2 A8.out).mono ?_); (case side1 => exact qIsS122_12_0 HI0); (case side2 => exact qS1 HB ⟨IsS122.ge HI0.out⟩); rintro e w15 ⟨rfl, hi, hb, hk⟩; refine ⟨_, rfl, ?_⟩; have n0_ := Aside0.mk (Kd.R_mono (Kd.R_keep (IsS122.apart (show IsS122 w0 _ g s0_0 t492 t493 from qIsS122_12_0 HI0) (qR HO496) (by decide)) hk (fun _ h => h.2)) (fun _ h => h.1)); have n1_ := Aside0.mk (KeepBut.trans (qK0 HK) hk (.inl rfl)); have n2_ := Aside0.mk (hb); have n3_ := Aside0.mk (hi); clear HO496 HK HB HI0; have HO496 := n0_; have HK := n1_; have HB := n2_; have HI0 := n3_; clear n0_ n1_ n2_ n3_; (try clear hb); (try clear hb2); (try clear hk); (try clear hi); obtain ⟨Ao16, co16, eo16⟩ := Kd.R_slice HO496.out; subst eo16; have p500 : 0 ≤ (t497 : Int) := of_decide_eq_true (by first | (with_reducible assumption) | assumption); have q500 : t497 < (y494.length : Int) := of_decide_eq_true (by first | (with_reducible assumption) | assumption); obtain ⟨ad500, e500, hx500_0⟩ := Kd.at_string (Kd.R_reads' HO496.out).2.2 t497 p500 q500; cases e500; replace p500 := eq_true p500; replace q500 := eq_true q500))
        go_roundg k1
        case measure => have := HK1.out; omega
        case rel => exact ⟨((x5_1 ++ t491) ++ (rdOf ByteArray.empty y494 t497)), (wrap64 (x6_1 - 1)), (t498), (t499), (by first | rfl | (simp; done) | (simp [*]; done)), (by first | rfl | (simp; done) | (simp [*]; done)), H', ⟨by have := HK1.out; omega⟩, ⟨qIsS122_12_0 HI0⟩, ⟨qK0 HK⟩, ⟨qS1 HB ⟨IsS122.ge HI0.out⟩⟩⟩
       ·rw [if_neg c11] at H
        exact absurd H (by simp)
      ·rw [if_neg c10] at H
       exact absurd H (by simp)
     ·rw [if_neg c9] at H
      exact absurd H (by simp)
    ·rw [if_neg c7] at H
     exact absurd H (by simp)
   ·rw [if_neg c5] at H
    (have c5b0 : decide (0 < x6_1) = false := decide_eq_false c5); clear c5; (simp only [Option.some.injEq, Prod.mk.injEq] at H); (obtain ⟨rfl, rfl, rfl⟩ := H)
    go_wp2
    go_ret
    exact ⟨qE, qIsS122_12_0 HI0, qS1 HB ⟨IsS122.ge HI0.out⟩, qK0 HK⟩
end Go.Proofs.YtbpffdhkeinmcaaDoor.QE
