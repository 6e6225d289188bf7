/- Part of the proof of the law FnPairTapes: what it uses of the texts that this session and the kit's print wrote. -/
import Derived.Test.YtefojjhffjpeoaaGreatDoorZFnPairTapesx5
import Derived.Test.YtefojjhffjpeoaaGreatDoorZFnPairTapesx6
import Derived.KernelRfl
import Derived.Test.YtefojjhffjpeoaaGreatDoorProg
namespace Go.Proofs.YtefojjhffjpeoaaGreatDoor.QA
open Go.RowKit Go.Proofs.YtefojjhffjpeoaaGreatDoorW.PrintWords Go.Proofs.YtefojjhffjpeoaaGreatDoorW.PrintLast Go.Proofs.YtefojjhffjpeoaaGreatDoorW.PrintMore
attribute [local go_sem] max2_int min2_int max_two min_two max_three min_three max_four min_four
set_option linter.unusedVariables false
set_option linter.unusedSimpArgs false
set_option maxHeartbeats 8000000
set_option maxRecDepth 100000
mutual
def spec_Tokens.j0 : Nat → ByteArray → Int → Bool → Option (List ByteArray × Bool)
  | 0, _, _, _ => none
  | k + 1, x0, x1, x20 => if x20 = true then (some (([] : List ByteArray), false)) else (spec_Tokens.l0 k x0 x1 (([] : List ByteArray)) 0)
def spec_Tokens.l0 : Nat → ByteArray → Int → List ByteArray → Int → Option (List ByteArray × Bool)
  | 0, _, _, _, _ => none
  | k + 1, x0, x1, x6, x7 => if x7 < (x0.size : Int) then (if 0 ≤ x7 then ((spec_l01Gap.f (bt x0 x7)).bind fun t178 => (if t178 = true then (spec_Tokens.j2 k x0 x1 x6 x7 true) else (if x7 > 0 then (if 0 ≤ (wrap64 (x7 - 1)) then (if (wrap64 (x7 - 1)) < (x0.size : Int) then ((spec_l01Gap.f (bt x0 (wrap64 (x7 - 1)))).bind fun t179 => (spec_Tokens.j2 k x0 x1 x6 x7 (!t179))) else (none)) else (none)) else (spec_Tokens.j2 k x0 x1 x6 x7 false)))) else (none)) else (spec_Tokens.l2 k x1 x6)
def spec_Tokens.j2 : Nat → ByteArray → Int → List ByteArray → Int → Bool → Option (List ByteArray × Bool)
  | 0, _, _, _, _, _ => none
  | k + 1, x0, x1, x6, x7, x43 => if x43 = true then (spec_Tokens.l0 k x0 x1 x6 (wrap64 (x7 + 1))) else (spec_Tokens.l1 k x0 x1 x6 x7 x7)
def spec_Tokens.j4 : Nat → ByteArray → Int → List ByteArray → Int → Int → Option (List ByteArray × Bool)
  | 0, _, _, _, _, _ => none
  | k + 1, x0, x1, x6, x7, x8 => if (x6.length : Int) = x1 then (some (([] : List ByteArray), false)) else (if 0 ≤ x7 then (if x7 ≤ x8 then (if x8 ≤ (x0.size : Int) then ((spec_Fold.f k (x0.extract (x7 : Int).toNat (x8 : Int).toNat)).bind fun t181 => (if t181.toList = ([] : List UInt8) then (if x6.length < 8796093022208 then (spec_Tokens.l0 k x0 x1 (x6 ++ [(⟨#[63]⟩ : ByteArray)]) (wrap64 (x7 + 1))) else (none)) else (if x6.length < 8796093022208 then (spec_Tokens.l0 k x0 x1 (x6 ++ [t181]) (wrap64 (x7 + 1))) else (none)))) else (none)) else (none)) else (none))
def spec_Tokens.l1 : Nat → ByteArray → Int → List ByteArray → Int → Int → Option (List ByteArray × Bool)
  | 0, _, _, _, _, _ => none
  | k + 1, x0, x1, x6, x7, x8 => if x8 < (x0.size : Int) then (if 0 ≤ x8 then ((spec_l01Gap.f (bt x0 x8)).bind fun t180 => (if t180 = true then (spec_Tokens.j4 k x0 x1 x6 x7 x8) else (spec_Tokens.l1 k x0 x1 x6 x7 (wrap64 (x8 + 1))))) else (none)) else (spec_Tokens.j4 k x0 x1 x6 x7 x8)
def spec_Tokens.l2 : Nat → Int → List ByteArray → Option (List ByteArray × Bool)
  | 0, _, _ => none
  | k + 1, x1, x6 => if (x6.length : Int) < x1 then (if x6.length < 8796093022208 then (spec_Tokens.l2 k x1 (x6 ++ [(⟨#[]⟩ : ByteArray)])) else (none)) else (some (x6, true))
end
def spec_Tokens.f (k : Nat) (a0 : ByteArray) (a1 : Int) : Option (List ByteArray × Bool) := if (a0.size : Int) > 2000 then (spec_Tokens.j0 k a0 a1 true) else (if a1 < 1 then (spec_Tokens.j0 k a0 a1 true) else (spec_Tokens.j0 k a0 a1 (decide (a1 > 16))))
theorem spec_Tokens.calls (k : Nat) (a0 : ByteArray) (a1 : Int) (r1 : List ByteArray) (r2 : Bool) (w : World) (h : spec_Tokens.f k a0 a1 = some (r1, r2)) :
    Calls Tryz.prog 82 #[.string a0, .int .i64 a1] w fun e w' => ∃ v0_ : Value, e = .returned (.tuple #[v0_, .bool r2]) ∧ Kd.R Kd.string 9 w' w.heap.size (fun _ => True) v0_ r1 ∧ Below w.heap.size w w' := by
  have HB := Aside0.mk (Below.refl w.heap.size w)
  have H : (if (a0.size : Int) > 2000 then (spec_Tokens.j0 k a0 a1 true) else (if a1 < 1 then (spec_Tokens.j0 k a0 a1 true) else (spec_Tokens.j0 k a0 a1 (decide (a1 > 16))))) = some (r1, r2) := h
  clear h
  have HC3 := Aside0.mk H
  clear H
  go_enter Tryz.func82, Tryz.ntmps82
  go_upto_region 1 with (fail)
  go_cut [20] (fun v20 wc => ∃ (kq : Nat) (x20_2 : Bool), v20 = .bool x20_2 ∧ Aside0 (spec_Tokens.j0 kq a0 a1 x20_2 = some (r1, r2)) ∧ Aside0 (kq ≤ k) ∧ Aside0 (Below w.heap.size w wc))
  case first =>
    have H := HC3.out
    clear HC3
    rcases qJ H with ⟨c4, H⟩ | ⟨c4, H⟩
    · have c4b0 : decide (2000 < (a0.size : Int)) = true := decide_eq_true c4
      have c4b1 : decide (2000 < a0.size) = true := decide_eq_true (by omega)
      clear c4
      (first | rw [c4b0] | (simp only [i64_w, i32_w]; rw [c4b0]) | skip)
      have H' := Aside0.mk H
      clear H
      go_wp2
      go_meet
      case rel => exact ⟨_, (true), qV, H', ⟨by first | omega | exact Nat.le_refl _⟩, ⟨qS0 HB⟩⟩
    · have c4b0 : decide (2000 < (a0.size : Int)) = false := decide_eq_false c4
      have c4b1 : decide (2000 < a0.size) = false := decide_eq_false (by omega)
      clear c4
      (first | rw [c4b0] | (simp only [i64_w, i32_w]; rw [c4b0]) | skip)
      rcases qI H with ⟨c5b0, H⟩ | ⟨c5b0, H⟩
      · have H' := Aside0.mk H
        clear H
        go_wp2
        go_meet
        case rel => exact ⟨_, (true), qV, H', ⟨by first | omega | exact Nat.le_refl _⟩, ⟨qS0 HB⟩⟩
      · have H' := Aside0.mk H
        clear H
        go_wp2
        go_meet
        case rel => exact ⟨_, (decide (a1 > 16)), qV, H', ⟨by first | omega | exact Nat.le_refl _⟩, ⟨qS0 HB⟩⟩
  case rest =>
    clear HC3
    try clear c4b0
    try clear c4b1
    try clear c5b0
    obtain ⟨kq, x20_2, rfl, HA, HJ2, HB⟩ := hcut
    cases kq with
    | zero => exact absurd HA.out (by simp [spec_Tokens.j0])
    | succ kj2 =>
      have H := HA.out
      clear HA
      simp only [spec_Tokens.j0] at H
      by_cases c6 : x20_2 = true
      · subst c6
        have H1 : (some (([] : List ByteArray), false)) = some (r1, r2) := by rw [if_pos rfl] at H; exact H
        clear H
        have H := H1
        clear H1
        simp only [Option.some.injEq, Prod.mk.injEq] at H
        obtain ⟨rfl, rfl⟩ := H
        go_wp2
        go_ret2
        exact ⟨_, qE, by first | exact Kd.R_nil _ _ _ _ _ | exact Kd.N_nil _ _ _ _ _ | exact Kd.V_nil _ _ _ _ _ | exact Kd.Q_nil _ _ _ _ _ | exact Kd.S_nil _ _ _ _ _, qS0 HB⟩
      · replace c6 := Bool.eq_false_iff.mpr c6
        subst c6
        have H1 : (spec_Tokens.l0 kj2 a0 a1 (([] : List ByteArray)) 0) = some (r1, r2) := by rw [if_neg (show ¬ (false = true) by decide)] at H; exact H
        clear H
        have H := H1
        clear H1
        obtain ⟨y175, hy175⟩ : ∃ y_ : List ByteArray, y_ = (([] : List ByteArray)) := ⟨_, rfl⟩
        replace H : (spec_Tokens.l0 kj2 a0 a1 y175 0) = some (r1, r2) := qY hy175 H
        have Ny175 := Aside0.mk hy175
        clear hy175
        have H' := Aside0.mk H
        clear H
        go_wp2_with (first | ((with_reducible refine gate_dst (N := 21) rfl ?_); refine Kd.R_lit Kd.string _ 9 ?hg (N := 21) ?hd (xs := ([] : List ByteArray)) (inner := []) (ok := fun _ => True) (okp := fun _ => True) ?hr ?hp (fun _ hk => hk) trivial (Below.refl _ _) (Nat.le_refl _) (by simp) ?_; (case hd => rfl); (case hg => rfl); (case hr => first | (go_simp; done) | (go_simp; rfl)); (case hp => exact (Reps.none _ _)); intro v176 w7 ho8 hb hg_ hnew_; clear hg_ hnew_; (first | rw [← Ny175.out] at ho8 | (simp only [Int.reduceToNat] at ho8; rw [← Ny175.out] at ho8)); have HO177 := Aside0.mk (Kd.R_lower ho8 (below_size (qS0 HB))); replace HB := Aside0.mk (below_step (qS0 HB) hb); clear hb ho8))
        go_loopg [6, 7] kj2 (fun kq v6 v7 w' => ∃ (x6_2 : List ByteArray) (x7_2 : Int), v7 = .int .i64 x7_2 ∧ Aside0 (spec_Tokens.l0 kq a0 a1 x6_2 x7_2 = some (r1, r2)) ∧ Aside0 (kq ≤ kj2) ∧ Aside0 (Kd.R Kd.string 9 w' w.heap.size (fun _ => True) v6 x6_2) ∧ Aside0 (Below w.heap.size w w'))
        case atStart => exact ⟨(y175), (0), qV, H', ⟨Nat.le_refl _⟩, ⟨qR HO177⟩, ⟨qS0 HB⟩⟩
        case round =>
          clear H'
          try clear c6
          obtain ⟨x6_2, x7_2, rfl, HA, HK2, HO_6, HB⟩ := hrel
          cases gk with
          | zero => exact absurd HA.out (by simp [spec_Tokens.l0])
          | succ k2 =>
            have H := HA.out
            clear HA
            simp only [spec_Tokens.l0] at H
            rcases qI H with ⟨c9b0, H⟩ | ⟨c9b0, H⟩
            · have HC10 := Aside0.mk H
              clear H
              go_upto_region 7 with (fail)
              go_cut [43] (fun v43 wc => ∃ (kq : Nat) (x43_9 : Bool), v43 = .bool x43_9 ∧ Aside0 (spec_Tokens.j2 kq a0 a1 x6_2 x7_2 x43_9 = some (r1, r2)) ∧ Aside0 (kq ≤ k2) ∧ Aside0 (Kd.R Kd.string 9 wc w.heap.size (fun _ => True) u6 x6_2) ∧ Aside0 (Below w.heap.size w wc))
              case first =>
                have H := HC10.out
                clear HC10
                obtain ⟨c11b0, H⟩ := qT H
                (first | rw [c11b0] | (simp only [i64_w, i32_w]; rw [c11b0]) | skip)
                obtain ⟨t178, A13, H⟩ := qX H
                try dsimp only at H
                by_cases c14 : t178 = true
                · subst c14
                  have H1 : (spec_Tokens.j2 k2 a0 a1 x6_2 x7_2 true) = some (r1, r2) := by rw [if_pos rfl] at H; exact H
                  clear H
                  have H := H1
                  clear H1
                  have H' := Aside0.mk H
                  clear H
                  have p12 : 0 ≤ (x7_2 : Int) := qO
                  have q12 : x7_2 < (a0.size : Int) := qO
                  have hx12 := bt_at a0 x7_2
                  replace p12 := eq_true p12
                  replace q12 := eq_true q12
                  go_wp2_with (first | ((with_reducible refine gate_callee (f := 101) rfl ?_); refine goesL_ (some 31) rfl rfl Tryz.func101 (by kernel_rfl) rfl #[.int .u8 (bt a0 x7_2)] rfl qL ?_; (with_reducible refine (spec_l01Gap.calls (bt a0 x7_2) true _ A13.out).mono ?_); rintro e w' ⟨rfl, ⟨nd, rfl⟩⟩; refine ⟨_, rfl, ?_⟩))
                  go_meet
                  case rel => exact ⟨_, (true), qV, H', ⟨by have := HJ2.out; have := HK2.out; first | omega | exact Nat.le_refl _⟩, ⟨qR HO_6⟩, ⟨qS0 HB⟩⟩
                · replace c14 := Bool.eq_false_iff.mpr c14
                  subst c14
                  have H1 : (if x7_2 > 0 then (if 0 ≤ (wrap64 (x7_2 - 1)) then (if (wrap64 (x7_2 - 1)) < (a0.size : Int) then ((spec_l01Gap.f (bt a0 (wrap64 (x7_2 - 1)))).bind fun t179 => (spec_Tokens.j2 k2 a0 a1 x6_2 x7_2 (!t179))) else (none)) else (none)) else (spec_Tokens.j2 k2 a0 a1 x6_2 x7_2 false)) = some (r1, r2) := by rw [if_neg (show ¬ (false = true) by decide)] at H; exact H
                  clear H
                  have H := H1
                  clear H1
                  rcases qI H with ⟨(c15b0 : decide (0 < x7_2) = true), H⟩ | ⟨(c15b0 : decide (0 < x7_2) = false), H⟩
                  · obtain ⟨ji16, hji16⟩ : ∃ j_ : Int, (wrap64 (x7_2 - 1)) = j_ := ⟨_, rfl⟩
                    replace H : (if 0 ≤ (ji16) then (if (ji16) < (a0.size : Int) then ((spec_l01Gap.f (bt a0 (ji16))).bind fun t179 => (spec_Tokens.j2 k2 a0 a1 x6_2 x7_2 (!t179))) else (none)) else (none)) = some (r1, r2) := by first | (rw [hji16] at H; exact H) | (simp only [hji16] at H ⊢; exact H)
                    (try rw [hji16] at A13)
                    have hji16w : (IntKind.i64.wrap (x7_2 - 1)) = ji16 := (i64_w _).trans hji16
                    obtain ⟨c17b0, H⟩ := qT H
                    obtain ⟨c18b0, H⟩ := qT H
                    obtain ⟨t179, A20, H⟩ := qX H
                    replace H : (spec_Tokens.j2 k2 a0 a1 x6_2 x7_2 (!t179)) = some (r1, r2) := H
                    have H' := Aside0.mk H
                    clear H
                    have p12 : 0 ≤ (x7_2 : Int) := qO
                    have q12 : x7_2 < (a0.size : Int) := qO
                    have hx12 := bt_at a0 x7_2
                    replace p12 := eq_true p12
                    replace q12 := eq_true q12
                    go_wp2_with (first | ((with_reducible refine gate_callee (f := 101) rfl ?_); refine goesL_ (some 31) rfl rfl Tryz.func101 (by kernel_rfl) rfl #[.int .u8 (bt a0 x7_2)] rfl qL ?_; (with_reducible refine (spec_l01Gap.calls (bt a0 x7_2) false _ A13.out).mono ?_); rintro e w' ⟨rfl, ⟨nd, rfl⟩⟩; refine ⟨_, rfl, ?_⟩; have p19 : 0 ≤ ((ji16) : Int) := qO; have q19 : (ji16) < (a0.size : Int) := qO; have hx19 := bt_at a0 (ji16); replace p19 := eq_true p19; replace q19 := eq_true q19) | (go_at_call 101; (with_reducible refine (spec_l01Gap.calls (bt a0 (ji16)) t179 _ A20.out).mono ?_); rintro e w' ⟨rfl, ⟨nd, rfl⟩⟩))
                    go_meet
                    case rel => exact ⟨_, (!t179), qV, H', ⟨by have := HJ2.out; have := HK2.out; first | omega | exact Nat.le_refl _⟩, ⟨qR HO_6⟩, ⟨qS0 HB⟩⟩
                  · have H' := Aside0.mk H
                    clear H
                    have p12 : 0 ≤ (x7_2 : Int) := qO
                    have q12 : x7_2 < (a0.size : Int) := qO
                    have hx12 := bt_at a0 x7_2
                    replace p12 := eq_true p12
                    replace q12 := eq_true q12
                    go_wp2_with (first | ((with_reducible refine gate_callee (f := 101) rfl ?_); refine goesL_ (some 31) rfl rfl Tryz.func101 (by kernel_rfl) rfl #[.int .u8 (bt a0 x7_2)] rfl qL ?_; (with_reducible refine (spec_l01Gap.calls (bt a0 x7_2) false _ A13.out).mono ?_); rintro e w' ⟨rfl, ⟨nd, rfl⟩⟩; refine ⟨_, rfl, ?_⟩))
                    go_meet
                    case rel => exact ⟨_, (false), qV, H', ⟨by have := HJ2.out; have := HK2.out; first | omega | exact Nat.le_refl _⟩, ⟨qR HO_6⟩, ⟨qS0 HB⟩⟩
              case rest =>
                clear HC10
                try clear hx1
                try clear c9b0
                try clear c11b0
                try clear p12
                try clear q12
                try clear hx12
                try clear c14
                try clear c15b0
                try clear c17b0
                try clear c18b0
                try clear p19
                try clear q19
                try clear hx19
                obtain ⟨kq, x43_9, rfl, HA, HJ9, HO_6, HB⟩ := hcut
                cases kq with
                | zero => exact absurd HA.out (by simp [spec_Tokens.j2])
                | succ kj9 =>
                  have H := HA.out
                  clear HA
                  simp only [spec_Tokens.j2] at H
                  by_cases c21 : x43_9 = true
                  · subst c21
                    have H1 : (spec_Tokens.l0 kj9 a0 a1 x6_2 (wrap64 (x7_2 + 1))) = some (r1, r2) := by rw [if_pos rfl] at H; exact H
                    clear H
                    have H := H1
                    clear H1
                    have H' := Aside0.mk H
                    clear H
                    go_wp2
                    go_roundg kj9
                    case measure => have := HJ2.out; have := HK2.out; have := HJ9.out; omega
                    case rel => exact ⟨(x6_2), (wrap64 (x7_2 + 1)), qV, H', ⟨by have := HJ2.out; have := HK2.out; have := HJ9.out; omega⟩, ⟨qR HO_6⟩, ⟨qS0 HB⟩⟩
                  · replace c21 := Bool.eq_false_iff.mpr c21
                    subst c21
                    have H1 : (spec_Tokens.l1 kj9 a0 a1 x6_2 x7_2 x7_2) = some (r1, r2) := by rw [if_neg (show ¬ (false = true) by decide)] at H; exact H
                    clear H
                    have H := H1
                    clear H1
                    have HC22 := Aside0.mk H
                    clear H
                    go_upto_block 2 with (fail)
                    go_cut [8] (fun v8 wc => ∃ (kq : Nat) (x8_21 : Int), v8 = .int .i64 x8_21 ∧ Aside0 (spec_Tokens.j4 kq a0 a1 x6_2 x7_2 x8_21 = some (r1, r2)) ∧ Aside0 (kq ≤ kj9) ∧ Aside0 (Kd.R Kd.string 9 wc w.heap.size (fun _ => True) u6 x6_2) ∧ Aside0 (Below w.heap.size w wc))
                    case first =>
                      have H := HC22.out
                      clear HC22
                      have H' := Aside0.mk H
                      clear H
                      go_wp2
                      go_loopg [8] kj9 (fun kq v8 w' => ∃ (x8_4 : Int), v8 = .int .i64 x8_4 ∧ Aside0 (spec_Tokens.l1 kq a0 a1 x6_2 x7_2 x8_4 = some (r1, r2)) ∧ Aside0 (kq ≤ kj9) ∧ Aside0 (Kd.R Kd.string 9 w' w.heap.size (fun _ => True) u6 x6_2) ∧ Aside0 (Below w.heap.size w w'))
                      case atStart => exact ⟨(x7_2), qV, H', ⟨Nat.le_refl _⟩, ⟨qR HO_6⟩, ⟨qS0 HB⟩⟩
                      case round =>
                        clear H'
                        try clear c21
                        obtain ⟨x8_4, rfl, HA, HK4, HO_6, HB⟩ := hrel
                        cases gk with
                        | zero => exact absurd HA.out (by simp [spec_Tokens.l1])
                        | succ k4 =>
                          have H := HA.out
                          clear HA
                          simp only [spec_Tokens.l1] at H
                          rcases qI H with ⟨c23b0, H⟩ | ⟨c23b0, H⟩
                          · (first | rw [c23b0] | (simp only [i64_w, i32_w]; rw [c23b0]) | skip)
                            obtain ⟨c24b0, H⟩ := qT H
                            obtain ⟨t180, A26, H⟩ := qX H
                            try dsimp only at H
                            by_cases c27 : t180 = true
                            · subst c27
                              have H1 : (spec_Tokens.j4 k4 a0 a1 x6_2 x7_2 x8_4) = some (r1, r2) := by rw [if_pos rfl] at H; exact H
                              clear H
                              have H := H1
                              clear H1
                              have H' := Aside0.mk H
                              clear H
                              have p25 : 0 ≤ (x8_4 : Int) := qO
                              have q25 : x8_4 < (a0.size : Int) := qO
                              have hx25 := bt_at a0 x8_4
                              replace p25 := eq_true p25
                              replace q25 := eq_true q25
                              go_wp2_with (first | (go_at_call 101; (with_reducible refine (spec_l01Gap.calls (bt a0 x8_4) true _ A26.out).mono ?_); rintro e w' ⟨rfl, ⟨nd, rfl⟩⟩))
                              go_meet
                              case rel => exact ⟨_, (x8_4), qV, H', ⟨by have := HJ2.out; have := HK2.out; have := HJ9.out; have := HK4.out; first | omega | exact Nat.le_refl _⟩, ⟨qR HO_6⟩, ⟨qS0 HB⟩⟩
                            · replace c27 := Bool.eq_false_iff.mpr c27
                              subst c27
                              have H1 : (spec_Tokens.l1 k4 a0 a1 x6_2 x7_2 (wrap64 (x8_4 + 1))) = some (r1, r2) := by rw [if_neg (show ¬ (false = true) by decide)] at H; exact H
                              clear H
                              have H := H1
                              clear H1
                              have H' := Aside0.mk H
                              clear H
                              have p25 : 0 ≤ (x8_4 : Int) := qO
                              have q25 : x8_4 < (a0.size : Int) := qO
                              have hx25 := bt_at a0 x8_4
                              replace p25 := eq_true p25
                              replace q25 := eq_true q25
                              go_wp2_with (first | (go_at_call 101; (with_reducible refine (spec_l01Gap.calls (bt a0 x8_4) false _ A26.out).mono ?_); rintro e w' ⟨rfl, ⟨nd, rfl⟩⟩))
                              go_roundg k4
                              case measure => have := HJ2.out; have := HK2.out; have := HJ9.out; have := HK4.out; omega
                              case rel => exact ⟨(wrap64 (x8_4 + 1)), qV, H', ⟨by have := HJ2.out; have := HK2.out; have := HJ9.out; have := HK4.out; omega⟩, ⟨qR HO_6⟩, ⟨qS0 HB⟩⟩
                          · (first | rw [c23b0] | (simp only [i64_w, i32_w]; rw [c23b0]) | skip)
                            have H' := Aside0.mk H
                            clear H
                            go_wp2
                            go_meet
                            case rel => exact ⟨_, (x8_4), qV, H', ⟨by have := HJ2.out; have := HK2.out; have := HJ9.out; have := HK4.out; first | omega | exact Nat.le_refl _⟩, ⟨qR HO_6⟩, ⟨qS0 HB⟩⟩
                    case rest =>
                      clear HC22
                      try clear hx2
                      try clear c23b0
                      try clear c24b0
                      try clear p25
                      try clear q25
                      try clear hx25
                      try clear c27
                      obtain ⟨kq, x8_21, rfl, HA, HJ21, HO_6, HB⟩ := hcut
                      cases kq with
                      | zero => exact absurd HA.out (by simp [spec_Tokens.j4])
                      | succ kj21 =>
                        have H := HA.out
                        clear HA
                        simp only [spec_Tokens.j4] at H
                        rcases qJ H with ⟨c28, H⟩ | ⟨c28, H⟩
                        · have c28b0 : ((x6_2.length : Int) == a1) = true := beq_iff_eq.mpr c28
                          have c28b1 : ((x6_2.length : Int) != a1) = false := bne_eq_false_iff_eq.mpr c28
                          clear c28
                          simp only [Option.some.injEq, Prod.mk.injEq] at H
                          obtain ⟨rfl, rfl⟩ := H
                          obtain ⟨Ao29, co29, eo29⟩ := Kd.R_slice HO_6.out
                          subst eo29
                          go_wp2
                          go_ret2
                          exact ⟨_, qE, by first | exact Kd.R_nil _ _ _ _ _ | exact Kd.N_nil _ _ _ _ _ | exact Kd.V_nil _ _ _ _ _ | exact Kd.Q_nil _ _ _ _ _ | exact Kd.S_nil _ _ _ _ _, qS0 HB⟩
                        · have c28b0 : ((x6_2.length : Int) == a1) = false := beq_eq_false_iff_ne.mpr c28
                          have c28b1 : ((x6_2.length : Int) != a1) = true := bne_iff_ne.mpr c28
                          obtain ⟨c30b0, c30b1, H⟩ := qT2 H
                          obtain ⟨c31b0, c31b1, H⟩ := qT2 H
                          obtain ⟨c32b0, c32b1, H⟩ := qT2 H
                          obtain ⟨t181, A33, H⟩ := qX H
                          try dsimp only at H
                          rcases qJ H with ⟨c34, H⟩ | ⟨c34, H⟩
                          · have c34b0 : (t181.toList == ([] : List UInt8)) = true := beq_iff_eq.mpr c34
                            have c34b1 : (t181.toList != ([] : List UInt8)) = false := bne_eq_false_iff_eq.mpr c34
                            clear c34
                            obtain ⟨c35, H⟩ := qU H
                            have LMc35 := Aside0.mk c35
                            clear c35
                            obtain ⟨y182, hy182⟩ : ∃ y_ : List ByteArray, y_ = (x6_2 ++ [(⟨#[63]⟩ : ByteArray)]) := ⟨_, rfl⟩
                            replace H : (spec_Tokens.l0 kj21 a0 a1 y182 (wrap64 (x7_2 + 1))) = some (r1, r2) := qY hy182 H
                            have Ny182 := Aside0.mk hy182
                            clear hy182
                            have H' := Aside0.mk H
                            clear H
                            obtain ⟨Ao36, co36, eo36⟩ := Kd.R_slice HO_6.out
                            subst eo36
                            go_wp2_with (first | ((with_reducible refine gate_callee (f := 80) rfl ?_); refine goesL_ (some 66) rfl rfl Tryz.func80 (by kernel_rfl) rfl #[.string (a0.extract (x7_2 : Int).toNat (x8_21 : Int).toNat)] rfl qL ?_; (with_reducible refine (spec_Fold.calls kj21 (a0.extract (x7_2 : Int).toNat (x8_21 : Int).toNat) t181 _ A33.out).mono ?_); rintro e w37 ⟨rfl, hb⟩; refine ⟨_, rfl, ?_⟩; replace HO_6 := Aside0.mk (Kd.R_below (qR HO_6) hb); replace HB := Aside0.mk (below_step (qS0 HB) hb); (try clear hb); (try clear hb2); (try clear hk); (try clear hi)) | ((with_reducible refine gate_builtin (b := .append) (xs := #[.tmp 69, .tmp 71]) rfl ?_); at_builtin; refine Kd.R_append Kd.string (w0 := w) w.heap.size rfl (.tmp 69) (.tmp 71) 66 9 (.string ⟨#[]⟩) 16 rfl Tryz.underlying66 info9 rfl (by decide) (by omega) (.slice Ao36 x6_2.length co36) x6_2 (⟨#[63]⟩ : ByteArray) [.string (⟨#[63]⟩ : ByteArray)] (fun _ => True) (fun _ => False) rfl rfl ?aP (fun _ hk => hk.elim) ?aF ?aO ?aB ?aS ?aL ?_; (case aP => exact rfl); (case aB => exact (qS0 HB)); (case aF => exact (fun _ _ => trivial)); (case aO => exact (qR HO_6)); (case aS => exact (below_size (qS0 HB))); (case aL => have := LMc35.out; omega); intro v183 w38 ho hb hg hat; rw [← Ny182.out] at ho; replace HB := Aside0.mk (hb); have HO184 := Aside0.mk (ho); clear HO_6; clear ho hb hg hat))
                            go_roundg kj21
                            case measure => have := HJ2.out; have := HK2.out; have := HJ9.out; have := HJ21.out; omega
                            case rel => exact ⟨(y182), (wrap64 (x7_2 + 1)), qV, H', ⟨by have := HJ2.out; have := HK2.out; have := HJ9.out; have := HJ21.out; omega⟩, ⟨qR HO184⟩, ⟨qS0 HB⟩⟩
                          · have c34b0 : (t181.toList == ([] : List UInt8)) = false := beq_eq_false_iff_ne.mpr c34
                            have c34b1 : (t181.toList != ([] : List UInt8)) = true := bne_iff_ne.mpr c34
                            obtain ⟨c39, H⟩ := qU H
                            have LMc39 := Aside0.mk c39
                            clear c39
                            obtain ⟨y185, hy185⟩ : ∃ y_ : List ByteArray, y_ = (x6_2 ++ [t181]) := ⟨_, rfl⟩
                            replace H : (spec_Tokens.l0 kj21 a0 a1 y185 (wrap64 (x7_2 + 1))) = some (r1, r2) := qY hy185 H
                            have Ny185 := Aside0.mk hy185
                            clear hy185
                            have H' := Aside0.mk H
                            clear H
                            obtain ⟨Ao40, co40, eo40⟩ := Kd.R_slice HO_6.out
                            subst eo40
                            go_wp2_with (first | ((with_reducible refine gate_callee (f := 80) rfl ?_); refine goesL_ (some 66) rfl rfl Tryz.func80 (by kernel_rfl) rfl #[.string (a0.extract (x7_2 : Int).toNat (x8_21 : Int).toNat)] rfl qL ?_; (with_reducible refine (spec_Fold.calls kj21 (a0.extract (x7_2 : Int).toNat (x8_21 : Int).toNat) t181 _ A33.out).mono ?_); rintro e w41 ⟨rfl, hb⟩; refine ⟨_, rfl, ?_⟩; replace HO_6 := Aside0.mk (Kd.R_below (qR HO_6) hb); replace HB := Aside0.mk (below_step (qS0 HB) hb); (try clear hb); (try clear hb2); (try clear hk); (try clear hi)) | ((with_reducible refine gate_builtin (b := .append) (xs := #[.tmp 69, .tmp 71]) rfl ?_); at_builtin; refine Kd.R_append Kd.string (w0 := w) w.heap.size rfl (.tmp 69) (.tmp 71) 66 9 (.string ⟨#[]⟩) 16 rfl Tryz.underlying66 info9 rfl (by decide) (by omega) (.slice Ao40 x6_2.length co40) x6_2 t181 [.string t181] (fun _ => True) (fun _ => False) rfl rfl ?aP (fun _ hk => hk.elim) ?aF ?aO ?aB ?aS ?aL ?_; (case aP => exact rfl); (case aB => exact (qS0 HB)); (case aF => exact (fun _ _ => trivial)); (case aO => exact (qR HO_6)); (case aS => exact (below_size (qS0 HB))); (case aL => have := LMc39.out; omega); intro v186 w42 ho hb hg hat; rw [← Ny185.out] at ho; replace HB := Aside0.mk (hb); have HO187 := Aside0.mk (ho); clear HO_6; clear ho hb hg hat))
                            go_roundg kj21
                            case measure => have := HJ2.out; have := HK2.out; have := HJ9.out; have := HJ21.out; omega
                            case rel => exact ⟨(y185), (wrap64 (x7_2 + 1)), qV, H', ⟨by have := HJ2.out; have := HK2.out; have := HJ9.out; have := HJ21.out; omega⟩, ⟨qR HO187⟩, ⟨qS0 HB⟩⟩
            · have H' := Aside0.mk H
              clear H
              go_wp2
              go_loopg [6] k2 (fun kq v6 w' => ∃ (x6_3 : List ByteArray), Aside0 (spec_Tokens.l2 kq a1 x6_3 = some (r1, r2)) ∧ Aside0 (kq ≤ k2) ∧ Aside0 (Kd.R Kd.string 9 w' w.heap.size (fun _ => True) v6 x6_3) ∧ Aside0 (Below w.heap.size w w'))
              case atStart => exact ⟨(x6_2), H', ⟨Nat.le_refl _⟩, ⟨qR HO_6⟩, ⟨qS0 HB⟩⟩
              case round =>
                clear H'
                try clear c28b0
                try clear c28b1
                try clear c30b0
                try clear c30b1
                try clear c31b0
                try clear c31b1
                try clear c32b0
                try clear c32b1
                try clear c34b0
                try clear c34b1
                obtain ⟨x6_3, HA, HK3, HO_6, HB⟩ := hrel
                cases gk with
                | zero => exact absurd HA.out (by simp [spec_Tokens.l2])
                | succ k3 =>
                  have H := HA.out
                  clear HA
                  simp only [spec_Tokens.l2] at H
                  rcases qI H with ⟨c43b0, H⟩ | ⟨c43b0, H⟩
                  · obtain ⟨c44, H⟩ := qU H
                    have LMc44 := Aside0.mk c44
                    clear c44
                    obtain ⟨y188, hy188⟩ : ∃ y_ : List ByteArray, y_ = (x6_3 ++ [(⟨#[]⟩ : ByteArray)]) := ⟨_, rfl⟩
                    replace H : (spec_Tokens.l2 k3 a1 y188) = some (r1, r2) := qY hy188 H
                    have Ny188 := Aside0.mk hy188
                    clear hy188
                    have H' := Aside0.mk H
                    clear H
                    obtain ⟨Ao45, co45, eo45⟩ := Kd.R_slice HO_6.out
                    subst eo45
                    go_wp2_with (first | ((with_reducible refine gate_builtin (b := .append) (xs := #[.tmp 77, .tmp 78]) rfl ?_); at_builtin; refine Kd.R_append Kd.string (w0 := w) w.heap.size rfl (.tmp 77) (.tmp 78) 66 9 (.string ⟨#[]⟩) 16 rfl Tryz.underlying66 info9 rfl (by decide) (by omega) (.slice Ao45 x6_3.length co45) x6_3 (⟨#[]⟩ : ByteArray) [.string (⟨#[]⟩ : ByteArray)] (fun _ => True) (fun _ => False) rfl rfl ?aP (fun _ hk => hk.elim) ?aF ?aO ?aB ?aS ?aL ?_; (case aP => exact rfl); (case aB => exact (qS0 HB)); (case aF => exact (fun _ _ => trivial)); (case aO => exact (qR HO_6)); (case aS => exact (below_size (qS0 HB))); (case aL => have := LMc44.out; omega); intro v189 w46 ho hb hg hat; rw [← Ny188.out] at ho; replace HB := Aside0.mk (hb); have HO190 := Aside0.mk (ho); clear HO_6; clear ho hb hg hat))
                    go_roundg k3
                    case measure => have := HJ2.out; have := HK2.out; have := HK3.out; omega
                    case rel => exact ⟨(y188), H', ⟨by have := HJ2.out; have := HK2.out; have := HK3.out; omega⟩, ⟨qR HO190⟩, ⟨qS0 HB⟩⟩
                  · simp only [Option.some.injEq, Prod.mk.injEq] at H
                    obtain ⟨rfl, rfl⟩ := H
                    obtain ⟨Ao47, co47, eo47⟩ := Kd.R_slice HO_6.out
                    subst eo47
                    go_wp2
                    go_ret2
                    exact ⟨_, qE, qR HO_6, qS0 HB⟩
def spec_l02Pow.l0 : Nat → Int → Int → Option (Int)
  | 0, _, _ => none
  | k + 1, x0, x3 => if x0 > 0 then (spec_l02Pow.l0 k (wrap64 (x0 - 1)) (wrap64 (2 * x3))) else (some x3)
def spec_l02Pow.f (k : Nat) (a0 : Int) : Option (Int) := spec_l02Pow.l0 k a0 1
theorem spec_l02Pow.calls (k : Nat) (a0 : Int) (r : Int) (w : World) (h : spec_l02Pow.f k a0 = some r) :
    Calls Tryz.prog 22 #[.int .i64 a0] w fun e w' => e = .returned (.int .i64 r) ∧ Drawn0 w w' := by
  have H : (spec_l02Pow.l0 k a0 1) = some r := h
  clear h
  have H' := Aside0.mk H
  clear H
  go_enter Tryz.func22, Tryz.ntmps22
  go_wp2
  go_loopg [0, 3] k (fun kq v0 v3 w' => ∃ (x0_1 : Int) (x3_1 : Int), v0 = .int .i64 x0_1 ∧ v3 = .int .i64 x3_1 ∧ Aside0 (spec_l02Pow.l0 kq x0_1 x3_1 = some r) ∧ Aside0 (kq ≤ k) ∧ Drawn0 w w')
  case atStart => exact ⟨(a0), (1), qV, qV, H', ⟨Nat.le_refl _⟩, by repeat (first | exact Drawn0.refl _ | apply Drawn0.step)⟩
  case round =>
    clear H'
    obtain ⟨x0_1, x3_1, rfl, rfl, HA, HK1, ⟨m1, rfl⟩⟩ := hrel
    cases gk with
    | zero => exact absurd HA.out (by simp [spec_l02Pow.l0])
    | succ k1 =>
      have H := HA.out
      clear HA
      simp only [spec_l02Pow.l0] at H
      rcases qI H with ⟨(c2b0 : decide (0 < x0_1) = true), H⟩ | ⟨(c2b0 : decide (0 < x0_1) = false), H⟩
      · have H' := Aside0.mk H
        clear H
        go_wp2
        go_roundg k1
        case measure => have := HK1.out; omega
        case rel => exact ⟨(wrap64 (x0_1 - 1)), (wrap64 (2 * x3_1)), qV, qV, H', ⟨by have := HK1.out; omega⟩, by repeat (first | exact Drawn0.refl _ | apply Drawn0.step)⟩
      · obtain rfl := Option.some.inj H
        go_wp2
        go_ret
        exact qZ
def spec_Pad.l0 : Nat → ByteArray → List Int → Int → Option (List Int)
  | 0, _, _, _ => none
  | k + 1, x0, x3, x4 => if x4 < (x0.size : Int) then (if 0 ≤ x4 then (if 0 ≤ (wrap64 (x4 + 1)) then (if (wrap64 (x4 + 1)) < (x3.length : Int) then (spec_Pad.l0 k x0 (x3.set ((wrap64 (x4 + 1)) : Int).toNat (bt x0 x4)) (wrap64 (x4 + 1))) else (none)) else (none)) else (none)) else (some x3)
def spec_Pad.f (k : Nat) (a0 : ByteArray) : Option (List Int) := if 33 ≤ 281474976710656 then ((some (List.replicate 33 0 : List Int)).bind fun y191 => ((spec_WordOk.f k a0).bind fun t194 => (if t194 = true then (if 0 < (y191.length : Int) then (spec_Pad.l0 k a0 (y191.set (0 : Int).toNat (((a0.size : Int)) % 256)) 0) else (none)) else (some y191)))) else (none)
theorem spec_Pad.calls (k : Nat) (a0 : ByteArray) (r : List Int) (w : World) (h : spec_Pad.f k a0 = some r) :
    Calls Tryz.prog 102 #[.string a0] w fun e w' => ∃ v0_ : Value, e = .returned (v0_) ∧ Kd.R (Kd.int .u8) 5 w' w.heap.size (fun _ => True) v0_ r ∧ Below w.heap.size w w' := by
  have HB := Aside0.mk (Below.refl w.heap.size w)
  have H : (if 33 ≤ 281474976710656 then ((some (List.replicate 33 0 : List Int)).bind fun y191 => ((spec_WordOk.f k a0).bind fun t194 => (if t194 = true then (if 0 < (y191.length : Int) then (spec_Pad.l0 k a0 (y191.set (0 : Int).toNat (((a0.size : Int)) % 256)) 0) else (none)) else (some y191)))) else (none)) = some r := h
  clear h
  obtain ⟨c2b0, c2b1, H⟩ := qT2 H
  obtain ⟨y191, hy191⟩ : ∃ y_ : List Int, y_ = (List.replicate 33 0) := ⟨_, rfl⟩
  replace H : ((spec_WordOk.f k a0).bind fun t194 => (if t194 = true then (if 0 < (y191.length : Int) then (spec_Pad.l0 k a0 (y191.set (0 : Int).toNat (((a0.size : Int)) % 256)) 0) else (none)) else (some y191))) = some r := qY hy191 H
  have Ny191 := Aside0.mk hy191
  clear hy191
  obtain ⟨t194, A3, H⟩ := qX H
  try dsimp only at H
  by_cases c4 : t194 = true
  · subst c4
    have H1 : (if 0 < (y191.length : Int) then (spec_Pad.l0 k a0 (y191.set (0 : Int).toNat (((a0.size : Int)) % 256)) 0) else (none)) = some r := by rw [if_pos rfl] at H; exact H
    clear H
    have H := H1
    clear H1
    obtain ⟨c5, H⟩ := qU H
    have c5b0 : decide (0 < (y191.length : Int)) = true := decide_eq_true c5
    have c5b1 : decide (0 < y191.length) = true := decide_eq_true (by omega)
    clear c5
    obtain ⟨y195, hy195⟩ : ∃ y_ : List Int, y_ = (y191.set (0 : Int).toNat (((a0.size : Int)) % 256)) := ⟨_, rfl⟩
    replace H : (spec_Pad.l0 k a0 y195 0) = some r := qY hy195 H
    have Ny195 := Aside0.mk hy195
    clear hy195
    have H' := Aside0.mk H
    clear H
    go_enter Tryz.func102, Tryz.ntmps102
    go_wp2_with (first | ((with_reducible refine gate_dst (N := 5) rfl ?_); refine Kd.R_make (Kd.int .u8) _ 5 rfl (N := 5) rfl 22 _ _ rfl 33 rfl rfl Tryz.underlying22 (.int .u8 0) 1 info5 rfl (by decide) (by omega) 0 (ok := fun _ => True) (okp := fun _ => True) rfl (fun _ hk => hk) trivial (by omega) (by omega) (Below.refl _ _) (Nat.le_refl _) ?_; intro v192 w7 ho8 hb hg_ hnew_; clear hg_ hnew_; (first | rw [← Ny191.out] at ho8 | (simp only [Int.reduceToNat] at ho8; rw [← Ny191.out] at ho8)); have HO193 := Aside0.mk (Kd.R_lower ho8 (below_size (qS0 HB))); replace HB := Aside0.mk (below_step (qS0 HB) hb); clear hb ho8) | ((with_reducible refine gate_callee (f := 100) rfl ?_); refine goesL_ (some 7) rfl rfl Tryz.func100 (by kernel_rfl) rfl #[.string a0] rfl qL ?_; (with_reducible refine (spec_WordOk.calls k a0 true _ A3.out).mono ?_); rintro e w' ⟨rfl, ⟨nd, rfl⟩⟩; refine ⟨_, rfl, ?_⟩; (try (rw [drewN_self w7]; generalize hq_ : World.drewN w7 _ = w7; have n0_ : Aside0 (Kd.R (Kd.int .u8) 5 w7 w.heap.size (fun _ => True) v192 y191) := ⟨by rw [← hq_]; exact (qR HO193)⟩; have n1_ : Aside0 (Below w.heap.size w w7) := ⟨by rw [← hq_]; exact (qS0 HB)⟩; clear HO193 HB hq_; have HO193 := n0_; have HB := n1_; clear n0_ n1_)); have p6 : 0 ≤ (0 : Int) := (by omega); have q6 : (0 : Int) < ((y191.length : Int) : Int) := qO; have qi6 : (0 < y191.length) = True := eq_true (by omega); obtain ⟨go6, co6, eo6, gb6, gl6, cl6, HG6⟩ := Kd.R_form HO193.out (by omega); (first | cases eo6 | (injection eo6 with ea_ en_ ec_; (first | subst ea_ | (injection ea_ with ea_; subst ea_)); subst ec_; clear en_)); have GB6 := Aside0.mk gb6; have GG6 := Aside0.mk HG6; clear gb6 gl6 HG6; obtain ⟨hx6_0, hf6_0⟩ := Kd.R_celln 0 HO193.out (0 : Int) p6 q6; (try rw [show ((0 : Int)).toNat = 0 from rfl] at hx6_0); (try simp only [Nat.reduceMul, Nat.zero_mul, Nat.zero_add, Nat.reduceAdd] at hx6_0); (try rw [show ((0 : Int)).toNat = 0 from rfl] at hf6_0); (try simp only [Nat.reduceMul, Nat.zero_mul, Nat.zero_add, Nat.reduceAdd] at hf6_0); replace p6 := eq_true p6; replace q6 := eq_true q6; obtain ⟨hy9_, hz9_⟩ := Kd.R_celln 0 HO193.out (0 : Int) (by omega) (qO); (try simp only [Int.reduceToNat, Int.toNat_zero, Int.toNat_ofNat, Nat.reduceMul, Nat.zero_mul, Nat.zero_add] at hy9_ hz9_); (try rw [show ((0 : Int)).toNat = 0 from rfl] at hy9_); (try rw [show ((0 : Int)).toNat = 0 from rfl] at hz9_); have HP9 := Kd.R_putg HO193.out (0 : Int) (((a0.size : Int)) % 256)) | ((with_reducible refine gate_store (t := 5) (p := 14) rfl ?_); refine store_event (t := 5) (p := 14) (v := ?vo_w10) (w1 := (w7.setCell ⟨go6, (0 : Int).toNat, none⟩ (.int .u8 (((a0.size : Int)) % 256)))) ?hg ?ho ?hn ?hr ?_; (case ho => rfl); (case hg => rfl); (case hn => rfl); (case hr => first | (go_simp; done) | (go_simp; rfl)); intro w10 hw; have hg : w7.grownBy w10 (some go6) := (by rw [hw]; exact HP9.2); have hp_ : Kd.R (Kd.int .u8) 5 w10 w.heap.size (fun _ => True) (.slice (some ⟨go6, 0, none⟩) y191.length co6) y195 := (by rw [hw, Ny195.out]; exact HP9.1); clear HP9; replace HO193 := Aside0.mk (hp_); replace HB := Aside0.mk ((by rw [hw]; exact below_set (HB.out) GB6.out : Below w.heap.size w w10)); clear hg hw hp_))
    go_loopg [4] k (fun kq v4 w' => ∃ (x3_1 : List Int) (x4_1 : Int), v4 = .int .i64 x4_1 ∧ Aside0 (spec_Pad.l0 kq a0 x3_1 x4_1 = some r) ∧ Aside0 (kq ≤ k) ∧ Aside0 (Kd.R (Kd.int .u8) 5 w' w.heap.size (fun _ => True) (.slice (some ⟨go6, 0, none⟩) y191.length co6) x3_1) ∧ Aside0 (Below w.heap.size w w'))
    case atStart => exact ⟨(y195), (0), qV, H', ⟨Nat.le_refl _⟩, ⟨qR HO193⟩, ⟨qS0 HB⟩⟩
    case round =>
      clear H'
      try clear c2b0
      try clear c2b1
      try clear c4
      try clear c5b0
      try clear c5b1
      try clear p6
      try clear q6
      try clear hx6
      try clear qi6
      try clear hf6
      try clear hx6_0
      obtain ⟨x3_1, x4_1, rfl, HA, HK1, HO_3, HB⟩ := hrel
      have hl3_1 := (Kd.R_reads' HO_3.out).1
      rw [hl3_1] at HO_3
      (try simp only [hl3_1])
      cases gk with
      | zero => exact absurd HA.out (by simp [spec_Pad.l0])
      | succ k1 =>
        have H := HA.out
        clear HA
        simp only [spec_Pad.l0] at H
        rcases qI H with ⟨c11b0, H⟩ | ⟨c11b0, H⟩
        · obtain ⟨c12b0, H⟩ := qT H
          obtain ⟨ji14, hji14⟩ : ∃ j_ : Int, (wrap64 (x4_1 + 1)) = j_ := ⟨_, rfl⟩
          replace H : (if 0 ≤ (ji14) then (if (ji14) < (x3_1.length : Int) then (spec_Pad.l0 k1 a0 (x3_1.set ((ji14) : Int).toNat (bt a0 x4_1)) ji14) else (none)) else (none)) = some r := by first | (rw [hji14] at H; exact H) | (simp only [hji14] at H ⊢; exact H)
          have hji14w : (IntKind.i64.wrap (x4_1 + 1)) = ji14 := (i64_w _).trans hji14
          obtain ⟨c15b0, H⟩ := qT H
          obtain ⟨c16b0, H⟩ := qT H
          obtain ⟨y196, hy196⟩ : ∃ y_ : List Int, y_ = (x3_1.set ((ji14) : Int).toNat (bt a0 x4_1)) := ⟨_, rfl⟩
          replace H : (spec_Pad.l0 k1 a0 y196 ji14) = some r := qY hy196 H
          have Ny196 := Aside0.mk hy196
          clear hy196
          have H' := Aside0.mk H
          clear H
          have p13 : 0 ≤ (x4_1 : Int) := qO
          have q13 : x4_1 < (a0.size : Int) := qO
          have hx13 := bt_at a0 x4_1
          replace p13 := eq_true p13
          replace q13 := eq_true q13
          have p17 : 0 ≤ ((ji14) : Int) := qO
          have q17 : ((ji14) : Int) < ((x3_1.length : Int) : Int) := qO
          obtain ⟨hx17_0, hf17_0⟩ := Kd.R_celln 0 HO_3.out ((ji14) : Int) p17 q17
          replace p17 := eq_true p17
          replace q17 := eq_true q17
          have HP18 := Kd.R_putg HO_3.out ((ji14) : Int) (bt a0 x4_1)
          go_wp2_with (first | ((with_reducible refine gate_store (t := 5) (p := 27) rfl ?_); refine store_event (t := 5) (p := 27) (v := ?vo_w19) (w1 := (wr.setCell ⟨go6, ((ji14) : Int).toNat, none⟩ (.int .u8 (bt a0 x4_1)))) ?hg ?ho ?hn ?hr ?_; (case ho => rfl); (case hg => rfl); (case hn => rfl); (case hr => first | (go_simp; done) | (go_simp; rfl)); intro w19 hw; have hg : wr.grownBy w19 (some go6) := (by rw [hw]; exact HP18.2); have hp_ : Kd.R (Kd.int .u8) 5 w19 w.heap.size (fun _ => True) (.slice (some ⟨go6, 0, none⟩) x3_1.length co6) y196 := (by rw [hw, Ny196.out]; exact HP18.1); clear HP18; replace HO_3 := Aside0.mk (hp_); replace HB := Aside0.mk ((by rw [hw]; exact below_set (HB.out) GB6.out : Below w.heap.size w w19)); clear hg hw hp_))
          (try simp only [← hl3_1])
          go_roundg k1
          case measure => have := HK1.out; omega
          case rel => exact ⟨(y196), (ji14), (by first | rfl | (simp; done) | (simp only [← hji14] <;> (first | rfl | simp)) | (simp [*]; done)), H', ⟨by have := HK1.out; omega⟩, ⟨by (try simp only [hl3_1]); (with_reducible repeat (first | apply Kd.R_alloc | apply Kd.R_drewN | apply Kd.R_drew)); exact HO_3.out⟩, ⟨qS0 HB⟩⟩
        · obtain rfl := Option.some.inj H
          go_wp2
          go_ret
          exact ⟨_, qE, qR HO_3, qS0 HB⟩
  · replace c4 := Bool.eq_false_iff.mpr c4
    subst c4
    have H1 : (some y191) = some r := by rw [if_neg (show ¬ (false = true) by decide)] at H; exact H
    clear H
    have H := H1
    clear H1
    obtain rfl := Option.some.inj H
    go_enter Tryz.func102, Tryz.ntmps102
    go_wp2_with (first | ((with_reducible refine gate_dst (N := 5) rfl ?_); refine Kd.R_make (Kd.int .u8) _ 5 rfl (N := 5) rfl 22 _ _ rfl 33 rfl rfl Tryz.underlying22 (.int .u8 0) 1 info5 rfl (by decide) (by omega) 0 (ok := fun _ => True) (okp := fun _ => True) rfl (fun _ hk => hk) trivial (by omega) (by omega) (Below.refl _ _) (Nat.le_refl _) ?_; intro v192 w20 ho21 hb hg_ hnew_; clear hg_ hnew_; (first | rw [← Ny191.out] at ho21 | (simp only [Int.reduceToNat] at ho21; rw [← Ny191.out] at ho21)); have HO193 := Aside0.mk (Kd.R_lower ho21 (below_size (qS0 HB))); replace HB := Aside0.mk (below_step (qS0 HB) hb); clear hb ho21) | ((with_reducible refine gate_callee (f := 100) rfl ?_); refine goesL_ (some 7) rfl rfl Tryz.func100 (by kernel_rfl) rfl #[.string a0] rfl qL ?_; (with_reducible refine (spec_WordOk.calls k a0 false _ A3.out).mono ?_); rintro e w' ⟨rfl, ⟨nd, rfl⟩⟩; refine ⟨_, rfl, ?_⟩))
    go_ret
    exact ⟨_, qE, qR HO193, qS0 HB⟩
mutual
def spec_HashWord.j0 : Nat → Int → ByteArray → Bool → Option (Int)
  | 0, _, _, _ => none
  | k + 1, x0, x1, x18 => if x18 = true then (some (-1)) else ((spec_Pad.f k x1).bind fun t198 => (spec_HashWord.l0 k x0 t198 0))
def spec_HashWord.l0 : Nat → Int → List Int → Int → Option (Int)
  | 0, _, _, _ => none
  | k + 1, x5, x6, x7 => if x7 < (x6.length : Int) then (if 0 ≤ x7 then (spec_HashWord.l0 k (Int.tmod (wrap64 ((Go.bits .xor .i64 x5 (wrap64 (rd x6 x7))) * 16777619)) 4294967296) x6 (wrap64 (x7 + 1))) else (none)) else (some (Go.bits .xor .i64 x5 (wrap64 (Int.tdiv x5 65536))))
end
def spec_HashWord.f (k : Nat) (a0 : Int) (a1 : ByteArray) : Option (Int) := if a0 < 0 then (spec_HashWord.j0 k a0 a1 true) else (if a0 > 4294967295 then (spec_HashWord.j0 k a0 a1 true) else ((spec_WordOk.f k a1).bind fun t197 => (spec_HashWord.j0 k a0 a1 (!t197))))
theorem spec_HashWord.calls (k : Nat) (a0 : Int) (a1 : ByteArray) (r : Int) (w : World) (h : spec_HashWord.f k a0 a1 = some r) :
    Calls Tryz.prog 83 #[.int .i64 a0, .string a1] w fun e w' => e = .returned (.int .i64 r) ∧ Below w.heap.size w w' := by
  have HB := Aside0.mk (Below.refl w.heap.size w)
  have H : (if a0 < 0 then (spec_HashWord.j0 k a0 a1 true) else (if a0 > 4294967295 then (spec_HashWord.j0 k a0 a1 true) else ((spec_WordOk.f k a1).bind fun t197 => (spec_HashWord.j0 k a0 a1 (!t197))))) = some r := h
  clear h
  have HC3 := Aside0.mk H
  clear H
  go_enter Tryz.func83, Tryz.ntmps83
  go_upto_region 1 with (fail)
  go_cut [18] (fun v18 wc => ∃ (kq : Nat) (x18_2 : Bool), v18 = .bool x18_2 ∧ Aside0 (spec_HashWord.j0 kq a0 a1 x18_2 = some r) ∧ Aside0 (kq ≤ k) ∧ Aside0 (Below w.heap.size w wc))
  case first =>
    have H := HC3.out
    clear HC3
    rcases qI H with ⟨c4b0, H⟩ | ⟨c4b0, H⟩
    · (first | rw [c4b0] | (simp only [i64_w, i32_w]; rw [c4b0]) | skip)
      have H' := Aside0.mk H
      clear H
      go_wp2
      go_meet
      case rel => exact ⟨_, (true), qV, H', ⟨by first | omega | exact Nat.le_refl _⟩, ⟨qS0 HB⟩⟩
    · (first | rw [c4b0] | (simp only [i64_w, i32_w]; rw [c4b0]) | skip)
      rcases qI H with ⟨(c5b0 : decide (4294967295 < a0) = true), H⟩ | ⟨(c5b0 : decide (4294967295 < a0) = false), H⟩
      · have H' := Aside0.mk H
        clear H
        go_wp2
        go_meet
        case rel => exact ⟨_, (true), qV, H', ⟨by first | omega | exact Nat.le_refl _⟩, ⟨qS0 HB⟩⟩
      · obtain ⟨t197, A6, H⟩ := qX H
        replace H : (spec_HashWord.j0 k a0 a1 (!t197)) = some r := H
        have H' := Aside0.mk H
        clear H
        go_wp2_with (first | (go_at_call 100; (with_reducible refine (spec_WordOk.calls k a1 t197 _ A6.out).mono ?_); rintro e w' ⟨rfl, ⟨nd, rfl⟩⟩))
        go_meet
        case rel => exact ⟨_, (!t197), qV, H', ⟨by first | omega | exact Nat.le_refl _⟩, ⟨qS0 HB⟩⟩
  case rest =>
    clear HC3
    try clear c4b0
    try clear c5b0
    obtain ⟨kq, x18_2, rfl, HA, HJ2, HB⟩ := hcut
    cases kq with
    | zero => exact absurd HA.out (by simp [spec_HashWord.j0])
    | succ kj2 =>
      have H := HA.out
      clear HA
      simp only [spec_HashWord.j0] at H
      by_cases c7 : x18_2 = true
      · subst c7
        have H1 : (some (-1)) = some r := by rw [if_pos rfl] at H; exact H
        clear H
        have H := H1
        clear H1
        obtain rfl := Option.some.inj H
        go_wp2
        go_ret
        exact ⟨qE, qS0 HB⟩
      · replace c7 := Bool.eq_false_iff.mpr c7
        subst c7
        have H1 : ((spec_Pad.f kj2 a1).bind fun t198 => (spec_HashWord.l0 kj2 a0 t198 0)) = some r := by rw [if_neg (show ¬ (false = true) by decide)] at H; exact H
        clear H
        have H := H1
        clear H1
        obtain ⟨t198, A8, H⟩ := qX H
        replace H : (spec_HashWord.l0 kj2 a0 t198 0) = some r := H
        have H' := Aside0.mk H
        clear H
        go_wp2_with (first | ((with_reducible refine gate_callee (f := 102) rfl ?_); refine goesL_ (some 21) rfl rfl Tryz.func102 (by kernel_rfl) rfl #[.string a1] rfl qL ?_; (with_reducible refine (spec_Pad.calls kj2 a1 t198 _ A8.out).mono ?_); rintro e w9 ⟨v199, rfl, ho0, hb⟩; refine ⟨_, rfl, ?_⟩; have HO200 := Aside0.mk (Kd.R_lower ho0 (below_size (qS0 HB))); replace HB := Aside0.mk (below_step (qS0 HB) hb); (try clear hb); (try clear hb2); (try clear hk); (try clear hi); (try clear ho0)))
        go_loopg [5, 7] kj2 (fun kq v5 v7 w' => ∃ (x5_2 : Int) (x7_2 : Int), v5 = .int .i64 x5_2 ∧ v7 = .int .i64 x7_2 ∧ Aside0 (spec_HashWord.l0 kq x5_2 t198 x7_2 = some r) ∧ Aside0 (kq ≤ kj2) ∧ Aside0 (Kd.R (Kd.int .u8) 5 w' w.heap.size (fun _ => True) v199 t198) ∧ Aside0 (Below w.heap.size w w'))
        case atStart => exact ⟨(a0), (0), qV, qV, H', ⟨Nat.le_refl _⟩, ⟨qR HO200⟩, ⟨qS0 HB⟩⟩
        case round =>
          clear H'
          try clear c7
          obtain ⟨x5_2, x7_2, rfl, rfl, HA, HK2, HO_6, HB⟩ := hrel
          cases gk with
          | zero => exact absurd HA.out (by simp [spec_HashWord.l0])
          | succ k2 =>
            have H := HA.out
            clear HA
            simp only [spec_HashWord.l0] at H
            rcases qI H with ⟨c10b0, H⟩ | ⟨c10b0, H⟩
            · obtain ⟨c11b0, H⟩ := qT H
              have H' := Aside0.mk H
              clear H
              obtain ⟨Ao12, co12, eo12⟩ := Kd.R_slice HO_6.out
              subst eo12
              have p201 : 0 ≤ (x7_2 : Int) := qO
              have q201 : x7_2 < (t198.length : Int) := qO
              obtain ⟨ad201, e201, hx201_0⟩ := Kd.at_int (Kd.R_reads' HO_6.out).2.2 x7_2 p201 q201
              cases e201
              replace p201 := eq_true p201
              replace q201 := eq_true q201
              go_wp2
              go_roundg k2
              case measure => have := HJ2.out; have := HK2.out; omega
              case rel => exact ⟨(Int.tmod (wrap64 ((Go.bits .xor .i64 x5_2 (wrap64 (rd t198 x7_2))) * 16777619)) 4294967296), (wrap64 (x7_2 + 1)), qV, qV, H', ⟨by have := HJ2.out; have := HK2.out; omega⟩, ⟨qR HO_6⟩, ⟨qS0 HB⟩⟩
            · obtain rfl := Option.some.inj H
              obtain ⟨Ao13, co13, eo13⟩ := Kd.R_slice HO_6.out
              subst eo13
              go_wp2
              go_ret
              exact ⟨qE, qS0 HB⟩
def spec_l11Log.f (a0 : Int) : Option (Bool) := if a0 ≥ 0 then (some (decide (a0 ≤ 6))) else (some false)
theorem spec_l11Log.calls (a0 : Int) (r : Bool) (w : World) (h : spec_l11Log.f a0 = some r) :
    Calls Tryz.prog 84 #[.int .i64 a0] w fun e w' => e = .returned (.bool r) ∧ Drawn0 w w' := by
  have H : (if a0 ≥ 0 then (some (decide (a0 ≤ 6))) else (some false)) = some r := h
  clear h
  rcases qI H with ⟨(c2b0 : decide (0 ≤ a0) = true), H⟩ | ⟨(c2b0 : decide (0 ≤ a0) = false), H⟩
  · obtain rfl := Option.some.inj H
    go_enter Tryz.func84, Tryz.ntmps84
    go_wp2
    go_ret
    exact qZ
  · obtain rfl := Option.some.inj H
    go_enter Tryz.func84, Tryz.ntmps84
    go_wp2
    go_ret
    exact qZ
def spec_ShelfFor.f (k : Nat) (a0 : Int) (a1 : ByteArray) (a2 : Int) : Option (Int) := (spec_HashWord.f k a0 a1).bind fun t202 => (if t202 < 0 then (some (-1)) else ((spec_l11Log.f a2).bind fun t203 => (if t203 = true then ((spec_l02Pow.f k a2).bind fun t204 => (if t204 = 0 then (none) else (some (Int.tmod t202 t204)))) else (some (-1)))))
theorem spec_ShelfFor.calls (k : Nat) (a0 : Int) (a1 : ByteArray) (a2 : Int) (r : Int) (w : World) (h : spec_ShelfFor.f k a0 a1 a2 = some r) :
    Calls Tryz.prog 51 #[.int .i64 a0, .string a1, .int .i64 a2] w fun e w' => e = .returned (.int .i64 r) ∧ Below w.heap.size w w' := by
  have HB := Aside0.mk (Below.refl w.heap.size w)
  have H : ((spec_HashWord.f k a0 a1).bind fun t202 => (if t202 < 0 then (some (-1)) else ((spec_l11Log.f a2).bind fun t203 => (if t203 = true then ((spec_l02Pow.f k a2).bind fun t204 => (if t204 = 0 then (none) else (some (Int.tmod t202 t204)))) else (some (-1)))))) = some r := h
  clear h
  obtain ⟨t202, A4, H⟩ := qX H
  try dsimp only at H
  rcases qI H with ⟨c5b0, H⟩ | ⟨c5b0, H⟩
  · obtain rfl := Option.some.inj H
    go_enter Tryz.func51, Tryz.ntmps51
    go_wp2_with (first | ((with_reducible refine gate_callee (f := 83) rfl ?_); refine goesL_ (some 10) rfl rfl Tryz.func83 (by kernel_rfl) rfl #[.int .i64 a0, .string a1] rfl qL ?_; (with_reducible refine (spec_HashWord.calls k a0 a1 t202 _ A4.out).mono ?_); rintro e w6 ⟨rfl, hb⟩; refine ⟨_, rfl, ?_⟩; replace HB := Aside0.mk (below_step (qS0 HB) hb); (try clear hb); (try clear hb2); (try clear hk); (try clear hi)))
    go_ret
    exact ⟨qE, qS0 HB⟩
  · obtain ⟨t203, A7, H⟩ := qX H
    try dsimp only at H
    by_cases c8 : t203 = true
    · subst c8
      have H1 : ((spec_l02Pow.f k a2).bind fun t204 => (if t204 = 0 then (none) else (some (Int.tmod t202 t204)))) = some r := by rw [if_pos rfl] at H; exact H
      clear H
      have H := H1
      clear H1
      obtain ⟨t204, A9, H⟩ := qX H
      replace H : (if t204 = 0 then (none) else (some (Int.tmod t202 t204))) = some r := H
      rcases qJ H with ⟨c10, H⟩ | ⟨c10, H⟩
      · exact absurd H (by simp)
      · have c10b0 : (t204 == 0) = false := beq_eq_false_iff_ne.mpr c10
        have c10b1 : (t204 != 0) = true := bne_iff_ne.mpr c10
        obtain rfl := Option.some.inj H
        go_enter Tryz.func51, Tryz.ntmps51
        go_wp2_with (first | ((with_reducible refine gate_callee (f := 83) rfl ?_); refine goesL_ (some 10) rfl rfl Tryz.func83 (by kernel_rfl) rfl #[.int .i64 a0, .string a1] rfl qL ?_; (with_reducible refine (spec_HashWord.calls k a0 a1 t202 _ A4.out).mono ?_); rintro e w11 ⟨rfl, hb⟩; refine ⟨_, rfl, ?_⟩; replace HB := Aside0.mk (below_step (qS0 HB) hb); (try clear hb); (try clear hb2); (try clear hk); (try clear hi)) | (go_at_call 84; (with_reducible refine (spec_l11Log.calls a2 true _ A7.out).mono ?_); rintro e w' ⟨rfl, ⟨nd, rfl⟩⟩) | ((with_reducible refine gate_callee (f := 22) rfl ?_); refine goesL_ (some 20) rfl rfl Tryz.func22 (by kernel_rfl) rfl #[.int .i64 a2] rfl qL ?_; (with_reducible refine (spec_l02Pow.calls k a2 t204 _ A9.out).mono ?_); rintro e w' ⟨rfl, ⟨nd, rfl⟩⟩; refine ⟨_, rfl, ?_⟩))
        go_ret
        exact ⟨qE, qS0 HB⟩
    · replace c8 := Bool.eq_false_iff.mpr c8
      subst c8
      have H1 : (some (-1)) = some r := by rw [if_neg (show ¬ (false = true) by decide)] at H; exact H
      clear H
      have H := H1
      clear H1
      obtain rfl := Option.some.inj H
      go_enter Tryz.func51, Tryz.ntmps51
      go_wp2_with (first | ((with_reducible refine gate_callee (f := 83) rfl ?_); refine goesL_ (some 10) rfl rfl Tryz.func83 (by kernel_rfl) rfl #[.int .i64 a0, .string a1] rfl qL ?_; (with_reducible refine (spec_HashWord.calls k a0 a1 t202 _ A4.out).mono ?_); rintro e w12 ⟨rfl, hb⟩; refine ⟨_, rfl, ?_⟩; replace HB := Aside0.mk (below_step (qS0 HB) hb); (try clear hb); (try clear hb2); (try clear hk); (try clear hi)) | (go_at_call 84; (with_reducible refine (spec_l11Log.calls a2 false _ A7.out).mono ?_); rintro e w' ⟨rfl, ⟨nd, rfl⟩⟩))
      go_ret
      exact ⟨qE, qS0 HB⟩
def slices_Clone_int_int.f (l0 : List Int) : Option (List Int) := (some (([] : List Int) : List Int)).bind fun y205 => (if y205.length + l0.length < 17592186044416 then (some (y205 ++ l0)) else (none))
theorem slices_Clone_int_int.calls (A0 : Option Addr) (c0 : Nat) (l0 : List Int) (r : List Int) (w : World) (hr0 : Kd.C (Kd.int .i64) w A0 l0.length l0) (hc0 : l0.length ≤ c0) (h : slices_Clone_int_int.f l0 = some r) :
    Calls Tryz.prog 62 #[.slice A0 l0.length c0] w fun e w' => ∃ v0_ : Value, e = .returned (v0_) ∧ Kd.R (Kd.int .i64) 3 w' w.heap.size (fun _ => True) v0_ r ∧ Below w.heap.size w w' := by
  have HR0 := Aside0.mk hr0
  have HC0 := Aside0.mk hc0
  clear hr0 hc0
  have HB := Aside0.mk (Below.refl w.heap.size w)
  have H : ((some (([] : List Int) : List Int)).bind fun y205 => (if y205.length + l0.length < 17592186044416 then (some (y205 ++ l0)) else (none))) = some r := h
  clear h
  obtain ⟨y205, hy205⟩ : ∃ y_ : List Int, y_ = (([] : List Int)) := ⟨_, rfl⟩
  replace H : (if y205.length + l0.length < 17592186044416 then (some (y205 ++ l0)) else (none)) = some r := qY hy205 H
  have Ny205 := Aside0.mk hy205
  clear hy205
  obtain ⟨c2, H⟩ := qU H
  have LMc2 := Aside0.mk c2
  clear c2
  obtain ⟨y208, hy208⟩ : ∃ y_ : List Int, y_ = (y205 ++ l0) := ⟨_, rfl⟩
  replace H : (some y208) = some r := qY hy208 H
  have Ny208 := Aside0.mk hy208
  clear hy208
  obtain rfl := Option.some.inj H
  have q_eql : ∀ (w : World) (a : Option Addr) (n c : Nat), (binOp .eql 27 (.slice a n c) (.slice none 0 0)).run Tryz.prog w = .ok (.bool a.isNone) w := fun w a n c => Lib.run_eql_slice_nil w 27 3 a n c 0 0 Tryz.underlying27
  cases A0 with
  | none =>
    obtain rfl : l0 = [] := by
      cases hl : l0 with
      | nil => rfl
      | cons x xs =>
        have h2 := HR0.out.2.2
        rw [hl] at h2
        obtain ⟨a, ha, _⟩ := h2 (by simp)
        cases ha
    go_enter Tryz.func62, Tryz.ntmps62
    go_wp2
    go_ret
    refine ⟨_, rfl, ?_, HB.out⟩
    rw [Ny208.out, Ny205.out]
    exact Kd.R_nil _ _ _ _ _
  | some a0_ =>
    go_enter Tryz.func62, Tryz.ntmps62
    go_wp2_with (first | ((with_reducible refine gate_dst (N := 5) rfl ?_); refine Kd.R_lit (Kd.int .i64) _ 3 ?hg (N := 5) ?hd (xs := ([] : List Int)) (inner := []) (ok := fun _ => True) (okp := fun _ => True) ?hr ?hp (fun _ hk => hk) trivial (Below.refl _ _) (Nat.le_refl _) (by simp) ?_; (case hd => rfl); (case hg => rfl); (case hr => first | (go_simp; done) | (go_simp; rfl)); (case hp => exact (Reps.none _ _)); intro v206 w3 ho4 hb hg_ hnew_; clear hg_ hnew_; (first | rw [← Ny205.out] at ho4 | (simp only [Int.reduceToNat] at ho4; rw [← Ny205.out] at ho4)); have HO207 := Aside0.mk (Kd.R_lower ho4 (below_size (qS0 HB))); replace HB := Aside0.mk (below_step (qS0 HB) hb); clear hb ho4) | ((with_reducible refine gate_builtin (b := .append) (xs := #[.tmp 5, .tmp 6]) rfl ?_); at_builtin; refine Kd.R_append_rows (Kd.int .i64) (w0 := w) w.heap.size rfl (.tmp 5) (.tmp 6) 27 3 (.int .i64 0) 8 rfl Tryz.underlying27 info3 rfl (by decide) (by omega) v206 y205 l0 _ _ _ (fun _ => True) (fun _ => False) rfl rfl ?aO ?aR (fun _ _ h => h) (fun _ h => h.elim) ?aF ?aB ?aS ?aL ?_; (case aR => exact qW (Kd.C_below HR0.out HB.out)); (case aB => exact (qS0 HB)); (case aF => exact (fun _ _ => trivial)); (case aO => exact (qR HO207)); (case aS => exact (below_size (qS0 HB))); (case aL => have := LMc2.out; omega); intro v209 w5 ho hb hg hat; rw [← Ny208.out] at ho; replace HB := Aside0.mk (hb); have HO210 := Aside0.mk (ho); clear HO207; clear ho hb hg hat))
    go_ret
    exact ⟨_, qE, qR HO210, qS0 HB⟩
end Go.Proofs.YtefojjhffjpeoaaGreatDoor.QA
namespace Go.Proofs.YtefojjhffjpeoaaGreatDoor.V
open Go Go.RowKit Go.Proofs.YtefojjhffjpeoaaGreatDoor.QA Go.Proofs.YtefojjhffjpeoaaGreatDoorW.PrintWords
set_option linter.unusedVariables false
set_option linter.unusedSimpArgs false
noncomputable def e91 (k : Nat) : List (SV DD) → Option ByteArray
  | [.v (.string s)] => impl_Fold.f k s
  | _ => none
noncomputable def e80 (k : Nat) : List (SV DD) → Option ByteArray
  | [.v (.string s)] => spec_Fold.f k s
  | _ => none
noncomputable def e92 (k : Nat) : List (SV DD) → Option (List ByteArray × Bool)
  | [.v (.string s), .v (.int .i64 n)] => impl_Tokens.f k s n
  | _ => none
noncomputable def e82 (k : Nat) : List (SV DD) → Option (List ByteArray × Bool)
  | [.v (.string s), .v (.int .i64 n)] => spec_Tokens.f k s n
  | _ => none
noncomputable def e93 (k : Nat) : List (SV DD) → Option Int
  | [.v (.int .i64 a), .v (.string s), .v (.int .i64 b)] => impl_ShelfFor.f k a s b
  | _ => none
noncomputable def e51 (k : Nat) : List (SV DD) → Option Int
  | [.v (.int .i64 a), .v (.string s), .v (.int .i64 b)] => spec_ShelfFor.f k a s b
  | _ => none
noncomputable def e62 (_k : Nat) : List (SV DD) → Option (List Int)
  | [.ro 3 xs] => if xs.length ≤ 9223372036854775807 then slices_Clone_int_int.f xs else none
  | _ => none
noncomputable def extD : (f : FuncId) → Option (Nat → List (SV DD) → Option (RT DD (sigD f).all))
  | 91 => some e91
  | 80 => some e80
  | 92 => some e92
  | 82 => some e82
  | 93 => some e93
  | 51 => some e51
  | 62 => some e62
  | _ => none
def TabD (W : World) : TabP := TabW W
theorem tabD_kept (W : World) : TabKept (TabD W) := tabW_kept W
theorem tab_of {W w : World} {F : Nat → Prop} (hG : TabG W) (h : TabD W F w) : TabG w :=
  have H := G_below (tabW_below (W := W) (w := w) (F := ⟨F, fun _ _ => False⟩) h) hG
  ⟨H.utf8⟩
def callB (P : Program) (f : FuncId) : Bool := match P.funcs[f]? with
  | some fn => !(fn.name == "runtime.NumGoroutine") && fn.body.isSome
  | none => false
theorem callB_ok {P : Program} {f : FuncId} (h : callB P f = true) : Callable P f := by
  unfold callB at h
  split at h
  · rename_i fn hf
    simp only [Bool.and_eq_true, Bool.not_eq_true'] at h
    obtain ⟨c, hc⟩ := Option.isSome_iff_exists.1 h.2
    exact ⟨fn, c, hf, h.1, hc⟩
  · cases h
theorem row_scal {α : Type} (t : TypeId) (mkv : α → Value) (one : ∀ x, (mkv x).oneCell' = true) (toD : α → LD.D t) (hsz : (LD.ti t).sz = 1) (hcell : ∀ x, (LD.cell t (toD x)).getD 0 .dead = .v (mkv x))
    {w' : World} {base : Nat} {ok : Nat → Prop} {v0 : Value} {xs : List α} (h : Kd.R (Kd.scalar mkv one) t w' base ok v0 xs) : RowOk LD w' ⟨fun _ => False, fun _ _ => False⟩ v0 t (xs.map toD) ∧ v0.oneCell' = true ∧ ∀ k, v0.ownBlock = some k → base ≤ k := by
  obtain ⟨_, inner, ho, hrep⟩ := h
  have hlen : inner.length = xs.length := by have := hrep.1; rw [show (Kd.scalar mkv one).sz = 1 from rfl, Nat.mul_one] at this; exact this
  have hget : ∀ j (hj : j < inner.length), inner[j] = mkv (xs[j]'(by omega)) := fun j hj => by
    have h2 : (inner.drop (j * 1)).take 1 = [mkv (xs[j]'(by omega))] := hrep.2 j (xs[j]'(by omega)) (List.getElem?_eq_getElem (by omega))
    have e : (inner.drop (j * 1)).take 1 = [inner[j]] := by rw [Nat.mul_one, List.drop_eq_getElem_cons hj]; rfl
    rw [e] at h2
    injection h2
  have hm : (xs.map toD).length = xs.length := List.length_map ..
  refine ⟨⟨inner, ⟨by rw [ho.1, hm, hsz]; rfl, ?_⟩, fun u hu => ?_, fun i j hi hj => ?_⟩, ?_, fun k hk => own_base ho k hk⟩
  · rcases ho.2 with h1 | ⟨g, cap, cur, h1, h2, h3⟩
    · exact .inl (by rw [hm]; exact h1)
    · refine .inr ⟨g, cap, cur, (0, 0), by rw [hm]; exact h1, .inl rfl, ?_⟩
      rw [hm, hsz]
      exact h3
  · obtain ⟨j, hj, rfl⟩ := List.getElem_of_mem hu
    rw [hget j hj]; exact one _
  · rw [hsz] at hj ⊢
    obtain rfl : j = 0 := by omega
    have hi' : i < inner.length := by rw [hlen, ← hm]; exact hi
    have e : (xs.map toD)[i] = toD (xs[i]'(by omega)) := List.getElem_map ..
    rw [Nat.mul_one, Nat.add_zero, getD_lt hi', hget i hi', e, hcell]
    exact CR.v (L := LD) _ (one _)
  · rcases ho.2 with ⟨rfl, _⟩ | ⟨g, cap, cur, rfl, _⟩ <;> rfl
theorem row_strings {w' : World} {base : Nat} {ok : Nat → Prop} {v0 : Value} {xs : List ByteArray} (h : Kd.R Kd.string 9 w' base ok v0 xs) : RowOk LD w' ⟨fun _ => False, fun _ _ => False⟩ v0 9 xs ∧ v0.oneCell' = true ∧ ∀ k, v0.ownBlock = some k → base ≤ k := by
  have := row_scal 9 Value.string (fun _ => rfl) id rfl (fun _ => rfl) h
  have e : (List.map id xs : List (LD.D 9)) = xs := List.map_id (α := ByteArray) xs
  exact ⟨e ▸ this.1, this.2⟩
theorem row_ints {w' : World} {base : Nat} {ok : Nat → Prop} {v0 : Value} {xs : List Int} (h : Kd.R (Kd.int .i64) 3 w' base ok v0 xs) : RowOk LD w' ⟨fun _ => False, fun _ _ => False⟩ v0 3 xs ∧ v0.oneCell' = true ∧ ∀ k, v0.ownBlock = some k → base ≤ k := by
  have := row_scal 3 (Value.int .i64) (fun _ => rfl) id rfl (fun _ => rfl) h
  have e : (List.map id xs : List (LD.D 3)) = xs := List.map_id (α := Int) xs
  exact ⟨e ▸ this.1, this.2⟩
theorem shown_ints {w : World} {F : FS} {xs : List Int} {u : Value} (h : CR LD w F (.ro 3 (xs : List (DD 3))) u) (hm : xs.length ≤ 9223372036854775807) : ∃ A c, u = .slice A xs.length c ∧ xs.length ≤ c ∧ Kd.C (Kd.int .i64) w A xs.length xs := by
  obtain ⟨A, c, rfl, hr⟩ := h.row
  by_cases hn : xs = []
  · subst hn
    exact ⟨A, c, rfl, Nat.zero_le _, rfl, Nat.zero_le _, fun h => absurd h (Nat.lt_irrefl _)⟩
  · obtain ⟨hc, b, off, f, rfl, _, hf, hcr⟩ := hr hn
    refine ⟨_, c, rfl, hc, rfl, hm, fun _ => ⟨_, rfl, fun j p hj => ?_⟩⟩
    have hjl : j < xs.length := (List.getElem?_eq_some_iff.1 hj).1
    have h1 := hf j 0 hjl (by decide)
    have h2 : CR LD w F (.v (.int .i64 (xs[j] : Int))) (f j 0) := hcr j 0 hjl (by decide)
    have h3 := h2.v_inv'
    have hp : xs[j] = p := by rw [List.getElem?_eq_getElem hjl] at hj; exact Option.some.inj hj
    refine ⟨[.int .i64 p], rfl, rfl, fun i u hu => ?_⟩
    have hi : i = 0 := by
      have := (List.getElem?_eq_some_iff.1 hu).1
      simpa using this
    subst hi
    obtain rfl : Value.int .i64 p = u := by simpa using hu
    rw [h3, hp] at h1
    have hs1 : (LD.ti 3).sz = 1 := rfl
    rw [hs1] at h1
    rw [show (Kd.int .i64).sz = 1 from rfl, show (⟨b, off, none⟩ : Addr).add (j * 1 + 0) = ⟨b, off + j * 1 + 0, none⟩ by unfold Addr.add; split <;> simp_all]
    exact h1
section
variable {L : Lay} {E : Ent} {V : Vl}
theorem postV_rowB {s : Sig} {q : Option Nat} {lv : Nat → LV} {t : TypeId} {xs : List (L.D t)} {bb : Bool} {v : Value} {w' : World} (ha : E.adr = []) (hold : ∀ k, E.F0 k → k < E.w0.heap.size) (hb : RowKit.Below E.w0.heap.size E.w0 w') (h1 : v.oneCell' = true) (hs : s.res = [[.fr t], [.bool]]) (hg : s.aggs = [false, false]) (hf : s.fin = []) (hrow : RowOk L w' ⟨fun _ => False, fun _ _ => False⟩ v t xs) (hk : ∀ k, v.ownBlock = some k → E.w0.heap.size ≤ k) : PostV L E s q [.fr t xs, .v (.bool bb)] [v, .bool bb] lv (.tuple #[v, .bool bb]) w' := by
  have nc : ctOf (([.fr t xs, .v (.bool bb)] : List (SV L.D)).drop (s.res.flatten.length + s.fin.flatten.length)) = none := by rw [hs, hf]; rfl
  have nl : ∀ l, ¬ NL s q ([.fr t xs, .v (.bool bb)] : List (SV L.D)) l := fun l ⟨m, n, _, h, _⟩ => by rw [nc] at h; cases h
  have two : ∀ c, c < ([.fr t xs, .v (.bool bb)] : List (SV L.D)).length → c = 0 ∨ c = 1 := fun c hc => by simp at hc; omega
  have nfr : ¬ IsFr (([.fr t xs, .v (.bool bb)] : List (SV L.D)).getD 1 .dead) := fun ⟨_, _, e⟩ => by cases e
  refine ⟨rfl, by rw [hs, hg]; rfl, fun u hu => ?_, fun c t' xs' hc e => ?_, fun c hc hn => ?_, fun c c' k ho ho' => ?_, fun c k ho => ?_, fun l hl => absurd hl (nl l), fun l k hl => absurd hl (nl l), fun l l' k hl => absurd hl (nl l), (fun m n _ h => by rw [nc] at h; cases h), (fun q p hq => by rw [ha] at hq; simp at hq), (fun q p hq => by rw [ha] at hq; simp at hq), hb.size, fun k hk _ => hb.block k hk, hb.os, hb.tape, hb.output⟩
  · rcases List.mem_cons.1 hu with rfl | hu
    · exact h1
    · rw [List.mem_singleton.1 hu]; rfl
  · rcases two c hc with rfl | rfl
    · simp only [List.getD_cons_zero] at e ⊢
      injection e with e1 e2
      subst e1
      obtain rfl := eq_of_heq e2
      exact hrow.mono (.sub (fun k hk => hk.elim) fun _ _ hl => hl.elim) fun _ _ => rfl
    · cases e
  · rcases two c hc with rfl | rfl
    · exact absurd ⟨t, xs, rfl⟩ hn
    · exact .v _ rfl
  · rcases two c ho.1 with rfl | rfl
    · rcases two c' ho'.1 with rfl | rfl
      · rfl
      · exact absurd ho'.2.1 nfr
    · exact absurd ho.2.1 nfr
  · rcases two c ho.1 with rfl | rfl
    · have := hk k ho.2.2
      exact ⟨fun hf => by have := hold k hf; omega, .inl this, (fun p hp => by rw [ha] at hp; cases hp)⟩
    · exact absurd ho.2.1 nfr
end
section
variable {W : World}
theorem e91_ok (hW : TabG W) (k : Nat) (q : List (SV DD)) (r : ByteArray) (h : e91 k q = some r) : Meets Tryz.prog LD (TabD W) (sigD 91) 91 q r ∧ Callable Tryz.prog 91 := by
  refine ⟨fun E V vals hT hnt hq hl hr => ?_, callB_ok (by kernel_rfl)⟩
  unfold e91 at h
  split at h
  · rename_i s
    obtain rfl := start_vals hr hl (xs := [.string s]) rfl
    have ha := start_adr hr (start_flatv (xs := [.string s]) rfl)
    refine (impl_Fold.calls k s r E.w0 h (tab_of hW hT)).mono ?_
    rintro e w' ⟨rfl, hb⟩
    exact ⟨[.string r], fun _ => (0, undef), postV_flat (s := sigD 91) ha hb rfl (by simp [Value.oneCell']) rfl⟩
  · cases h
theorem e80_ok (k : Nat) (q : List (SV DD)) (r : ByteArray) (h : e80 k q = some r) : Meets Tryz.prog LD (TabD W) (sigD 80) 80 q r ∧ Callable Tryz.prog 80 := by
  refine ⟨fun E V vals hT hnt hq hl hr => ?_, callB_ok (by kernel_rfl)⟩
  unfold e80 at h
  split at h
  · rename_i s
    obtain rfl := start_vals hr hl (xs := [.string s]) rfl
    have ha := start_adr hr (start_flatv (xs := [.string s]) rfl)
    refine (spec_Fold.calls k s r E.w0 h).mono ?_
    rintro e w' ⟨rfl, hb⟩
    exact ⟨[.string r], fun _ => (0, undef), postV_flat (s := sigD 80) ha hb rfl (by simp [Value.oneCell']) rfl⟩
  · cases h
theorem e92_ok (hW : TabG W) (k : Nat) (q : List (SV DD)) (r : List ByteArray × Bool) (h : e92 k q = some r) : Meets Tryz.prog LD (TabD W) (sigD 92) 92 q r ∧ Callable Tryz.prog 92 := by
  refine ⟨fun E V vals hT hnt hq hl hr => ?_, callB_ok (by kernel_rfl)⟩
  unfold e92 at h
  split at h
  · rename_i s n
    obtain rfl := start_vals hr hl (xs := [.string s, .int .i64 n]) rfl
    have ha := start_adr hr (start_flatv (xs := [.string s, .int .i64 n]) rfl)
    obtain ⟨r1, r2⟩ := r
    refine (impl_Tokens.calls k s n r1 r2 E.w0 h (tab_of hW hT)).mono ?_
    rintro e w' ⟨v0, rfl, hR, hb⟩
    obtain ⟨h1, h2, h3⟩ := row_strings hR
    exact ⟨[v0, .bool r2], fun _ => (0, undef), postV_rowB (L := LD) (s := sigD 92) (t := 9) (xs := r1) ha hr.old hb h2 rfl rfl rfl h1 h3⟩
  · cases h
theorem e82_ok (k : Nat) (q : List (SV DD)) (r : List ByteArray × Bool) (h : e82 k q = some r) : Meets Tryz.prog LD (TabD W) (sigD 82) 82 q r ∧ Callable Tryz.prog 82 := by
  refine ⟨fun E V vals hT hnt hq hl hr => ?_, callB_ok (by kernel_rfl)⟩
  unfold e82 at h
  split at h
  · rename_i s n
    obtain rfl := start_vals hr hl (xs := [.string s, .int .i64 n]) rfl
    have ha := start_adr hr (start_flatv (xs := [.string s, .int .i64 n]) rfl)
    obtain ⟨r1, r2⟩ := r
    refine (spec_Tokens.calls k s n r1 r2 E.w0 h).mono ?_
    rintro e w' ⟨v0, rfl, hR, hb⟩
    obtain ⟨h1, h2, h3⟩ := row_strings hR
    exact ⟨[v0, .bool r2], fun _ => (0, undef), postV_rowB (L := LD) (s := sigD 82) (t := 9) (xs := r1) ha hr.old hb h2 rfl rfl rfl h1 h3⟩
  · cases h
theorem e93_ok (k : Nat) (q : List (SV DD)) (r : Int) (h : e93 k q = some r) : Meets Tryz.prog LD (TabD W) (sigD 93) 93 q r ∧ Callable Tryz.prog 93 := by
  refine ⟨fun E V vals hT hnt hq hl hr => ?_, callB_ok (by kernel_rfl)⟩
  unfold e93 at h
  split at h
  · rename_i a s b
    obtain rfl := start_vals hr hl (xs := [.int .i64 a, .string s, .int .i64 b]) rfl
    have ha := start_adr hr (start_flatv (xs := [.int .i64 a, .string s, .int .i64 b]) rfl)
    refine (impl_ShelfFor.calls k a s b r E.w0 h).mono ?_
    rintro e w' ⟨rfl, hb⟩
    exact ⟨[.int .i64 r], fun _ => (0, undef), postV_flat (s := sigD 93) ha hb rfl (by simp [Value.oneCell']) rfl⟩
  · cases h
theorem e51_ok (k : Nat) (q : List (SV DD)) (r : Int) (h : e51 k q = some r) : Meets Tryz.prog LD (TabD W) (sigD 51) 51 q r ∧ Callable Tryz.prog 51 := by
  refine ⟨fun E V vals hT hnt hq hl hr => ?_, callB_ok (by kernel_rfl)⟩
  unfold e51 at h
  split at h
  · rename_i a s b
    obtain rfl := start_vals hr hl (xs := [.int .i64 a, .string s, .int .i64 b]) rfl
    have ha := start_adr hr (start_flatv (xs := [.int .i64 a, .string s, .int .i64 b]) rfl)
    refine (spec_ShelfFor.calls k a s b r E.w0 h).mono ?_
    rintro e w' ⟨rfl, hb⟩
    exact ⟨[.int .i64 r], fun _ => (0, undef), postV_flat (s := sigD 51) ha hb rfl (by simp [Value.oneCell']) rfl⟩
  · cases h
theorem e62_ok (k : Nat) (q : List (SV DD)) (r : List Int) (h : e62 k q = some r) : Meets Tryz.prog LD (TabD W) (sigD 62) 62 q r ∧ Callable Tryz.prog 62 := by
  refine ⟨fun E V vals hT hnt hq hl hr => ?_, callB_ok (by kernel_rfl)⟩
  unfold e62 at h
  split at h
  · rename_i xs
    split at h
    · rename_i hm
      have hn : ∀ s ∈ ([.ro 3 xs] : List (SV DD)), ∀ cs, s ≠ .pb cs := fun s hs cs e => by rw [List.mem_singleton.1 hs] at e; cases e
      have ha := start_adr hr hn
      have hv := (start_arg hr (p := 0) (show 0 < 1 by omega) (s := .ro 3 xs) rfl (fun cs e => by cases e)).ro_inv
      have hlen : vals.length = 1 := (hl.1 (ctOf_none fun s hs n e => by rw [List.mem_singleton.1 hs] at e; cases e)).symm
      obtain ⟨u, rfl⟩ := List.length_eq_one_iff.1 hlen
      obtain ⟨A, c, hu, hc, hC⟩ := shown_ints (u := u) hv hm
      subst hu
      refine (slices_Clone_int_int.calls A c xs r E.w0 hC hc h).mono ?_
      rintro e w' ⟨v0, rfl, hR, hb⟩
      obtain ⟨h1, h2, h3⟩ := row_ints hR
      exact ⟨[v0], fun _ => (0, undef), postV_row (L := LD) (s := sigD 62) (t := 3) (xs := r) ha hr.old hb h2 rfl rfl h1 h3⟩
    · cases h
  · cases h
theorem ext_ok (hW : TabG W) : ∀ (f : FuncId) (h : Nat → List (SV DD) → Option (RT DD (sigD f).all)), extD f = some h → ∀ k q r, h k q = some r → Meets Tryz.prog LD (TabD W) (sigD f) f q r ∧ Callable Tryz.prog f := by
  intro f h hx k q r hr
  unfold extD at hx
  split at hx
  · injection hx with hx; subst hx; exact e91_ok hW k q r hr
  · injection hx with hx; subst hx; exact e80_ok k q r hr
  · injection hx with hx; subst hx; exact e92_ok hW k q r hr
  · injection hx with hx; subst hx; exact e82_ok k q r hr
  · injection hx with hx; subst hx; exact e93_ok k q r hr
  · injection hx with hx; subst hx; exact e51_ok k q r hr
  · injection hx with hx; subst hx; exact e62_ok k q r hr
  · cases hx
end
end Go.Proofs.YtefojjhffjpeoaaGreatDoor.V
namespace Go.Proofs.YtefojjhffjpeoaaGreatDoor.V
open Go
noncomputable abbrev CD : Ctx := { P := Tryz.prog, L := LD, sig := sigD, live := liveD, ext := extD }
end Go.Proofs.YtefojjhffjpeoaaGreatDoor.V
