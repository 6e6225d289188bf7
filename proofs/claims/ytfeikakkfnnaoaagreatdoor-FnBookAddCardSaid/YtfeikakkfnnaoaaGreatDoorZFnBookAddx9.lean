/- Part of the proof of the law FnBookAdd: what it uses of the texts that this session and the kit's print wrote. -/
import Derived.Test.YtfeikakkfnnaoaaGreatDoorZFnBookAddx6
import Derived.Test.YtfeikakkfnnaoaaGreatDoorZFnBookAddx7
import Derived.Test.YtfeikakkfnnaoaaGreatDoorZFnBookAddx8
import Derived.KernelRfl
import Derived.Test.YtfeikakkfnnaoaaGreatDoorProg
namespace Go.Proofs.YtfeikakkfnnaoaaGreatDoor.QA
open Go.RowKit Go.Proofs.YtfeikakkfnnaoaaGreatDoorW.PrintWords Go.Proofs.YtfeikakkfnnaoaaGreatDoorW.PrintLast Go.Proofs.YtfeikakkfnnaoaaGreatDoorW.PrintMore
attribute [local go_sem] max2_int min2_int max_two min_two max_three min_three max_four min_four
set_option linter.unusedVariables false
set_option linter.unusedSimpArgs false
set_option maxHeartbeats 8000000
set_option maxRecDepth 100000
mutual
def spec_HashWord.j0 : Nat → Int → ByteArray → Bool → Option (Int)
 | 0, _, _, _ => none
 | k + 1, x0, x1, x18 => if x18 = true then (some (-1)) else ((spec_Pad.f k x1).bind fun t206 => (spec_HashWord.l0 k x0 t206 0))
def spec_HashWord.l0 : Nat → Int → List Int → Int → Option (Int)
 | 0, _, _, _ => none
 | k + 1, x5, x6, x7 => if x7 < (x6.length : Int) then (if 0 ≤ x7 then (spec_HashWord.l0 k (Int.tmod (wrap64 ((Go.bits .xor .i64 x5 (wrap64 (rd x6 x7))) * 16777619)) 4294967296) x6 (wrap64 (x7 + 1))) else (none)) else (some (Go.bits .xor .i64 x5 (wrap64 (Int.tdiv x5 65536))))
end
def spec_HashWord.f (k : Nat) (a0 : Int) (a1 : ByteArray) : Option (Int) := if a0 < 0 then (spec_HashWord.j0 k a0 a1 true) else (if a0 > 4294967295 then (spec_HashWord.j0 k a0 a1 true) else ((spec_WordOk.f k a1).bind fun t205 => (spec_HashWord.j0 k a0 a1 (!t205))))
theorem spec_HashWord.calls (k : Nat) (a0 : Int) (a1 : ByteArray) (r : Int) (w : World) (h : spec_HashWord.f k a0 a1 = some r) :
  Calls Tryz.prog 161 #[.int .i64 a0, .string a1] w fun e w' => e = .returned (.int .i64 r) ∧ Below w.heap.size w w' := by
 (have HB := Aside0.mk (Below.refl w.heap.size w)); (have H : (if a0 < 0 then (spec_HashWord.j0 k a0 a1 true) else (if a0 > 4294967295 then (spec_HashWord.j0 k a0 a1 true) else ((spec_WordOk.f k a1).bind fun t205 => (spec_HashWord.j0 k a0 a1 (!t205))))) = some r := h); clear h; (have HC3 := Aside0.mk H); clear H
 go_enter Tryz.func161, Tryz.ntmps161
 go_upto_region 1 with (fail)
 go_cut [18] (fun v18 wc => ∃ (kq : Nat) (x18_2 : Bool), v18 = .bool x18_2 ∧ Aside0 (spec_HashWord.j0 kq a0 a1 x18_2 = some r) ∧ Aside0 (kq ≤ k) ∧ Aside0 (Below w.heap.size w wc))
 case first =>
  (have H := HC3.out); clear HC3
  rcases qI H with ⟨c4b0, H⟩ | ⟨c4b0, H⟩
  ·(first | rw [c4b0] | (simp only [i64_w, i32_w]; rw [c4b0]) | skip)
   (have H' := Aside0.mk H); clear H
   go_wp2
   go_meet
   case rel => exact ⟨_, (true), qV, H', ⟨by first | omega | exact Nat.le_refl _⟩, ⟨qS0 HB⟩⟩
  ·(first | rw [c4b0] | (simp only [i64_w, i32_w]; rw [c4b0]) | skip)
   rcases qI H with ⟨(c5b0 : decide (4294967295 < a0) = true), H⟩ | ⟨(c5b0 : decide (4294967295 < a0) = false), H⟩
   ·have H' := Aside0.mk H
    clear H
    go_wp2
    go_meet
    case rel => exact ⟨_, (true), qV, H', ⟨by first | omega | exact Nat.le_refl _⟩, ⟨qS0 HB⟩⟩
   ·obtain ⟨t205, A6, H⟩ := qX H
    (replace H : (spec_HashWord.j0 k a0 a1 (!t205)) = some r := H); (have H' := Aside0.mk H); clear H
    go_wp2_with (first | (go_at_call 56; (with_reducible refine (spec_WordOk.calls k a1 t205 _ A6.out).mono ?_); rintro e w' ⟨rfl, ⟨nd, rfl⟩⟩))
    go_meet
    case rel => exact ⟨_, (!t205), qV, H', ⟨by first | omega | exact Nat.le_refl _⟩, ⟨qS0 HB⟩⟩
 case rest =>
  clear HC3; (try clear c4b0); (try clear c5b0); (obtain ⟨kq, x18_2, rfl, HA, HJ2, HB⟩ := hcut)
  cases kq with
  | zero => exact absurd HA.out (by simp [spec_HashWord.j0])
  | succ kj2 =>
   (have H := HA.out); clear HA; (simp only [spec_HashWord.j0] at H)
   by_cases c7 : x18_2 = true
   ·subst c7
    (have H1 : (some (-1)) = some r := by rw [if_pos rfl] at H; exact H); clear H; (have H := H1); clear H1; (obtain rfl := Option.some.inj H)
    go_wp2
    go_ret
    exact ⟨qE, qS0 HB⟩
   ·replace c7 := Bool.eq_false_iff.mpr c7
    (subst c7); (have H1 : ((spec_Pad.f kj2 a1).bind fun t206 => (spec_HashWord.l0 kj2 a0 t206 0)) = some r := by rw [if_neg (show ¬ (false = true) by decide)] at H; exact H); clear H; (have H := H1); clear H1; (obtain ⟨t206, A8, H⟩ := qX H); (replace H : (spec_HashWord.l0 kj2 a0 t206 0) = some r := H); (have H' := Aside0.mk H); clear H
    go_wp2_with (first | ((with_reducible refine gate_callee (f := 186) rfl ?_); refine goesL_ (some 21) rfl rfl Tryz.func186 (by kernel_rfl) rfl #[.string a1] rfl qL ?_; (with_reducible refine (spec_Pad.calls kj2 a1 t206 _ A8.out).mono ?_); rintro e w9 ⟨v207, rfl, ho0, hb⟩; refine ⟨_, rfl, ?_⟩; have HO208 := Aside0.mk (Kd.R_lower ho0 (below_size (qS0 HB))); replace HB := Aside0.mk (below_step (qS0 HB) hb); (try clear hb); (try clear hb2); (try clear hk); (try clear hi); (try clear ho0)))
    go_loopg [5, 7] kj2 (fun kq v5 v7 w' => ∃ (x5_2 : Int) (x7_2 : Int), v5 = .int .i64 x5_2 ∧ v7 = .int .i64 x7_2 ∧ Aside0 (spec_HashWord.l0 kq x5_2 t206 x7_2 = some r) ∧ Aside0 (kq ≤ kj2) ∧ Aside0 (Kd.R (Kd.int .u8) 5 w' w.heap.size (fun _ => True) v207 t206) ∧ Aside0 (Below w.heap.size w w'))
    case atStart => exact ⟨(a0), (0), qV, qV, H', ⟨Nat.le_refl _⟩, ⟨qR HO208⟩, ⟨qS0 HB⟩⟩
    case round =>
     clear H'; (try clear c7); (obtain ⟨x5_2, x7_2, rfl, rfl, HA, HK2, HO_6, HB⟩ := hrel)
     cases gk with
     | zero => exact absurd HA.out (by simp [spec_HashWord.l0])
     | succ k2 =>
      (have H := HA.out); clear HA; (simp only [spec_HashWord.l0] at H)
      rcases qI H with ⟨c10b0, H⟩ | ⟨c10b0, H⟩
      ·obtain ⟨c11b0, H⟩ := qT H
       (have H' := Aside0.mk H); clear H; (obtain ⟨Ao12, co12, eo12⟩ := Kd.R_slice HO_6.out); (subst eo12); (have p209 : 0 ≤ (x7_2 : Int) := qO); (have q209 : x7_2 < (t206.length : Int) := qO); (obtain ⟨ad209, e209, hx209_0⟩ := Kd.at_int (Kd.R_reads' HO_6.out).2.2 x7_2 p209 q209)
       cases e209
       (replace p209 := eq_true p209); (replace q209 := eq_true q209)
       go_wp2
       go_roundg k2
       case measure => have := HJ2.out; have := HK2.out; omega
       case rel => exact ⟨(Int.tmod (wrap64 ((Go.bits .xor .i64 x5_2 (wrap64 (rd t206 x7_2))) * 16777619)) 4294967296), (wrap64 (x7_2 + 1)), qV, qV, H', ⟨by have := HJ2.out; have := HK2.out; omega⟩, ⟨qR HO_6⟩, ⟨qS0 HB⟩⟩
      ·obtain rfl := Option.some.inj H
       (obtain ⟨Ao13, co13, eo13⟩ := Kd.R_slice HO_6.out); (subst eo13)
       go_wp2
       go_ret
       exact ⟨qE, qS0 HB⟩
def spec_l11Log.f (a0 : Int) : Option (Bool) := if a0 ≥ 0 then (some (decide (a0 ≤ 6))) else (some false)
theorem spec_l11Log.calls (a0 : Int) (r : Bool) (w : World) (h : spec_l11Log.f a0 = some r) :
  Calls Tryz.prog 162 #[.int .i64 a0] w fun e w' => e = .returned (.bool r) ∧ Drawn0 w w' := by
 (have H : (if a0 ≥ 0 then (some (decide (a0 ≤ 6))) else (some false)) = some r := h); clear h
 rcases qI H with ⟨(c2b0 : decide (0 ≤ a0) = true), H⟩ | ⟨(c2b0 : decide (0 ≤ a0) = false), H⟩
 ·obtain rfl := Option.some.inj H
  go_enter Tryz.func162, Tryz.ntmps162
  go_wp2
  go_ret
  exact qZ
 ·obtain rfl := Option.some.inj H
  go_enter Tryz.func162, Tryz.ntmps162
  go_wp2
  go_ret
  exact qZ
def spec_l02Pow.l0 : Nat → Int → Int → Option (Int)
 | 0, _, _ => none
 | k + 1, x0, x3 => if x0 > 0 then (spec_l02Pow.l0 k (wrap64 (x0 - 1)) (wrap64 (2 * x3))) else (some x3)
def spec_l02Pow.f (k : Nat) (a0 : Int) : Option (Int) := spec_l02Pow.l0 k a0 1
theorem spec_l02Pow.calls (k : Nat) (a0 : Int) (r : Int) (w : World) (h : spec_l02Pow.f k a0 = some r) :
  Calls Tryz.prog 163 #[.int .i64 a0] w fun e w' => e = .returned (.int .i64 r) ∧ Drawn0 w w' := by
 (have H : (spec_l02Pow.l0 k a0 1) = some r := h); clear h; (have H' := Aside0.mk H); clear H
 go_enter Tryz.func163, Tryz.ntmps163
 go_wp2
 go_loopg [0, 3] k (fun kq v0 v3 w' => ∃ (x0_1 : Int) (x3_1 : Int), v0 = .int .i64 x0_1 ∧ v3 = .int .i64 x3_1 ∧ Aside0 (spec_l02Pow.l0 kq x0_1 x3_1 = some r) ∧ Aside0 (kq ≤ k) ∧ Drawn0 w w')
 case atStart => exact ⟨(a0), (1), qV, qV, H', ⟨Nat.le_refl _⟩, by repeat (first | exact Drawn0.refl _ | apply Drawn0.step)⟩
 case round =>
  clear H'; (obtain ⟨x0_1, x3_1, rfl, rfl, HA, HK1, ⟨m1, rfl⟩⟩ := hrel)
  cases gk with
  | zero => exact absurd HA.out (by simp [spec_l02Pow.l0])
  | succ k1 =>
   (have H := HA.out); clear HA; (simp only [spec_l02Pow.l0] at H)
   rcases qI H with ⟨(c2b0 : decide (0 < x0_1) = true), H⟩ | ⟨(c2b0 : decide (0 < x0_1) = false), H⟩
   ·have H' := Aside0.mk H
    clear H
    go_wp2
    go_roundg k1
    case measure => have := HK1.out; omega
    case rel => exact ⟨(wrap64 (x0_1 - 1)), (wrap64 (2 * x3_1)), qV, qV, H', ⟨by have := HK1.out; omega⟩, by repeat (first | exact Drawn0.refl _ | apply Drawn0.step)⟩
   ·obtain rfl := Option.some.inj H
    go_wp2
    go_ret
    exact qZ
def spec_ShelfFor.f (k : Nat) (a0 : Int) (a1 : ByteArray) (a2 : Int) : Option (Int) := (spec_HashWord.f k a0 a1).bind fun t210 => (if t210 < 0 then (some (-1)) else ((spec_l11Log.f a2).bind fun t211 => (if t211 = true then ((spec_l02Pow.f k a2).bind fun t212 => (if t212 = 0 then (none) else (some (Int.tmod t210 t212)))) else (some (-1)))))
theorem spec_ShelfFor.calls (k : Nat) (a0 : Int) (a1 : ByteArray) (a2 : Int) (r : Int) (w : World) (h : spec_ShelfFor.f k a0 a1 a2 = some r) :
  Calls Tryz.prog 130 #[.int .i64 a0, .string a1, .int .i64 a2] w fun e w' => e = .returned (.int .i64 r) ∧ Below w.heap.size w w' := by
 (have HB := Aside0.mk (Below.refl w.heap.size w)); (have H : ((spec_HashWord.f k a0 a1).bind fun t210 => (if t210 < 0 then (some (-1)) else ((spec_l11Log.f a2).bind fun t211 => (if t211 = true then ((spec_l02Pow.f k a2).bind fun t212 => (if t212 = 0 then (none) else (some (Int.tmod t210 t212)))) else (some (-1)))))) = some r := h); clear h; (obtain ⟨t210, A4, H⟩ := qX H)
 try dsimp only at H
 rcases qI H with ⟨c5b0, H⟩ | ⟨c5b0, H⟩
 ·obtain rfl := Option.some.inj H
  go_enter Tryz.func130, Tryz.ntmps130
  go_wp2_with (first | ((with_reducible refine gate_callee (f := 161) rfl ?_); refine goesL_ (some 10) rfl rfl Tryz.func161 (by kernel_rfl) rfl #[.int .i64 a0, .string a1] rfl qL ?_; (with_reducible refine (spec_HashWord.calls k a0 a1 t210 _ A4.out).mono ?_); rintro e w6 ⟨rfl, hb⟩; refine ⟨_, rfl, ?_⟩; replace HB := Aside0.mk (below_step (qS0 HB) hb); (try clear hb); (try clear hb2); (try clear hk); (try clear hi)))
  go_ret
  exact ⟨qE, qS0 HB⟩
 ·obtain ⟨t211, A7, H⟩ := qX H
  try dsimp only at H
  by_cases c8 : t211 = true
  ·subst c8
   (have H1 : ((spec_l02Pow.f k a2).bind fun t212 => (if t212 = 0 then (none) else (some (Int.tmod t210 t212)))) = some r := by rw [if_pos rfl] at H; exact H); clear H; (have H := H1); clear H1; (obtain ⟨t212, A9, H⟩ := qX H); (replace H : (if t212 = 0 then (none) else (some (Int.tmod t210 t212))) = some r := H)
   rcases qJ H with ⟨c10, H⟩ | ⟨c10, H⟩
   ·exact absurd H (by simp)
   ·have c10b0 : (t212 == 0) = false := beq_eq_false_iff_ne.mpr c10
    (have c10b1 : (t212 != 0) = true := bne_iff_ne.mpr c10); (obtain rfl := Option.some.inj H)
    go_enter Tryz.func130, Tryz.ntmps130
    go_wp2_with (first | ((with_reducible refine gate_callee (f := 161) rfl ?_); refine goesL_ (some 10) rfl rfl Tryz.func161 (by kernel_rfl) rfl #[.int .i64 a0, .string a1] rfl qL ?_; (with_reducible refine (spec_HashWord.calls k a0 a1 t210 _ A4.out).mono ?_); rintro e w11 ⟨rfl, hb⟩; refine ⟨_, rfl, ?_⟩; replace HB := Aside0.mk (below_step (qS0 HB) hb); (try clear hb); (try clear hb2); (try clear hk); (try clear hi)) | (go_at_call 162; (with_reducible refine (spec_l11Log.calls a2 true _ A7.out).mono ?_); rintro e w' ⟨rfl, ⟨nd, rfl⟩⟩) | ((with_reducible refine gate_callee (f := 163) rfl ?_); refine goesL_ (some 20) rfl rfl Tryz.func163 (by kernel_rfl) rfl #[.int .i64 a2] rfl qL ?_; (with_reducible refine (spec_l02Pow.calls k a2 t212 _ A9.out).mono ?_); rintro e w' ⟨rfl, ⟨nd, rfl⟩⟩; refine ⟨_, rfl, ?_⟩))
    go_ret
    exact ⟨qE, qS0 HB⟩
  ·replace c8 := Bool.eq_false_iff.mpr c8
   (subst c8); (have H1 : (some (-1)) = some r := by rw [if_neg (show ¬ (false = true) by decide)] at H; exact H); clear H; (have H := H1); clear H1; (obtain rfl := Option.some.inj H)
   go_enter Tryz.func130, Tryz.ntmps130
   go_wp2_with (first | ((with_reducible refine gate_callee (f := 161) rfl ?_); refine goesL_ (some 10) rfl rfl Tryz.func161 (by kernel_rfl) rfl #[.int .i64 a0, .string a1] rfl qL ?_; (with_reducible refine (spec_HashWord.calls k a0 a1 t210 _ A4.out).mono ?_); rintro e w12 ⟨rfl, hb⟩; refine ⟨_, rfl, ?_⟩; replace HB := Aside0.mk (below_step (qS0 HB) hb); (try clear hb); (try clear hb2); (try clear hk); (try clear hi)) | (go_at_call 162; (with_reducible refine (spec_l11Log.calls a2 false _ A7.out).mono ?_); rintro e w' ⟨rfl, ⟨nd, rfl⟩⟩))
   go_ret
   exact ⟨qE, qS0 HB⟩
end Go.Proofs.YtfeikakkfnnaoaaGreatDoor.QA
namespace Go.Proofs.YtfeikakkfnnaoaaGreatDoor.V
open Go Go.RowKit Go.Proofs.YtfeikakkfnnaoaaGreatDoor.QA Go.Proofs.YtfeikakkfnnaoaaGreatDoorW.PrintWords
set_option linter.unusedVariables false
set_option linter.unusedSimpArgs false
noncomputable def e107 (k : Nat) : List (SV DD) → Option ByteArray
 | [.v (.string s)] => impl_Fold.f k s
 | _ => none
noncomputable def e12 (k : Nat) : List (SV DD) → Option ByteArray
 | [.v (.string s)] => spec_Fold.f k s
 | _ => none
noncomputable def e102 (k : Nat) : List (SV DD) → Option Int
 | [.v (.int .i64 a), .v (.string s), .v (.int .i64 b)] => impl_shelfFor.f k a s b
 | _ => none
noncomputable def e130 (k : Nat) : List (SV DD) → Option Int
 | [.v (.int .i64 a), .v (.string s), .v (.int .i64 b)] => spec_ShelfFor.f k a s b
 | _ => none
noncomputable def e112 (k : Nat) : List (SV DD) → Option Int
 | [.v (.string a), .v (.string b)] => impl_Capped.f k a b
 | _ => none
noncomputable def e105 (_k : Nat) : List (SV DD) → Option (List S83)
 | [.ro 83 xs] => cond (appOk ([] : List S83) xs 24) (some xs) none
 | _ => none
noncomputable def e192 (_k : Nat) : List (SV DD) → Option (List S43)
 | [.ro 43 xs] => cond (appOk ([] : List S43) xs 40) (some xs) none
 | _ => none
noncomputable def e111 (_k : Nat) : List (SV DD) → Option (List S83)
 | [.fr 83 xs, .v (.int .i64 i), .v (.int .i64 j)] => cond (decide (0 ≤ i) && decide (i < j) && decide (j ≤ (xs.length : Int))) (some (xs.take i.toNat ++ xs.drop j.toNat)) none
 | _ => none
noncomputable def e148 (_k : Nat) : List (SV DD) → Option (List S83)
 | [.fr 83 xs, .v (.int .i64 i), .fr 83 vs] => cond (decide (0 ≤ i) && decide (i ≤ (xs.length : Int)) && decide (0 < vs.length) && okLe (((xs.length : Int) + (vs.length : Int)) * 24) 70368744177664) (some (xs.take i.toNat ++ vs ++ xs.drop i.toNat)) none
 | _ => none
noncomputable def extD : (f : FuncId) → Option (Nat → List (SV DD) → Option (RT DD (sigD f).all))
 | 107 => some e107
 | 12 => some e12
 | 102 => some e102
 | 130 => some e130
 | 112 => some e112
 | 105 => some e105
 | 192 => some e192
 | 111 => some e111
 | 148 => some e148
 | 48 => some fun _ _ => none
 | 51 => some fun _ _ => none
 | 142 => some fun _ _ => none
 | 110 => some fun _ _ => none
 | _ => none
def TabD (W : World) : TabP := TabW W
theorem tabD_kept (W : World) : TabKept (TabD W) := tabW_kept W
end Go.Proofs.YtfeikakkfnnaoaaGreatDoor.V
namespace Go.Proofs.YtfeikakkfnnaoaaGreatDoor.V
open Go
noncomputable abbrev CD : Ctx := { P := Tryz.prog, L := LD, sig := sigD, live := liveD, ext := extD }
end Go.Proofs.YtfeikakkfnnaoaaGreatDoor.V
