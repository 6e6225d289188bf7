/- Part of the proof of the law FnExactReqRead: what it uses of the texts that this session and the kit's print wrote. -/
import Derived.Test.YtgnbfmoifnfneaaDoorZFnExactReqReadx0
import Derived.Test.YtgnbfmoifnfneaaDoorZFnExactReqReadx4
import Derived.Test.YtgnbfmoifnfneaaDoorZFnExactReqReadx5
import Derived.Test.YtgnbfmoifnfneaaDoorZFnExactReqReadx6
import Derived.Test.YtgnbfmoifnfneaaDoorZFnExactReqReadx7
import Derived.Test.YtgnbfmoifnfneaaDoorZFnExactReqReadx8
import Derived.Test.YtgnbfmoifnfneaaDoorZFnExactReqReadx9
import Derived.KernelRfl
import Derived.Test.YtgnbfmoifnfneaaDoorProg
import Derived.Deep.Slices
import Derived.WideShapes
import Derived.ProofKit
import Derived.Lib.ItoaNum
import Derived.Lib.ItoaLen
import Derived.Laws.Strings
import Derived.Lib.SplitLaws
import Derived.Lib.AtoiAllCases
namespace Go.Proofs.YtgnbfmoifnfneaaDoor.QA
open Go.RowKit Go.Proofs.YtgnbfmoifnfneaaDoorW.PrintWords Go.Proofs.YtgnbfmoifnfneaaDoorW.PrintLast Go.Proofs.YtgnbfmoifnfneaaDoorW.PrintMore
attribute [local go_sem] max2_int min2_int max_two min_two max_three min_three max_four min_four
set_option linter.unusedVariables false
set_option linter.unusedSimpArgs false
set_option maxHeartbeats 8000000
set_option maxRecDepth 100000
mutual
def spec_l26Read.j0 : Nat → ByteArray → Bool → Option (Int × Bool)
 | 0, _, _ => none
 | k + 1, x0, x13 => if x13 = true then (some (0, false)) else (spec_l26Read.l0 k x0 0 0)
def spec_l26Read.l0 : Nat → ByteArray → Int → Int → Option (Int × Bool)
 | 0, _, _, _ => none
 | k + 1, x0, x4, x5 => if x5 < (x0.size : Int) then (if 0 ≤ x5 then (if (bt x0 x5) < 48 then (some (0, false)) else (if (bt x0 x5) > 57 then (some (0, false)) else (spec_l26Read.l0 k x0 (wrap64 ((wrap64 (10 * x4)) + (((bt x0 x5) - 48) % 256))) (wrap64 (x5 + 1))))) else (none)) else ((spec_l04Num.f k x4).bind fun t242 => (some (x4, (t242.toList == x0.toList))))
end
def spec_l26Read.f (k : Nat) (a0 : ByteArray) : Option (Int × Bool) := if (a0.size : Int) < 1 then (spec_l26Read.j0 k a0 true) else (spec_l26Read.j0 k a0 (decide ((a0.size : Int) > 9)))
theorem spec_l26Read.calls (k : Nat) (a0 : ByteArray) (r1 : Int) (r2 : Bool) (w : World) (h : spec_l26Read.f k a0 = some (r1, r2)) :
  Calls Tryd.prog 17 #[.string a0] w fun e w' => e = .returned (.tuple #[.int .i64 r1, .bool r2]) ∧ Below w.heap.size w w' := by
 (have HB := Aside0.mk (Below.refl w.heap.size w)); (have H : (if (a0.size : Int) < 1 then (spec_l26Read.j0 k a0 true) else (spec_l26Read.j0 k a0 (decide ((a0.size : Int) > 9)))) = some (r1, r2) := h); clear h; (have HC2 := Aside0.mk H); clear H
 go_enter Tryd.func17, Tryd.ntmps17
 go_upto_region 1 with (fail)
 go_cut [13] (fun v13 wc => ∃ (kq : Nat) (x13_1 : Bool), v13 = .bool x13_1 ∧ Aside0 (spec_l26Read.j0 kq a0 x13_1 = some (r1, r2)) ∧ Aside0 (kq ≤ k) ∧ Aside0 (Below w.heap.size w wc))
 case first =>
  (have H := HC2.out); clear HC2
  rcases qJ H with ⟨c3, H⟩ | ⟨c3, H⟩
  ·have c3b0 : decide ((a0.size : Int) < 1) = true := decide_eq_true c3
   (have c3b1 : decide (a0.size < 1) = true := decide_eq_true (by omega)); clear c3
   (first | rw [c3b0] | (simp only [i64_w, i32_w]; rw [c3b0]) | skip)
   (have H' := Aside0.mk H); clear H
   go_wp2
   go_meet
   case rel => exact ⟨_, (true), qV, H', ⟨by first | omega | exact Nat.le_refl _⟩, ⟨qS0 HB⟩⟩
  ·have c3b0 : decide ((a0.size : Int) < 1) = false := decide_eq_false c3
   (have c3b1 : decide (a0.size < 1) = false := decide_eq_false (by omega)); clear c3
   (first | rw [c3b0] | (simp only [i64_w, i32_w]; rw [c3b0]) | skip)
   (have H' := Aside0.mk H); clear H
   go_wp2
   go_meet
   case rel => exact ⟨_, (decide ((a0.size : Int) > 9)), qV, H', ⟨by first | omega | exact Nat.le_refl _⟩, ⟨qS0 HB⟩⟩
 case rest =>
  clear HC2; (try clear c3b0); (try clear c3b1); (obtain ⟨kq, x13_1, rfl, HA, HJ1, HB⟩ := hcut)
  cases kq with
  | zero => exact absurd HA.out (by simp [spec_l26Read.j0])
  | succ kj1 =>
   (have H := HA.out); clear HA; (simp only [spec_l26Read.j0] at H)
   by_cases c4 : x13_1 = true
   ·subst c4
    (have H1 : (some (0, false)) = some (r1, r2) := by rw [if_pos rfl] at H; exact H); clear H; (have H := H1); clear H1; (simp only [Option.some.injEq, Prod.mk.injEq] at H); (obtain ⟨rfl, rfl⟩ := H)
    go_wp2
    go_ret2
    exact ⟨qE, qS0 HB⟩
   ·replace c4 := Bool.eq_false_iff.mpr c4
    (subst c4); (have H1 : (spec_l26Read.l0 kj1 a0 0 0) = some (r1, r2) := by rw [if_neg (show ¬ (false = true) by decide)] at H; exact H); clear H; (have H := H1); clear H1; (have H' := Aside0.mk H); clear H
    go_wp2
    go_loopg [4, 5] kj1 (fun kq v4 v5 w' => ∃ (x4_2 : Int) (x5_2 : Int), v4 = .int .i64 x4_2 ∧ v5 = .int .i64 x5_2 ∧ Aside0 (spec_l26Read.l0 kq a0 x4_2 x5_2 = some (r1, r2)) ∧ Aside0 (kq ≤ kj1) ∧ Aside0 (Below w.heap.size w w'))
    case atStart => exact ⟨(0), (0), qV, qV, H', ⟨Nat.le_refl _⟩, ⟨qS0 HB⟩⟩
    case round =>
     clear H'; (try clear c4); (obtain ⟨x4_2, x5_2, rfl, rfl, HA, HK2, HB⟩ := hrel)
     cases gk with
     | zero => exact absurd HA.out (by simp [spec_l26Read.l0])
     | succ k2 =>
      (have H := HA.out); clear HA; (simp only [spec_l26Read.l0] at H)
      rcases qI H with ⟨c5b0, H⟩ | ⟨c5b0, H⟩
      ·obtain ⟨c6b0, H⟩ := qT H
       rcases qI H with ⟨c8b0, H⟩ | ⟨c8b0, H⟩
       ·simp only [Option.some.injEq, Prod.mk.injEq] at H
        (obtain ⟨rfl, rfl⟩ := H); (have p7 : 0 ≤ (x5_2 : Int) := qO); (have q7 : x5_2 < (a0.size : Int) := qO); (have hx7 := bt_at a0 x5_2); (replace p7 := eq_true p7); (replace q7 := eq_true q7)
        go_wp2
        go_ret2
        exact ⟨qE, qS0 HB⟩
       ·rcases qI H with ⟨(c10b0 : decide (57 < (bt a0 x5_2)) = true), H⟩ | ⟨(c10b0 : decide (57 < (bt a0 x5_2)) = false), H⟩
        ·simp only [Option.some.injEq, Prod.mk.injEq] at H
         (obtain ⟨rfl, rfl⟩ := H); (have p7 : 0 ≤ (x5_2 : Int) := qO); (have q7 : x5_2 < (a0.size : Int) := qO); (have hx7 := bt_at a0 x5_2); (replace p7 := eq_true p7); (replace q7 := eq_true q7); (have p9 : 0 ≤ (x5_2 : Int) := qO); (have q9 : x5_2 < (a0.size : Int) := qO); (have hx9 := bt_at a0 x5_2); (replace p9 := eq_true p9); (replace q9 := eq_true q9)
         go_wp2
         go_ret2
         exact ⟨qE, qS0 HB⟩
        ·have H' := Aside0.mk H
         clear H; (have p7 : 0 ≤ (x5_2 : Int) := qO); (have q7 : x5_2 < (a0.size : Int) := qO); (have hx7 := bt_at a0 x5_2); (replace p7 := eq_true p7); (replace q7 := eq_true q7); (have p9 : 0 ≤ (x5_2 : Int) := qO); (have q9 : x5_2 < (a0.size : Int) := qO); (have hx9 := bt_at a0 x5_2); (replace p9 := eq_true p9); (replace q9 := eq_true q9); (have p11 : 0 ≤ (x5_2 : Int) := qO); (have q11 : x5_2 < (a0.size : Int) := qO); (have hx11 := bt_at a0 x5_2); (replace p11 := eq_true p11); (replace q11 := eq_true q11)
         go_wp2
         go_roundg k2
         case measure => have := HJ1.out; have := HK2.out; omega
         case rel => exact ⟨(wrap64 ((wrap64 (10 * x4_2)) + (((bt a0 x5_2) - 48) % 256))), (wrap64 (x5_2 + 1)), qV, qV, H', ⟨by have := HJ1.out; have := HK2.out; omega⟩, ⟨qS0 HB⟩⟩
      ·obtain ⟨t242, A12, H⟩ := qX H
       (replace H : (some (x4_2, (t242.toList == a0.toList))) = some (r1, r2) := H); (simp only [Option.some.injEq, Prod.mk.injEq] at H); (obtain ⟨rfl, rfl⟩ := H)
       go_wp2_with (first | ((with_reducible refine gate_callee (f := 28) rfl ?_); refine goesL_ (some 40) rfl rfl Tryd.func28 (by kernel_rfl) rfl #[.int .i64 x4_2] rfl qL ?_; (with_reducible refine (spec_l04Num.calls k2 x4_2 t242 _ A12.out).mono ?_); rintro e w13 ⟨rfl, hb⟩; refine ⟨_, rfl, ?_⟩; replace HB := Aside0.mk (below_step (qS0 HB) hb); (try clear hb); (try clear hb2); (try clear hk); (try clear hi)))
       go_ret2
       exact ⟨qE, qS0 HB⟩
end Go.Proofs.YtgnbfmoifnfneaaDoor.QA
namespace Go.Proofs.YtgnbfmoifnfneaaDoor.V
open Go Go.RowKit Go.Proofs.YtgnbfmoifnfneaaDoor.QA Go.Proofs.YtgnbfmoifnfneaaDoorW.PrintWords
set_option linter.unusedVariables false
set_option linter.unusedSimpArgs false
noncomputable def e6 (k : Nat) : List (SV DD) → Option (Int × ByteArray × Int × Int × Int × Int × ByteArray × Bool)
 | [.v (.string s)] => impl_ReqRead.f k s
 | _ => none
noncomputable def e14 (k : Nat) : List (SV DD) → Option ByteArray
 | [.agg [.v (.int .i64 a), .v (.string w), .v (.int .i64 b), .v (.int .i64 c), .v (.int .i64 d), .v (.int .i64 e), .v (.string t)]] => spec_ReqText.f k a w b c d e t
 | _ => none
noncomputable def e16 (k : Nat) : List (SV DD) → Option (List ByteArray)
 | [.v (.string s), .v (.int .u8 a), .v (.int .i64 n)] => spec_l26Cut.f k s a n
 | _ => none
noncomputable def e17 (k : Nat) : List (SV DD) → Option (Int × Bool)
 | [.v (.string s)] => spec_l26Read.f k s
 | _ => none
noncomputable def extD : (f : FuncId) → Option (Nat → List (SV DD) → Option (RT DD (sigD f).all))
 | 6 => some e6
 | 14 => some e14
 | 16 => some e16
 | 17 => some e17
 | _ => none
def TabD (W : World) : TabP := TabW W
theorem tabD_kept (W : World) : TabKept (TabD W) := tabW_kept W
theorem tab_of {W w : World} {F : Nat → Prop} (hG : TabG W) (h : TabD W F w) : TabG w :=
 have H := G_below (tabW_below h) hG
 ⟨H.pow10, H.maxlen, H.syn, H.rng, H.reqw⟩
def callB (P : Program) (f : FuncId) : Bool := match P.funcs[f]? with
 | some fn => !(fn.name == "runtime.NumGoroutine") && fn.body.isSome
 | none => false
theorem callB_ok {P : Program} {f : FuncId} (h : callB P f = true) : Callable P f := by
 unfold callB at h
 split at h
 ·rename_i fn hf
  (simp only [Bool.and_eq_true, Bool.not_eq_true'] at h); (obtain ⟨c, hc⟩ := Option.isSome_iff_exists.1 h.2)
  exact ⟨fn, c, hf, h.1, hc⟩
 ·cases h
theorem row_strings {w' : World} {base : Nat} {ok : Nat → Prop} {v0 : Value} {xs : List ByteArray} (h : Kd.R Kd.string 9 w' base ok v0 xs) : RowOk LD w' (fun _ => False) v0 9 xs ∧ v0.oneCell' = true ∧ ∀ k, v0.ownBlock = some k → base ≤ k := by
 (obtain ⟨_, inner, ho, hrep⟩ := h); (have hlen : inner.length = xs.length := by have := hrep.1; rw [show Kd.string.sz = 1 from rfl, Nat.mul_one] at this; exact this)
 have hget : ∀ j (hj : j < inner.length), inner[j] = .string (xs[j]'(by omega)) := fun j hj => by
  (have h2 : (inner.drop (j * 1)).take 1 = [.string (xs[j]'(by omega))] := hrep.2 j (xs[j]'(by omega)) (List.getElem?_eq_getElem (by omega))); (have e : (inner.drop (j * 1)).take 1 = [inner[j]] := by rw [Nat.mul_one, List.drop_eq_getElem_cons hj]; rfl); (rw [e] at h2)
  injection h2
 refine ⟨⟨inner, ⟨ho.1, ?_⟩, fun u hu => ?_, fun i j hi hj => ?_⟩, ?_, fun k hk => own_base ho k hk⟩
 ·rcases ho.2 with h1 | ⟨g, cap, cur, h1, h2, h3⟩
  ·exact .inl h1
  ·exact .inr ⟨g, cap, cur, h1, Nat.zero_le _, h3⟩
 ·obtain ⟨j, hj, rfl⟩ := List.getElem_of_mem hu
  rw [hget j hj]; rfl
 ·have hs1 : (LD.ti 9).sz = 1 := rfl
  (obtain rfl : j = 0 := by omega); (have hi' : i < inner.length := by rw [hlen]; exact hi); (rw [hs1, Nat.mul_one, Nat.add_zero, getD_lt hi', hget i hi'])
  exact CR.v (L := LD) (.string xs[i]) rfl
 ·rcases ho.2 with ⟨rfl, _⟩ | ⟨g, cap, cur, rfl, _⟩ <;> rfl
theorem e16_ok {W : World} (k : Nat) (q : List (SV DD)) (r : List ByteArray) (h : e16 k q = some r) : Meets Tryd.prog LD (TabD W) (sigD 16) 16 q r ∧ Callable Tryd.prog 16 := by
 refine ⟨fun E V vals hT hnt hl hr => ?_, callB_ok (by kernel_rfl)⟩
 unfold e16 at h
 split at h
 ·rename_i s b n
  (obtain rfl := start_vals hr hl (xs := [.string s, .int .u8 b, .int .i64 n]) rfl); (have ha := start_adr hr (start_flatv (xs := [.string s, .int .u8 b, .int .i64 n]) rfl))
  refine (spec_l26Cut.calls k s b n r E.w0 h).mono ?_
  rintro e w' ⟨v0, rfl, hR, hb⟩
  obtain ⟨h1, h2, h3⟩ := row_strings hR
  exact ⟨[v0], postV_row (L := LD) (s := sigD 16) (t := 9) (xs := r) ha hr.old hb h2 rfl rfl h1 h3⟩
 ·cases h
section
variable {W : World}
theorem e6_ok (hW : TabG W) (k : Nat) (q : List (SV DD)) (r : RT DD (sigD 6).all) (h : e6 k q = some r) : Meets Tryd.prog LD (TabD W) (sigD 6) 6 q r ∧ Callable Tryd.prog 6 := by
 refine ⟨fun E V vals hT hnt hl hr => ?_, callB_ok (by kernel_rfl)⟩
 unfold e6 at h
 split at h
 ·rename_i s
  (obtain rfl := start_vals hr hl (xs := [.string s]) rfl); (have ha := start_adr hr (start_flatv (xs := [.string s]) rfl)); (obtain ⟨r1, r2, r3, r4, r5, r6, r7, r8⟩ := (r : Int × ByteArray × Int × Int × Int × Int × ByteArray × Bool))
  refine (impl_ReqRead.calls k s r1 r2 r3 r4 r5 r6 r7 r8 E.w0 h (tab_of hW hT)).mono ?_
  rintro e w' ⟨rfl, hb⟩
  exact ⟨[.int .i64 r1, .string r2, .int .i64 r3, .int .i64 r4, .int .i64 r5, .int .i64 r6, .string r7, .bool r8], postV_flat (s := sigD 6) ha hb rfl (by simp [Value.oneCell']) rfl⟩
 ·cases h
theorem e14_ok (k : Nat) (q : List (SV DD)) (r : RT DD (sigD 14).all) (h : e14 k q = some r) : Meets Tryd.prog LD (TabD W) (sigD 14) 14 q r ∧ Callable Tryd.prog 14 := by
 refine ⟨fun E V vals hT hnt hl hr => ?_, callB_ok (by kernel_rfl)⟩
 unfold e14 at h
 split at h
 ·rename_i a w b c d e t
  (obtain rfl := start_vals hr hl (xs := [.agg #[.int .i64 a, .string w, .int .i64 b, .int .i64 c, .int .i64 d, .int .i64 e, .string t]]) rfl); (have ha := start_adr hr (start_flatv (xs := [.agg #[.int .i64 a, .string w, .int .i64 b, .int .i64 c, .int .i64 d, .int .i64 e, .string t]]) rfl))
  refine (spec_ReqText.calls k a w b c d e t r E.w0 h).mono ?_
  rintro e w' ⟨rfl, hb⟩
  exact ⟨[.string r], postV_flat (s := sigD 14) ha hb rfl (by simp [Value.oneCell']) rfl⟩
 ·cases h
theorem e17_ok (k : Nat) (q : List (SV DD)) (r : RT DD (sigD 17).all) (h : e17 k q = some r) : Meets Tryd.prog LD (TabD W) (sigD 17) 17 q r ∧ Callable Tryd.prog 17 := by
 refine ⟨fun E V vals hT hnt hl hr => ?_, callB_ok (by kernel_rfl)⟩
 unfold e17 at h
 split at h
 ·rename_i s
  (obtain rfl := start_vals hr hl (xs := [.string s]) rfl); (have ha := start_adr hr (start_flatv (xs := [.string s]) rfl)); (obtain ⟨r1, r2⟩ := (r : Int × Bool))
  refine (spec_l26Read.calls k s r1 r2 E.w0 h).mono ?_
  rintro e w' ⟨rfl, hb⟩
  exact ⟨[.int .i64 r1, .bool r2], postV_flat (s := sigD 17) ha hb rfl (by simp [Value.oneCell']) rfl⟩
 ·cases h
theorem ext_ok (hW : TabG W) : ∀ (f : FuncId) (h : Nat → List (SV DD) → Option (RT DD (sigD f).all)), extD f = some h → ∀ k q r, h k q = some r → Meets Tryd.prog LD (TabD W) (sigD f) f q r ∧ Callable Tryd.prog f := by
 intro f h hx k q r hr
 unfold extD at hx
 split at hx
 ·injection hx with hx; subst hx; exact e6_ok hW k q r hr
 ·injection hx with hx; subst hx; exact e14_ok k q r hr
 ·injection hx with hx; subst hx; exact e16_ok k q r hr
 ·injection hx with hx; subst hx; exact e17_ok k q r hr
 ·cases hx
end
end Go.Proofs.YtgnbfmoifnfneaaDoor.V
namespace Go.Proofs.YtgnbfmoifnfneaaDoor.V
open Go
noncomputable abbrev CD : Ctx := { P := Tryd.prog, L := LD, sig := sigD, live := liveD, ext := extD }
end Go.Proofs.YtgnbfmoifnfneaaDoor.V
namespace Go.Proofs.YtgnbfmoifnfneaaDoor.V
open Go
set_option linter.unusedVariables false
noncomputable def finK (f : FuncId) (fn : Func) : Ex → St DD → Option (RT DD (sigD f).all)
 | .exit _, _ => none
 | _, st => finish LD sigD f fn.results.toList st
noncomputable def c3 (k : Nat) (q : List (SV DD)) : Option (Bool) := Fn CD k 3 q
noncomputable def c5 (k : Nat) (q : List (SV DD)) : Option (Int × ByteArray × Int × Int × Int × Int × ByteArray × Bool) := Fn CD k 5 q
noncomputable def c6 (k : Nat) (q : List (SV DD)) : Option (Int × ByteArray × Int × Int × Int × Int × ByteArray × Bool) := Fn CD k 6 q
noncomputable def c7 (k : Nat) (q : List (SV DD)) : Option (Bool) := Fn CD k 7 q
noncomputable def c14 (k : Nat) (q : List (SV DD)) : Option (ByteArray) := Fn CD k 14 q
noncomputable def c16 (k : Nat) (q : List (SV DD)) : Option ((List ByteArray)) := Fn CD k 16 q
noncomputable def c17 (k : Nat) (q : List (SV DD)) : Option (Int × Bool) := Fn CD k 17 q
def g7 (k : Nat) (a0 : Int) (a1 : ByteArray) (a2 : Int) (a3 : Int) (a4 : Int) (a5 : Int) (a6 : ByteArray) (a7 : Int) (a8 : ByteArray) (a9 : Int) (a10 : Int) (a11 : Int) (a12 : Int) (a13 : ByteArray) : Option (Bool) := cond (a0 != a7) (some false) (cond (!(eqS a1 a8)) (some false) (cond (a2 != a9) (some false) (cond (a3 != a10) (some false) (cond (a4 != a11) (some false) (cond (a5 != a12) (some false) (cond (!(eqS a6 a13)) (some false) (some true)))))))
theorem g7_eq (k : Nat) (a0 : Int) (a1 : ByteArray) (a2 : Int) (a3 : Int) (a4 : Int) (a5 : Int) (a6 : ByteArray) (a7 : Int) (a8 : ByteArray) (a9 : Int) (a10 : Int) (a11 : Int) (a12 : Int) (a13 : ByteArray) : c7 (k + 1) [.agg [.v (.int .i64 a0), .v (.string a1), .v (.int .i64 a2), .v (.int .i64 a3), .v (.int .i64 a4), .v (.int .i64 a5), .v (.string a6)], .agg [.v (.int .i64 a7), .v (.string a8), .v (.int .i64 a9), .v (.int .i64 a10), .v (.int .i64 a11), .v (.int .i64 a12), .v (.string a13)]] = g7 k a0 a1 a2 a3 a4 a5 a6 a7 a8 a9 a10 a11 a12 a13 := by kernel_rfl
noncomputable abbrev b5 : Code := bodyOf Tryd.f5
noncomputable def g5_n1 {ρ : Type} (k : Nat) (a0 : ByteArray) (K0 : Option ρ) (K1 : ByteArray → Int → ByteArray → Int → Int → Int → Int → ByteArray → Option ρ) : Option ρ := cond (decide ((a0.size : Int) > (2020 : Int))) (K0) ((c16 k [.v (.string a0), .v (.int .u8 (32 : Int)), .v (.int .i64 (5 : Int))]).bind fun (r8 : (List ByteArray)) => chk true (inB (0 : Int) (r8.length : Int)) (cond ((eqS (r8.getD ((0 : Int).toNat) (⟨#[]⟩ : ByteArray)) (⟨#[99, 104, 101, 99, 107]⟩ : ByteArray)) && ((r8.length : Int) == (2 : Int))) (chk true (inB (1 : Int) (r8.length : Int)) (K1 a0 (1 : Int) (r8.getD ((1 : Int).toNat) (⟨#[]⟩ : ByteArray)) (0 : Int) (0 : Int) (0 : Int) (0 : Int) (⟨#[]⟩ : ByteArray))) (chk true (inB (0 : Int) (r8.length : Int)) (cond ((eqS (r8.getD ((0 : Int).toNat) (⟨#[]⟩ : ByteArray)) (⟨#[116, 111, 112]⟩ : ByteArray)) && ((r8.length : Int) == (4 : Int))) (chk true (inB (1 : Int) (r8.length : Int)) (chk true (inB (2 : Int) (r8.length : Int)) ((c17 k [.v (.string (r8.getD ((2 : Int).toNat) (⟨#[]⟩ : ByteArray)))]).bind fun (r9 : Int × Bool) => chk true (inB (3 : Int) (r8.length : Int)) ((c17 k [.v (.string (r8.getD ((3 : Int).toNat) (⟨#[]⟩ : ByteArray)))]).bind fun (r10 : Int × Bool) => K1 a0 (2 : Int) (r8.getD ((1 : Int).toNat) (⟨#[]⟩ : ByteArray)) (0 : Int) r9.1 r10.1 (0 : Int) (⟨#[]⟩ : ByteArray))))) (chk true (inB (0 : Int) (r8.length : Int)) (cond ((eqS (r8.getD ((0 : Int).toNat) (⟨#[]⟩ : ByteArray)) (⟨#[97, 100, 100]⟩ : ByteArray)) && ((r8.length : Int) == (3 : Int))) (chk true (inB (1 : Int) (r8.length : Int)) (chk true (inB (2 : Int) (r8.length : Int)) ((c17 k [.v (.string (r8.getD ((2 : Int).toNat) (⟨#[]⟩ : ByteArray)))]).bind fun (r11 : Int × Bool) => K1 a0 (3 : Int) (r8.getD ((1 : Int).toNat) (⟨#[]⟩ : ByteArray)) r11.1 (0 : Int) (0 : Int) (0 : Int) (⟨#[]⟩ : ByteArray)))) (chk true (inB (0 : Int) (r8.length : Int)) (cond ((eqS (r8.getD ((0 : Int).toNat) (⟨#[]⟩ : ByteArray)) (⟨#[100, 114, 111, 112]⟩ : ByteArray)) && ((r8.length : Int) == (2 : Int))) (chk true (inB (1 : Int) (r8.length : Int)) (K1 a0 (4 : Int) (r8.getD ((1 : Int).toNat) (⟨#[]⟩ : ByteArray)) (0 : Int) (0 : Int) (0 : Int) (0 : Int) (⟨#[]⟩ : ByteArray))) (chk true (inB (0 : Int) (r8.length : Int)) (cond ((eqS (r8.getD ((0 : Int).toNat) (⟨#[]⟩ : ByteArray)) (⟨#[115, 101, 116]⟩ : ByteArray)) && ((r8.length : Int) == (3 : Int))) (chk true (inB (1 : Int) (r8.length : Int)) (chk true (inB (2 : Int) (r8.length : Int)) ((c17 k [.v (.string (r8.getD ((2 : Int).toNat) (⟨#[]⟩ : ByteArray)))]).bind fun (r12 : Int × Bool) => K1 a0 (5 : Int) (r8.getD ((1 : Int).toNat) (⟨#[]⟩ : ByteArray)) r12.1 (0 : Int) (0 : Int) (0 : Int) (⟨#[]⟩ : ByteArray)))) (chk true (inB (0 : Int) (r8.length : Int)) (cond ((eqS (r8.getD ((0 : Int).toNat) (⟨#[]⟩ : ByteArray)) (⟨#[116, 101, 120, 116]⟩ : ByteArray)) && (decide ((r8.length : Int) ≥ (3 : Int)))) ((c16 k [.v (.string a0), .v (.int .u8 (32 : Int)), .v (.int .i64 (3 : Int))]).bind fun (r13 : (List ByteArray)) => chk true (inB (2 : Int) (r13.length : Int)) (chk true (inB (1 : Int) (r13.length : Int)) ((c17 k [.v (.string (r13.getD ((1 : Int).toNat) (⟨#[]⟩ : ByteArray)))]).bind fun (r14 : Int × Bool) => K1 a0 (6 : Int) (⟨#[]⟩ : ByteArray) (0 : Int) (0 : Int) (0 : Int) r14.1 (r13.getD ((2 : Int).toNat) (⟨#[]⟩ : ByteArray))))) (K1 a0 (0 : Int) (⟨#[]⟩ : ByteArray) (0 : Int) (0 : Int) (0 : Int) (0 : Int) (⟨#[]⟩ : ByteArray))))))))))))))
abbrev g5_s0 (x0 : ByteArray) : St DD := { tmps := [(0, .v (.string x0))], boxes := [], rows := [], imps := [] }
abbrev g5_s1 : St DD := { tmps := [(2, .ptr 0 0), (3, .v (.bool false))], boxes := [(0, some [.v (.int .i64 (0 : Int)), .v (.string (⟨#[]⟩ : ByteArray)), .v (.int .i64 (0 : Int)), .v (.int .i64 (0 : Int)), .v (.int .i64 (0 : Int)), .v (.int .i64 (0 : Int)), .v (.string (⟨#[]⟩ : ByteArray))])], rows := [], imps := [] }
abbrev g5_s2 (x0 : ByteArray) (x1 : Int) (x2 : ByteArray) (x3 : Int) (x4 : Int) (x5 : Int) (x6 : Int) (x7 : ByteArray) : St DD := { tmps := [(0, .v (.string x0)), (2, .ptr 0 0), (5, .ptr 1 0)], boxes := [(0, some [.v (.int .i64 (0 : Int)), .v (.string (⟨#[]⟩ : ByteArray)), .v (.int .i64 (0 : Int)), .v (.int .i64 (0 : Int)), .v (.int .i64 (0 : Int)), .v (.int .i64 (0 : Int)), .v (.string (⟨#[]⟩ : ByteArray))]), (1, some [.v (.int .i64 x1), .v (.string x2), .v (.int .i64 x3), .v (.int .i64 x4), .v (.int .i64 x5), .v (.int .i64 x6), .v (.string x7)])], rows := [], imps := [] }
theorem g5_n1_ok {ρ : Type} (k : Nat) (K : Ex → St DD → Option ρ) (c : Code) (a0 : ByteArray) : run LD sigD (Fn CD k) 152 live5 k (seqs [sub b5 [0], sub b5 [1, 0, 0], sub b5 [1, 0, 1], sub b5 [1, 1, 0], sub b5 [1, 1, 1, 0], sub b5 [1, 1, 1, 1, 0]] c) (g5_s0 a0) K = g5_n1 k a0 (K .ret g5_s1) (fun y0 y1 y2 y3 y4 y5 y6 y7 => run LD sigD (Fn CD k) 152 live5 k c (g5_s2 y0 y1 y2 y3 y4 y5 y6 y7) K) := by kernel_rfl
noncomputable def g5_n2 {ρ : Type} (k : Nat) (a0 : ByteArray) (a1 : Int) (a2 : ByteArray) (a3 : Int) (a4 : Int) (a5 : Int) (a6 : Int) (a7 : ByteArray) (K0 : Bool → Int → ByteArray → Int → Int → Int → Int → ByteArray → Option ρ) : Option ρ := (c14 k [.agg [.v (.int .i64 a1), .v (.string a2), .v (.int .i64 a3), .v (.int .i64 a4), .v (.int .i64 a5), .v (.int .i64 a6), .v (.string a7)]]).bind fun (r15 : ByteArray) => cond ((eqS r15 (⟨#[]⟩ : ByteArray)) || (!(eqS r15 a0))) (K0 false (0 : Int) (⟨#[]⟩ : ByteArray) (0 : Int) (0 : Int) (0 : Int) (0 : Int) (⟨#[]⟩ : ByteArray)) (K0 true a1 a2 a3 a4 a5 a6 a7)
abbrev g5_s3 (x0 : Bool) (x1 : Int) (x2 : ByteArray) (x3 : Int) (x4 : Int) (x5 : Int) (x6 : Int) (x7 : ByteArray) : St DD := { tmps := [(2, .ptr 0 0), (3, .v (.bool x0))], boxes := [(0, some [.v (.int .i64 x1), .v (.string x2), .v (.int .i64 x3), .v (.int .i64 x4), .v (.int .i64 x5), .v (.int .i64 x6), .v (.string x7)])], rows := [], imps := [] }
theorem g5_n2_ok {ρ : Type} (k : Nat) (K : Ex → St DD → Option ρ) (c : Code) (a0 : ByteArray) (a1 : Int) (a2 : ByteArray) (a3 : Int) (a4 : Int) (a5 : Int) (a6 : Int) (a7 : ByteArray) : run LD sigD (Fn CD k) 152 live5 k (seqs [sub b5 [1, 1, 1, 1, 1, 0], sub b5 [1, 1, 1, 1, 1, 1, 0, 0], sub b5 [1, 1, 1, 1, 1, 1, 0, 1], sub b5 [1, 1, 1, 1, 1, 1, 1, 0], sub b5 [1, 1, 1, 1, 1, 1, 1, 1]] c) (g5_s2 a0 a1 a2 a3 a4 a5 a6 a7) K = g5_n2 k a0 a1 a2 a3 a4 a5 a6 a7 (fun y0 y1 y2 y3 y4 y5 y6 y7 => K .ret (g5_s3 y0 y1 y2 y3 y4 y5 y6 y7)) := by kernel_rfl
noncomputable def g5_n3 {ρ : Type} (k : Nat) (a0 : ByteArray) (a1 : Int) (a2 : ByteArray) (a3 : Int) (a4 : Int) (a5 : Int) (a6 : Int) (a7 : ByteArray) (K0 : Bool → Int → ByteArray → Int → Int → Int → Int → ByteArray → Option ρ) : Option ρ := g5_n2 k a0 a1 a2 a3 a4 a5 a6 a7 K0
theorem g5_n3_ok {ρ : Type} (k : Nat) (K : Ex → St DD → Option ρ) (a0 : ByteArray) (a1 : Int) (a2 : ByteArray) (a3 : Int) (a4 : Int) (a5 : Int) (a6 : Int) (a7 : ByteArray) : run LD sigD (Fn CD k) 152 live5 k (seqs [sub b5 [1, 1, 1, 1, 1, 0], sub b5 [1, 1, 1, 1, 1, 1, 0, 0], sub b5 [1, 1, 1, 1, 1, 1, 0, 1], sub b5 [1, 1, 1, 1, 1, 1, 1, 0], sub b5 [1, 1, 1, 1, 1, 1, 1, 1]] .skip) (g5_s2 a0 a1 a2 a3 a4 a5 a6 a7) K = g5_n3 k a0 a1 a2 a3 a4 a5 a6 a7 (fun y0 y1 y2 y3 y4 y5 y6 y7 => K .ret (g5_s3 y0 y1 y2 y3 y4 y5 y6 y7)) := Eq.mp (by kernel_rfl) (g5_n2_ok k K .skip a0 a1 a2 a3 a4 a5 a6 a7)
noncomputable def g5_n4 {ρ : Type} (k : Nat) (a0 : ByteArray) (K0 : Bool → Int → ByteArray → Int → Int → Int → Int → ByteArray → Option ρ) : Option ρ := g5_n1 k a0 (K0 false (0 : Int) (⟨#[]⟩ : ByteArray) (0 : Int) (0 : Int) (0 : Int) (0 : Int) (⟨#[]⟩ : ByteArray)) (fun z0 z1 z2 z3 z4 z5 z6 z7 => g5_n3 k z0 z1 z2 z3 z4 z5 z6 z7 K0)
theorem g5_n4_ok {ρ : Type} (k : Nat) (K : Ex → St DD → Option ρ) (a0 : ByteArray) : run LD sigD (Fn CD k) 152 live5 k (seqs [sub b5 [0], sub b5 [1, 0, 0], sub b5 [1, 0, 1], sub b5 [1, 1, 0], sub b5 [1, 1, 1, 0], sub b5 [1, 1, 1, 1, 0], sub b5 [1, 1, 1, 1, 1, 0], sub b5 [1, 1, 1, 1, 1, 1, 0, 0], sub b5 [1, 1, 1, 1, 1, 1, 0, 1], sub b5 [1, 1, 1, 1, 1, 1, 1, 0], sub b5 [1, 1, 1, 1, 1, 1, 1, 1]] .skip) (g5_s0 a0) K = g5_n4 k a0 (fun y0 y1 y2 y3 y4 y5 y6 y7 => K .ret (g5_s3 y0 y1 y2 y3 y4 y5 y6 y7)) := Eq.mp (by kernel_rfl) (transK (g5_n1_ok k K (seqs [sub b5 [1, 1, 1, 1, 1, 0], sub b5 [1, 1, 1, 1, 1, 1, 0, 0], sub b5 [1, 1, 1, 1, 1, 1, 0, 1], sub b5 [1, 1, 1, 1, 1, 1, 1, 0], sub b5 [1, 1, 1, 1, 1, 1, 1, 1]] .skip) a0) (by kernel_rfl) (congrArg (fun X => g5_n1 k a0 (K .ret g5_s1) X) (funext fun z0 => funext fun z1 => funext fun z2 => funext fun z3 => funext fun z4 => funext fun z5 => funext fun z6 => funext fun z7 => g5_n3_ok k K z0 z1 z2 z3 z4 z5 z6 z7)))
noncomputable def g5 (k : Nat) (a0 : ByteArray) : Option (Int × ByteArray × Int × Int × Int × Int × ByteArray × Bool) := g5_n4 k a0 (fun y0 y1 y2 y3 y4 y5 y6 y7 => some (y1, y2, y3, y4, y5, y6, y7, y0))
theorem g5_eq (k : Nat) (a0 : ByteArray) : c5 (k + 1) [.v (.string a0)] = g5 k a0 := Eq.mp (by kernel_rfl) (transK (run_list (L := LD) (sig := sigD) (call := Fn CD k) (nt := 152) (live := live5) (n := k) b5 (g5_s0 a0) (finK 5 Tryd.f5)) (by kernel_rfl) (g5_n4_ok k (finK 5 Tryd.f5) a0))
noncomputable def g3 (k : Nat) (a0 : ByteArray) : Option (Bool) := cond (decide ((a0.size : Int) > (1048576 : Int))) (some true) ((c5 k [.v (.string a0)]).bind fun (r16 : Int × ByteArray × Int × Int × Int × Int × ByteArray × Bool) => (c6 k [.v (.string a0)]).bind fun (r17 : Int × ByteArray × Int × Int × Int × Int × ByteArray × Bool) => (c7 k [.agg [.v (.int .i64 r17.1), .v (.string r17.2.1), .v (.int .i64 r17.2.2.1), .v (.int .i64 r17.2.2.2.1), .v (.int .i64 r17.2.2.2.2.1), .v (.int .i64 r17.2.2.2.2.2.1), .v (.string r17.2.2.2.2.2.2.1)], .agg [.v (.int .i64 r16.1), .v (.string r16.2.1), .v (.int .i64 r16.2.2.1), .v (.int .i64 r16.2.2.2.1), .v (.int .i64 r16.2.2.2.2.1), .v (.int .i64 r16.2.2.2.2.2.1), .v (.string r16.2.2.2.2.2.2.1)]]).bind fun (r18 : Bool) => cond ((!r18) || (!(r17.2.2.2.2.2.2.2 == r16.2.2.2.2.2.2.2))) (some false) (some true))
theorem g3_eq (k : Nat) (a0 : ByteArray) : c3 (k + 1) [.v (.string a0)] = g3 k a0 := by kernel_rfl
end Go.Proofs.YtgnbfmoifnfneaaDoor.V
namespace Go.Proofs.YtgnbfmoifnfneaaDoor.Open
open Go.RowKit Go.Proofs.YtgnbfmoifnfneaaDoorW.PrintWords
open Go.ChangeShapes Go.WideShapes
set_option linter.unusedVariables false
def InS (s : ByteArray) : Prop := s.size ≤ 9223372036854775807
end Go.Proofs.YtgnbfmoifnfneaaDoor.Open
namespace Go.Proofs.YtgnbfmoifnfneaaDoor.L
open Go.RowKit Go.Proofs.YtgnbfmoifnfneaaDoorW.PrintWords Go.Proofs.YtgnbfmoifnfneaaDoorW.PrintMore
set_option linter.unusedVariables false
set_option linter.unusedSimpArgs false
theorem wrap_id {x : Int} (h0 : -9223372036854775808 ≤ x) (h1 : x ≤ 9223372036854775807) : wrap64 x = x := by unfold wrap64; omega
theorem wrap_nat_succ {i : Nat} (h : i < 9223372036854775807) : wrap64 ((i : Int) + 1) = ((i + 1 : Nat) : Int) := by unfold wrap64; omega
theorem evVal {α : Type} {g : Nat → Option α} {r r' : α} (h : Ev g r) (e : r = r') : Ev g r' := e ▸ h
theorem evConst {α : Type} {o : Option α} {r : α} (h : o = some r) : Ev (fun _ => o) r := ⟨0, fun _ _ => h⟩
theorem search_ev {ρ : Type} (n : Nat) (G : Nat → Int → Option ρ) (p : Nat → Bool) (rno ryes : ρ)
  (hgo : ∀ i, i < n → p i = true → ∀ r, Ev (fun k => G k ((i + 1 : Nat) : Int)) r → Ev (fun k => G k (i : Int)) r)
  (hstop : ∀ i, i < n → p i = false → Ev (fun k => G k (i : Int)) rno)
  (hend : Ev (fun k => G k (n : Int)) ryes) : Ev (fun k => G k 0) (if (List.range n).all p then ryes else rno) := by
 have key : ∀ d i, i + d = n → Ev (fun k => G k (i : Int)) (if ((List.range n).drop i).all p then ryes else rno) := by
  intro d
  induction d with
  | zero =>
   intro i h
   (obtain rfl : i = n := by omega); (rw [List.drop_of_length_le (by simp)])
   exact hend
  | succ d ih =>
   intro i h
   (have hi : i < n := by omega); (rw [List.drop_eq_getElem_cons (by simpa using hi), List.getElem_range, List.all_cons])
   cases hp : p i with
   | true => simpa using hgo i hi hp _ (ih (i + 1) (by omega))
   | false => simpa using hstop i hi hp
 have := key n 0 (by omega)
 simpa using this
theorem all_range {α : Type} (l : List α) (z : α) (q : α → Bool) : (List.range l.length).all (fun i => q (l.getD i z)) = l.all q := by
 induction l with
 | nil => rfl
 | cons x xs ih =>
  rw [List.length_cons, List.range_succ_eq_map, List.all_cons, List.all_map, List.all_cons, ← ih]
  rfl
theorem getD_lt {α : Type} {l : List α} {i : Nat} (z : α) (h : i < l.length) : l.getD i z = l[i] := by simp [List.getD, h]
end Go.Proofs.YtgnbfmoifnfneaaDoor.L
namespace Go.Proofs.YtgnbfmoifnfneaaDoor.L
open Go.RowKit Go.Proofs.YtgnbfmoifnfneaaDoor.QA Go.Proofs.YtgnbfmoifnfneaaDoorW.PrintWords Go.Proofs.YtgnbfmoifnfneaaDoorW.PrintLast
set_option linter.unusedVariables false
set_option linter.unusedSimpArgs false
theorem within_eq (n lo hi : Int) : impl_within.f n lo hi = some (decide (lo ≤ n ∧ n ≤ hi)) := by
 unfold impl_within.f
 by_cases h : n ≥ lo
 ·rw [if_pos h]
  by_cases h2 : n ≤ hi <;> simp [h2] <;> omega
 ·rw [if_neg h]
  simp
  omega
def shapeB (a b : Int) : Bool := if a = 6 then decide (1 ≤ b ∧ b ≤ 16) else decide (1 ≤ a ∧ a ≤ 5 ∧ b = 0)
theorem isShape_eq (a b : Int) : impl_isShape.f a b = some (shapeB a b) := by
 unfold impl_isShape.f shapeB
 simp only [within_eq, Option.bind_some]
 by_cases h6 : a = 6
 ·simp [h6]
 ·by_cases h1 : 1 ≤ a ∧ a ≤ 5
  ·simp [h6, h1]
   by_cases hb : b = 0 <;> simp [hb]
  ·simp [h6, h1]
   omega
theorem l18Shape_eq (a b : Int) : spec_l18Shape.f a b = some (shapeB a b) := by
 unfold spec_l18Shape.f shapeB
 by_cases h6 : a = 6
 ·simp only [h6, if_true]
  by_cases h1 : b ≥ 1
  ·have h1' : 1 ≤ b := h1
   by_cases h2 : b ≤ 16 <;> simp [h1', h2]
  ·have h1' : ¬ 1 ≤ b := h1
   simp [h1']
 ·rw [if_neg h6, if_neg h6]
  by_cases h1 : a ≥ 1
  ·rw [if_pos h1]
   by_cases h2 : a ≤ 6
   ·rw [if_pos h2]
    (have h3 : a ≤ 5 := by omega); (have h1' : 1 ≤ a := h1)
    by_cases hb : b = 0 <;> simp [hb, h1', h3]
   ·rw [if_neg h2]
    have h3 : ¬ a ≤ 5 := by omega
    simp [h3]
  ·rw [if_neg h1]
   have h1' : ¬ 1 ≤ a := h1
   simp [h1']
theorem shape_range {a b : Int} (h : shapeB a b = true) : 1 ≤ a ∧ a ≤ 6 ∧ 0 ≤ b ∧ b ≤ 16 ∧ (a ≠ 6 → b = 0) ∧ (a = 6 → 1 ≤ b) := by
 unfold shapeB at h
 by_cases h6 : a = 6
 ·rw [if_pos h6] at h
  have := of_decide_eq_true h
  omega
 ·rw [if_neg h6] at h
  have := of_decide_eq_true h
  omega
end Go.Proofs.YtgnbfmoifnfneaaDoor.L
namespace Go.Proofs.YtgnbfmoifnfneaaDoor.L
open Go.RowKit Go.Proofs.YtgnbfmoifnfneaaDoorW.PrintWords Go.Proofs.YtgnbfmoifnfneaaDoorW.PrintMore
theorem evIf {α : Type} {p : Prop} [Decidable p] {g h : Nat → Option α} {r : α} (hp : p) (hg : Ev g r) : Ev (fun k => if p then g k else h k) r := by simp only [if_pos hp]; exact hg
theorem strOf_nums (l : List UInt8) : strOfNums (l.map fun b => (b.toNat : Int)) = ⟨l.toArray⟩ := by
 unfold strOfNums
 congr 1
 rw [List.map_map]
 have : (fun n : Int => UInt8.ofNat n.toNat) ∘ (fun b : UInt8 => (b.toNat : Int)) = id := by
  funext b
  simp
 rw [this]
 simp
end Go.Proofs.YtgnbfmoifnfneaaDoor.L
namespace Go.Proofs.YtgnbfmoifnfneaaDoor.L
open Go.RowKit Go.Proofs.YtgnbfmoifnfneaaDoor.QA Go.Proofs.YtgnbfmoifnfneaaDoorW.PrintWords Go.Proofs.YtgnbfmoifnfneaaDoorW.PrintLast Go.Proofs.YtgnbfmoifnfneaaDoorW.PrintMore
set_option linter.unusedVariables false
set_option linter.unusedSimpArgs false
def digI (u : Nat) : List Int := (Lib.decDigits u).map fun b => (b.toNat : Int)
theorem digI_small {u : Nat} (h : u < 10) : digI u = [((48 + u : Nat) : Int)] := by
 unfold digI
 rw [Lib.decDigits, dif_pos h, List.map_cons, List.map_nil, UInt8.toNat_ofNat']
 congr 2
 omega
theorem digI_big {u : Nat} (h : ¬ u < 10) : digI u = digI (u / 10) ++ [((48 + u % 10 : Nat) : Int)] := by
 unfold digI
 rw [Lib.decDigits, dif_neg h, List.map_append, List.map_cons, List.map_nil, UInt8.toNat_ofNat']
 congr 3
 omega
def numS (n : Int) : ByteArray := ⟨(Lib.itoa n).toArray⟩
theorem numS_pos {n : Int} (h : 0 ≤ n) : numS n = strOfNums (digI n.toNat) := by
 unfold numS Lib.itoa digI
 rw [if_neg (by omega), strOf_nums]
theorem numLoop_ev (n : Int) (hn : 0 ≤ n) : ∀ (u : Nat) (acc : List Int), 0 < u → u < 1000000000000000000 → acc.length + u < 140737488355320 → Ev (fun k => spec_l04Num.l0 k n acc (u : Int)) (strOfNums (digI u ++ acc)) := by
 intro u
 induction u using Nat.strongRecOn with
 | _ u ih =>
  intro acc h0 hu hl
  refine Ev.step (fun k => rfl) ?_
  (have e1 : Int.tmod (u : Int) 10 = ((u % 10 : Nat) : Int) := by rw [Int.tmod_eq_emod_of_nonneg (by omega)]; omega); (have e2 : wrap64 (Int.tdiv (u : Int) 10) = ((u / 10 : Nat) : Int) := by rw [Int.tdiv_eq_ediv_of_nonneg (by omega), wrap_id (by omega) (by omega)]; omega); (have e3 : (wrap64 (48 + ((u % 10 : Nat) : Int))) % 256 = ((48 + u % 10 : Nat) : Int) := by rw [wrap_id (by omega) (by omega)]; omega); (simp only [spec_l04Num.l0, if_neg (show ¬ (u : Int) = 0 by omega), e1, e2, e3, if_neg (show ¬ ((u % 10 : Nat) : Int) < 0 by omega), Option.bind_some, List.length_cons, List.length_nil, if_pos (show 0 + 1 + acc.length < 140737488355328 by omega)])
  by_cases hs : u < 10
  ·rw [digI_small hs, show u / 10 = 0 by omega, show u % 10 = u by omega]
   refine Ev.step (fun k => rfl) ?_
   simp only [spec_l04Num.l0, show ((0 : Nat) : Int) = 0 from rfl, if_true, if_neg (show ¬ n < 0 by omega)]
   exact Ev.now _
  ·have := ih (u / 10) (by omega) ([((48 + u % 10 : Nat) : Int)] ++ acc) (by omega) (by omega) (by simp only [List.length_append, List.length_cons, List.length_nil]; omega)
   rw [digI_big hs, List.append_assoc]
   exact this
theorem specNum_ev (n : Int) (h0 : 0 ≤ n) (h1 : n ≤ 100000000000000) : Ev (fun k => spec_l04Num.f k n) (numS n) := by
 unfold spec_l04Num.f
 by_cases h : n = 0
 ·subst h
  simp only [if_true]
  exact evVal (Ev.now _) (by rw [numS_pos (by omega), show (0 : Int).toNat = 0 from rfl, digI_small (by omega)]; rfl)
 ·simp only [if_neg h]
  (have := numLoop_ev n h0 n.toNat [] (by omega) (by omega) (by simp only [List.length_nil]; omega)); (rw [Int.toNat_of_nonneg h0] at this); (rw [numS_pos h0])
  simpa using this
theorem itoa_eq (n : Int) (h0 : 0 ≤ n) (h1 : n ≤ 100000000000000) : strconv_Itoa_36.f n = some (numS n) := by
 unfold strconv_Itoa_36.f numS
 rw [if_pos (by omega)]
theorem numS_sz (n : Int) (h0 : 0 ≤ n) (h1 : n ≤ 100000000000000) : (numS n).size ≤ 21 := by
 have := Lib.itoa_length_le n (by omega) (by omega)
 unfold numS
 simpa [ByteArray.size] using this
def reqQ (a : Int) (w : ByteArray) (e : Int) (t : ByteArray) : Bool := shapeB a e && (decide (w.size ≤ 100) && decide (t.size ≤ 2000))
theorem specReqOk_q (a : Int) (w : ByteArray) (b c d e : Int) (t : ByteArray) : spec_ReqOk.f a w b c d e t = some (reqQ a w e t) := by
 unfold spec_ReqOk.f reqQ
 rw [l18Shape_eq, Option.bind_some]
 cases shapeB a e with
 | false => rfl
 | true =>
  simp only [if_true, Bool.true_and]
  by_cases h : w.size ≤ 100
  ·rw [if_pos (by omega)]
   simp only [h, decide_true, Bool.true_and]
   congr 2
   simp; omega
  ·rw [if_neg (by omega)]
   simp [h]
theorem isReq_q (a : Int) (w : ByteArray) (b c d e : Int) (t : ByteArray) : impl_isReq.f a w b c d e t = some (reqQ a w e t) := by
 unfold impl_isReq.f reqQ
 rw [isShape_eq, Option.bind_some]
 cases shapeB a e with
 | false => rfl
 | true =>
  simp only [if_true, Bool.true_and]
  by_cases h : w.size ≤ 100
  ·rw [if_pos (by omega)]
   simp only [h, decide_true, Bool.true_and]
   congr 2
   simp; omega
  ·rw [if_neg (by omega)]
   simp [h]
def gapU8 (b : UInt8) : Bool := ([9, 10, 13, 32] : List UInt8).contains b
def goodW (s : ByteArray) : Bool := decide (0 < s.size) && !(s.data.toList.any gapU8)
theorem data_size (s : ByteArray) : s.data.toList.length = s.size := (Lib.size_eq s).symm
theorem bt_data (s : ByteArray) {i : Nat} (h : i < s.size) : bt s (i : Int) = ((s.data.toList.getD i 0).toNat : Int) := by
 unfold bt
 rw [dif_pos (by simpa using h), getD_lt _ (by rw [data_size]; exact h)]
 rfl
theorem gap_eq (b : UInt8) : spec_l01Gap.f (b.toNat : Int) = some (gapU8 b) := by
 unfold spec_l01Gap.f gapU8
 (have e9 : ((b.toNat : Int) = 9) ↔ b = 9 := ⟨fun h => UInt8.toNat_inj.mp (by have e : (9 : UInt8).toNat = 9 := rfl; omega), fun h => by rw [h]; rfl⟩); (have e10 : ((b.toNat : Int) = 10) ↔ b = 10 := ⟨fun h => UInt8.toNat_inj.mp (by have e : (10 : UInt8).toNat = 10 := rfl; omega), fun h => by rw [h]; rfl⟩); (have e13 : ((b.toNat : Int) = 13) ↔ b = 13 := ⟨fun h => UInt8.toNat_inj.mp (by have e : (13 : UInt8).toNat = 13 := rfl; omega), fun h => by rw [h]; rfl⟩); (have e32 : ((b.toNat : Int) = 32) ↔ b = 32 := ⟨fun h => UInt8.toNat_inj.mp (by have e : (32 : UInt8).toNat = 32 := rfl; omega), fun h => by rw [h]; rfl⟩)
 by_cases h9 : b = 9
 ·subst h9; rfl
 by_cases h10 : b = 10
 ·subst h10; rfl
 by_cases h13 : b = 13
 ·subst h13; rfl
 rw [if_neg (fun e => h9 (e9.1 e)), if_neg (fun e => h10 (e10.1 e)), if_neg (fun e => h13 (e13.1 e))]
 congr 1
 rw [Bool.eq_iff_iff, beq_iff_eq, e32]
 simp [h9, h10, h13]
theorem any_false {l : List UInt8} {p : UInt8 → Bool} : (l.any p = false) ↔ (List.range l.length).all (fun i => !p (l.getD i 0)) = true := by
 rw [all_range l 0 (fun b => !p b), List.all_eq_true]
 simp
theorem specWord_ev (s : ByteArray) (hs : s.size ≤ 9223372036854775807) : Ev (fun k => spec_l26Word.f k s) (goodW s) := by
 unfold spec_l26Word.f goodW
 refine evVal (search_ev s.size (fun k i => spec_l26Word.l0 k s i) (fun i => !gapU8 (s.data.toList.getD i 0)) false (decide (0 < s.size)) ?_ ?_ ?_) ?_
 ·intro i hi hp r hr
  rw [Bool.not_eq_true'] at hp
  refine Ev.step (fun k => ?_) hr
  (simp only [spec_l26Word.l0, bt_data s hi, gap_eq, hp, Option.bind_some, Bool.false_eq_true, if_false]); (rw [if_pos (by omega), if_pos (by omega), wrap_nat_succ (by omega)])
 ·intro i hi hp
  rw [Bool.not_eq_false'] at hp
  refine Ev.step (f := fun _ => some false) (fun k => ?_) (Ev.now _)
  (simp only [spec_l26Word.l0, bt_data s hi, gap_eq, hp, Option.bind_some, if_true]); (rw [if_pos (by omega), if_pos (by omega)])
 ·refine Ev.step (f := fun _ => some _) (fun k => ?_) (Ev.now _)
  (simp only [spec_l26Word.l0]); (rw [if_neg (by omega)])
  congr 1
  rw [decide_eq_decide]
  omega
 ·have h := @any_false s.data.toList gapU8
  rw [data_size] at h
  cases hA : (List.range s.size).all fun i => !gapU8 (s.data.toList.getD i 0) with
  | true => rw [h.2 hA]; simp
  | false =>
   have : s.data.toList.any gapU8 = true := by
    cases hB : s.data.toList.any gapU8 with
    | true => rfl
    | false => rw [h.1 hB] at hA; cases hA
   rw [this]; simp
theorem num_eq (n : Int) : spec_l26Num.f n = some (decide (0 ≤ n ∧ n ≤ 999999999)) := by
 unfold spec_l26Num.f
 by_cases h : n ≥ 0
 ·rw [if_pos h]; congr 1; rw [decide_eq_decide]; omega
 ·rw [if_neg h, decide_eq_false (by omega)]
theorem indexAny_any (chars : List UInt8) : ∀ l : List UInt8, decide (0 ≤ Lib.indexAny l chars) = l.any (fun b => chars.contains b)
 | [] => rfl
 | x :: xs => by
  (have hge := Lib.indexAny_ge chars xs); (rw [List.any_cons, ← indexAny_any chars xs])
  show decide ((0 : Int) ≤ (if chars.contains x = true then 0 else if (Lib.indexAny xs chars == -1) = true then -1 else Lib.indexAny xs chars + 1)) = _
  cases chars.contains x with
  | true => simp
  | false =>
   simp only [Bool.false_eq_true, if_false, Bool.false_or, beq_iff_eq]
   by_cases h : Lib.indexAny xs chars = -1
   ·rw [if_pos h, h]
   ·rw [if_neg h, decide_eq_decide]
    omega
theorem containsAny_eq (s : ByteArray) (h : s.size ≤ 100) : strings_ContainsAny.f s ⟨#[9, 10, 13, 32]⟩ = some (s.data.toList.any gapU8) := by
 unfold strings_ContainsAny.f
 rw [if_pos ⟨by omega, by decide, by decide, by decide⟩]
 congr 1
 exact indexAny_any _ _
theorem contains_eq (s : ByteArray) : strings_Contains.f s ⟨#[10]⟩ = some (s.data.toList.any (· == 10)) := by
 unfold strings_Contains.f
 rw [if_pos (by decide)]
 congr 1
 have h := Lib.contains_iff_indexByte s.data.toList 10
 show decide (0 ≤ Lib.indexByte s.data.toList 10) = _
 rw [← h, List.contains_eq_any_beq]
 congr 1
 funext b
 rw [Bool.eq_iff_iff, beq_iff_eq, beq_iff_eq]
 exact eq_comm
abbrev NoT : ByteArray := ⟨#[]⟩
def inN (n : Int) : Prop := 0 ≤ n ∧ n ≤ 999999999
instance (n : Int) : Decidable (inN n) := inferInstanceAs (Decidable (_ ∧ _))
def kindW (a : Int) : ByteArray := if a = 1 then ⟨#[99, 104, 101, 99, 107, 32]⟩ else if a = 2 then ⟨#[116, 111, 112, 32]⟩ else if a = 3 then ⟨#[97, 100, 100, 32]⟩ else if a = 4 then ⟨#[100, 114, 111, 112, 32]⟩ else if a = 5 then ⟨#[115, 101, 116, 32]⟩ else ⟨#[116, 101, 120, 116, 32]⟩
def okT (w t : ByteArray) : Bool := t.toList.isEmpty && goodW w
def reqTextS (a : Int) (w : ByteArray) (b c d e : Int) (t : ByteArray) : ByteArray :=
  if reqQ a w e t = true then
    if a = 6 then (if (w.toList.isEmpty = true ∧ b = 0 ∧ c = 0 ∧ d = 0) ∧ t.data.toList.any (· == 10) = false then ((kindW 6 ++ numS e) ++ ⟨#[32]⟩) ++ t else NoT)
    else if okT w t = true then
      (if a = 2 then (if b = 0 ∧ inN c ∧ inN d then ((((kindW 2 ++ w) ++ ⟨#[32]⟩) ++ numS c) ++ ⟨#[32]⟩) ++ numS d else NoT)
       else if a = 3 ∨ a = 5 then (if (c = 0 ∧ d = 0) ∧ inN b then ((kindW a ++ w) ++ ⟨#[32]⟩) ++ numS b else NoT)
       else (if b = 0 ∧ c = 0 ∧ d = 0 then kindW a ++ w else NoT))
    else NoT
  else NoT
theorem reqTextS_14 {a : Int} {w : ByteArray} {b c d e : Int} {t : ByteArray} (ha : a = 1 ∨ a = 4) (hq : reqQ a w e t = true) : reqTextS a w b c d e t = if okT w t = true then (if b = 0 ∧ c = 0 ∧ d = 0 then kindW a ++ w else NoT) else NoT := by
 unfold reqTextS
 rw [hq, if_pos rfl, if_neg (show ¬ a = 6 by omega), if_neg (show ¬ a = 2 by omega), if_neg (show ¬ (a = 3 ∨ a = 5) by omega)]
theorem reqTextS_2 {w : ByteArray} {b c d e : Int} {t : ByteArray} (hq : reqQ 2 w e t = true) : reqTextS 2 w b c d e t = if okT w t = true then (if b = 0 ∧ inN c ∧ inN d then ((((kindW 2 ++ w) ++ ⟨#[32]⟩) ++ numS c) ++ ⟨#[32]⟩) ++ numS d else NoT) else NoT := by
 unfold reqTextS
 rw [hq, if_pos rfl, if_neg (show ¬ (2 : Int) = 6 by decide), if_pos (show (2 : Int) = 2 from rfl)]
theorem reqTextS_35 {a : Int} {w : ByteArray} {b c d e : Int} {t : ByteArray} (ha : a = 3 ∨ a = 5) (hq : reqQ a w e t = true) : reqTextS a w b c d e t = if okT w t = true then (if (c = 0 ∧ d = 0) ∧ inN b then ((kindW a ++ w) ++ ⟨#[32]⟩) ++ numS b else NoT) else NoT := by
 unfold reqTextS
 rw [hq, if_pos rfl, if_neg (show ¬ a = 6 by omega), if_neg (show ¬ a = 2 by omega), if_pos ha]
theorem empty_iff (l : List UInt8) : (l = []) ↔ l.isEmpty = true := by cases l <;> simp
theorem toList_size (s : ByteArray) : s.toList.isEmpty = decide (s.size = 0) := by
 rw [Lib.toList_data, Lib.size_eq]
 cases s.data.toList <;> simp
theorem kinds {a : Int} (h : 1 ≤ a ∧ a ≤ 6) : a = 1 ∨ a = 2 ∨ a = 3 ∨ a = 4 ∨ a = 5 ∨ a = 6 := by omega
theorem reqQ_facts {a : Int} {w : ByteArray} {e : Int} {t : ByteArray} (h : reqQ a w e t = true) : (1 ≤ a ∧ a ≤ 6) ∧ (0 ≤ e ∧ e ≤ 16) ∧ (a ≠ 6 → e = 0) ∧ w.size ≤ 100 ∧ t.size ≤ 2000 := by
 unfold reqQ at h
 (simp only [Bool.and_eq_true, decide_eq_true_eq] at h); (have := shape_range h.1)
 exact ⟨by omega, by omega, this.2.2.2.2.1, h.2.1, h.2.2⟩
theorem specReqText_ev (a : Int) (w : ByteArray) (b c d e : Int) (t : ByteArray) : Ev (fun k => spec_ReqText.f k a w b c d e t) (reqTextS a w b c d e t) := by
 unfold spec_ReqText.f
 have hno0 : Ev (fun k => spec_ReqText.j0 k true a w b c d e t) NoT := by
  refine Ev.step (fun k => rfl) ?_
  simp only [spec_ReqText.j0, if_true]
  exact Ev.now _
 have hno2 : Ev (fun k => spec_ReqText.j2 k true a w b c d e t) NoT := by
  refine Ev.step (fun k => rfl) ?_
  simp only [spec_ReqText.j2, if_true]
  exact Ev.now _
 simp only [specReqOk_q, num_eq, Option.bind_some]
 cases hq : reqQ a w e t with
 | false => simp only [Bool.false_eq_true, if_false]; exact evVal hno0 (by unfold reqTextS; rw [hq, if_neg (by decide)])
 | true =>
  (simp only [if_true]); (obtain ⟨ha, he, he0, hw, ht⟩ := reqQ_facts hq)
  by_cases hn : inN b ∧ inN c ∧ inN d
  ·obtain ⟨hb, hc, hd⟩ := hn
   (have nb := numS_sz b hb.1 (by have := hb.2; omega)); (have nc := numS_sz c hc.1 (by have := hc.2; omega)); (have nd := numS_sz d hd.1 (by have := hd.2; omega)); (have ne := numS_sz e he.1 (by omega)); (have evb := specNum_ev b hb.1 (by have := hb.2; omega)); (have evc := specNum_ev c hc.1 (by have := hc.2; omega)); (have evd := specNum_ev d hd.1 (by have := hd.2; omega)); (have eve := specNum_ev e he.1 (by omega)); (have s1 : (⟨#[32]⟩ : ByteArray).size = 1 := rfl); (simp only [decide_eq_true (show 0 ≤ b ∧ b ≤ 999999999 from hb), decide_eq_true (show 0 ≤ c ∧ c ≤ 999999999 from hc), decide_eq_true (show 0 ≤ d ∧ d ≤ 999999999 from hd), if_true, Bool.not_true])
   -- a word is asked for
   have htail : ∀ A, Ev (fun k => spec_ReqText.j2 k false a w b c d e t) A → Ev (fun k => if t.toList = ([] : List UInt8) then ((spec_l26Word.f k w).bind fun x => (if x = true then (spec_ReqText.j2 k false a w b c d e t) else (spec_ReqText.j2 k true a w b c d e t))) else (spec_ReqText.j2 k true a w b c d e t)) (if okT w t = true then A else NoT) := by
    intro A hA
    unfold okT
    by_cases h : t.toList = ([] : List UInt8)
    ·simp only [if_pos h, (empty_iff _).1 h, Bool.true_and]
     refine Ev.bind (specWord_ev w (by omega)) ?_
     cases goodW w with
     | true => simp only [if_true]; exact hA
     | false => simp only [Bool.false_eq_true, if_false]; exact hno2
    ·simp only [if_neg h, show t.toList.isEmpty = false by cases hh : t.toList.isEmpty with | false => rfl | true => exact absurd ((empty_iff _).2 hh) h, Bool.false_and, Bool.false_eq_true, if_false]
     exact hno2
   rcases kinds ha with rfl | rfl | rfl | rfl | rfl | rfl
   ·refine Ev.step (fun k => rfl) ?_
    simp only [spec_ReqText.j0, Bool.false_eq_true, if_false, show ¬ ((1 : Int) = 3) by decide, show ((1 : Int) == 2) = false by decide, show ((1 : Int) == 5) = false by decide]
    refine Ev.step (fun k => rfl) ?_
    simp only [spec_ReqText.j1, Bool.false_eq_true, if_false, show ¬ ((1 : Int) = 6) by decide]
    by_cases h : b = 0 ∧ c = 0 ∧ d = 0
    ·simp only [if_pos h.1, if_pos h.2.1, if_pos h.2.2]
     refine evVal (htail (kindW 1 ++ w) ?_) (by rw [reqTextS_14 (by decide) hq, if_pos h])
     refine Ev.step (fun k => rfl) ?_
     simp only [spec_ReqText.j2, Bool.false_eq_true, if_false, if_true]
     exact evIf (by omega) (Ev.now _)
    ·refine evVal (r := NoT) ?_ (by rw [reqTextS_14 (by decide) hq, if_neg h]; split <;> rfl)
     by_cases h1 : c = 0
     ·by_cases h2 : d = 0
      ·simp only [if_pos h1, if_pos h2, if_neg (show ¬ b = 0 from fun h3 => h ⟨h3, h1, h2⟩)]; exact hno2
      ·simp only [if_pos h1, if_neg h2]; exact hno2
     ·simp only [if_neg h1]; exact hno2
   ·refine Ev.step (fun k => rfl) ?_
    simp only [spec_ReqText.j0, Bool.false_eq_true, if_false, show ¬ ((2 : Int) = 3) by decide, show ((2 : Int) == 2) = true by decide, show ((2 : Int) == 5) = false by decide]
    refine Ev.step (fun k => rfl) ?_
    simp only [spec_ReqText.j1, Bool.false_eq_true, if_false, if_true, show ¬ ((2 : Int) = 6) by decide]
    by_cases h : b = 0
    ·simp only [if_pos h]
     refine evVal (htail (((((kindW 2 ++ w) ++ ⟨#[32]⟩) ++ numS c) ++ ⟨#[32]⟩) ++ numS d) ?_) (by rw [reqTextS_2 hq, if_pos (show b = 0 ∧ inN c ∧ inN d from ⟨h, hc, hd⟩)])
     refine Ev.step (fun k => rfl) ?_
     (have s4 : (⟨#[116, 111, 112, 32]⟩ : ByteArray).size = 4 := rfl); (simp only [spec_ReqText.j2, Bool.false_eq_true, if_false, if_true, show ¬ ((2 : Int) = 1) by decide])
     refine evIf (by omega) (evIf (by rw [ByteArray.size_append, s4]; omega) (Ev.bind evc ?_))
     refine evIf (by simp only [ByteArray.size_append, s4, s1]; omega) (evIf (by simp only [ByteArray.size_append, s4, s1]; omega) (Ev.bind evd ?_))
     exact evIf (by simp only [ByteArray.size_append, s4, s1]; omega) (Ev.now _)
    ·simp only [if_neg h]
     exact evVal hno2 (by rw [reqTextS_2 hq, if_neg (show ¬ (b = 0 ∧ inN c ∧ inN d) from fun hh => h hh.1)]; split <;> rfl)
   ·refine Ev.step (fun k => rfl) ?_
    simp only [spec_ReqText.j0, Bool.false_eq_true, if_false, if_true, show ((3 : Int) == 2) = false by decide]
    refine Ev.step (fun k => rfl) ?_
    simp only [spec_ReqText.j1, Bool.false_eq_true, if_false, if_true, show ¬ ((3 : Int) = 6) by decide]
    by_cases h : c = 0 ∧ d = 0
    ·simp only [if_pos h.1, if_pos h.2]
     refine evVal (htail (((kindW 3 ++ w) ++ ⟨#[32]⟩) ++ numS b) ?_) (by rw [reqTextS_35 (by decide) hq, if_pos (show (c = 0 ∧ d = 0) ∧ inN b from ⟨h, hb⟩)])
     refine Ev.step (fun k => rfl) ?_
     (have s4 : (⟨#[97, 100, 100, 32]⟩ : ByteArray).size = 4 := rfl); (simp only [spec_ReqText.j2, Bool.false_eq_true, if_false, if_true, show ¬ ((3 : Int) = 1) by decide, show ¬ ((3 : Int) = 2) by decide])
     refine evIf (by omega) (evIf (by rw [ByteArray.size_append, s4]; omega) (Ev.bind evb ?_))
     exact evIf (by simp only [ByteArray.size_append, s4, s1]; omega) (Ev.now _)
    ·refine evVal (r := NoT) ?_ (by rw [reqTextS_35 (by decide) hq, if_neg (show ¬ ((c = 0 ∧ d = 0) ∧ inN b) from fun hh => h hh.1)]; split <;> rfl)
     by_cases h1 : c = 0
     ·simp only [if_pos h1, if_neg (show ¬ d = 0 from fun h2 => h ⟨h1, h2⟩)]; exact hno2
     ·simp only [if_neg h1]; exact hno2
   ·refine Ev.step (fun k => rfl) ?_
    simp only [spec_ReqText.j0, Bool.false_eq_true, if_false, show ¬ ((4 : Int) = 3) by decide, show ((4 : Int) == 2) = false by decide, show ((4 : Int) == 5) = false by decide]
    refine Ev.step (fun k => rfl) ?_
    simp only [spec_ReqText.j1, Bool.false_eq_true, if_false, show ¬ ((4 : Int) = 6) by decide]
    by_cases h : b = 0 ∧ c = 0 ∧ d = 0
    ·simp only [if_pos h.1, if_pos h.2.1, if_pos h.2.2]
     refine evVal (htail (kindW 4 ++ w) ?_) (by rw [reqTextS_14 (by decide) hq, if_pos h])
     refine Ev.step (fun k => rfl) ?_
     simp only [spec_ReqText.j2, Bool.false_eq_true, if_false, if_true, show ¬ ((4 : Int) = 1) by decide, show ¬ ((4 : Int) = 2) by decide, show ¬ ((4 : Int) = 3) by decide]
     exact evIf (by omega) (Ev.now _)
    ·refine evVal (r := NoT) ?_ (by rw [reqTextS_14 (by decide) hq, if_neg h]; split <;> rfl)
     by_cases h1 : c = 0
     ·by_cases h2 : d = 0
      ·simp only [if_pos h1, if_pos h2, if_neg (show ¬ b = 0 from fun h3 => h ⟨h3, h1, h2⟩)]; exact hno2
      ·simp only [if_pos h1, if_neg h2]; exact hno2
     ·simp only [if_neg h1]; exact hno2
   ·refine Ev.step (fun k => rfl) ?_
    simp only [spec_ReqText.j0, Bool.false_eq_true, if_false, show ¬ ((5 : Int) = 3) by decide, show ((5 : Int) == 2) = false by decide, show ((5 : Int) == 5) = true by decide]
    refine Ev.step (fun k => rfl) ?_
    simp only [spec_ReqText.j1, Bool.false_eq_true, if_false, if_true, show ¬ ((5 : Int) = 6) by decide]
    by_cases h : c = 0 ∧ d = 0
    ·simp only [if_pos h.1, if_pos h.2]
     refine evVal (htail (((kindW 5 ++ w) ++ ⟨#[32]⟩) ++ numS b) ?_) (by rw [reqTextS_35 (by decide) hq, if_pos (show (c = 0 ∧ d = 0) ∧ inN b from ⟨h, hb⟩)])
     refine Ev.step (fun k => rfl) ?_
     (have s4 : (⟨#[115, 101, 116, 32]⟩ : ByteArray).size = 4 := rfl); (simp only [spec_ReqText.j2, Bool.false_eq_true, if_false, if_true, show ¬ ((5 : Int) = 1) by decide, show ¬ ((5 : Int) = 2) by decide, show ¬ ((5 : Int) = 3) by decide, show ¬ ((5 : Int) = 4) by decide])
     refine evIf (by omega) (evIf (by rw [ByteArray.size_append, s4]; omega) (Ev.bind evb ?_))
     exact evIf (by simp only [ByteArray.size_append, s4, s1]; omega) (Ev.now _)
    ·refine evVal (r := NoT) ?_ (by rw [reqTextS_35 (by decide) hq, if_neg (show ¬ ((c = 0 ∧ d = 0) ∧ inN b) from fun hh => h hh.1)]; split <;> rfl)
     by_cases h1 : c = 0
     ·simp only [if_pos h1, if_neg (show ¬ d = 0 from fun h2 => h ⟨h1, h2⟩)]; exact hno2
     ·simp only [if_neg h1]; exact hno2
   ·refine Ev.step (fun k => rfl) ?_
    simp only [spec_ReqText.j0, Bool.false_eq_true, if_false, show ¬ ((6 : Int) = 3) by decide, show ((6 : Int) == 2) = false by decide, show ((6 : Int) == 5) = false by decide]
    refine Ev.step (fun k => rfl) ?_
    simp only [spec_ReqText.j1, Bool.false_eq_true, if_false, if_true]
    by_cases h : b = 0 ∧ c = 0 ∧ d = 0
    ·simp only [if_pos h.1, if_pos h.2.1, if_pos h.2.2]
     by_cases hwe : w.toList.isEmpty = true
     ·have e1 : (w.toList != ([] : List UInt8)) = false := by rw [(empty_iff _).2 hwe]; rfl
      simp only [e1]
      refine Ev.step (fun k => rfl) ?_
      (simp only [spec_ReqText.j2, Bool.false_eq_true, if_false, show ¬ ((6 : Int) = 1) by decide, show ¬ ((6 : Int) = 2) by decide, show ¬ ((6 : Int) = 3) by decide, show ¬ ((6 : Int) = 4) by decide, show ¬ ((6 : Int) = 5) by decide]); (have s5 : (⟨#[116, 101, 120, 116, 32]⟩ : ByteArray).size = 5 := rfl)
      refine evVal (search_ev t.size (fun k i => spec_ReqText.l0 k i 6 w b c d e t) (fun i => !(t.data.toList.getD i 0 == 10)) NoT (((kindW 6 ++ numS e) ++ ⟨#[32]⟩) ++ t) ?_ ?_ ?_) ?_
      ·intro i hi hp r hr
       (rw [Bool.not_eq_true', beq_eq_false_iff_ne] at hp); (have hb10 : ¬ ((t.data.toList.getD i 0).toNat : Int) = 10 := fun hh => hp (UInt8.toNat_inj.mp (by have e : (10 : UInt8).toNat = 10 := rfl; omega)))
       refine Ev.step (fun k => ?_) hr
       (simp only [spec_ReqText.l0, bt_data t hi]); (rw [if_pos (by omega), if_pos (by omega), if_neg hb10, wrap_nat_succ (by omega)])
      ·intro i hi hp
       rw [Bool.not_eq_false', beq_iff_eq] at hp
       refine Ev.step (f := fun _ => some _) (fun k => ?_) (Ev.now _)
       (simp only [spec_ReqText.l0, bt_data t hi, hp]); (rw [if_pos (by omega), if_pos (by omega), if_pos (show ((UInt8.toNat 10 : Nat) : Int) = 10 from rfl)])
      ·refine Ev.step (fun k => rfl) ?_
       simp only [spec_ReqText.l0, if_neg (show ¬ (t.size : Int) < (t.size : Int) by omega)]
       refine Ev.bind eve ?_
       exact evIf (by omega) (evIf (by rw [ByteArray.size_append, s5]; omega) (evIf (by simp only [ByteArray.size_append, s5, s1]; omega) (Ev.now _)))
      ·have ha := @any_false t.data.toList (· == 10)
       rw [data_size] at ha
       unfold reqTextS
       rw [hq, if_pos rfl, if_pos rfl]
       cases hA : (List.range t.size).all fun i => !(t.data.toList.getD i 0 == 10) with
       | true => rw [if_pos rfl, if_pos ⟨⟨hwe, h⟩, ha.2 hA⟩]
       | false => rw [if_neg (by decide), if_neg (fun hh => by rw [ha.1 hh.2] at hA; cases hA)]
     ·have e1 : (w.toList != ([] : List UInt8)) = true := by rw [bne_iff_ne]; exact fun hh => hwe ((empty_iff _).1 hh)
      simp only [e1]
      exact evVal hno2 (by unfold reqTextS; rw [hq, if_pos rfl, if_pos rfl, if_neg (fun hh => hwe hh.1.1)])
    ·refine evVal (r := NoT) ?_ (by unfold reqTextS; rw [hq, if_pos rfl, if_pos rfl, if_neg (fun hh => h hh.1.2)])
     by_cases h1 : c = 0
     ·by_cases h2 : d = 0
      ·simp only [if_pos h1, if_pos h2, if_neg (show ¬ b = 0 from fun h3 => h ⟨h3, h1, h2⟩)]; exact hno2
      ·simp only [if_pos h1, if_neg h2]; exact hno2
     ·simp only [if_neg h1]; exact hno2
  ·have hz : inN 0 := by decide
   refine evVal (r := NoT) ?_ ?_
   ·by_cases h1 : 0 ≤ b ∧ b ≤ 999999999
    ·by_cases h2 : 0 ≤ c ∧ c ≤ 999999999
     ·simp only [decide_eq_true h1, decide_eq_true h2, if_true, decide_eq_false (show ¬ (0 ≤ d ∧ d ≤ 999999999) from fun h3 => hn ⟨h1, h2, h3⟩), Bool.not_false]; exact hno0
     ·simp only [decide_eq_true h1, decide_eq_false h2, if_true, Bool.false_eq_true, if_false]; exact hno0
    ·simp only [decide_eq_false h1, Bool.false_eq_true, if_false]; exact hno0
   ·unfold reqTextS
    rw [hq, if_pos rfl]
    by_cases h6 : a = 6
    ·rw [if_pos h6, if_neg (fun hh => hn (by rw [hh.1.2.1, hh.1.2.2.1, hh.1.2.2.2]; exact ⟨hz, hz, hz⟩))]
    ·rw [if_neg h6]
     split
     ·by_cases h2 : a = 2
      ·rw [if_pos h2, if_neg (fun hh => hn ⟨by rw [hh.1]; exact hz, hh.2⟩)]
      ·rw [if_neg h2]
       by_cases h35 : a = 3 ∨ a = 5
       ·rw [if_pos h35, if_neg (fun hh => hn ⟨hh.2, by rw [hh.1.1]; exact hz, by rw [hh.1.2]; exact hz⟩)]
       ·rw [if_neg h35, if_neg (fun hh => hn (by rw [hh.1, hh.2.1, hh.2.2]; exact ⟨hz, hz, hz⟩))]
     ·rfl
theorem l0_end (x : ByteArray) (L : List Int) : Ev (fun k => impl_reqText.l0 k x L (L.length : Int) (L.length : Int)) x := by
 refine Ev.step (f := fun _ => some x) (fun k => ?_) (Ev.now _)
 (simp only [impl_reqText.l0]); (rw [if_neg (by omega)])
theorem l0_step (x r : ByteArray) (L : List Int) (i : Nat) (hi : i < L.length) (hl : L.length ≤ 100) (hx : x.size ≤ 100000)
  (h : inN (rd L (i : Int)) → Ev (fun k => impl_reqText.l0 k (x ++ (⟨#[32]⟩ ++ numS (rd L (i : Int)))) L (L.length : Int) ((i + 1 : Nat) : Int)) r) :
  Ev (fun k => impl_reqText.l0 k x L (L.length : Int) (i : Int)) (if inN (rd L (i : Int)) then r else NoT) := by
 have s1 : (⟨#[32]⟩ : ByteArray).size = 1 := rfl
 by_cases hn : inN (rd L (i : Int))
 ·rw [if_pos hn]
  have ns := numS_sz _ hn.1 (by have := hn.2; omega)
  refine Ev.step (fun k => ?_) (h hn)
  (simp only [impl_reqText.l0, within_eq, decide_eq_true (show 0 ≤ rd L (i : Int) ∧ rd L (i : Int) ≤ 999999999 from hn), Option.bind_some, if_true, itoa_eq _ hn.1 (show rd L (i : Int) ≤ 100000000000000 by have := hn.2; omega)]); (rw [if_pos (by omega), if_pos (by omega), if_pos (by omega), if_pos (by omega), if_pos (by rw [ByteArray.size_append, s1]; omega), wrap_nat_succ (by omega)])
 ·rw [if_neg hn]
  refine Ev.step (f := fun _ => some NoT) (fun k => ?_) (Ev.now _)
  (simp only [impl_reqText.l0, within_eq, decide_eq_false (show ¬ (0 ≤ rd L (i : Int) ∧ rd L (i : Int) ≤ 999999999) from hn), Option.bind_some, Bool.false_eq_true, if_false]); (rw [if_pos (by omega), if_pos (by omega), if_pos (by omega)])
theorem j1_ev (x r : ByteArray) (L : List Int) (z : Bool) (a : Int) (w : ByteArray) (b c d e : Int) (t : ByteArray) (hx : x.size ≤ 1000) (hw : w.size ≤ 100)
  (h : Ev (fun k => impl_reqText.l0 k ((x ++ ⟨#[32]⟩) ++ w) L (L.length : Int) 0) r) :
  Ev (fun k => impl_reqText.j1 k x L z a w b c d e t) (if z = true then NoT else r) := by
 have s1 : (⟨#[32]⟩ : ByteArray).size = 1 := rfl
 refine Ev.step (fun k => rfl) ?_
 simp only [impl_reqText.j1]
 cases z with
 | true => simp only [if_true]; exact Ev.now _
 | false =>
  simp only [Bool.false_eq_true, if_false]
  exact evIf (by omega) (evIf (by rw [ByteArray.size_append, s1]; omega) h)
theorem j0_ev (x r : ByteArray) (L : List Int) (a : Int) (w : ByteArray) (b c d e : Int) (t : ByteArray) (y0 : Int) (y1 : ByteArray) (y2 y3 y4 y5 : Int) (y6 : ByteArray) (hx : x.size ≤ 1000) (hw : w.size ≤ 100)
  (h : Ev (fun k => impl_reqText.l0 k ((x ++ ⟨#[32]⟩) ++ w) L (L.length : Int) 0) r) :
  Ev (fun k => impl_reqText.j0 k x L a w b c d e t y0 y1 y2 y3 y4 y5 y6) (if (!(y0 == 0) || (!(y1.toList.isEmpty) || (!(y2 == 0) || (!(y3 == 0) || (!(y4 == 0) || (!(y5 == 0) || !(y6.toList.isEmpty))))))) = true then NoT else if goodW w = true then r else NoT) := by
 refine Ev.step (fun k => rfl) ?_
 simp only [impl_reqText.j0, beq_nil_u8]
 generalize (!(y0 == 0) || (!(y1.toList.isEmpty) || (!(y2 == 0) || (!(y3 == 0) || (!(y4 == 0) || (!(y5 == 0) || !(y6.toList.isEmpty))))))) = T
 cases T with
 | true => simp only [if_true]; exact j1_ev x r L true a w b c d e t hx hw h
 | false =>
  simp only [Bool.false_eq_true, if_false]
  by_cases hz : w.toList = ([] : List UInt8)
  ·have : goodW w = false := by
    (have := toList_size w); (rw [(empty_iff _).1 hz] at this); (have h0 := of_decide_eq_true this.symm)
    unfold goodW
    rw [decide_eq_false (by omega)]; rfl
   simp only [if_pos hz, this, Bool.false_eq_true, if_false]
   exact j1_ev x r L true a w b c d e t hx hw h
  ·have : goodW w = !(w.data.toList.any gapU8) := by
    (have h1 := toList_size w); (have h2 : w.toList.isEmpty = false := by cases hh : w.toList.isEmpty with | false => rfl | true => exact absurd ((empty_iff _).2 hh) hz); (rw [h2] at h1); (have h0 := of_decide_eq_false h1.symm)
    unfold goodW
    rw [decide_eq_true (by omega)]; rfl
   simp only [if_neg hz, this]
   refine Ev.bind (evConst (containsAny_eq w (by omega))) ?_
   refine evVal (j1_ev x r L (w.data.toList.any gapU8) a w b c d e t hx hw h) ?_
   cases w.data.toList.any gapU8 <;> rfl
def kindN (a : Int) : ByteArray := if a = 1 then ⟨#[99, 104, 101, 99, 107]⟩ else if a = 2 then ⟨#[116, 111, 112]⟩ else if a = 3 then ⟨#[97, 100, 100]⟩ else if a = 4 then ⟨#[100, 114, 111, 112]⟩ else if a = 5 then ⟨#[115, 101, 116]⟩ else ⟨#[116, 101, 120, 116]⟩
theorem kindN_at {a : Int} (h : 1 ≤ a ∧ a ≤ 6) : reqWordAt.f a = some (kindN a) := by
 rcases kinds h with rfl | rfl | rfl | rfl | rfl | rfl <;> rfl
theorem kindN_w {a : Int} (h : 1 ≤ a ∧ a ≤ 6) : kindN a ++ ⟨#[32]⟩ = kindW a := by
 rcases kinds h with rfl | rfl | rfl | rfl | rfl | rfl <;> rfl
theorem kindN_size {a : Int} (h : 1 ≤ a ∧ a ≤ 6) : (kindN a).size ≤ 5 := by
 rcases kinds h with rfl | rfl | rfl | rfl | rfl | rfl <;> decide
theorem implReqTextIn_ev (a : Int) (w : ByteArray) (b c d e : Int) (t : ByteArray) : Ev (fun k => impl_reqText.f k a w b c d e t) (reqTextS a w b c d e t) := by
 unfold impl_reqText.f
 simp only [isReq_q, Option.bind_some]
 cases hq : reqQ a w e t with
 | false => simp only [Bool.false_eq_true, if_false]; exact evVal (Ev.now _) (by unfold reqTextS; rw [hq, if_neg (by decide)])
 | true =>
  (simp only [if_true]); (obtain ⟨ha, he, he0, hw, ht⟩ := reqQ_facts hq)
  refine Ev.bind (evConst (kindN_at ha)) ?_
  (have hk := kindN_size ha); (have s1 : (⟨#[32]⟩ : ByteArray).size = 1 := rfl)
  by_cases h6 : a = 6
  ·subst h6
   simp only [if_true, beq_nil_u8]
   by_cases hz : w.toList.isEmpty = true ∧ b = 0 ∧ c = 0 ∧ d = 0
   ·obtain ⟨z0, rfl, rfl, rfl⟩ := hz
    simp only [z0, show ((0 : Int) == 0) = true by decide, Bool.not_true, Bool.or_false, Bool.false_eq_true, if_false]
    refine Ev.bind (evConst (contains_eq t)) ?_
    cases hc : t.data.toList.any (· == 10) with
    | true => simp only [if_true]; exact evVal (Ev.now _) (by unfold reqTextS; rw [hq, if_pos rfl, if_pos rfl, if_neg (fun hh => by rw [hc] at hh; cases hh.2)])
    | false =>
     (simp only [Bool.false_eq_true, if_false]); (have ns := numS_sz e he.1 (by omega))
     refine evIf (by omega) (Ev.bind (evConst (itoa_eq e he.1 (by omega))) ?_)
     refine evIf (by simp only [ByteArray.size_append, s1]; omega) (evIf (by simp only [ByteArray.size_append, s1]; omega) (evIf (by simp only [ByteArray.size_append, s1]; omega) ?_))
     refine evVal (Ev.now _) ?_
     unfold reqTextS
     rw [hq, if_pos rfl, if_pos rfl, if_pos ⟨⟨z0, rfl, rfl, rfl⟩, hc⟩, kindN_w ha]
   ·have : (!(w.toList.isEmpty) || (!(b == 0) || (!(c == 0) || !(d == 0)))) = true := by
     cases hw : w.toList.isEmpty with
     | false => rfl
     | true =>
      simp only [Bool.not_true, Bool.false_or, Bool.or_eq_true, Bool.not_eq_true', beq_eq_false_iff_ne]
      by_cases h1 : b = 0
      ·by_cases h2 : c = 0
       ·exact Or.inr (Or.inr (fun h3 => hz ⟨hw, h1, h2, h3⟩))
       ·exact Or.inr (Or.inl h2)
      ·exact Or.inl h1
    simp only [this, if_true]
    exact evVal (Ev.now _) (by unfold reqTextS; rw [hq, if_pos rfl, if_pos rfl, if_neg (fun hh => hz hh.1)])
  ·simp only [if_neg h6]
   (have hee := he0 h6); (have hK : ((kindN a ++ ⟨#[32]⟩) ++ w).size ≤ 1000 := by simp only [ByteArray.size_append, s1]; omega)
   rcases kinds ha with rfl | rfl | rfl | rfl | rfl | rfl
   ·simp only [if_neg (show ¬ (1 : Int) = 2 by decide), if_neg (show ¬ (1 : Int) = 3 by decide), if_neg (show ¬ (1 : Int) = 5 by decide)]
    refine evVal (j0_ev _ _ [] 1 w b c d e t _ _ _ _ _ _ _ (by omega) hw (l0_end _ [])) ?_
    rw [reqTextS_14 (by decide) hq, kindN_w ha, hee]
    unfold okT
    by_cases h1 : b = 0 <;> by_cases h2 : c = 0 <;> by_cases h3 : d = 0 <;> cases t.toList.isEmpty <;> cases goodW w <;> simp [h1, h2, h3, empty_toList_u8]
   ·simp only [if_true]
    refine evVal (j0_ev _ _ [c, d] 2 w b c d e t _ _ _ _ _ _ _ (by omega) hw (l0_step _ _ [c, d] 0 (by simp) (by simp) (by omega) (fun hc => l0_step _ _ [c, d] 1 (by simp) (by simp) (by have hc1 : inN c := hc; have := numS_sz c hc1.1 (by have := hc1.2; omega); simp only [ByteArray.size_append, s1] at hK ⊢; show _ + (1 + (numS c).size) ≤ 100000; omega) (fun _ => l0_end _ [c, d])))) ?_
    rw [reqTextS_2 hq, kindN_w ha, hee]
    unfold okT
    (have e0 : rd [c, d] ((0 : Nat) : Int) = c := rfl); (have e1 : rd [c, d] ((1 : Nat) : Int) = d := rfl); (simp only [e0, e1])
    by_cases h1 : b = 0 <;> by_cases h2 : inN c <;> by_cases h3 : inN d <;> cases t.toList.isEmpty <;> cases goodW w <;> simp [h1, h2, h3, empty_toList_u8, ByteArray.append_assoc]
   ·simp only [if_neg (show ¬ (3 : Int) = 2 by decide), if_true]
    refine evVal (j0_ev _ _ [b] 3 w b c d e t _ _ _ _ _ _ _ (by omega) hw (l0_step _ _ [b] 0 (by simp) (by simp) (by omega) (fun _ => l0_end _ [b]))) ?_
    rw [reqTextS_35 (by decide) hq, kindN_w ha, hee]
    unfold okT
    (have e0 : rd [b] ((0 : Nat) : Int) = b := rfl); (simp only [e0])
    by_cases h1 : inN b <;> by_cases h2 : c = 0 <;> by_cases h3 : d = 0 <;> cases t.toList.isEmpty <;> cases goodW w <;> simp [h1, h2, h3, empty_toList_u8, ByteArray.append_assoc]
   ·simp only [if_neg (show ¬ (4 : Int) = 2 by decide), if_neg (show ¬ (4 : Int) = 3 by decide), if_neg (show ¬ (4 : Int) = 5 by decide)]
    refine evVal (j0_ev _ _ [] 4 w b c d e t _ _ _ _ _ _ _ (by omega) hw (l0_end _ [])) ?_
    rw [reqTextS_14 (by decide) hq, kindN_w ha, hee]
    unfold okT
    by_cases h1 : b = 0 <;> by_cases h2 : c = 0 <;> by_cases h3 : d = 0 <;> cases t.toList.isEmpty <;> cases goodW w <;> simp [h1, h2, h3, empty_toList_u8]
   ·simp only [if_neg (show ¬ (5 : Int) = 2 by decide), if_neg (show ¬ (5 : Int) = 3 by decide), if_true]
    refine evVal (j0_ev _ _ [b] 5 w b c d e t _ _ _ _ _ _ _ (by omega) hw (l0_step _ _ [b] 0 (by simp) (by simp) (by omega) (fun _ => l0_end _ [b]))) ?_
    rw [reqTextS_35 (by decide) hq, kindN_w ha, hee]
    unfold okT
    (have e0 : rd [b] ((0 : Nat) : Int) = b := rfl); (simp only [e0])
    by_cases h1 : inN b <;> by_cases h2 : c = 0 <;> by_cases h3 : d = 0 <;> cases t.toList.isEmpty <;> cases goodW w <;> simp [h1, h2, h3, empty_toList_u8, ByteArray.append_assoc]
   ·exact absurd rfl h6
theorem numS_size (n : Int) (h0 : 0 ≤ n) (h1 : n ≤ 100000000000000) : (numS n).size ≤ 21 := by
 have := Lib.itoa_length_le n (by omega) (by omega)
 unfold numS
 simpa [ByteArray.size] using this
theorem bt_getD' (s : ByteArray) (i : Nat) : bt s (i : Int) = ((s.data.toList.getD i 0).toNat : Int) := by
 rw [← rd_bytesOf]
 unfold rd bytesOf
 rw [Int.toNat_natCast, List.getD_eq_getElem?_getD, List.getD_eq_getElem?_getD, List.getElem?_map]
 cases s.data.toList[i]? <;> rfl
theorem ba_ext {a b : ByteArray} (h : a.data.toList = b.data.toList) : a = b := by
 cases a; cases b
 congr 1
 exact Array.ext' h
theorem ba_append (a b : ByteArray) : (a ++ b).data.toList = a.data.toList ++ b.data.toList := by simp
def spc : ByteArray := ⟨#[32]⟩
def joinS : List ByteArray → ByteArray
 | [] => ⟨#[]⟩
 | [p] => p
 | p :: q :: r => (p ++ spc) ++ joinS (q :: r)
def noSp (p : ByteArray) : Prop := ∀ b, b ∈ p.data.toList → b ≠ 32
theorem joinS_data (p q : ByteArray) (r : List ByteArray) : (joinS (p :: q :: r)).data.toList = p.data.toList ++ 32 :: (joinS (q :: r)).data.toList := by
 show ((p ++ spc) ++ joinS (q :: r)).data.toList = _
 rw [ba_append, ba_append]
 simp [spc]
theorem index_skip : ∀ (p r : List UInt8), (∀ b, b ∈ p → b ≠ 32) → Lib.index (p ++ 32 :: r) [32] = (p.length : Int)
 | [], r, _ => by simp [Lib.index, List.isPrefixOf]
 | c :: p, r, h => by
  (have hc : c ≠ 32 := h c (List.mem_cons_self ..)); (have hp : ([32] : List UInt8).isPrefixOf (c :: (p ++ 32 :: r)) = false := by simp [List.isPrefixOf, Ne.symm hc]); (have ih := index_skip p r (fun b hb => h b (List.mem_cons_of_mem _ hb))); (rw [List.cons_append, Lib.index, hp, ih]); (simp only [Bool.false_eq_true, if_false, List.length_cons]); (rw [if_neg (by rw [beq_iff_eq]; omega)])
  omega
theorem index_none : ∀ p : List UInt8, (∀ b, b ∈ p → b ≠ 32) → Lib.index p [32] = -1
 | [], _ => by simp [Lib.index]
 | c :: p, h => by
  (have hc : c ≠ 32 := h c (List.mem_cons_self ..)); (have hp : ([32] : List UInt8).isPrefixOf (c :: p) = false := by simp [List.isPrefixOf, Ne.symm hc]); (rw [Lib.index, hp, index_none p (fun b hb => h b (List.mem_cons_of_mem _ hb))])
  simp
theorem split_join : ∀ ps : List ByteArray, ps ≠ [] → (∀ p, p ∈ ps → noSp p) → Lib.splitB spc 0 (Lib.countB (joinS ps) spc) (joinS ps) = ps
 | [], h, _ => absurd rfl h
 | [p], _, h => by
  (have hx : Lib.indexB (joinS [p]) spc = -1 := index_none p.data.toList (h p (List.mem_cons_self ..))); (rw [Lib.countB_miss _ _ hx, Lib.splitB_zero])
  rfl
 | p :: q :: r, _, h => by
  have hd := joinS_data p q r
  have hx : Lib.indexB (joinS (p :: q :: r)) spc = (p.size : Int) := by
   show Lib.index _ _ = _
   (rw [hd]); (have := index_skip p.data.toList (joinS (q :: r)).data.toList (h p (List.mem_cons_self ..))); (rw [data_length] at this)
   exact this
  have hsz : (joinS (p :: q :: r)).size = p.size + 1 + (joinS (q :: r)).size := by
   rw [← data_length, hd, List.length_append, List.length_cons, data_length, data_length]; omega
  have e1 : (joinS (p :: q :: r)).extract (p.size + spc.size) (joinS (p :: q :: r)).size = joinS (q :: r) := by
   apply ba_ext
   (rw [Lib.extract_data, hd, show spc.size = 1 from rfl, hsz]); (rw [List.drop_append, List.drop_of_length_le (by rw [data_length]; omega), data_length, show p.size + 1 - p.size = 1 by omega, List.nil_append, List.drop_succ_cons, List.drop_zero, List.take_of_length_le (by rw [data_length]; omega)])
  have e2 : (joinS (p :: q :: r)).extract 0 (p.size + 0) = p := by
   apply ba_ext
   rw [Lib.extract_data, hd, List.drop_zero, List.take_append_of_le_length (by rw [data_length]; omega), List.take_of_length_le (by rw [data_length]; omega)]
  rw [Lib.countB_hit _ _ p.size (by decide) hx, e1, Nat.add_comm 1, Lib.splitB_hit _ _ _ _ p.size hx, e1, e2, split_join (q :: r) (by simp) (fun x hx => h x (List.mem_cons_of_mem _ hx))]
theorem split_size (sep : ByteArray) : ∀ (k : Nat) (s : ByteArray) (m : Nat), s.size ≤ m → ∀ t, t ∈ Lib.splitB sep 0 k s → t.size ≤ m
 | 0, s, m, h, t, ht => by rw [Lib.splitB_zero] at ht; obtain rfl := List.mem_singleton.1 ht; exact h
 | k + 1, s, m, h, t, ht => by
  have ex : ∀ a b, (s.extract a b).size ≤ s.size := fun a b => by
   (rw [← data_length, ← data_length, Lib.extract_data]); (simp only [List.length_take, List.length_drop])
   omega
  unfold Lib.splitB at ht
  split at ht
  ·obtain rfl := List.mem_singleton.1 ht; exact h
  ·rcases List.mem_cons.1 ht with rfl | ht
   ·have := ex 0 ((Lib.indexB s sep).toNat + 0); omega
   ·exact split_size sep k _ m (by have := ex ((Lib.indexB s sep).toNat + sep.size) s.size; omega) t ht
theorem dec_digits : ∀ (u : Nat) (b : UInt8), b ∈ Lib.decDigits u → 48 ≤ b.toNat ∧ b.toNat ≤ 57 := by
 intro u
 induction u using Nat.strongRecOn with
 | _ u ih =>
  intro b hb
  rw [Lib.decDigits] at hb
  split at hb
  ·rename_i h
   (rw [List.mem_singleton] at hb); (rw [hb, UInt8.toNat_ofNat'])
   omega
  ·rcases List.mem_append.1 hb with hb | hb
   ·exact ih (u / 10) (by omega) b hb
   ·rw [List.mem_singleton] at hb
    rw [hb, UInt8.toNat_ofNat']
    omega
theorem dec_ne (u : Nat) : Lib.decDigits u ≠ [] := by
 rw [Lib.decDigits]
 split
 ·simp
 ·simp
theorem parse_append : ∀ (l1 l2 : List UInt8) (acc u : Nat), Lib.parseUint10 acc l1 = .ok u → Lib.parseUint10 acc (l1 ++ l2) = Lib.parseUint10 u l2
 | [], l2, acc, u, h => by
  simp only [Lib.parseUint10] at h
  injection h with h
  subst h; rfl
 | c :: l1, l2, acc, u, h => by
  (rw [List.cons_append]); (simp only [Lib.parseUint10] at h ⊢)
  split at h
  ·rename_i h0
   rw [if_pos h0]
   split at h
   ·cases h
   ·rename_i h1
    rw [if_neg h1]
    split at h
    ·cases h
    ·rename_i h2
     rw [if_neg h2]
     exact parse_append l1 l2 _ u h
  ·cases h
theorem parse_dec : ∀ u : Nat, u < 1000000000000000000 → Lib.parseUint10 0 (Lib.decDigits u) = .ok u := by
 intro u
 induction u using Nat.strongRecOn with
 | _ u ih =>
  intro hu
  have one : ∀ acc d : Nat, d < 10 → acc < 1000000000000000000 → Lib.parseUint10 acc [UInt8.ofNat (48 + d)] = .ok (acc * 10 + d) := by
   intro acc d hd ha
   (have e : (UInt8.ofNat (48 + d)).toNat = 48 + d := by rw [UInt8.toNat_ofNat']; omega); (simp only [Lib.parseUint10, e]); (rw [if_pos (by omega), if_neg (by omega), if_neg (by omega)])
   congr 1
   omega
  rw [Lib.decDigits]
  by_cases h : u < 10
  ·rw [dif_pos h]
   have := one 0 u h (by omega)
   simpa using this
  ·rw [dif_neg h, parse_append _ _ 0 (u / 10) (ih (u / 10) (by omega) (by omega)), one (u / 10) (u % 10) (by omega) (by omega)]
   congr 1
   omega
theorem numS_data (n : Int) : (numS n).data.toList = Lib.itoa n := by unfold numS; simp
theorem numS_noSp {n : Int} (h0 : 0 ≤ n) : noSp (numS n) := by
 intro b hb
 rw [numS_data] at hb
 unfold Lib.itoa at hb
 (rw [if_neg (by omega)] at hb); (have := dec_digits _ b hb)
 intro e
 rw [e] at this
 exact absurd this.1 (by decide)
theorem atoi_num {n : Int} (h0 : 0 ≤ n) (h1 : n ≤ 999999999) : Lib.atoiAll (numS n).data.toList = .ok n := by
 rw [numS_data]
 unfold Lib.itoa
 (rw [if_neg (by omega)]); (have hp := parse_dec n.toNat (by omega)); (have hd := dec_digits n.toNat); (have hne := dec_ne n.toNat)
 generalize hl : Lib.decDigits n.toNat = l at hp hd hne
 cases l with
 | nil => exact absurd rfl hne
 | cons c r =>
  (have hc := hd c (List.mem_cons_self ..)); (rw [Lib.atoiAll_plain c r (by omega) (by omega)]); (have hm : Lib.parseMag (c :: r) = .ok n.toNat := by unfold Lib.parseMag; rw [if_neg (by simp)]; exact hp); (rw [hm])
  unfold Lib.signless
  (simp only); (rw [if_neg (by omega)])
  congr 1
  omega
theorem lineNumber_some (t : ByteArray) (h : t.size ≤ 1048576) : ∃ p, impl_lineNumber.f t = some p := by
 unfold impl_lineNumber.f
 rw [if_pos (by omega)]
 cases hat : Lib.atoiAll t.data.toList with
 | ok v =>
  (have hb := Lib.atoiAll_bounds hat); (have e : strconv_Itoa_36.f v = some ⟨(Lib.itoa v).toArray⟩ := by unfold strconv_Itoa_36.f; rw [if_pos (by omega)]); (simp only [e, Option.bind_some])
  split
  ·split
   ·exact ⟨_, rfl⟩
   ·exact ⟨_, rfl⟩
  ·exact ⟨_, rfl⟩
 | «syntax» => exact ⟨_, rfl⟩
 | range => exact ⟨_, rfl⟩
theorem lineNumber_num {n : Int} (h0 : 0 ≤ n) (h1 : n ≤ 999999999) : impl_lineNumber.f (numS n) = some (n, true) := by
 have hl := numS_size n h0 (by omega)
 unfold impl_lineNumber.f
 (rw [if_pos (by omega), atoi_num h0 h1]); (simp only [itoa_eq n h0 (by omega), Option.bind_some, if_true]); (rw [if_pos ⟨h0, h1⟩])
def valU (n : Nat) (l : List UInt8) : Nat := l.foldl (fun n b => 10 * n + (b.toNat - 48)) n
theorem val_dec : ∀ u : Nat, valU 0 (Lib.decDigits u) = u := by
 intro u
 induction u using Nat.strongRecOn with
 | _ u ih =>
  rw [Lib.decDigits]
  by_cases h : u < 10
  ·rw [dif_pos h]
   show 10 * 0 + ((UInt8.ofNat (48 + u)).toNat - 48) = u
   rw [UInt8.toNat_ofNat']
   omega
  ·rw [dif_neg h]
   unfold valU at ih ⊢
   rw [List.foldl_append, ih (u / 10) (by omega)]
   show 10 * (u / 10) + ((UInt8.ofNat (48 + u % 10)).toNat - 48) = u
   rw [UInt8.toNat_ofNat']
   omega
theorem pow10_le {a b : Nat} (h : a ≤ b) : 10 ^ a ≤ 10 ^ b := Nat.pow_le_pow_right (by omega) h
theorem read_ev (t : ByteArray) : ∃ (x : Int) (ok : Bool), Ev (fun k => spec_l26Read.f k t) (x, ok) ∧ 0 ≤ x ∧ x ≤ 999999999 ∧ (1 ≤ t.size → t.size ≤ 9 → (∀ b, b ∈ t.data.toList → 48 ≤ b.toNat ∧ b.toNat ≤ 57) → x = ((valU 0 t.data.toList : Nat) : Int)) := by
 unfold spec_l26Read.f
 have hno : Ev (fun k => spec_l26Read.j0 k t true) ((0 : Int), false) := by
  refine Ev.step (fun k => rfl) ?_
  simp only [spec_l26Read.j0, if_true]
  exact Ev.now _
 by_cases h1 : (t.size : Int) < 1
 ·simp only [if_pos h1]; exact ⟨0, false, hno, by omega, by omega, fun h => by omega⟩
 ·by_cases h9 : (t.size : Int) > 9
  ·simp only [if_neg h1, h9, decide_true]; exact ⟨0, false, hno, by omega, by omega, fun _ h => by omega⟩
  ·simp only [if_neg h1, h9, decide_false]
   have key : ∀ d i n : Nat, i + d = t.size → n < 10 ^ i → ∃ (x : Int) (ok : Bool), Ev (fun k => spec_l26Read.l0 k t (n : Int) (i : Int)) (x, ok) ∧ 0 ≤ x ∧ x ≤ 999999999 ∧ ((∀ b, b ∈ t.data.toList.drop i → 48 ≤ b.toNat ∧ b.toNat ≤ 57) → x = ((valU n (t.data.toList.drop i) : Nat) : Int)) := by
    intro d
    induction d with
    | zero =>
     intro i n hi hn
     (have hp := pow10_le (show i ≤ 9 by omega)); (have hn9 : n < 1000000000 := by omega)
     refine ⟨(n : Int), ((numS (n : Int)).toList == t.toList), Ev.step (fun k => rfl) ?_, by omega, by omega, fun _ => ?_⟩
     ·simp only [spec_l26Read.l0, if_neg (show ¬ (i : Int) < (t.size : Int) by omega)]
      exact Ev.bind (specNum_ev (n : Int) (by omega) (by omega)) (Ev.now _)
     ·rw [List.drop_of_length_le (by rw [data_length]; omega)]; rfl
    | succ d ih =>
     intro i n hi hn
     (have hlt : i < t.data.toList.length := by rw [data_length]; omega); (have hp := pow10_le (show i + 1 ≤ 9 by omega)); (have hpp : 10 ^ (i + 1) = 10 * 10 ^ i := by rw [Nat.pow_succ, Nat.mul_comm]); (have hbt : bt t (i : Int) = (((t.data.toList[i]).toNat : Nat) : Int) := by rw [bt_getD', getD_lt 0 hlt]); (have hu : (t.data.toList[i]).toNat < 256 := UInt8.toNat_lt _); (have hmem : t.data.toList[i] ∈ t.data.toList.drop i := by rw [List.drop_eq_getElem_cons hlt]; exact List.mem_cons_self ..)
     generalize hbb : t.data.toList[i] = b at hbt hu hmem
     by_cases h48 : b.toNat < 48
     ·refine ⟨0, false, Ev.step (f := fun _ => some (0, false)) (fun k => ?_) (Ev.now _), by omega, by omega, fun h => absurd (h b hmem).1 (by omega)⟩
      simp only [spec_l26Read.l0, hbt, if_pos (show (i : Int) < (t.size : Int) by omega), if_pos (show (0 : Int) ≤ (i : Int) by omega), if_pos (show ((b.toNat : Nat) : Int) < 48 by omega)]
     ·by_cases h57 : b.toNat > 57
      ·refine ⟨0, false, Ev.step (f := fun _ => some (0, false)) (fun k => ?_) (Ev.now _), by omega, by omega, fun h => absurd (h b hmem).2 (by omega)⟩
       simp only [spec_l26Read.l0, hbt, if_pos (show (i : Int) < (t.size : Int) by omega), if_pos (show (0 : Int) ≤ (i : Int) by omega), if_neg (show ¬ ((b.toNat : Nat) : Int) < 48 by omega), if_pos (show ((b.toNat : Nat) : Int) > 57 by omega)]
      ·obtain ⟨x, ok, hev, hx0, hx1, hx2⟩ := ih (i + 1) (10 * n + (b.toNat - 48)) (by omega) (by omega)
       refine ⟨x, ok, Ev.step (fun k => ?_) hev, hx0, hx1, fun h => ?_⟩
       ·have e : wrap64 ((wrap64 (10 * (n : Int))) + ((((b.toNat : Nat) : Int) - 48) % 256)) = ((10 * n + (b.toNat - 48) : Nat) : Int) := by
         rw [wrap_id (x := 10 * (n : Int)) (by omega) (by omega), wrap_id (by omega) (by omega)]; omega
        simp only [spec_l26Read.l0, hbt, if_pos (show (i : Int) < (t.size : Int) by omega), if_pos (show (0 : Int) ≤ (i : Int) by omega), if_neg (show ¬ ((b.toNat : Nat) : Int) < 48 by omega), if_neg (show ¬ ((b.toNat : Nat) : Int) > 57 by omega), e, wrap_nat_succ (show i < 9223372036854775807 by omega)]
       ·rw [hx2 (fun c hc => h c (by rw [List.drop_eq_getElem_cons hlt]; exact List.mem_cons_of_mem _ hc)), List.drop_eq_getElem_cons hlt, hbb]
        rfl
   obtain ⟨x, ok, hev, hx0, hx1, hx2⟩ := key t.size 0 0 (by omega) (by omega)
   refine ⟨x, ok, Ev.step (fun k => rfl) ?_, hx0, hx1, fun _ _ h => hx2 (by simpa using h)⟩
   simp only [spec_l26Read.j0, Bool.false_eq_true, if_false]
   exact hev
theorem itoa_len9 {n : Int} (h0 : 0 ≤ n) (h1 : n ≤ 999999999) : 1 ≤ (numS n).size ∧ (numS n).size ≤ 9 := by
 have key : ∀ (m u : Nat), u < 10 ^ (m + 1) → (Lib.decDigits u).length ≤ m + 1 := by
  intro m
  induction m with
  | zero => intro u hu; rw [Lib.decDigits, dif_pos (by omega)]; simp
  | succ m ih =>
   intro u hu
   rw [Lib.decDigits]
   split
   ·simp
   ·rw [List.length_append, List.length_singleton]
    have := ih (u / 10) (by rw [Nat.pow_succ] at hu; omega)
    omega
 have e : (numS n).size = (Lib.decDigits n.toNat).length := by
  rw [← data_length, numS_data]
  unfold Lib.itoa
  rw [if_neg (by omega)]
 (have := key 8 n.toNat (by omega)); (have hne := dec_ne n.toNat); (rw [e])
 refine ⟨?_, this⟩
 cases h : Lib.decDigits n.toNat with
 | nil => exact absurd h hne
 | cons _ _ => simp
theorem read_num {n : Int} (h0 : 0 ≤ n) (h1 : n ≤ 999999999) : ∃ ok, Ev (fun k => spec_l26Read.f k (numS n)) (n, ok) := by
 (obtain ⟨x, ok, hev, _, _, hx⟩ := read_ev (numS n)); (have hl := itoa_len9 h0 h1)
 have hd : (numS n).data.toList = Lib.decDigits n.toNat := by
  rw [numS_data]
  unfold Lib.itoa
  rw [if_neg (by omega)]
 (have := hx hl.1 hl.2 (by rw [hd]; exact dec_digits _)); (rw [hd, val_dec] at this); (obtain rfl : x = n := by omega)
 exact ⟨ok, hev⟩
def cutN (s : ByteArray) (m : Nat) : Nat → List ByteArray → Nat → Nat → List ByteArray
 | 0, out, frm, _ => out ++ [s.extract frm s.size]
 | d + 1, out, frm, i => if out.length < m then (if s.data.toList.getD i 0 = 32 then cutN s m d (out ++ [s.extract frm i]) (i + 1) (i + 1) else cutN s m d out frm (i + 1)) else out ++ [s.extract frm s.size]
theorem cutN_ev (s : ByteArray) (m : Nat) (hm : m ≤ 1000000) (hs : s.size ≤ 1048576) : ∀ (d i frm : Nat) (out : List ByteArray), i + d = s.size → frm ≤ i → out.length ≤ m → Ev (fun k => spec_l26Cut.l0 k s 32 ((m + 1 : Nat) : Int) out (frm : Int) (i : Int)) (cutN s m d out frm i)
 | 0, i, frm, out, hi, hf, ho => by
  refine Ev.step (fun k => rfl) ?_
  simp only [spec_l26Cut.l0, if_neg (show ¬ (i : Int) < (s.size : Int) by omega)]
  refine Ev.step (f := fun _ => some _) (fun k => ?_) (Ev.now _)
  simp only [spec_l26Cut.j1, Bool.false_eq_true, if_false, if_pos (show (0 : Int) ≤ (frm : Int) by omega), if_pos (show (frm : Int) ≤ (s.size : Int) by omega), if_pos (show out.length < 8796093022208 by omega), Int.toNat_natCast]
  rfl
 | d + 1, i, frm, out, hi, hf, ho => by
  refine Ev.step (fun k => rfl) ?_
  (have e8 : wrap64 (((m + 1 : Nat) : Int) - 1) = (m : Int) := by unfold wrap64; omega); (simp only [spec_l26Cut.l0, if_pos (show (i : Int) < (s.size : Int) by omega), e8])
  unfold cutN
  by_cases h8 : out.length < m
  ·rw [if_pos h8, decide_eq_true (show (out.length : Int) < (m : Int) by omega)]
   refine Ev.step (fun k => rfl) ?_
   simp only [spec_l26Cut.j1, if_true, if_pos (show (0 : Int) ≤ (i : Int) by omega), if_pos (show (i : Int) < (s.size : Int) by omega), bt_getD']
   by_cases hb : s.data.toList.getD i 0 = 32
   ·rw [if_pos hb]
    (have hb' : (((s.data.toList.getD i 0).toNat : Nat) : Int) = 32 := by rw [hb]; rfl); (simp only [if_pos hb', if_pos (show (0 : Int) ≤ (frm : Int) by omega), if_pos (show (frm : Int) ≤ (i : Int) by omega), if_pos (show (i : Int) ≤ (s.size : Int) by omega), if_pos (show out.length < 8796093022208 by omega), Int.toNat_natCast, wrap_nat_succ (show i < 9223372036854775807 by omega)])
    exact cutN_ev s m hm hs d (i + 1) (i + 1) _ (by omega) (Nat.le_refl _) (by rw [List.length_append, List.length_singleton]; omega)
   ·rw [if_neg hb]
    (have hb' : ¬ (((s.data.toList.getD i 0).toNat : Nat) : Int) = 32 := fun e => hb (UInt8.toNat_inj.1 (by show _ = 32; omega))); (simp only [if_neg hb', wrap_nat_succ (show i < 9223372036854775807 by omega)])
    exact cutN_ev s m hm hs d (i + 1) frm out (by omega) (by omega) ho
  ·rw [if_neg h8, decide_eq_false (show ¬ (out.length : Int) < (m : Int) by omega)]
   refine Ev.step (f := fun _ => some _) (fun k => ?_) (Ev.now _)
   simp only [spec_l26Cut.j1, Bool.false_eq_true, if_false, if_pos (show (0 : Int) ≤ (frm : Int) by omega), if_pos (show (frm : Int) ≤ (s.size : Int) by omega), if_pos (show out.length < 8796093022208 by omega), Int.toNat_natCast]
theorem cutN_skip (s : ByteArray) (m : Nat) (out : List ByteArray) (frm : Nat) (h8 : out.length < m) : ∀ (n d i : Nat), (∀ j, j < n → s.data.toList.getD (i + j) 0 ≠ 32) → cutN s m (d + n) out frm i = cutN s m d out frm (i + n)
 | 0, d, i, _ => rfl
 | n + 1, d, i, h => by
  (have h0 := h 0 (by omega)); (rw [Nat.add_zero] at h0); (have step : cutN s m (d + (n + 1)) out frm i = if out.length < m then (if s.data.toList.getD i 0 = 32 then cutN s m (d + n) (out ++ [s.extract frm i]) (i + 1) (i + 1) else cutN s m (d + n) out frm (i + 1)) else out ++ [s.extract frm s.size] := rfl); (rw [step, if_pos h8, if_neg h0, cutN_skip s m out frm h8 n d (i + 1) (fun j hj => by have := h (j + 1) (by omega); rwa [show i + (j + 1) = i + 1 + j by omega] at this)]); (rw [show i + 1 + n = i + (n + 1) by omega])
theorem cutN_join (s : ByteArray) (m : Nat) : ∀ (ps : List ByteArray) (pre : List UInt8) (out : List ByteArray), ps ≠ [] → (∀ p, p ∈ ps → noSp p) → s.data.toList = pre ++ (joinS ps).data.toList → out.length + ps.length ≤ m → cutN s m (joinS ps).size out pre.length pre.length = out ++ ps
 | [], _, _, h, _, _, _ => absurd rfl h
 | [p], pre, out, _, h, hd, hl => by
  (have hp := h p (List.mem_cons_self ..)); (have hl : out.length + 1 ≤ m := hl); (have hd : s.data.toList = pre ++ p.data.toList := hd)
  have e := cutN_skip s m out pre.length (by omega) p.size 0 pre.length (fun j hj => by
   (have hj' : j < p.data.toList.length := by rw [data_length]; exact hj); (rw [hd, List.getD_eq_getElem?_getD, List.getElem?_append_right (by omega), show pre.length + j - pre.length = j by omega, List.getElem?_eq_getElem hj'])
   exact hp _ (List.getElem_mem hj'))
  rw [Nat.zero_add] at e
  show cutN s m p.size out pre.length pre.length = _
  rw [e]
  show out ++ [s.extract pre.length s.size] = _
  congr 2
  apply ba_ext
  rw [Lib.extract_data, ← data_length s, hd, List.drop_append_of_le_length (Nat.le_refl _), List.drop_length, List.nil_append, List.take_of_length_le (by rw [List.length_append]; omega)]
 | p :: q :: r, pre, out, _, h, hd, hl => by
  (have hp := h p (List.mem_cons_self ..)); (have hl2 : out.length + (r.length + 2) ≤ m := by simpa using hl); (rw [joinS_data] at hd)
  have hsz : (joinS (p :: q :: r)).size = ((joinS (q :: r)).size + 1) + p.size := by
   rw [← data_length, joinS_data, List.length_append, List.length_cons, data_length, data_length]; omega
  have e := cutN_skip s m out pre.length (by omega) p.size ((joinS (q :: r)).size + 1) pre.length (fun j hj => by
   (have hj' : j < p.data.toList.length := by rw [data_length]; exact hj); (rw [hd, List.getD_eq_getElem?_getD, List.getElem?_append_right (by omega), show pre.length + j - pre.length = j by omega, List.getElem?_append_left hj', List.getElem?_eq_getElem hj'])
   exact hp _ (List.getElem_mem hj'))
  rw [hsz, e]
  have hb : s.data.toList.getD (pre.length + p.size) 0 = 32 := by
   rw [hd, List.getD_eq_getElem?_getD, List.getElem?_append_right (by omega), show pre.length + p.size - pre.length = p.size by omega, List.getElem?_append_right (by rw [data_length]; omega), data_length, Nat.sub_self]
   rfl
  unfold cutN
  rw [if_pos (by omega), if_pos hb]
  have hx : s.extract pre.length (pre.length + p.size) = p := by
   apply ba_ext
   rw [Lib.extract_data, hd, List.drop_append_of_le_length (Nat.le_refl _), List.drop_length, List.nil_append, show pre.length + p.size - pre.length = p.data.toList.length by rw [data_length]; omega, List.take_append_of_le_length (Nat.le_refl _), List.take_length]
  (have ih := cutN_join s m (q :: r) (pre ++ (p.data.toList ++ [32])) (out ++ [p]) (by simp) (fun x hx => h x (List.mem_cons_of_mem _ hx)) (by rw [hd]; simp) (by rw [List.length_append, List.length_singleton]; simpa [Nat.add_assoc, Nat.add_comm, Nat.add_left_comm] using hl)); (have hlen : (pre ++ (p.data.toList ++ [32])).length = pre.length + p.size + 1 := by rw [List.length_append, List.length_append, List.length_singleton, data_length]; omega); (rw [hlen] at ih); (rw [hx, ih, List.append_assoc])
  rfl
theorem cutN_hit (s : ByteArray) (m : Nat) (p : ByteArray) (pre rest : List UInt8) (out : List ByteArray) (hp : noSp p) (hd : s.data.toList = pre ++ (p.data.toList ++ 32 :: rest)) (hl : out.length < m) :
  cutN s m (rest.length + 1 + p.size) out pre.length pre.length = cutN s m rest.length (out ++ [p]) (pre.length + p.size + 1) (pre.length + p.size + 1) := by
 have e := cutN_skip s m out pre.length hl p.size (rest.length + 1) pre.length (fun j hj => by
  (have hj' : j < p.data.toList.length := by rw [data_length]; exact hj); (rw [hd, List.getD_eq_getElem?_getD, List.getElem?_append_right (by omega), show pre.length + j - pre.length = j by omega, List.getElem?_append_left hj', List.getElem?_eq_getElem hj'])
  exact hp _ (List.getElem_mem hj'))
 rw [e]
 have hb : s.data.toList.getD (pre.length + p.size) 0 = 32 := by
  rw [hd, List.getD_eq_getElem?_getD, List.getElem?_append_right (by omega), show pre.length + p.size - pre.length = p.size by omega, List.getElem?_append_right (by rw [data_length]; omega), data_length, Nat.sub_self]
  rfl
 have hx : s.extract pre.length (pre.length + p.size) = p := by
  apply ba_ext
  rw [Lib.extract_data, hd, List.drop_append_of_le_length (Nat.le_refl _), List.drop_length, List.nil_append, show pre.length + p.size - pre.length = p.data.toList.length by rw [data_length]; omega, List.take_append_of_le_length (Nat.le_refl _), List.take_length]
 (have step : cutN s m (rest.length + 1) out pre.length (pre.length + p.size) = if out.length < m then (if s.data.toList.getD (pre.length + p.size) 0 = 32 then cutN s m rest.length (out ++ [s.extract pre.length (pre.length + p.size)]) (pre.length + p.size + 1) (pre.length + p.size + 1) else cutN s m rest.length out pre.length (pre.length + p.size + 1)) else out ++ [s.extract pre.length s.size] := rfl); (rw [step, if_pos hl, if_pos hb, hx])
theorem cutN_last (s : ByteArray) (m : Nat) (out : List ByteArray) (hl : ¬ out.length < m) : ∀ (d frm i : Nat), cutN s m d out frm i = out ++ [s.extract frm s.size]
 | 0, _, _ => rfl
 | d + 1, frm, i => by
  show (if out.length < m then _ else _) = _
  rw [if_neg hl]
theorem cutN_grows (s : ByteArray) (m : Nat) : ∀ (d : Nat) (out : List ByteArray) (frm i : Nat), ∃ L, cutN s m d out frm i = out ++ L ∧ 1 ≤ L.length
 | 0, out, frm, i => ⟨_, rfl, by simp⟩
 | d + 1, out, frm, i => by
  show ∃ L, (if out.length < m then (if s.data.toList.getD i 0 = 32 then cutN s m d (out ++ [s.extract frm i]) (i + 1) (i + 1) else cutN s m d out frm (i + 1)) else out ++ [s.extract frm s.size]) = _ ∧ _
  split
  ·split
   ·obtain ⟨L, h, h1⟩ := cutN_grows s m d (out ++ [s.extract frm i]) (i + 1) (i + 1)
    exact ⟨[s.extract frm i] ++ L, by rw [h, List.append_assoc], by simp⟩
   ·exact cutN_grows s m d out frm (i + 1)
  ·exact ⟨_, rfl, by simp⟩
inductive IsT : ByteArray → Int → ByteArray → Int → Int → Int → Int → ByteArray → Prop
 | text (e : Int) (t : ByteArray) : (0 ≤ e ∧ e ≤ 16) → t.size ≤ 2000 → IsT (joinS [kindN 6, numS e, t]) 6 NoT 0 0 0 e t
 | top (w : ByteArray) (c d : Int) : goodW w = true → w.size ≤ 100 → inN c → inN d → IsT (joinS [kindN 2, w, numS c, numS d]) 2 w 0 c d 0 NoT
 | num (a : Int) (w : ByteArray) (b : Int) : (a = 3 ∨ a = 5) → goodW w = true → w.size ≤ 100 → inN b → IsT (joinS [kindN a, w, numS b]) a w b 0 0 0 NoT
 | bare (a : Int) (w : ByteArray) : (a = 1 ∨ a = 4) → goodW w = true → w.size ≤ 100 → IsT (joinS [kindN a, w]) a w 0 0 0 0 NoT
theorem empty_eq {t : ByteArray} (h : t.toList.isEmpty = true) : t = NoT := by
 rw [Lib.toList_data] at h
 apply ba_ext
 cases hh : t.data.toList with
 | nil => rfl
 | cons _ _ => rw [hh] at h; cases h
theorem okT_facts {w t : ByteArray} (h : okT w t = true) : t = NoT ∧ goodW w = true := by
 unfold okT at h
 rw [Bool.and_eq_true] at h
 exact ⟨empty_eq h.1, h.2⟩
theorem kindW_join (a : Int) (ha : 1 ≤ a ∧ a ≤ 6) (w : ByteArray) : kindW a ++ w = joinS [kindN a, w] := by
 rw [← kindN_w ha]; rfl
theorem isT_of {a : Int} {w : ByteArray} {b c d e : Int} {t s : ByteArray} (h : reqTextS a w b c d e t = s) (hs : s ≠ NoT) : IsT s a w b c d e t := by
 cases hq : reqQ a w e t with
 | false => unfold reqTextS at h; rw [hq, if_neg (by decide)] at h; exact absurd h.symm hs
 | true =>
  obtain ⟨ha, he, he0, hw, ht⟩ := reqQ_facts hq
  rcases kinds ha with rfl | rfl | rfl | rfl | rfl | rfl
  ·rw [reqTextS_14 (by decide) hq] at h
   split at h
   ·rename_i hk
    split at h
    ·rename_i hz
     (obtain ⟨rfl, hg⟩ := okT_facts hk); (obtain ⟨rfl, rfl, rfl⟩ := hz); (obtain rfl := he0 (by decide)); (rw [kindW_join 1 ha] at h); (subst h)
     exact .bare 1 w (.inl rfl) hg hw
    ·exact absurd h.symm hs
   ·exact absurd h.symm hs
  ·rw [reqTextS_2 hq] at h
   split at h
   ·rename_i hk
    split at h
    ·rename_i hz
     (obtain ⟨rfl, hg⟩ := okT_facts hk); (obtain ⟨rfl, hc, hd⟩ := hz); (obtain rfl := he0 (by decide))
     have e1 : ((((kindW 2 ++ w) ++ ⟨#[32]⟩) ++ numS c) ++ ⟨#[32]⟩) ++ numS d = joinS [kindN 2, w, numS c, numS d] := by
      rw [← kindN_w ha]
      show _ = (kindN 2 ++ spc) ++ ((w ++ spc) ++ ((numS c ++ spc) ++ numS d))
      simp only [ByteArray.append_assoc]
      rfl
     (rw [e1] at h); (subst h)
     exact .top w c d hg hw hc hd
    ·exact absurd h.symm hs
   ·exact absurd h.symm hs
  ·rw [reqTextS_35 (by decide) hq] at h
   split at h
   ·rename_i hk
    split at h
    ·rename_i hz
     (obtain ⟨rfl, hg⟩ := okT_facts hk); (obtain ⟨⟨rfl, rfl⟩, hb⟩ := hz); (obtain rfl := he0 (by decide))
     have e1 : ((kindW 3 ++ w) ++ ⟨#[32]⟩) ++ numS b = joinS [kindN 3, w, numS b] := by
      rw [← kindN_w ha]
      show _ = (kindN 3 ++ spc) ++ ((w ++ spc) ++ numS b)
      simp only [ByteArray.append_assoc]
      rfl
     (rw [e1] at h); (subst h)
     exact .num 3 w b (.inl rfl) hg hw hb
    ·exact absurd h.symm hs
   ·exact absurd h.symm hs
  ·rw [reqTextS_14 (by decide) hq] at h
   split at h
   ·rename_i hk
    split at h
    ·rename_i hz
     (obtain ⟨rfl, hg⟩ := okT_facts hk); (obtain ⟨rfl, rfl, rfl⟩ := hz); (obtain rfl := he0 (by decide)); (rw [kindW_join 4 ha] at h); (subst h)
     exact .bare 4 w (.inr rfl) hg hw
    ·exact absurd h.symm hs
   ·exact absurd h.symm hs
  ·rw [reqTextS_35 (by decide) hq] at h
   split at h
   ·rename_i hk
    split at h
    ·rename_i hz
     (obtain ⟨rfl, hg⟩ := okT_facts hk); (obtain ⟨⟨rfl, rfl⟩, hb⟩ := hz); (obtain rfl := he0 (by decide))
     have e1 : ((kindW 5 ++ w) ++ ⟨#[32]⟩) ++ numS b = joinS [kindN 5, w, numS b] := by
      rw [← kindN_w ha]
      show _ = (kindN 5 ++ spc) ++ ((w ++ spc) ++ numS b)
      simp only [ByteArray.append_assoc]
      rfl
     (rw [e1] at h); (subst h)
     exact .num 5 w b (.inr rfl) hg hw hb
    ·exact absurd h.symm hs
   ·exact absurd h.symm hs
  ·unfold reqTextS at h
   rw [hq, if_pos rfl, if_pos rfl] at h
   split at h
   ·rename_i hz
    (obtain ⟨⟨hwe, rfl, rfl, rfl⟩, _⟩ := hz); (obtain rfl := empty_eq hwe)
    have e1 : ((kindW 6 ++ numS e) ++ ⟨#[32]⟩) ++ t = joinS [kindN 6, numS e, t] := by
     rw [← kindN_w ha]
     show _ = (kindN 6 ++ spc) ++ ((numS e ++ spc) ++ t)
     simp only [ByteArray.append_assoc]
     rfl
    (rw [e1] at h); (subst h)
    exact .text e t he ht
   ·exact absurd h.symm hs
theorem goodW_noSp {w : ByteArray} (h : goodW w = true) : noSp w := by
 unfold goodW at h
 rw [Bool.and_eq_true, Bool.not_eq_true', List.any_eq_false] at h
 intro b hb e
 (have := h.2 b hb); (rw [e] at this)
 exact this rfl
theorem kindN_noSp {a : Int} (ha : 1 ≤ a ∧ a ≤ 6) : noSp (kindN a) := by
 have key : ∀ l : ByteArray, l.data.toList.all (fun b => b != 32) = true → noSp l := fun l h b hb => by
  have := List.all_eq_true.1 h b hb
  simpa using this
 rcases kinds ha with rfl | rfl | rfl | rfl | rfl | rfl <;> exact key _ (by decide)
theorem joinS_size2 (p q : ByteArray) (r : List ByteArray) : (joinS (p :: q :: r)).size = p.size + 1 + (joinS (q :: r)).size := by
 rw [← data_length, joinS_data, List.length_append, List.length_cons, data_length, data_length]; omega
theorem isT_size {s : ByteArray} {a : Int} {w : ByteArray} {b c d e : Int} {t : ByteArray} (h : IsT s a w b c d e t) : 3 ≤ s.size ∧ s.size ≤ 2020 := by
 cases h with
 | text e t he ht =>
  (have h1 := itoa_len9 (n := e) he.1 (by omega)); (rw [joinS_size2, joinS_size2])
  show 3 ≤ 4 + 1 + ((numS e).size + 1 + t.size) ∧ 4 + 1 + ((numS e).size + 1 + t.size) ≤ 2020
  omega
 | top w c d hg hw hc hd =>
  (have h1 := itoa_len9 (n := c) hc.1 hc.2); (have h2 := itoa_len9 (n := d) hd.1 hd.2); (rw [joinS_size2, joinS_size2, joinS_size2])
  show 3 ≤ 3 + 1 + (w.size + 1 + ((numS c).size + 1 + (numS d).size)) ∧ 3 + 1 + (w.size + 1 + ((numS c).size + 1 + (numS d).size)) ≤ 2020
  omega
 | num a w b ha hg hw hb =>
  (have h1 := itoa_len9 (n := b) hb.1 hb.2); (rw [joinS_size2, joinS_size2]); (have h2 := kindN_size (a := a) (by omega)); (have h3 : 3 ≤ (kindN a).size := by rcases ha with rfl | rfl <;> decide)
  show 3 ≤ (kindN a).size + 1 + (w.size + 1 + (numS b).size) ∧ (kindN a).size + 1 + (w.size + 1 + (numS b).size) ≤ 2020
  omega
 | bare a w ha hg hw =>
  (rw [joinS_size2]); (have h2 := kindN_size (a := a) (by omega)); (have h3 : 3 ≤ (kindN a).size := by rcases ha with rfl | rfl <;> decide)
  show 3 ≤ (kindN a).size + 1 + w.size ∧ (kindN a).size + 1 + w.size ≤ 2020
  omega
theorem split_hit (p q : ByteArray) (r : List ByteArray) (k : Nat) (hp : noSp p) : Lib.splitB spc 0 (k + 1) (joinS (p :: q :: r)) = p :: Lib.splitB spc 0 k (joinS (q :: r)) := by
 have hd := joinS_data p q r
 have hx : Lib.indexB (joinS (p :: q :: r)) spc = (p.size : Int) := by
  show Lib.index _ _ = _
  (rw [hd]); (have := index_skip p.data.toList (joinS (q :: r)).data.toList hp); (rw [data_length] at this)
  exact this
 have hsz := joinS_size2 p q r
 have e1 : (joinS (p :: q :: r)).extract (p.size + spc.size) (joinS (p :: q :: r)).size = joinS (q :: r) := by
  apply ba_ext
  (rw [Lib.extract_data, hd, show spc.size = 1 from rfl, hsz]); (rw [List.drop_append, List.drop_of_length_le (by rw [data_length]; omega), data_length, show p.size + 1 - p.size = 1 by omega, List.nil_append, List.drop_succ_cons, List.drop_zero, List.take_of_length_le (by rw [data_length]; omega)])
 have e2 : (joinS (p :: q :: r)).extract 0 (p.size + 0) = p := by
  apply ba_ext
  rw [Lib.extract_data, hd, List.drop_zero, List.take_append_of_le_length (by rw [data_length]; omega), List.take_of_length_le (by rw [data_length]; omega)]
 rw [Lib.splitB_hit _ _ _ _ p.size hx, e1, e2]
theorem rrKind_at {a : Int} (ha : 1 ≤ a ∧ a ≤ 6) : rrKind (kindN a) 7 0 0 = a := by
 rcases kinds ha with rfl | rfl | rfl | rfl | rfl | rfl <;> simp only [rrKind, Lib.toList_data] <;> rfl
theorem splitN_at (s : ByteArray) (hs : 2 ≤ s.size) (h2 : s.size ≤ 1048576) : strings_SplitN.f s (⟨#[32]⟩ : ByteArray) 3 = some (Lib.splitB spc 0 2 s) := by
 unfold strings_SplitN.f
 rw [if_pos ⟨by omega, by decide, by decide, by decide⟩]
 have : min (3 : Int).toNat (s.size + 1) - 1 = 2 := by
  show min 3 (s.size + 1) - 1 = 2
  omega
 rw [this]
 rfl
theorem split_at {s : ByteArray} {ps : List ByteArray} (hj : s = joinS ps) (h2 : s.size ≤ 1048576) (hn : ps ≠ []) (hp : ∀ p, p ∈ ps → noSp p) : strings_Split.f s (⟨#[32]⟩ : ByteArray) = some ps := by
 unfold strings_Split.f
 (rw [if_pos ⟨by omega, by decide⟩]); (have := split_join ps hn hp); (rw [← hj] at this)
 exact congrArg some this
theorem readReq_isT {s : ByteArray} {a : Int} {w : ByteArray} {b c d e : Int} {t : ByteArray} (h : IsT s a w b c d e t) : impl_readReq.f s = some (a, w, b, c, d, e, t) := by
 have hs := isT_size h
 unfold impl_readReq.f
 rw [splitN_at s (by omega) (by omega), Option.bind_some]
 cases h with
 | text e t he ht =>
  have e1 : Lib.splitB spc 0 2 (joinS [kindN 6, numS e, t]) = [kindN 6, numS e, t] := by
   rw [split_hit _ _ _ 1 (kindN_noSp (by decide)), split_hit _ _ _ 0 (numS_noSp he.1), Lib.splitB_zero]; rfl
  (rw [e1, if_pos (by simp)]); (have e0 : rdOf ByteArray.empty [kindN 6, numS e, t] 0 = kindN 6 := rfl); (have e2 : rdOf ByteArray.empty [kindN 6, numS e, t] 1 = numS e := rfl); (have e3 : rdOf ByteArray.empty [kindN 6, numS e, t] 2 = t := rfl); (rw [e0, rrKind_at (by decide), if_pos rfl, if_neg (by simp), e2, e3, lineNumber_num he.1 (by omega)])
  rfl
 | top w c d hg hw hc hd =>
  (have e1 : Lib.splitB spc 0 2 (joinS [kindN 2, w, numS c, numS d]) = kindN 2 :: Lib.splitB spc 0 1 (joinS [w, numS c, numS d]) := split_hit _ _ _ 1 (kindN_noSp (by decide))); (have e0 : ∀ l, rdOf ByteArray.empty (kindN 2 :: l) 0 = kindN 2 := fun _ => rfl); (rw [e1, if_pos (by simp), e0, rrKind_at (by decide), if_neg (by decide)])
  rw [split_at (ps := [kindN 2, w, numS c, numS d]) rfl (by omega) (by simp) (fun p hp => by
   simp only [List.mem_cons, List.not_mem_nil, or_false] at hp
   rcases hp with rfl | rfl | rfl | rfl
   ·exact kindN_noSp (by decide)
   ·exact goodW_noSp hg
   ·exact numS_noSp hc.1
   ·exact numS_noSp hd.1), Option.bind_some, if_pos (by simp)]
  (have r1 : impl_lineNumber.f (rdOf ByteArray.empty [kindN 2, w, numS c, numS d] ((0 + 2 : Nat) : Int)) = some (c, true) := lineNumber_num hc.1 hc.2); (have r2 : impl_lineNumber.f (rdOf ByteArray.empty [kindN 2, w, numS c, numS d] ((0 + 1 + 2 : Nat) : Int)) = some (d, true) := lineNumber_num hd.1 hd.2)
  unfold rrNums
  rw [if_pos (by simp), r1, Option.bind_some]
  unfold rrNums
  rw [if_pos (by simp), r2, Option.bind_some]
  rfl
 | num a w b ha hg hw hb =>
  (have ha' : 1 ≤ a ∧ a ≤ 6 := by omega); (have e1 : Lib.splitB spc 0 2 (joinS [kindN a, w, numS b]) = kindN a :: Lib.splitB spc 0 1 (joinS [w, numS b]) := split_hit _ _ _ 1 (kindN_noSp ha')); (have e0 : ∀ l, rdOf ByteArray.empty (kindN a :: l) 0 = kindN a := fun _ => rfl); (rw [e1, if_pos (by simp), e0, rrKind_at ha', if_neg (by omega)])
  rw [split_at (ps := [kindN a, w, numS b]) rfl (by omega) (by simp) (fun p hp => by
   simp only [List.mem_cons, List.not_mem_nil, or_false] at hp
   rcases hp with rfl | rfl | rfl
   ·exact kindN_noSp ha'
   ·exact goodW_noSp hg
   ·exact numS_noSp hb.1), Option.bind_some, if_pos (by simp)]
  have r1 : impl_lineNumber.f (rdOf ByteArray.empty [kindN a, w, numS b] ((0 + 2 : Nat) : Int)) = some (b, true) := lineNumber_num hb.1 hb.2
  unfold rrNums
  rw [if_pos (by simp), r1, Option.bind_some]
  unfold rrNums
  rw [if_neg (by simp)]
  unfold rrNums
  rw [if_pos (by simp), if_pos ha, if_neg (by omega), if_neg (by omega)]
  rfl
 | bare a w ha hg hw =>
  (have ha' : 1 ≤ a ∧ a ≤ 6 := by omega); (have e1 : Lib.splitB spc 0 2 (joinS [kindN a, w]) = kindN a :: Lib.splitB spc 0 1 (joinS [w]) := split_hit _ _ _ 1 (kindN_noSp ha')); (have e0 : ∀ l, rdOf ByteArray.empty (kindN a :: l) 0 = kindN a := fun _ => rfl); (rw [e1, if_pos (by simp), e0, rrKind_at ha', if_neg (by omega)])
  rw [split_at (ps := [kindN a, w]) rfl (by omega) (by simp) (fun p hp => by
   simp only [List.mem_cons, List.not_mem_nil, or_false] at hp
   rcases hp with rfl | rfl
   ·exact kindN_noSp ha'
   ·exact goodW_noSp hg), Option.bind_some, if_pos (by simp)]
  unfold rrNums
  rw [if_neg (by simp)]
  unfold rrNums
  rw [if_neg (by simp)]
  unfold rrNums
  rw [if_pos (by simp), if_neg (by omega), if_neg (by omega), if_neg (by omega)]
  rfl
theorem splitB_pos (sep : ByteArray) : ∀ (k : Nat) (s : ByteArray), 0 < (Lib.splitB sep 0 k s).length
 | 0, s => by rw [Lib.splitB_zero]; simp
 | k + 1, s => by
  unfold Lib.splitB
  split <;> simp
theorem readReq_some (s : ByteArray) (hs : s.size ≤ 1048576) : ∃ r, impl_readReq.f s = some r := by
 unfold impl_readReq.f
 have h1 : strings_SplitN.f s (⟨#[32]⟩ : ByteArray) 3 = some (Lib.splitB spc 0 (min (3 : Int).toNat (s.size + 1) - 1) s) := by
  unfold strings_SplitN.f
  rw [if_pos ⟨by omega, by decide, by decide, by decide⟩]
  rfl
 have h2 : strings_Split.f s (⟨#[32]⟩ : ByteArray) = some (Lib.splitB spc 0 (Lib.countB s spc) s) := by
  unfold strings_Split.f
  rw [if_pos ⟨by omega, by decide⟩]
  rfl
 (have z1 := split_size spc (min (3 : Int).toNat (s.size + 1) - 1) s 1048576 hs); (have p1 := splitB_pos spc (min (3 : Int).toNat (s.size + 1) - 1) s); (have z2 := split_size spc (Lib.countB s spc) s 1048576 hs); (have p2 := splitB_pos spc (Lib.countB s spc) s); (rw [h1, h2, Option.bind_some])
 generalize Lib.splitB spc 0 (min (3 : Int).toNat (s.size + 1) - 1) s = ws at z1 p1
 generalize Lib.splitB spc 0 (Lib.countB s spc) s = vs at z2 p2
 have rd : ∀ (l : List ByteArray), (∀ t, t ∈ l → t.size ≤ 1048576) → ∀ j : Nat, j < l.length → ∃ p, impl_lineNumber.f (rdOf ByteArray.empty l (j : Int)) = some p := fun l hl j hj => by
  apply lineNumber_some
  unfold rdOf
  rw [Int.toNat_natCast, getD_lt _ hj]
  exact hl _ (List.getElem_mem _)
 rw [if_pos p1]
 generalize rrKind (rdOf ByteArray.empty ws 0) 7 0 0 = kd
 split
 ·split
  ·exact ⟨_, rfl⟩
  ·obtain ⟨p, hp⟩ := rd ws z1 1 (by omega)
   rw [show rdOf ByteArray.empty ws 1 = rdOf ByteArray.empty ws ((1 : Nat) : Int) from rfl, hp]
   exact ⟨_, rfl⟩
 ·rw [Option.bind_some, if_pos p2]
  have e0 : ∀ ns, ∃ r, rrNums vs kd 0 2 ns = some r := fun ns => ⟨_, rfl⟩
  have e1 : ∀ ns, ∃ r, rrNums vs kd 1 1 ns = some r := fun ns => by
   unfold rrNums
   split
   ·rename_i h
    (obtain ⟨p, hp⟩ := rd vs z2 (1 + 2) h); (rw [hp]; exact e0 _)
   ·exact e0 _
  unfold rrNums
  split
  ·rename_i h
   (obtain ⟨p, hp⟩ := rd vs z2 (0 + 2) h); (rw [hp]; exact e1 _)
  ·exact e1 _
end Go.Proofs.YtgnbfmoifnfneaaDoor.L
namespace Go.Proofs.YtgnbfmoifnfneaaDoor.V
open Go Go.RowKit Go.Proofs.YtgnbfmoifnfneaaDoor.QA Go.Proofs.YtgnbfmoifnfneaaDoor.L Go.Proofs.YtgnbfmoifnfneaaDoorW.PrintWords Go.Proofs.YtgnbfmoifnfneaaDoorW.PrintLast Go.Proofs.YtgnbfmoifnfneaaDoorW.PrintMore
set_option linter.unusedVariables false
set_option linter.unusedSimpArgs false
section
variable {α : Type} {g f : Nat → Option α} {r : α} {b : Bool}
theorem Ev.ck (h : b = true) (hg : Ev g r) : Ev (fun k => chk true b (g k)) r := by subst h; exact hg
theorem Ev.ct (h : b = true) (hg : Ev g r) : Ev (fun k => cond b (g k) (f k)) r := by subst h; exact hg
theorem Ev.cf (h : b = false) (hg : Ev f r) : Ev (fun k => cond b (g k) (f k)) r := by subst h; exact hg
end
theorem eqS_iff {a b : ByteArray} : eqS a b = true ↔ a = b := by
 unfold eqS
 rw [beq_iff_eq, Lib.toList_data, Lib.toList_data]
 exact ⟨ba_ext, fun h => by rw [h]⟩
theorem eqS_false {a b : ByteArray} : eqS a b = false ↔ a ≠ b := by
 rw [← Bool.not_eq_true, eqS_iff]
def rrOut (s : ByteArray) (a : Int) (w : ByteArray) (b c d e : Int) (t : ByteArray) : Int × ByteArray × Int × Int × Int × Int × ByteArray × Bool :=
 if reqTextS a w b c d e t = NoT ∨ reqTextS a w b c d e t ≠ s then (0, NoT, 0, 0, 0, 0, NoT, false) else (a, w, b, c, d, e, t, true)
theorem c14_ev (a : Int) (w : ByteArray) (b c d e : Int) (t : ByteArray) : Ev (fun k => c14 k [.agg [.v (.int .i64 a), .v (.string w), .v (.int .i64 b), .v (.int .i64 c), .v (.int .i64 d), .v (.int .i64 e), .v (.string t)]]) (reqTextS a w b c d e t) :=
 Ev.step (f := fun k => spec_ReqText.f k a w b c d e t) (fun k => by kernel_rfl) (specReqText_ev a w b c d e t)
theorem c16_ev (s : ByteArray) (m : Nat) (hm : m ≤ 1000000) (hs : s.size ≤ 1048576) : Ev (fun k => c16 k [.v (.string s), .v (.int .u8 32), .v (.int .i64 ((m + 1 : Nat) : Int))]) (cutN s m s.size [] 0 0) :=
 Ev.step (f := fun k => spec_l26Cut.f k s 32 ((m + 1 : Nat) : Int)) (fun k => by kernel_rfl) (cutN_ev s m hm hs s.size 0 0 [] (by omega) (Nat.le_refl _) (Nat.zero_le _))
theorem c17_ev (t : ByteArray) : ∃ x : Int × Bool, Ev (fun k => c17 k [.v (.string t)]) x := by
 obtain ⟨x, ok, h, _⟩ := read_ev t
 exact ⟨(x, ok), Ev.step (f := fun k => spec_l26Read.f k t) (fun k => by kernel_rfl) h⟩
theorem c17_num {n : Int} (h : inN n) : ∃ ok, Ev (fun k => c17 k [.v (.string (numS n))]) (n, ok) := by
 obtain ⟨ok, h⟩ := read_num h.1 h.2
 exact ⟨ok, Ev.step (f := fun k => spec_l26Read.f k (numS n)) (fun k => by kernel_rfl) h⟩
theorem n3_ev (s : ByteArray) (a : Int) (w : ByteArray) (b c d e : Int) (t : ByteArray) : Ev (fun k => g5_n3 k s a w b c d e t fun y0 y1 y2 y3 y4 y5 y6 y7 => some (y1, y2, y3, y4, y5, y6, y7, y0)) (rrOut s a w b c d e t) := by
 unfold g5_n3 g5_n2
 refine Ev.bind (c14_ev a w b c d e t) ?_
 unfold rrOut
 split
 ·rename_i h
  refine Ev.ct ?_ (Ev.now _)
  rw [Bool.or_eq_true, Bool.not_eq_true', eqS_iff, eqS_false]
  exact h
 ·rename_i h
  refine Ev.cf ?_ (Ev.now _)
  rw [Bool.or_eq_false_iff, Bool.not_eq_false', eqS_iff, eqS_false]
  exact ⟨fun e => h (.inl e), Classical.byContradiction fun e => h (.inr e)⟩
theorem zero_out (s : ByteArray) : rrOut s 0 NoT 0 0 0 0 NoT = (0, NoT, 0, 0, 0, 0, NoT, false) := by
 unfold rrOut
 rw [if_pos]
 left
 unfold reqTextS
 rw [if_neg]
 intro h
 have := (reqQ_facts h).1
 omega
theorem cutN_len (s : ByteArray) (m m' : Nat) (hm : m ≤ m') : ∀ (d : Nat) (out : List ByteArray) (frm i : Nat), out.length ≤ m → m + 1 ≤ (cutN s m' d out frm i).length → (cutN s m d out frm i).length = m + 1
 | 0, out, frm, i, h1, h2 => by
  simp only [cutN, List.length_append, List.length_singleton] at h2 ⊢
  omega
 | d + 1, out, frm, i, h1, h2 => by
  unfold cutN at h2 ⊢
  by_cases h : out.length < m
  ·rw [if_pos h]
   rw [if_pos (show out.length < m' by omega)] at h2
   split
   ·rename_i hb
    rw [if_pos hb] at h2
    exact cutN_len s m m' hm d _ _ _ (by simp; omega) h2
   ·rename_i hb
    rw [if_neg hb] at h2
    exact cutN_len s m m' hm d _ _ _ h1 h2
  ·rw [if_neg h, List.length_append, List.length_singleton]; omega
theorem specAny_ev (s : ByteArray) (hs : s.size ≤ 1048576) : ∃ a w b c d e t, Ev (fun k => c5 k [.v (.string s)]) (rrOut s a w b c d e t) := by
 by_cases hz : s.size ≤ 2020
 ·have c5e : ∀ {x}, Ev (fun k => g5 k s) x → Ev (fun k => c5 k [.v (.string s)]) x := fun h => Ev.step (fun k => g5_eq k s) h
  (have hcf : decide ((s.size : Int) > 2020) = false := by simp; omega); (have W5 := c16_ev s 4 (by omega) hs); (have W3 := c16_ev s 2 (by omega) hs); (have hlen := cutN_len s 2 4 (by omega) s.size [] 0 0 (Nat.zero_le _)); (obtain ⟨L0, e0, l0⟩ := cutN_grows s 4 s.size [] 0 0); (have h1 : 1 ≤ (cutN s 4 s.size [] 0 0).length := by rw [e0]; simpa using l0)
  generalize cutN s 4 s.size [] 0 0 = W at W5 hlen h1
  generalize cutN s 2 s.size [] 0 0 = X at W3 hlen
  (have i0 : inB 0 (W.length : Int) = true := by simp [inB]; omega); (have key : ∀ {g : Nat → List ByteArray → Option (Int × ByteArray × Int × Int × Int × Int × ByteArray × Bool)} , True := trivial)
  cases q1 : (eqS (W.getD ((0 : Int).toNat) (⟨#[]⟩ : ByteArray)) (⟨#[99, 104, 101, 99, 107]⟩ : ByteArray)) && ((W.length : Int) == (2 : Int)) with
  | true =>
   have hl : (W.length : Int) = 2 := by rw [Bool.and_eq_true, beq_iff_eq] at q1; exact q1.2
   exact ⟨_, _, _, _, _, _, _, c5e (Ev.cf hcf (Ev.bind W5 (Ev.ck i0 (Ev.ct q1 (Ev.ck (by rw [hl]; rfl) (n3_ev s _ _ _ _ _ _ _))))))⟩
  | false =>
  cases q2 : (eqS (W.getD ((0 : Int).toNat) (⟨#[]⟩ : ByteArray)) (⟨#[116, 111, 112]⟩ : ByteArray)) && ((W.length : Int) == (4 : Int)) with
  | true =>
   (have hl : (W.length : Int) = 4 := by rw [Bool.and_eq_true, beq_iff_eq] at q2; exact q2.2); (obtain ⟨x, hx⟩ := c17_ev (W.getD ((2 : Int).toNat) (⟨#[]⟩ : ByteArray))); (obtain ⟨y, hy⟩ := c17_ev (W.getD ((3 : Int).toNat) (⟨#[]⟩ : ByteArray)))
   exact ⟨_, _, _, _, _, _, _, c5e (Ev.cf hcf (Ev.bind W5 (Ev.ck i0 (Ev.cf q1 (Ev.ck i0 (Ev.ct q2 (Ev.ck (by rw [hl]; rfl) (Ev.ck (by rw [hl]; rfl) (Ev.bind hx (Ev.ck (by rw [hl]; rfl) (Ev.bind hy (n3_ev s _ _ _ _ _ _ _))))))))))))⟩
  | false =>
  cases q3 : (eqS (W.getD ((0 : Int).toNat) (⟨#[]⟩ : ByteArray)) (⟨#[97, 100, 100]⟩ : ByteArray)) && ((W.length : Int) == (3 : Int)) with
  | true =>
   (have hl : (W.length : Int) = 3 := by rw [Bool.and_eq_true, beq_iff_eq] at q3; exact q3.2); (obtain ⟨x, hx⟩ := c17_ev (W.getD ((2 : Int).toNat) (⟨#[]⟩ : ByteArray)))
   exact ⟨_, _, _, _, _, _, _, c5e (Ev.cf hcf (Ev.bind W5 (Ev.ck i0 (Ev.cf q1 (Ev.ck i0 (Ev.cf q2 (Ev.ck i0 (Ev.ct q3 (Ev.ck (by rw [hl]; rfl) (Ev.ck (by rw [hl]; rfl) (Ev.bind hx (n3_ev s _ _ _ _ _ _ _))))))))))))⟩
  | false =>
  cases q4 : (eqS (W.getD ((0 : Int).toNat) (⟨#[]⟩ : ByteArray)) (⟨#[100, 114, 111, 112]⟩ : ByteArray)) && ((W.length : Int) == (2 : Int)) with
  | true =>
   have hl : (W.length : Int) = 2 := by rw [Bool.and_eq_true, beq_iff_eq] at q4; exact q4.2
   exact ⟨_, _, _, _, _, _, _, c5e (Ev.cf hcf (Ev.bind W5 (Ev.ck i0 (Ev.cf q1 (Ev.ck i0 (Ev.cf q2 (Ev.ck i0 (Ev.cf q3 (Ev.ck i0 (Ev.ct q4 (Ev.ck (by rw [hl]; rfl) (n3_ev s _ _ _ _ _ _ _))))))))))))⟩
  | false =>
  cases q5 : (eqS (W.getD ((0 : Int).toNat) (⟨#[]⟩ : ByteArray)) (⟨#[115, 101, 116]⟩ : ByteArray)) && ((W.length : Int) == (3 : Int)) with
  | true =>
   (have hl : (W.length : Int) = 3 := by rw [Bool.and_eq_true, beq_iff_eq] at q5; exact q5.2); (obtain ⟨x, hx⟩ := c17_ev (W.getD ((2 : Int).toNat) (⟨#[]⟩ : ByteArray)))
   exact ⟨_, _, _, _, _, _, _, c5e (Ev.cf hcf (Ev.bind W5 (Ev.ck i0 (Ev.cf q1 (Ev.ck i0 (Ev.cf q2 (Ev.ck i0 (Ev.cf q3 (Ev.ck i0 (Ev.cf q4 (Ev.ck i0 (Ev.ct q5 (Ev.ck (by rw [hl]; rfl) (Ev.ck (by rw [hl]; rfl) (Ev.bind hx (n3_ev s _ _ _ _ _ _ _))))))))))))))))⟩
  | false =>
  cases q6 : (eqS (W.getD ((0 : Int).toNat) (⟨#[]⟩ : ByteArray)) (⟨#[116, 101, 120, 116]⟩ : ByteArray)) && (decide ((W.length : Int) ≥ (3 : Int))) with
  | true =>
   (have hl : X.length = 3 := hlen (by rw [Bool.and_eq_true, decide_eq_true_eq] at q6; omega)); (obtain ⟨x, hx⟩ := c17_ev (X.getD ((1 : Int).toNat) (⟨#[]⟩ : ByteArray)))
   exact ⟨_, _, _, _, _, _, _, c5e (Ev.cf hcf (Ev.bind W5 (Ev.ck i0 (Ev.cf q1 (Ev.ck i0 (Ev.cf q2 (Ev.ck i0 (Ev.cf q3 (Ev.ck i0 (Ev.cf q4 (Ev.ck i0 (Ev.cf q5 (Ev.ck i0 (Ev.ct q6 (Ev.bind W3 (Ev.ck (by rw [hl]; rfl) (Ev.ck (by rw [hl]; rfl) (Ev.bind hx (n3_ev s _ _ _ _ _ _ _)))))))))))))))))))⟩
  | false =>
   exact ⟨_, _, _, _, _, _, _, c5e (Ev.cf hcf (Ev.bind W5 (Ev.ck i0 (Ev.cf q1 (Ev.ck i0 (Ev.cf q2 (Ev.ck i0 (Ev.cf q3 (Ev.ck i0 (Ev.cf q4 (Ev.ck i0 (Ev.cf q5 (Ev.ck i0 (Ev.cf q6 (n3_ev s _ _ _ _ _ _ _)))))))))))))))⟩
 ·refine ⟨0, NoT, 0, 0, 0, 0, NoT, ?_⟩
  rw [zero_out]
  refine Ev.step (fun k => g5_eq k s) ?_
  exact Ev.ct (by simp; omega) (Ev.now _)
theorem eqS_dec (a b : ByteArray) : eqS a b = decide (a = b) := by
 by_cases h : a = b
 ·rw [decide_eq_true h]; exact eqS_iff.2 h
 ·rw [decide_eq_false h]; exact eqS_false.2 h
theorem cut_two (p q t : ByteArray) (hp : noSp p) (hq : noSp q) : cutN (joinS [p, q, t]) 2 (joinS [p, q, t]).size [] 0 0 = [p, q, t] ∧ ∃ M, cutN (joinS [p, q, t]) 4 (joinS [p, q, t]).size [] 0 0 = p :: M ∧ 2 ≤ M.length := by
 (have d1 : (joinS [p, q, t]).data.toList = [] ++ (p.data.toList ++ 32 :: (joinS [q, t]).data.toList) := joinS_data p q [t]); (have d2 : (joinS [q, t]).data.toList = q.data.toList ++ 32 :: t.data.toList := joinS_data q t []); (have z1 : (joinS [p, q, t]).size = (joinS [q, t]).data.toList.length + 1 + p.size := by rw [joinS_size2, data_length]; omega); (have z2 : (joinS [q, t]).data.toList.length = t.data.toList.length + 1 + q.size := by rw [d2, List.length_append, List.length_cons, data_length, data_length]; omega); (have d3 : (joinS [p, q, t]).data.toList = (p.data.toList ++ [32]) ++ (q.data.toList ++ 32 :: t.data.toList) := by rw [d1, d2]; simp); (have l3 : (p.data.toList ++ [32]).length = p.size + 1 := by rw [List.length_append, data_length]; rfl)
 have two : ∀ m, 2 ≤ m → cutN (joinS [p, q, t]) m (joinS [p, q, t]).size [] 0 0 = cutN (joinS [p, q, t]) m t.data.toList.length [p, q] (p.size + 1 + q.size + 1) (p.size + 1 + q.size + 1) := fun m hm => by
  (have h1 := cutN_hit (joinS [p, q, t]) m p [] (joinS [q, t]).data.toList [] hp d1 (by simp; omega)); (have h2 := cutN_hit (joinS [p, q, t]) m q (p.data.toList ++ [32]) t.data.toList [p] hq d3 (by simp; omega)); (rw [← z1] at h1); (rw [l3, ← z2] at h2); (simp only [List.length_nil, Nat.zero_add, List.nil_append] at h1); (rw [h1, h2]; rfl)
 constructor
 ·rw [two 2 (by omega), cutN_last _ _ _ (by simp)]
  have hx : (joinS [p, q, t]).extract (p.size + 1 + q.size + 1) (joinS [p, q, t]).size = t := by
   apply ba_ext
   (have hd : (joinS [p, q, t]).data.toList = ((p.data.toList ++ [32]) ++ (q.data.toList ++ [32])) ++ t.data.toList := by rw [d3]; simp); (have hl : ((p.data.toList ++ [32]) ++ (q.data.toList ++ [32])).length = p.size + 1 + q.size + 1 := by rw [List.length_append, l3, List.length_append, data_length, List.length_singleton]; omega); (rw [Lib.extract_data, hd, ← hl, List.drop_append_of_le_length (Nat.le_refl _), List.drop_length, List.nil_append, List.take_of_length_le]); (rw [data_length, z1, z2, hl, data_length]; omega)
  rw [hx]; rfl
 ·obtain ⟨L, e, l⟩ := cutN_grows (joinS [p, q, t]) 4 t.data.toList.length [p, q] (p.size + 1 + q.size + 1) (p.size + 1 + q.size + 1)
  exact ⟨q :: L, by rw [two 4 (by omega), e]; rfl, by simp; omega⟩
theorem w1 {a : Int} (h : 1 ≤ a ∧ a ≤ 6) : eqS (kindN a) ⟨#[99, 104, 101, 99, 107]⟩ = decide (a = 1) := by
 rw [eqS_dec]; rcases kinds h with rfl | rfl | rfl | rfl | rfl | rfl <;> decide
theorem w2 {a : Int} (h : 1 ≤ a ∧ a ≤ 6) : eqS (kindN a) ⟨#[116, 111, 112]⟩ = decide (a = 2) := by
 rw [eqS_dec]; rcases kinds h with rfl | rfl | rfl | rfl | rfl | rfl <;> decide
theorem w3 {a : Int} (h : 1 ≤ a ∧ a ≤ 6) : eqS (kindN a) ⟨#[97, 100, 100]⟩ = decide (a = 3) := by
 rw [eqS_dec]; rcases kinds h with rfl | rfl | rfl | rfl | rfl | rfl <;> decide
theorem w4 {a : Int} (h : 1 ≤ a ∧ a ≤ 6) : eqS (kindN a) ⟨#[100, 114, 111, 112]⟩ = decide (a = 4) := by
 rw [eqS_dec]; rcases kinds h with rfl | rfl | rfl | rfl | rfl | rfl <;> decide
theorem w5 {a : Int} (h : 1 ≤ a ∧ a ≤ 6) : eqS (kindN a) ⟨#[115, 101, 116]⟩ = decide (a = 5) := by
 rw [eqS_dec]; rcases kinds h with rfl | rfl | rfl | rfl | rfl | rfl <;> decide
theorem w6 {a : Int} (h : 1 ≤ a ∧ a ≤ 6) : eqS (kindN a) ⟨#[116, 101, 120, 116]⟩ = decide (a = 6) := by
 rw [eqS_dec]; rcases kinds h with rfl | rfl | rfl | rfl | rfl | rfl <;> decide
theorem cut_parts {s : ByteArray} {ps : List ByteArray} (m : Nat) (hj : s = joinS ps) (hn : ps ≠ []) (hp : ∀ p, p ∈ ps → noSp p) (hl : ps.length ≤ m) : cutN s m s.size [] 0 0 = ps := by
 (have := cutN_join s m ps [] [] hn hp (by rw [hj]; rfl) (by simpa using hl)); (rw [← hj] at this)
 simpa using this
theorem specIs_ev {s : ByteArray} {a : Int} {w : ByteArray} {b c d e : Int} {t : ByteArray} (h : IsT s a w b c d e t) : Ev (fun k => c5 k [.v (.string s)]) (rrOut s a w b c d e t) := by
 (have hz := isT_size h); (have hs : s.size ≤ 1048576 := by omega); (have c5e : ∀ {x}, Ev (fun k => g5 k s) x → Ev (fun k => c5 k [.v (.string s)]) x := fun h => Ev.step (fun k => g5_eq k s) h); (have hcf : decide ((s.size : Int) > 2020) = false := by simp; omega); (have W5 := c16_ev s 4 (by omega) hs); (have W3 := c16_ev s 2 (by omega) hs); (have k1 : ∀ {a : Int} {l : List ByteArray}, (kindN a :: l).getD ((0 : Int).toNat) (⟨#[]⟩ : ByteArray) = kindN a := rfl)
 cases h with
 | text e t he ht =>
  (obtain ⟨e3, M, e5⟩ := cut_two (kindN 6) (numS e) t (kindN_noSp (by decide)) (numS_noSp he.1)); (rw [e5.1] at W5); (rw [e3] at W3); (have hl : 3 ≤ ((kindN 6 :: M).length : Int) := by have := e5.2; simp; omega); (have i0 : inB 0 ((kindN 6 :: M).length : Int) = true := by simp [inB]); (obtain ⟨ok, hx⟩ := c17_num (n := e) ⟨he.1, by omega⟩); (have no : ∀ (x : Bool) {i : Int}, 6 ≠ i → (decide ((6 : Int) = i) && x) = false := fun x i hi => by simp [hi])
  exact c5e (Ev.cf hcf (Ev.bind W5 (Ev.ck i0 (Ev.cf (by rw [k1, w1 (by decide)]; rfl) (Ev.ck i0 (Ev.cf (by rw [k1, w2 (by decide)]; rfl) (Ev.ck i0 (Ev.cf (by rw [k1, w3 (by decide)]; rfl) (Ev.ck i0 (Ev.cf (by rw [k1, w4 (by decide)]; rfl) (Ev.ck i0 (Ev.cf (by rw [k1, w5 (by decide)]; rfl) (Ev.ck i0 (Ev.ct (by rw [k1, w6 (by decide), decide_eq_true hl]; decide) (Ev.bind W3 (Ev.ck rfl (Ev.ck rfl (Ev.bind hx (n3_ev _ _ _ _ _ _ _ _)))))))))))))))))))
 | top w c d hg hw hc hd =>
  have e1 := cut_parts (s := joinS [kindN 2, w, numS c, numS d]) 4 rfl (by simp) (fun p hp => by
   simp only [List.mem_cons, List.not_mem_nil, or_false] at hp
   rcases hp with rfl | rfl | rfl | rfl
   ·exact kindN_noSp (by decide)
   ·exact goodW_noSp hg
   ·exact numS_noSp hc.1
   ·exact numS_noSp hd.1) (by simp)
  (rw [e1] at W5); (obtain ⟨o1, hx⟩ := c17_num hc); (obtain ⟨o2, hy⟩ := c17_num hd)
  exact c5e (Ev.cf hcf (Ev.bind W5 (Ev.ck rfl (Ev.cf (by rw [k1, w1 (by decide)]; rfl) (Ev.ck rfl (Ev.ct (by rw [k1, w2 (by decide)]; rfl) (Ev.ck rfl (Ev.ck rfl (Ev.bind hx (Ev.ck rfl (Ev.bind hy (n3_ev _ _ _ _ _ _ _ _))))))))))))
 | num a w b ha hg hw hb =>
  have e1 := cut_parts (s := joinS [kindN a, w, numS b]) 4 rfl (by simp) (fun p hp => by
   simp only [List.mem_cons, List.not_mem_nil, or_false] at hp
   rcases hp with rfl | rfl | rfl
   ·exact kindN_noSp (by omega)
   ·exact goodW_noSp hg
   ·exact numS_noSp hb.1) (by simp)
  (rw [e1] at W5); (obtain ⟨o1, hx⟩ := c17_num hb)
  rcases ha with rfl | rfl
  ·exact c5e (Ev.cf hcf (Ev.bind W5 (Ev.ck rfl (Ev.cf (by rw [k1, w1 (by decide)]; rfl) (Ev.ck rfl (Ev.cf (by rw [k1, w2 (by decide)]; rfl) (Ev.ck rfl (Ev.ct (by rw [k1, w3 (by decide)]; rfl) (Ev.ck rfl (Ev.ck rfl (Ev.bind hx (n3_ev _ _ _ _ _ _ _ _))))))))))))
  ·exact c5e (Ev.cf hcf (Ev.bind W5 (Ev.ck rfl (Ev.cf (by rw [k1, w1 (by decide)]; rfl) (Ev.ck rfl (Ev.cf (by rw [k1, w2 (by decide)]; rfl) (Ev.ck rfl (Ev.cf (by rw [k1, w3 (by decide)]; rfl) (Ev.ck rfl (Ev.cf (by rw [k1, w4 (by decide)]; rfl) (Ev.ck rfl (Ev.ct (by rw [k1, w5 (by decide)]; rfl) (Ev.ck rfl (Ev.ck rfl (Ev.bind hx (n3_ev _ _ _ _ _ _ _ _))))))))))))))))
 | bare a w ha hg hw =>
  have e1 := cut_parts (s := joinS [kindN a, w]) 4 rfl (by simp) (fun p hp => by
   simp only [List.mem_cons, List.not_mem_nil, or_false] at hp
   rcases hp with rfl | rfl
   ·exact kindN_noSp (by omega)
   ·exact goodW_noSp hg) (by simp)
  rw [e1] at W5
  rcases ha with rfl | rfl
  ·exact c5e (Ev.cf hcf (Ev.bind W5 (Ev.ck rfl (Ev.ct (by rw [k1, w1 (by decide)]; rfl) (Ev.ck rfl (n3_ev _ _ _ _ _ _ _ _))))))
  ·exact c5e (Ev.cf hcf (Ev.bind W5 (Ev.ck rfl (Ev.cf (by rw [k1, w1 (by decide)]; rfl) (Ev.ck rfl (Ev.cf (by rw [k1, w2 (by decide)]; rfl) (Ev.ck rfl (Ev.cf (by rw [k1, w3 (by decide)]; rfl) (Ev.ck rfl (Ev.ct (by rw [k1, w4 (by decide)]; rfl) (Ev.ck rfl (n3_ev _ _ _ _ _ _ _ _))))))))))))
theorem c6_ev (s : ByteArray) (hs : s.size ≤ 1048576) (hn : s ≠ NoT) : ∃ a w b c d e t, Ev (fun k => c6 k [.v (.string s)]) (rrOut s a w b c d e t) ∧ ((∃ a w b c d e t, IsT s a w b c d e t) → IsT s a w b c d e t) := by
 obtain ⟨⟨a, w, b, c, d, e, t⟩, hr⟩ := readReq_some s hs
 refine ⟨a, w, b, c, d, e, t, Ev.step (f := fun k => impl_ReqRead.f k s) (fun k => by kernel_rfl) ?_, ?_⟩
 ·unfold impl_ReqRead.f
  (rw [hr]); (have hs0 : ¬ s.toList = ([] : List UInt8) := fun h => hn (ba_ext (by rw [← Lib.toList_data, h]))); (simp only [Option.bind_some, if_neg hs0])
  refine Ev.bind (implReqTextIn_ev a w b c d e t) ?_
  unfold rrOut
  by_cases h : reqTextS a w b c d e t = s
  ·rw [if_pos (by rw [h]), if_neg (by rw [h]; rintro (h1 | h1); exact hn h1; exact h1 rfl)]
   exact Ev.now _
  ·rw [if_neg (by rw [Lib.toList_data, Lib.toList_data]; exact fun h1 => h (ba_ext h1)), if_pos (.inr h)]
   exact Ev.now _
 ·rintro ⟨a', w', b', c', d', e', t', h⟩
  have := (readReq_isT h).symm.trans hr
  injection this with this
  (simp only [Prod.mk.injEq] at this); (obtain ⟨rfl, rfl, rfl, rfl, rfl, rfl, rfl⟩ := this)
  exact h
theorem c6_nil (s : ByteArray) (hs : s.size ≤ 1048576) (hn : s = NoT) : Ev (fun k => c6 k [.v (.string s)]) (0, NoT, 0, 0, 0, 0, NoT, false) := by
 obtain ⟨⟨a, w, b, c, d, e, t⟩, hr⟩ := readReq_some s hs
 refine Ev.step (f := fun k => impl_ReqRead.f k s) (fun k => by kernel_rfl) ?_
 unfold impl_ReqRead.f
 (rw [hr]); (have hs0 : s.toList = ([] : List UInt8) := by rw [hn, Lib.toList_data]); (simp only [Option.bind_some, if_pos hs0])
 exact Ev.now _
theorem rrOut_no {s : ByteArray} {a : Int} {w : ByteArray} {b c d e : Int} {t : ByteArray} (h : s = NoT ∨ ¬ IsT s a w b c d e t) : rrOut s a w b c d e t = (0, NoT, 0, 0, 0, 0, NoT, false) := by
 unfold rrOut
 rw [if_pos]
 by_cases hn : reqTextS a w b c d e t = s
 ·left
  rcases h with rfl | h
  ·exact hn
  ·exact Classical.byContradiction fun h1 => h (isT_of hn (fun e => h1 (by rw [hn, e])))
 ·exact .inr hn
theorem same_ev (s : ByteArray) (hs : s.size ≤ 1048576) : ∃ x, Ev (fun k => c5 k [.v (.string s)]) x ∧ Ev (fun k => c6 k [.v (.string s)]) x := by
 by_cases hn : s = NoT
 ·obtain ⟨a, w, b, c, d, e, t, h⟩ := specAny_ev s hs
  rw [rrOut_no (.inl hn)] at h
  exact ⟨_, h, c6_nil s hs hn⟩
 ·obtain ⟨a, w, b, c, d, e, t, h6, hI⟩ := c6_ev s hs hn
  by_cases h : ∃ a w b c d e t, IsT s a w b c d e t
  ·exact ⟨_, specIs_ev (hI h), h6⟩
  ·obtain ⟨a', w', b', c', d', e', t', h5⟩ := specAny_ev s hs
   rw [rrOut_no (.inr fun i => h ⟨_, _, _, _, _, _, _, i⟩)] at h5 h6
   exact ⟨_, h5, h6⟩
theorem c7_ev (a : Int) (w : ByteArray) (b c d e : Int) (t : ByteArray) : Ev (fun k => c7 k [.agg [.v (.int .i64 a), .v (.string w), .v (.int .i64 b), .v (.int .i64 c), .v (.int .i64 d), .v (.int .i64 e), .v (.string t)], .agg [.v (.int .i64 a), .v (.string w), .v (.int .i64 b), .v (.int .i64 c), .v (.int .i64 d), .v (.int .i64 e), .v (.string t)]]) true := by
 refine Ev.step (fun k => g7_eq k a w b c d e t a w b c d e t) ?_
 (have hi : ∀ x : Int, (x != x) = false := fun x => by simp); (have hb : ∀ x : ByteArray, (!eqS x x) = false := fun x => by rw [eqS_iff.2 rfl]; rfl)
 unfold g7
 exact Ev.cf (hi _) (Ev.cf (hb _) (Ev.cf (hi _) (Ev.cf (hi _) (Ev.cf (hi _) (Ev.cf (hi _) (Ev.cf (hb _) (Ev.now _)))))))
theorem law_ev (s : ByteArray) : Ev (fun k => c3 k [.v (.string s)]) true := by
 refine Ev.step (fun k => g3_eq k s) ?_
 by_cases hs : s.size ≤ 1048576
 ·refine Ev.cf (by simp; omega) ?_
  obtain ⟨⟨a, w, b, c, d, e, t, ok⟩, h5, h6⟩ := same_ev s hs
  refine Ev.bind h5 (Ev.bind h6 (Ev.bind (c7_ev a w b c d e t) (Ev.cf ?_ (Ev.now _))))
  cases ok <;> rfl
 ·exact Ev.ct (by simp; omega) (Ev.now _)
end Go.Proofs.YtgnbfmoifnfneaaDoor.V
namespace Go.Proofs.YtgnbfmoifnfneaaDoor.V
open Go
set_option linter.unusedVariables false
set_option linter.unusedSimpArgs false
theorem ts_all : ∀ t, (tiD t).kind ≠ .other → t ∈ tsD := by
 intro t h
 unfold tiD at h
 split at h <;> first | exact absurd rfl h | (unfold tsD; decide)
theorem ts_ok : tsD.all (fun t => infoB Tryd.prog LD t && typeB Tryd.prog LD t) = true := by kernel_rfl
theorem cellL : ∀ t x, (cellD t x).length = (tiD t).sz := by
 intro t x
 unfold cellD
 split <;> first | rfl | simp
theorem formL : ∀ t x s, s ∈ cellD t x → (∃ u, s = .v u ∧ u.oneCell' = true) ∨ ∃ e ys, s = .ro e ys := by
  intro t x s hs
  unfold cellD at hs
  split at hs <;> first
    | (rw [List.eq_of_mem_replicate hs]; exact .inl ⟨_, rfl, rfl⟩)
    | (simp only [List.mem_cons, List.not_mem_nil, or_false] at hs
       repeat' (first | (obtain rfl := hs; first | exact .inl ⟨_, rfl, rfl⟩ | exact .inr ⟨_, _, rfl⟩) | (rcases hs with hs | hs)))
theorem list_ok {t : TypeId} {s : SV DD} {xs : List (DD t)} (h : listOf t s = some xs) : canon s = .ro t xs := by
 unfold listOf at h
 split at h
 ·obtain ⟨e, rfl⟩ := castL_eq h
  subst e; rfl
 ·split at h
  ·rename_i hb
   (obtain rfl := Nat.eq_of_beq_eq_true hb); (obtain rfl := Option.some.inj h)
   rfl
  ·cases h
 ·cases h
theorem makeL : ∀ t cs x, makeD t cs = some x → cellD t x = cs.map canon := by
  intro t cs x h
  unfold makeD at h
  split at h <;> first
    | (cases h; done)
    | (obtain rfl := Option.some.inj h; rfl)
    | (repeat' (split at h)
       all_goals first
         | (cases h; done)
         | (obtain rfl := Option.some.inj h
            simp only [List.map_cons, List.map_nil]
            repeat (rename_i hl; rw [list_ok hl])
            rfl))
theorem flatL : ∀ t x, (zeroC t).any isNl = false → ∀ s, s ∈ cellD t x → ∃ u, s = .v u := by
  intro t x hz s hs
  unfold cellD at hs
  split at hs <;> first
    | (cases hz; done)
    | (rw [List.eq_of_mem_replicate hs]; exact ⟨_, rfl⟩)
    | (simp only [List.mem_cons, List.not_mem_nil, or_false] at hs
       repeat' (first | (obtain rfl := hs; exact ⟨_, rfl⟩) | (rcases hs with hs | hs)))
theorem zdL : ∀ t e, (tiD t).kind = .slice e → cellD e (zeroD e) = (zeroC e).map canon := by
 intro t e h
 unfold tiD at h
 split at h <;> first
  | (cases h; done)
  | (injection h with h; subst h; rfl)
theorem byteL : ∀ e, (tiD e).kind = .int .u8 → (tiD e).sz = 1 ∧ (tiD e).bytes = 1 ∧ (zeroC e) = [.v (.int .u8 0)] ∧ (∀ n, ∃ x, makeD e [.v (.int .u8 n)] = some x) ∧ ∀ x, ∃ n, cellD e x = [.v (.int .u8 n)] := by
 intro e h
 unfold tiD at h
 split at h <;> first
  | (cases h; done)
  | exact ⟨rfl, rfl, rfl, fun n => ⟨n, rfl⟩, fun x => ⟨x, rfl⟩⟩
theorem eqt_all : eqtL.all (fun p => eqtB Tryd.prog p.1 p.2) = true := by kernel_rfl
theorem all_look {α : Type} {f : Nat × α → Bool} {m : List (Nat × α)} {n : Nat} {x : α} (h : m.all f = true) (hl : look m n = some x) : f (n, x) = true := List.all_eq_true.1 h _ (look_mem hl)
theorem eqt_gen {P : Program} {m : List (Nat × List Nat)} (h : m.all (fun p => eqtB P p.1 p.2) = true) (t : TypeId) (g : List Nat) (hg : g = match look m t with
  | some l => l
  | none => []) (hne : g ≠ []) : eqtB P t g = true := by
 cases hl : look m t with
 | none => rw [hl] at hg; exact absurd hg hne
 | some l => rw [hl] at hg; rw [hg]; exact all_look h hl
theorem eqt_ok' : ∀ t, eqtD t ≠ [] → eqtB Tryd.prog t (eqtD t) = true := fun t h => eqt_gen eqt_all t (eqtD t) rfl h
theorem eqt_ok : ∀ t, LD.eqt t ≠ [] → eqtB Tryd.prog t (LD.eqt t) = true := eqt_ok'
theorem lay_ok : LayOk Tryd.prog LD := layOk_of ts_all ts_ok eqt_ok ⟨byteL, cellL, formL, makeL, flatL, zdL⟩
theorem sigs_ok : sigL.all (fun p => Nat.ble p.2.all.length 900) = true := by kernel_rfl
theorem small_ok : ∀ f, (sigD f).all.length ≤ 900 := by
 intro f
 unfold sigD
 split
 ·rename_i s hl
  exact Nat.le_of_ble_eq_true (List.all_eq_true.1 sigs_ok _ (look_mem hl))
 ·exact Nat.zero_le _
theorem mixed_ok : Tryd.prog.follows .mixedOrders = true := by kernel_rfl
theorem names_ok : Tryd.prog.funcs.toList.all (fun fn => !(fn.name == "runtime.NumGoroutine")) = true := by kernel_rfl
theorem name_ok : ∀ (f : FuncId) (fn : Func), Tryd.prog.funcs[f]? = some fn → (fn.name == "runtime.NumGoroutine") = false := fun f fn h => by
 have := List.all_eq_true.1 names_ok fn (List.mem_of_getElem? (by rw [Array.getElem?_toList]; exact h))
 simpa using this
theorem ctx_ok {Tab : TabP} (hk : TabKept Tab) (hx : ∀ (f : FuncId) (h : Nat → List (SV DD) → Option (RT DD (sigD f).all)), extD f = some h → ∀ k q r, h k q = some r → Meets Tryd.prog LD Tab (sigD f) f q r ∧ Callable Tryd.prog f) : CtxOk CD Tab where
 kept := hk
 lay := lay_ok
 mixed := mixed_ok
 small := small_ok
 name := name_ok
 ext := hx
end Go.Proofs.YtgnbfmoifnfneaaDoor.V
