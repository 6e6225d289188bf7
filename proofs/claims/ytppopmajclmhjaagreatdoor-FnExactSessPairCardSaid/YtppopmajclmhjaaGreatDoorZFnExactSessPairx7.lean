/- Part of the proof of the law FnExactSessPair: what it uses of the texts that this session and the kit's print wrote. -/
import Derived.Test.YtppopmajclmhjaaGreatDoorZFnExactSessPairx2
import Derived.Test.YtppopmajclmhjaaGreatDoorZFnExactSessPairx6
namespace Go.Proofs.YtppopmajclmhjaaGreatDoor.QB
open Go.RowKit Go.Proofs.YtppopmajclmhjaaGreatDoorW.PrintWords Go.Proofs.YtppopmajclmhjaaGreatDoorW.PrintLast Go.Proofs.YtppopmajclmhjaaGreatDoorW.PrintMore
attribute [local go_sem] max2_int min2_int max_two min_two max_three min_three max_four min_four
set_option linter.unusedVariables false
set_option linter.unusedSimpArgs false
set_option maxHeartbeats 8000000
set_option maxRecDepth 100000
mutual
def impl_Tokens.j0 : Nat → ByteArray → Int → Bool → Option (List ByteArray × Bool)
 | 0, _, _, _ => none
 | k + 1, x0, x1, x17 => if x17 = true then (some (([] : List ByteArray), false)) else ((strings_FieldsFunc.f x0).bind fun t503 => (if (t503.length : Int) > x1 then (some (([] : List ByteArray), false)) else (if 0 ≤ x1 then (if (x1 : Int).toNat ≤ 17592186044416 then (impl_Tokens.l0 k (List.replicate (x1 : Int).toNat (⟨#[]⟩ : ByteArray)) t503 (t503.length : Int) 0) else (none)) else (none))))
def impl_Tokens.l0 : Nat → List ByteArray → List ByteArray → Int → Int → Option (List ByteArray × Bool)
 | 0, _, _, _, _ => none
 | k + 1, x7, x26, x27, x28 => if x28 < x27 then (if 0 ≤ x28 then (if x28 < (x26.length : Int) then ((impl_Fold.f k (rdOf ByteArray.empty x26 x28)).bind fun t510 => (if x28 < (x7.length : Int) then ((some (x7.set (x28 : Int).toNat t510 : List ByteArray)).bind fun y511 => (if (rdOf ByteArray.empty y511 x28).toList = ([] : List UInt8) then (impl_Tokens.l0 k (y511.set (x28 : Int).toNat (⟨#[63]⟩ : ByteArray)) x26 x27 (wrap64 (x28 + 1))) else (impl_Tokens.l0 k y511 x26 x27 (wrap64 (x28 + 1))))) else (none))) else (none)) else (none)) else (some (x7, true))
end
def impl_Tokens.f (k : Nat) (a0 : ByteArray) (a1 : Int) : Option (List ByteArray × Bool) := if (a0.size : Int) > 2000 then (impl_Tokens.j0 k a0 a1 true) else ((impl_within.f a1 1 16).bind fun t502 => (impl_Tokens.j0 k a0 a1 (!t502)))
theorem impl_Tokens.calls (k : Nat) (a0 : ByteArray) (a1 : Int) (r1 : List ByteArray) (r2 : Bool) (w : World) (h : impl_Tokens.f k a0 a1 = some (r1, r2)) (hG : TabG w) :
  Calls Tryz.prog 112 #[.string a0, .int .i64 a1] w fun e w' => ∃ v0_ : Value, e = .returned (.tuple #[v0_, .bool r2]) ∧ Kd.R Kd.string 9 w' w.heap.size (fun _ => True) v0_ r1 ∧ Below w.heap.size w w' := by
 (have HB := Aside0.mk (Below.refl w.heap.size w)); (have H : (if (a0.size : Int) > 2000 then (impl_Tokens.j0 k a0 a1 true) else ((impl_within.f a1 1 16).bind fun t502 => (impl_Tokens.j0 k a0 a1 (!t502)))) = some (r1, r2) := h); clear h; (have HC3 := Aside0.mk H); clear H
 go_enter Tryz.func112, Tryz.ntmps112
 go_upto_region 1 with (fail)
 go_cut [17] (fun v17 wc => ∃ (kq : Nat) (x17_2 : Bool), v17 = .bool x17_2 ∧ Aside0 (impl_Tokens.j0 kq a0 a1 x17_2 = some (r1, r2)) ∧ Aside0 (kq ≤ k) ∧ Aside0 (Below w.heap.size w wc))
 case first =>
  (have H := HC3.out); clear HC3
  rcases qJ H with ⟨c4, H⟩ | ⟨c4, H⟩
  ·have c4b0 : decide (2000 < (a0.size : Int)) = true := decide_eq_true c4
   (have c4b1 : decide (2000 < a0.size) = true := decide_eq_true (by omega)); clear c4
   (first | rw [c4b0] | (simp only [i64_w, i32_w]; rw [c4b0]) | skip)
   (have H' := Aside0.mk H); clear H
   go_wp2
   go_meet
   case rel => exact ⟨_, (true), qV, H', ⟨by first | omega | exact Nat.le_refl _⟩, ⟨qS0 HB⟩⟩
  ·have c4b0 : decide (2000 < (a0.size : Int)) = false := decide_eq_false c4
   (have c4b1 : decide (2000 < a0.size) = false := decide_eq_false (by omega)); clear c4
   (first | rw [c4b0] | (simp only [i64_w, i32_w]; rw [c4b0]) | skip)
   (obtain ⟨t502, A5, H⟩ := qX H); (replace H : (impl_Tokens.j0 k a0 a1 (!t502)) = some (r1, r2) := H); (have H' := Aside0.mk H); clear H
   go_wp2_with (first | (go_at_call 61; (with_reducible refine (impl_within.calls a1 1 16 t502 _ A5.out).mono ?_); rintro e w' ⟨rfl, ⟨nd, rfl⟩⟩))
   go_meet
   case rel => exact ⟨_, (!t502), qV, H', ⟨by first | omega | exact Nat.le_refl _⟩, ⟨qS0 HB⟩⟩
 case rest =>
  clear HC3; (try clear c4b0); (try clear c4b1); (obtain ⟨kq, x17_2, rfl, HA, HJ2, HB⟩ := hcut)
  cases kq with
  | zero => exact absurd HA.out (by simp [impl_Tokens.j0])
  | succ kj2 =>
   (have H := HA.out); clear HA; (simp only [impl_Tokens.j0] at H)
   by_cases c6 : x17_2 = true
   ·subst c6
    (have H1 : (some (([] : List ByteArray), false)) = some (r1, r2) := by rw [if_pos rfl] at H; exact H); clear H; (have H := H1); clear H1; (simp only [Option.some.injEq, Prod.mk.injEq] at H); (obtain ⟨rfl, rfl⟩ := H)
    go_wp2
    go_ret2
    exact ⟨_, qE, by first | exact Kd.R_nil _ _ _ _ _ | exact Kd.N_nil _ _ _ _ _ | exact Kd.V_nil _ _ _ _ _ | exact Kd.Q_nil _ _ _ _ _ | exact Kd.S_nil _ _ _ _ _, qS0 HB⟩
   ·replace c6 := Bool.eq_false_iff.mpr c6
    (subst c6); (have H1 : ((strings_FieldsFunc.f a0).bind fun t503 => (if (t503.length : Int) > a1 then (some (([] : List ByteArray), false)) else (if 0 ≤ a1 then (if (a1 : Int).toNat ≤ 17592186044416 then (impl_Tokens.l0 kj2 (List.replicate (a1 : Int).toNat (⟨#[]⟩ : ByteArray)) t503 (t503.length : Int) 0) else (none)) else (none)))) = some (r1, r2) := by rw [if_neg (show ¬ (false = true) by decide)] at H; exact H); clear H; (have H := H1); clear H1; (obtain ⟨t503, A7, H⟩ := qX H)
    try dsimp only at H
    rcases qI H with ⟨(c8b0 : decide (a1 < (t503.length : Int)) = true), H⟩ | ⟨(c8b0 : decide (a1 < (t503.length : Int)) = false), H⟩
    ·simp only [Option.some.injEq, Prod.mk.injEq] at H
     obtain ⟨rfl, rfl⟩ := H
     go_wp2_with (first | ((with_reducible refine gate_callee (f := 124) rfl ?_); refine goesL_ (some 19) rfl rfl Tryz.func124 (by kernel_rfl) rfl #[.string a0, .func (.func 125) #[] #[]] rfl qL ?_; (with_reducible refine (strings_FieldsFunc.calls a0 t503 _ A7.out).mono ?_); rintro e w9 ⟨v504, rfl, ho0, hb⟩; refine ⟨_, rfl, ?_⟩; have HO505 := Aside0.mk (Kd.R_lower ho0 (below_size (qS0 HB))); replace HB := Aside0.mk (below_step (qS0 HB) hb); (try clear hb); (try clear hb2); (try clear hk); (try clear hi); (try clear ho0); obtain ⟨Ao10, co10, eo10⟩ := Kd.R_slice HO505.out; subst eo10))
     go_ret2
     exact ⟨_, qE, by first | exact Kd.R_nil _ _ _ _ _ | exact Kd.N_nil _ _ _ _ _ | exact Kd.V_nil _ _ _ _ _ | exact Kd.Q_nil _ _ _ _ _ | exact Kd.S_nil _ _ _ _ _, qS0 HB⟩
    ·obtain ⟨c11b0, c11b1, H⟩ := qT2 H
     (obtain ⟨c12b0, c12b1, H⟩ := qT2 H); (obtain ⟨y506, hy506⟩ : ∃ y_ : List ByteArray, y_ = (List.replicate (a1 : Int).toNat (⟨#[]⟩ : ByteArray)) := ⟨_, rfl⟩); (replace H : (impl_Tokens.l0 kj2 y506 t503 (t503.length : Int) 0) = some (r1, r2) := qY hy506 H); (have Ny506 := Aside0.mk hy506); clear hy506; (have H' := Aside0.mk H); clear H
     go_wp2_with (first | ((with_reducible refine gate_callee (f := 124) rfl ?_); refine goesL_ (some 19) rfl rfl Tryz.func124 (by kernel_rfl) rfl #[.string a0, .func (.func 125) #[] #[]] rfl qL ?_; (with_reducible refine (strings_FieldsFunc.calls a0 t503 _ A7.out).mono ?_); rintro e w13 ⟨v504, rfl, ho0, hb⟩; refine ⟨_, rfl, ?_⟩; have HO505 := Aside0.mk (Kd.R_lower ho0 (below_size (qS0 HB))); replace HB := Aside0.mk (below_step (qS0 HB) hb); (try clear hb); (try clear hb2); (try clear hk); (try clear hi); (try clear ho0); obtain ⟨Ao14, co14, eo14⟩ := Kd.R_slice HO505.out; subst eo14) | ((with_reducible refine gate_dst (N := 25) rfl ?_); refine Kd.R_make Kd.string _ 9 rfl (N := 25) rfl 80 _ _ rfl a1 rfl rfl Tryz.underlying80 (.string ⟨#[]⟩) 16 info9 rfl (by decide) (by omega) (⟨#[]⟩ : ByteArray) (ok := fun _ => True) (okp := fun _ => True) rfl (fun _ hk => hk) trivial (qO) (Nat.le_trans (Nat.mul_le_mul_right _ (qO : a1.toNat ≤ 17592186044416)) (by omega)) (Below.refl _ _) (Nat.le_refl _) ?_; intro v507 w15 ho16 hb hg_ hnew_; clear hg_ hnew_; (first | rw [← Ny506.out] at ho16 | (simp only [Int.reduceToNat] at ho16; rw [← Ny506.out] at ho16)); have HO508 := Aside0.mk (Kd.R_lower (Kd.R_new' ho16 (Kd.R_lt (qR HO505))) (below_size (qS0 HB))); replace HO505 := Aside0.mk (Kd.R_elder' (qR HO505) (Kd.R_base ho16) hb); replace HB := Aside0.mk (below_step (qS0 HB) hb); clear hb ho16))
     go_loopg [28] kj2 (fun kq v28 w' => ∃ (x7_2 : List ByteArray) (x28_2 : Int), v28 = .int .i64 x28_2 ∧ Aside0 (impl_Tokens.l0 kq x7_2 t503 (t503.length : Int) x28_2 = some (r1, r2)) ∧ Aside0 (kq ≤ kj2) ∧ Aside0 (Kd.R Kd.string 9 w' w.heap.size (fun k_ => some k_ ≠ ((.slice Ao14 t503.length co14) : Value).ownBlock) v507 x7_2) ∧ Aside0 (Kd.R Kd.string 9 w' w.heap.size (fun k_ => some k_ ≠ (v507 : Value).ownBlock) (.slice Ao14 t503.length co14) t503) ∧ Aside0 (Below w.heap.size w w'))
     case atStart => exact ⟨(y506), (0), qV, H', ⟨Nat.le_refl _⟩, ⟨by (with_reducible repeat (first | apply Kd.R_alloc | apply Kd.R_drewN | apply Kd.R_drew)); exact Kd.R_mono HO508.out (fun _ hk => hk.2)⟩, ⟨by (with_reducible repeat (first | apply Kd.R_alloc | apply Kd.R_drewN | apply Kd.R_drew)); exact Kd.R_mono HO505.out (fun _ hk => hk.2)⟩, ⟨qS0 HB⟩⟩
     case round =>
      clear H'; (try clear c6); (try clear c8b0); (try clear c11b0); (try clear c11b1); (try clear c12b0); (try clear c12b1); (obtain ⟨x7_2, x28_2, rfl, HA, HK2, HO_7, HO_26, HB⟩ := hrel)
      cases gk with
      | zero => exact absurd HA.out (by simp [impl_Tokens.l0])
      | succ k2 =>
       (have H := HA.out); clear HA; (simp only [impl_Tokens.l0] at H)
       rcases qI H with ⟨c17b0, H⟩ | ⟨c17b0, H⟩
       ·obtain ⟨c18b0, H⟩ := qT H
        (obtain ⟨c19b0, H⟩ := qT H); (obtain ⟨t510, A20, H⟩ := qX H)
        try dsimp only at H
        (obtain ⟨c21b0, H⟩ := qT H); (obtain ⟨y511, hy511⟩ : ∃ y_ : List ByteArray, y_ = (x7_2.set (x28_2 : Int).toNat t510) := ⟨_, rfl⟩); (replace H : (if (rdOf ByteArray.empty y511 x28_2).toList = ([] : List UInt8) then (impl_Tokens.l0 k2 (y511.set (x28_2 : Int).toNat (⟨#[63]⟩ : ByteArray)) t503 (t503.length : Int) (wrap64 (x28_2 + 1))) else (impl_Tokens.l0 k2 y511 t503 (t503.length : Int) (wrap64 (x28_2 + 1)))) = some (r1, r2) := qY hy511 H); (have Ny511 := Aside0.mk hy511); clear hy511
        rcases qJ H with ⟨c23, H⟩ | ⟨c23, H⟩
        ·have c23b0 : ((rdOf ByteArray.empty y511 x28_2).toList == ([] : List UInt8)) = true := beq_iff_eq.mpr c23
         (have c23b1 : ((rdOf ByteArray.empty y511 x28_2).toList != ([] : List UInt8)) = false := bne_eq_false_iff_eq.mpr c23); clear c23; (obtain ⟨y513, hy513⟩ : ∃ y_ : List ByteArray, y_ = (y511.set (x28_2 : Int).toNat (⟨#[63]⟩ : ByteArray)) := ⟨_, rfl⟩); (replace H : (impl_Tokens.l0 k2 y513 t503 (t503.length : Int) (wrap64 (x28_2 + 1))) = some (r1, r2) := qY hy513 H); (have Ny513 := Aside0.mk hy513); clear hy513; (have H' := Aside0.mk H); clear H; (have p509 : 0 ≤ (x28_2 : Int) := qO); (have q509 : x28_2 < (t503.length : Int) := qO); (obtain ⟨ad509, e509, hx509_0⟩ := Kd.at_string (Kd.R_reads' HO_26.out).2.2 x28_2 p509 q509)
         cases e509
         (replace p509 := eq_true p509); (replace q509 := eq_true q509)
         go_wp2_with (first | ((with_reducible refine gate_callee (f := 111) rfl ?_); refine goesL_ (some 36) rfl rfl Tryz.func111 (by kernel_rfl) rfl #[.string (rdOf ByteArray.empty t503 x28_2)] rfl qL ?_; (with_reducible refine (impl_Fold.calls k2 (rdOf ByteArray.empty t503 x28_2) t510 _ A20.out (G_below (qS0 HB) hG)).mono ?_); rintro e w25 ⟨rfl, hb⟩; refine ⟨_, rfl, ?_⟩; replace HO_7 := Aside0.mk (Kd.R_below (qR HO_7) hb); replace HO_26 := Aside0.mk (Kd.R_below (qR HO_26) hb); replace HB := Aside0.mk (below_step (qS0 HB) hb); (try clear hb); (try clear hb2); (try clear hk); (try clear hi); have p22 : 0 ≤ (x28_2 : Int) := qO; have q22 : (x28_2 : Int) < ((x7_2.length : Int) : Int) := qO; obtain ⟨go22, co22, eo22, gb22, gl22, cl22, HG22⟩ := Kd.R_form HO_7.out (by omega); (first | cases eo22 | (injection eo22 with ea_ en_ ec_; (first | subst ea_ | (injection ea_ with ea_; subst ea_)); subst ec_; clear en_)); have GB22 := Aside0.mk gb22; have GG22 := Aside0.mk HG22; clear gb22 gl22 HG22; obtain ⟨hx22_0, hf22_0⟩ := Kd.R_celln (⟨#[]⟩ : ByteArray) HO_7.out (x28_2 : Int) p22 q22; replace p22 := eq_true p22; replace q22 := eq_true q22; obtain ⟨hy26_, hz26_⟩ := Kd.R_celln (⟨#[]⟩ : ByteArray) HO_7.out (x28_2 : Int) (qO) (qO); have HP26 := Kd.R_putg HO_7.out (x28_2 : Int) t510) | ((with_reducible refine gate_store (t := 9) (p := 37) rfl ?_); refine store_event (t := 9) (p := 37) (v := ?vo_w27) (w1 := (w25.setCell ⟨go22, (x28_2 : Int).toNat, none⟩ (.string t510))) ?hg ?ho ?hn ?hr ?_; (case ho => rfl); (case hg => rfl); (case hn => rfl); (case hr => first | (go_simp; done) | (go_simp; rfl)); intro w27 hw; have hg : w25.grownBy w27 (some go22) := (by rw [hw]; exact HP26.2); have hp_ : Kd.R Kd.string 9 w27 w.heap.size (fun k_ => some k_ ≠ (.slice (some ad509) t503.length co14 : Value).ownBlock) (.slice (some ⟨go22, 0, none⟩) x7_2.length co22) y511 := (by rw [hw, Ny511.out]; exact HP26.1); clear HP26; replace HO_7 := Aside0.mk (hp_); replace HO_26 := Aside0.mk (Kd.R_after (v := (.slice (some ⟨go22, 0, none⟩) x7_2.length co22)) (v1 := (.slice (some ⟨go22, 0, none⟩) x7_2.length co22)) (ok := (fun _ => True)) (by (with_reducible repeat (first | apply Kd.R_alloc | apply Kd.R_drewN | apply Kd.R_drew)); exact Kd.R_mono HO_26.out (fun _ hk => ⟨trivial, hk⟩)) hg (.inl rfl)); replace HB := Aside0.mk ((by rw [hw]; exact below_set (HB.out) GB22.out : Below w.heap.size w w27)); clear hg hw hp_; have p512 : 0 ≤ (x28_2 : Int) := qO; have q512 : x28_2 < (y511.length : Int) := (by have h_ : (x28_2 : Int) < ((x7_2.length : Int) : Int) := qO; first | (have e_ := (Kd.R_reads' HO_7.out).1; omega) | simpa only [Ny511.out, List.length_set] using h_); have ql512 : ((x28_2 : Int) < ((x7_2.length : Int) : Int)) = True := eq_true (qO); obtain ⟨ad512, e512, hx512_0⟩ := Kd.at_string (Kd.R_reads' HO_7.out).2.2 x28_2 p512 q512; obtain rfl : (⟨go22, 0, none⟩ : Addr) = ad512 := (by injection e512); (first | simp only [add_plain] at hx512_0 | simp only [add_at] at hx512_0 | simp only [Addr.add, Nat.zero_add] at hx512_0 | skip); replace p512 := eq_true p512; replace q512 := eq_true q512; have p24 : 0 ≤ (x28_2 : Int) := qO; have q24 : (x28_2 : Int) < ((x7_2.length : Int) : Int) := qO; obtain ⟨hx24_0, hf24_0⟩ := Kd.R_celln (⟨#[]⟩ : ByteArray) HO_7.out (x28_2 : Int) p24 q24; replace p24 := eq_true p24; replace q24 := eq_true q24; obtain ⟨hy28_, hz28_⟩ := Kd.R_celln (⟨#[]⟩ : ByteArray) HO_7.out (x28_2 : Int) (qO) (qO); have HP28 := Kd.R_putg HO_7.out (x28_2 : Int) (⟨#[63]⟩ : ByteArray)) | ((with_reducible refine gate_store (t := 9) (p := 45) rfl ?_); refine store_event (t := 9) (p := 45) (v := ?vo_w29) (w1 := (w27.setCell ⟨go22, (x28_2 : Int).toNat, none⟩ (.string (⟨#[63]⟩ : ByteArray)))) ?hg ?ho ?hn ?hr ?_; (case ho => rfl); (case hg => rfl); (case hn => rfl); (case hr => first | (go_simp; done) | (go_simp; rfl)); intro w29 hw; have hg : w27.grownBy w29 (some go22) := (by rw [hw]; exact HP28.2); have hp_ : Kd.R Kd.string 9 w29 w.heap.size (fun k_ => some k_ ≠ (.slice (some ad509) t503.length co14 : Value).ownBlock) (.slice (some ⟨go22, 0, none⟩) x7_2.length co22) y513 := (by rw [hw, Ny513.out]; exact HP28.1); clear HP28; replace HO_7 := Aside0.mk (hp_); replace HO_26 := Aside0.mk (Kd.R_after (v := (.slice (some ⟨go22, 0, none⟩) x7_2.length co22)) (v1 := (.slice (some ⟨go22, 0, none⟩) x7_2.length co22)) (ok := (fun _ => True)) (qR HO_26) hg (.inl rfl)); replace HB := Aside0.mk ((by rw [hw]; exact below_set (HB.out) GB22.out : Below w.heap.size w w29)); clear hg hw hp_))
         go_roundg k2
         case measure => have := HJ2.out; have := HK2.out; omega
         case rel => exact ⟨(y513), (wrap64 (x28_2 + 1)), qV, H', ⟨by have := HJ2.out; have := HK2.out; omega⟩, ⟨qR HO_7⟩, ⟨by (with_reducible repeat (first | apply Kd.R_alloc | apply Kd.R_drewN | apply Kd.R_drew)); exact Kd.R_mono HO_26.out (fun _ hk => hk.2)⟩, ⟨qS0 HB⟩⟩
        ·have c23b0 : ((rdOf ByteArray.empty y511 x28_2).toList == ([] : List UInt8)) = false := beq_eq_false_iff_ne.mpr c23
         (have c23b1 : ((rdOf ByteArray.empty y511 x28_2).toList != ([] : List UInt8)) = true := bne_iff_ne.mpr c23); (have H' := Aside0.mk H); clear H; (have p509 : 0 ≤ (x28_2 : Int) := qO); (have q509 : x28_2 < (t503.length : Int) := qO); (obtain ⟨ad509, e509, hx509_0⟩ := Kd.at_string (Kd.R_reads' HO_26.out).2.2 x28_2 p509 q509)
         cases e509
         (replace p509 := eq_true p509); (replace q509 := eq_true q509)
         go_wp2_with (first | ((with_reducible refine gate_callee (f := 111) rfl ?_); refine goesL_ (some 36) rfl rfl Tryz.func111 (by kernel_rfl) rfl #[.string (rdOf ByteArray.empty t503 x28_2)] rfl qL ?_; (with_reducible refine (impl_Fold.calls k2 (rdOf ByteArray.empty t503 x28_2) t510 _ A20.out (G_below (qS0 HB) hG)).mono ?_); rintro e w30 ⟨rfl, hb⟩; refine ⟨_, rfl, ?_⟩; replace HO_7 := Aside0.mk (Kd.R_below (qR HO_7) hb); replace HO_26 := Aside0.mk (Kd.R_below (qR HO_26) hb); replace HB := Aside0.mk (below_step (qS0 HB) hb); (try clear hb); (try clear hb2); (try clear hk); (try clear hi); have p22 : 0 ≤ (x28_2 : Int) := qO; have q22 : (x28_2 : Int) < ((x7_2.length : Int) : Int) := qO; obtain ⟨go22, co22, eo22, gb22, gl22, cl22, HG22⟩ := Kd.R_form HO_7.out (by omega); (first | cases eo22 | (injection eo22 with ea_ en_ ec_; (first | subst ea_ | (injection ea_ with ea_; subst ea_)); subst ec_; clear en_)); have GB22 := Aside0.mk gb22; have GG22 := Aside0.mk HG22; clear gb22 gl22 HG22; obtain ⟨hx22_0, hf22_0⟩ := Kd.R_celln (⟨#[]⟩ : ByteArray) HO_7.out (x28_2 : Int) p22 q22; replace p22 := eq_true p22; replace q22 := eq_true q22; obtain ⟨hy31_, hz31_⟩ := Kd.R_celln (⟨#[]⟩ : ByteArray) HO_7.out (x28_2 : Int) (qO) (qO); have HP31 := Kd.R_putg HO_7.out (x28_2 : Int) t510) | ((with_reducible refine gate_store (t := 9) (p := 37) rfl ?_); refine store_event (t := 9) (p := 37) (v := ?vo_w32) (w1 := (w30.setCell ⟨go22, (x28_2 : Int).toNat, none⟩ (.string t510))) ?hg ?ho ?hn ?hr ?_; (case ho => rfl); (case hg => rfl); (case hn => rfl); (case hr => first | (go_simp; done) | (go_simp; rfl)); intro w32 hw; have hg : w30.grownBy w32 (some go22) := (by rw [hw]; exact HP31.2); have hp_ : Kd.R Kd.string 9 w32 w.heap.size (fun k_ => some k_ ≠ (.slice (some ad509) t503.length co14 : Value).ownBlock) (.slice (some ⟨go22, 0, none⟩) x7_2.length co22) y511 := (by rw [hw, Ny511.out]; exact HP31.1); clear HP31; replace HO_7 := Aside0.mk (hp_); replace HO_26 := Aside0.mk (Kd.R_after (v := (.slice (some ⟨go22, 0, none⟩) x7_2.length co22)) (v1 := (.slice (some ⟨go22, 0, none⟩) x7_2.length co22)) (ok := (fun _ => True)) (by (with_reducible repeat (first | apply Kd.R_alloc | apply Kd.R_drewN | apply Kd.R_drew)); exact Kd.R_mono HO_26.out (fun _ hk => ⟨trivial, hk⟩)) hg (.inl rfl)); replace HB := Aside0.mk ((by rw [hw]; exact below_set (HB.out) GB22.out : Below w.heap.size w w32)); clear hg hw hp_; have p512 : 0 ≤ (x28_2 : Int) := qO; have q512 : x28_2 < (y511.length : Int) := (by have h_ : (x28_2 : Int) < ((x7_2.length : Int) : Int) := qO; first | (have e_ := (Kd.R_reads' HO_7.out).1; omega) | simpa only [Ny511.out, List.length_set] using h_); have ql512 : ((x28_2 : Int) < ((x7_2.length : Int) : Int)) = True := eq_true (qO); obtain ⟨ad512, e512, hx512_0⟩ := Kd.at_string (Kd.R_reads' HO_7.out).2.2 x28_2 p512 q512; obtain rfl : (⟨go22, 0, none⟩ : Addr) = ad512 := (by injection e512); (first | simp only [add_plain] at hx512_0 | simp only [add_at] at hx512_0 | simp only [Addr.add, Nat.zero_add] at hx512_0 | skip); replace p512 := eq_true p512; replace q512 := eq_true q512))
         go_roundg k2
         case measure => have := HJ2.out; have := HK2.out; omega
         case rel => exact ⟨(y511), (wrap64 (x28_2 + 1)), qV, H', ⟨by have := HJ2.out; have := HK2.out; omega⟩, ⟨qR HO_7⟩, ⟨by (with_reducible repeat (first | apply Kd.R_alloc | apply Kd.R_drewN | apply Kd.R_drew)); exact Kd.R_mono HO_26.out (fun _ hk => hk.2)⟩, ⟨qS0 HB⟩⟩
       ·simp only [Option.some.injEq, Prod.mk.injEq] at H
        obtain ⟨rfl, rfl⟩ := H
        go_wp2
        go_ret2
        exact ⟨_, qE, by (with_reducible repeat (first | apply Kd.R_alloc | apply Kd.R_drewN | apply Kd.R_drew)); exact Kd.R_mono HO_7.out (fun _ hk => trivial), qS0 HB⟩
def impl_looksOf.f (k : Nat) (a0_0 : Int) (a0_1 : ByteArray) (a0_2 : Int) (a0_3 : Int) (a0_4 : Int) (a0_5 : Int) (a0_6 : ByteArray) : Option (List ByteArray) := if a0_0 = 1 then ((impl_Fold.f k a0_1).bind fun t515 => (some (([t515] : List ByteArray)))) else (if a0_0 = 6 then ((impl_Tokens.f k a0_6 a0_5).bind fun bt519 => (if bt519.2 = true then (some bt519.1) else (if 0 ≤ a0_5 then (if (a0_5 : Int).toNat ≤ 17592186044416 then (some (List.replicate (a0_5 : Int).toNat (⟨#[]⟩ : ByteArray))) else (none)) else (none)))) else (some ([] : List ByteArray)))
theorem impl_looksOf.calls (k : Nat) (a0_0 : Int) (a0_1 : ByteArray) (a0_2 : Int) (a0_3 : Int) (a0_4 : Int) (a0_5 : Int) (a0_6 : ByteArray) (r : List ByteArray) (w : World) (h : impl_looksOf.f k a0_0 a0_1 a0_2 a0_3 a0_4 a0_5 a0_6 = some r) (hG : TabG w) :
  Calls Tryz.prog 74 #[.agg #[.int .i64 a0_0, .string a0_1, .int .i64 a0_2, .int .i64 a0_3, .int .i64 a0_4, .int .i64 a0_5, .string a0_6]] w fun e w' => ∃ v0_ : Value, e = .returned (v0_) ∧ Kd.R Kd.string 9 w' w.heap.size (fun _ => True) v0_ r ∧ Below w.heap.size w w' := by
 (have hu56 := Tryz.underlying56); (have HB := Aside0.mk (Below.refl w.heap.size w)); (have H : (if a0_0 = 1 then ((impl_Fold.f k a0_1).bind fun t515 => (some (([t515] : List ByteArray)))) else (if a0_0 = 6 then ((impl_Tokens.f k a0_6 a0_5).bind fun bt519 => (if bt519.2 = true then (some bt519.1) else (if 0 ≤ a0_5 then (if (a0_5 : Int).toNat ≤ 17592186044416 then (some (List.replicate (a0_5 : Int).toNat (⟨#[]⟩ : ByteArray))) else (none)) else (none)))) else (some ([] : List ByteArray)))) = some r := h); clear h
 rcases qJ H with ⟨c2, H⟩ | ⟨c2, H⟩
 ·have c2b0 : (a0_0 == 1) = true := beq_iff_eq.mpr c2
  (have c2b1 : (a0_0 != 1) = false := bne_eq_false_iff_eq.mpr c2); clear c2; (obtain ⟨t515, A3, H⟩ := qX H); (replace H : (some (([t515] : List ByteArray))) = some r := H); (obtain ⟨y516, hy516⟩ : ∃ y_ : List ByteArray, y_ = (([t515] : List ByteArray)) := ⟨_, rfl⟩); (replace H : (some y516) = some r := qY hy516 H); (have Ny516 := Aside0.mk hy516); clear hy516; (obtain rfl := Option.some.inj H)
  go_enter Tryz.func74, Tryz.ntmps74
  go_wp2_with (first | ((with_reducible refine gate_dst (N := 1) rfl ?_); refine box_event ?hg (N := 1) ?hd (cs := #[.int .i64 a0_0, .string a0_1, .int .i64 a0_2, .int .i64 a0_3, .int .i64 a0_4, .int .i64 a0_5, .string a0_6]) (t := 56) ?hr ?_; (case hd => rfl); (case hg => rfl); (case hr => first | (go_simp; done) | (go_simp; rfl)); intro gb514 hg w4 hbox hb; have BK514 := Aside0.mk (hbox); have GW514 := qG hg (below_size (qS0 HB)); have GE514 := qG hg (below_size (qS0 HB)); replace HB := Aside0.mk (below_step (qS0 HB) hb); clear hb hbox hg; obtain ⟨hcz5_0, hcz5_1, hcz5_2, hcz5_3, hcz5_4, hcz5_5, hcz5_6, hfz5_0, hfz5_1, hfz5_2, hfz5_3, hfz5_4, hfz5_5, hfz5_6⟩ := qC7 BK514) | ((with_reducible refine gate_callee (f := 111) rfl ?_); refine goesL_ (some 11) rfl rfl Tryz.func111 (by kernel_rfl) rfl #[.string a0_1] rfl qL ?_; (with_reducible refine (impl_Fold.calls k a0_1 t515 _ A3.out (G_below (qS1 HB GE514) hG)).mono ?_); rintro e w6 ⟨rfl, hb⟩; refine ⟨_, rfl, ?_⟩; replace BK514 := qD BK514 hb; replace HB := Aside0.mk (below_step (qS1 HB GE514) hb); (try clear hb); (try clear hb2); (try clear hk); (try clear hi)) | ((with_reducible refine gate_dst (N := 12) rfl ?_); refine Kd.R_lit Kd.string _ 9 ?hg (N := 12) ?hd (xs := ([t515] : List ByteArray)) (inner := [.string t515]) (ok := fun _ => True) (okp := fun _ => True) ?hr ?hp (fun _ hk => hk) trivial (Below.refl _ _) (Nat.le_refl _) (by simp) ?_; (case hd => rfl); (case hg => rfl); (case hr => first | (go_simp; done) | (go_simp; rfl)); (case hp => exact (Reps.one (show Kd.M Kd.string _ _ _ t515 [.string t515] from rfl) (Reps.none _ _))); intro v517 w7 ho8 hb hg_ hnew_; clear hg_ hnew_; (first | rw [← Ny516.out] at ho8 | (simp only [Int.reduceToNat] at ho8; rw [← Ny516.out] at ho8)); have HO518 := Aside0.mk (Kd.R_lower ho8 (below_size (qS1 HB GE514))); replace BK514 := qD BK514 hb; replace HB := Aside0.mk (below_step (qS1 HB GE514) hb); clear hb ho8))
  go_ret
  exact ⟨_, qE, qR HO518, qS1 HB GE514⟩
 ·have c2b0 : (a0_0 == 1) = false := beq_eq_false_iff_ne.mpr c2
  have c2b1 : (a0_0 != 1) = true := bne_iff_ne.mpr c2
  rcases qJ H with ⟨c9, H⟩ | ⟨c9, H⟩
  ·have c9b0 : (a0_0 == 6) = true := beq_iff_eq.mpr c9
   (have c9b1 : (a0_0 != 6) = false := bne_eq_false_iff_eq.mpr c9); clear c9; (obtain ⟨⟨t519, t520⟩, A10, H⟩ := qX H)
   try dsimp only at H
   by_cases c11 : t520 = true
   ·subst c11
    (have H1 : (some t519) = some r := by rw [if_pos rfl] at H; exact H); clear H; (have H := H1); clear H1; (obtain rfl := Option.some.inj H)
    go_enter Tryz.func74, Tryz.ntmps74
    go_wp2_with (first | ((with_reducible refine gate_dst (N := 1) rfl ?_); refine box_event ?hg (N := 1) ?hd (cs := #[.int .i64 a0_0, .string a0_1, .int .i64 a0_2, .int .i64 a0_3, .int .i64 a0_4, .int .i64 a0_5, .string a0_6]) (t := 56) ?hr ?_; (case hd => rfl); (case hg => rfl); (case hr => first | (go_simp; done) | (go_simp; rfl)); intro gb514 hg w12 hbox hb; have BK514 := Aside0.mk (hbox); have GW514 := qG hg (below_size (qS0 HB)); have GE514 := qG hg (below_size (qS0 HB)); replace HB := Aside0.mk (below_step (qS0 HB) hb); clear hb hbox hg; obtain ⟨hcz13_0, hcz13_1, hcz13_2, hcz13_3, hcz13_4, hcz13_5, hcz13_6, hfz13_0, hfz13_1, hfz13_2, hfz13_3, hfz13_4, hfz13_5, hfz13_6⟩ := qC7 BK514) | ((with_reducible refine gate_callee (f := 112) rfl ?_); refine goesL_ (some 20) rfl rfl Tryz.func112 (by kernel_rfl) rfl #[.string a0_6, .int .i64 a0_5] rfl qL ?_; (with_reducible refine (impl_Tokens.calls k a0_6 a0_5 t519 true _ A10.out (G_below (qS1 HB GE514) hG)).mono ?_); rintro e w14 ⟨v521, rfl, ho0, hb⟩; refine ⟨_, rfl, ?_⟩; have HO522 := Aside0.mk (Kd.R_lower ho0 (below_size (qS1 HB GE514))); replace BK514 := qD BK514 hb; replace HB := Aside0.mk (below_step (qS1 HB GE514) hb); (try clear hb); (try clear hb2); (try clear hk); (try clear hi); (try clear ho0)))
    go_ret
    exact ⟨_, qE, qR HO522, qS1 HB GE514⟩
   ·replace c11 := Bool.eq_false_iff.mpr c11
    (subst c11); (have H1 : (if 0 ≤ a0_5 then (if (a0_5 : Int).toNat ≤ 17592186044416 then (some (List.replicate (a0_5 : Int).toNat (⟨#[]⟩ : ByteArray))) else (none)) else (none)) = some r := by rw [if_neg (show ¬ (false = true) by decide)] at H; exact H); clear H; (have H := H1); clear H1; (obtain ⟨c15b0, c15b1, H⟩ := qT2 H); (obtain ⟨c16b0, c16b1, H⟩ := qT2 H); (obtain ⟨y523, hy523⟩ : ∃ y_ : List ByteArray, y_ = (List.replicate (a0_5 : Int).toNat (⟨#[]⟩ : ByteArray)) := ⟨_, rfl⟩); (replace H : (some y523) = some r := qY hy523 H); (have Ny523 := Aside0.mk hy523); clear hy523; (obtain rfl := Option.some.inj H)
    go_enter Tryz.func74, Tryz.ntmps74
    go_wp2_with (first | ((with_reducible refine gate_dst (N := 1) rfl ?_); refine box_event ?hg (N := 1) ?hd (cs := #[.int .i64 a0_0, .string a0_1, .int .i64 a0_2, .int .i64 a0_3, .int .i64 a0_4, .int .i64 a0_5, .string a0_6]) (t := 56) ?hr ?_; (case hd => rfl); (case hg => rfl); (case hr => first | (go_simp; done) | (go_simp; rfl)); intro gb514 hg w17 hbox hb; have BK514 := Aside0.mk (hbox); have GW514 := qG hg (below_size (qS0 HB)); have GE514 := qG hg (below_size (qS0 HB)); replace HB := Aside0.mk (below_step (qS0 HB) hb); clear hb hbox hg; obtain ⟨hcz18_0, hcz18_1, hcz18_2, hcz18_3, hcz18_4, hcz18_5, hcz18_6, hfz18_0, hfz18_1, hfz18_2, hfz18_3, hfz18_4, hfz18_5, hfz18_6⟩ := qC7 BK514) | ((with_reducible refine gate_callee (f := 112) rfl ?_); refine goesL_ (some 20) rfl rfl Tryz.func112 (by kernel_rfl) rfl #[.string a0_6, .int .i64 a0_5] rfl qL ?_; (with_reducible refine (impl_Tokens.calls k a0_6 a0_5 t519 false _ A10.out (G_below (qS1 HB GE514) hG)).mono ?_); rintro e w19 ⟨v521, rfl, ho0, hb⟩; refine ⟨_, rfl, ?_⟩; have HO522 := Aside0.mk (Kd.R_lower ho0 (below_size (qS1 HB GE514))); replace BK514 := qD BK514 hb; replace HB := Aside0.mk (below_step (qS1 HB GE514) hb); (try clear hb); (try clear hb2); (try clear hk); (try clear hi); (try clear ho0); obtain ⟨hcz20_0, hcz20_1, hcz20_2, hcz20_3, hcz20_4, hcz20_5, hcz20_6, hfz20_0, hfz20_1, hfz20_2, hfz20_3, hfz20_4, hfz20_5, hfz20_6⟩ := qC7 BK514) | ((with_reducible refine gate_dst (N := 27) rfl ?_); refine Kd.R_make Kd.string _ 9 rfl (N := 27) rfl 80 _ _ rfl a0_5 rfl rfl Tryz.underlying80 (.string ⟨#[]⟩) 16 info9 rfl (by decide) (by omega) (⟨#[]⟩ : ByteArray) (ok := fun _ => True) (okp := fun _ => True) rfl (fun _ hk => hk) trivial (qO) (Nat.le_trans (Nat.mul_le_mul_right _ (qO : a0_5.toNat ≤ 17592186044416)) (by omega)) (Below.refl _ _) (Nat.le_refl _) ?_; intro v524 w21 ho22 hb hg_ hnew_; clear hg_ hnew_; (first | rw [← Ny523.out] at ho22 | (simp only [Int.reduceToNat] at ho22; rw [← Ny523.out] at ho22)); have HO525 := Aside0.mk (Kd.R_lower (Kd.R_new' ho22 (Kd.R_lt (qR HO522))) (below_size (qS1 HB GE514))); replace HO522 := Aside0.mk (Kd.R_elder' (qR HO522) (Kd.R_base ho22) hb); replace BK514 := qD BK514 hb; replace HB := Aside0.mk (below_step (qS1 HB GE514) hb); clear hb ho22))
    go_ret
    exact ⟨_, qE, by (with_reducible repeat (first | apply Kd.R_alloc | apply Kd.R_drewN | apply Kd.R_drew)); exact Kd.R_mono HO525.out (fun _ hk => trivial), qS1 HB GE514⟩
  ·have c9b0 : (a0_0 == 6) = false := beq_eq_false_iff_ne.mpr c9
   (have c9b1 : (a0_0 != 6) = true := bne_iff_ne.mpr c9); (obtain rfl := Option.some.inj H)
   go_enter Tryz.func74, Tryz.ntmps74
   go_wp2_with (first | ((with_reducible refine gate_dst (N := 1) rfl ?_); refine box_event ?hg (N := 1) ?hd (cs := #[.int .i64 a0_0, .string a0_1, .int .i64 a0_2, .int .i64 a0_3, .int .i64 a0_4, .int .i64 a0_5, .string a0_6]) (t := 56) ?hr ?_; (case hd => rfl); (case hg => rfl); (case hr => first | (go_simp; done) | (go_simp; rfl)); intro gb514 hg w23 hbox hb; have BK514 := Aside0.mk (hbox); have GW514 := qG hg (below_size (qS0 HB)); have GE514 := qG hg (below_size (qS0 HB)); replace HB := Aside0.mk (below_step (qS0 HB) hb); clear hb hbox hg; obtain ⟨hcz24_0, hcz24_1, hcz24_2, hcz24_3, hcz24_4, hcz24_5, hcz24_6, hfz24_0, hfz24_1, hfz24_2, hfz24_3, hfz24_4, hfz24_5, hfz24_6⟩ := qC7 BK514))
   go_ret
   exact ⟨_, qE, by first | exact Kd.R_nil _ _ _ _ _ | exact Kd.N_nil _ _ _ _ _ | exact Kd.V_nil _ _ _ _ _ | exact Kd.Q_nil _ _ _ _ _ | exact Kd.S_nil _ _ _ _ _, qS1 HB GE514⟩
def impl_isLog.f (a0 : Int) : Option (Bool) := (impl_within.f a0 0 6).bind fun t391 => (some t391)
theorem impl_isLog.calls (a0 : Int) (r : Bool) (w : World) (h : impl_isLog.f a0 = some r) :
  Calls Tryz.prog 109 #[.int .i64 a0] w fun e w' => e = .returned (.bool r) ∧ Drawn0 w w' := by
 (have H : ((impl_within.f a0 0 6).bind fun t391 => (some t391)) = some r := h); clear h; (obtain ⟨t391, A2, H⟩ := qX H); (replace H : (some t391) = some r := H); (obtain rfl := Option.some.inj H)
 go_enter Tryz.func109, Tryz.ntmps109
 go_wp2_with (first | ((with_reducible refine gate_callee (f := 61) rfl ?_); refine goesL_ (some 4) rfl rfl Tryz.func61 (by kernel_rfl) rfl #[.int .i64 a0, .int .i64 0, .int .i64 6] rfl qL ?_; (with_reducible refine (impl_within.calls a0 0 6 t391 _ A2.out).mono ?_); rintro e w' ⟨rfl, ⟨nd, rfl⟩⟩; refine ⟨_, rfl, ?_⟩))
 go_ret
 exact qZ
theorem wpList_copy_str {P : Program} {w : World} {ops : Array Oper} {rest : List Oper} {o : Oper} {a : Act} {Q : Exit → Act → World → Prop} (hgd : o.guard = none) (d s : Operand) (dT sT : TypeId)
  (ho : o.op = .call { callee := .builtin .copy, args := #[d, s], argTypes := #[dT, sT] }) (elem : TypeId) (hu : P.underlying dT = some (.slice elem)) (hsz : (P.info? elem).map (·.size) = some 1)
  (g off dLen dCap : Nat) (str : ByteArray) (hd : a.eval d = .slice (some ⟨g, off, none⟩) dLen dCap) (hs : a.eval s = .string str)
  (cur : Array Value) (t : TypeId) (hg : w.heap[g]? = some (.cells cur t (0, 0))) (hle : str.size ≤ dLen) (hfit : off + str.size ≤ cur.size)
  (h : wpList P ops Q rest (a.put o.dst (goInt str.size)) (w.setRow g (cur.toList.take off ++ Lib.byteCells str.data.toList ++ cur.toList.drop (off + str.size)).toArray)) : wpList P ops Q (o :: rest) a w := by
 refine wpList_plain hgd fun K hK => ?_
 have hrun := Lib.run_copy_row_string (P := P) w dT sT o.type elem g off dLen dCap str cur t hu hsz hg hle hfit
 unfold Oper.wp
 simp [execOp, ho, resolve, invoke, builtin, hd, hs, hrun, Result.andThen]
 exact hK _ _ (by simpa using h)
theorem byteCells_nums (s : ByteArray) : Lib.byteCells s.data.toList = nums .u8 (bytesOf s) := by simp [nums, bytesOf, Lib.byteCells]
theorem made_nums (k : IntKind) (m : Nat) : (madeCells #[Value.int k 0] m).toList = nums k (List.replicate m 0) := by
 apply List.ext_getElem
 ·simp [nums, madeCells]
 ·intro i h1 h2
  simp [nums, madeCells, Nat.mod_one]
theorem made33 : (madeCells #[Value.int IntKind.u8 0] 33).toList = nums .u8 (List.replicate 33 0) := made_nums .u8 33
theorem pad_cells (s : ByteArray) (hs : s.size ≤ 32) : ((nums .u8 (List.replicate 33 0)).set 0 (Value.int .u8 (s.size : Int))).take 1 ++ nums .u8 (bytesOf s) ++ ((nums .u8 (List.replicate 33 0)).set 0 (Value.int .u8 (s.size : Int))).drop (1 + s.size) = nums .u8 ((s.size : Int) :: (bytesOf s ++ List.replicate (32 - s.size) 0)) := by
 (have e : nums .u8 (List.replicate 33 0) = Value.int .u8 0 :: List.replicate 32 (Value.int .u8 0) := by simp [nums, List.replicate_succ]); (rw [e, List.set_cons_zero, Nat.add_comm 1 s.size, List.drop_succ_cons, List.drop_replicate])
 simp [nums]
def impl_pad.f (k : Nat) (a0 : ByteArray) : Option (List Int) := (impl_isWord.f k a0).bind fun b => if b = true then (if a0.size ≤ 32 then some ((a0.size : Int) :: (bytesOf a0 ++ List.replicate (32 - a0.size) 0)) else none) else some (List.replicate 33 0)
theorem impl_pad.hi : (Tryz.prog.info? 5).map (fun i => (i.zero, i.size, i.bytes)) = some (some (.int .u8 0), 1, 1) := by kernel_rfl
theorem impl_pad.calls (k : Nat) (a0 : ByteArray) (r : List Int) (w : World) (h : impl_pad.f k a0 = some r) :
  Calls Tryz.prog 141 #[.string a0] w fun e w' => ∃ v0_ : Value, e = .returned (v0_) ∧ Kd.R (Kd.int .u8) 5 w' w.heap.size (fun _ => True) v0_ r ∧ Below w.heap.size w w' := by
 unfold impl_pad.f at h
 (obtain ⟨b, hb, h2⟩ := Option.bind_eq_some_iff.mp h); clear h; (have HA := Aside0.mk hb); clear hb; (have hmk : ∀ W : World, (Instr.makeSlice 42 (.int .i64 33) (.int .i64 33)).run Tryz.prog W = .ok (.slice (some ⟨W.heap.size, 0, none⟩) 33 33) (W.alloc (.cells (madeCells #[.int .u8 0] 33) 5)) := print_make (P := Tryz.prog) 42 5 .u8 1 Tryz.underlying42 impl_pad.hi (by decide) 33 (by decide))
 cases b with
 | true =>
  simp only [if_true] at h2
  by_cases hs : a0.size ≤ 32
  ·rw [if_pos hs] at h2
   (obtain rfl := Option.some.inj h2); clear h2; (have hz5 : (Tryz.prog.info? 5).map (·.size) = some 1 := by kernel_rfl); (have HZ := Aside0.mk hz5); clear hz5; (have hm0 : (madeCells #[Value.int IntKind.u8 0] 33)[0]? = some (.int .u8 0) := by simp [madeCells])
   go_enter Tryz.func141, Tryz.ntmps141
   go_wp2_with (first | (go_at_call 114; refine (impl_isWord.calls k a0 true _ HA.out).mono ?_; rintro e w' ⟨rfl, ⟨n, rfl⟩⟩) | (with_reducible refine wpList_copy_str rfl (.tmp 13) (.tmp 14) 42 9 rfl 5 Tryz.underlying42 HZ.out w.heap.size 1 32 32 a0 rfl rfl ((madeCells #[.int .u8 0] 33).setIfInBounds 0 (.int .u8 (a0.size : Int))) 5 ?hg hs ?hfit ?_))
   case hg => exact blk_set (blk_drewN (blk_new w _) n) 0 _
   case hfit => simp only [Array.size_setIfInBounds, size_madeCells, List.size_toArray, List.length_singleton]; omega
   go_ret
   have hr : ∀ c W, ((((w.alloc (.cells (madeCells #[Value.int IntKind.u8 0] 33) 5)).drewN n).setCell ⟨w.heap.size, 0, none⟩ (.int .u8 (a0.size : Int))).setRow w.heap.size c).heap[w.heap.size]? = W → W = some (.cells c 5 (0, 0)) := by
    intro c W h
    rw [← h]
    exact setRow_heap _ _ _ _ _ _ (blk_set (blk_drewN (blk_new w _) n) 0 _)
   refine ⟨_, rfl, Kd.R_of_own (enc := Value.int .u8) ?_ (fun _ _ => trivial), ?_⟩
   ·refine ⟨by simp [encs], .inr ⟨w.heap.size, 33, _, ?_, Nat.le_refl _, hr _ _ rfl, ?_, by simp [maxLen], ?_, ?_⟩⟩
    ·simp [bytesOf_length]; omega
    ·simp [bytesOf_length]; omega
    ·simp [Lib.byteCells, made33, nums, data_length]; omega
    ·rw [show ((a0.size : Int) :: (bytesOf a0 ++ List.replicate (32 - a0.size) 0)).length * 1 = 33 by simp [bytesOf_length]; omega]
     (rw [List.take_of_length_le (by simp [Lib.byteCells, made33, nums, data_length]; omega)]); (have := pad_cells a0 hs)
     simpa [made33, byteCells_nums, encs, nums] using this
   ·refine below_setRow (Below.setCell (p := ⟨w.heap.size, 0, none⟩) ?_ (Nat.le_refl _) _) (Nat.le_refl _) _
    exact pw_below_drewN ((Below.refl _ w).alloc (Nat.le_refl _) _) n
  ·rw [if_neg hs] at h2; cases h2
 | false =>
  (simp only [Bool.false_eq_true, if_false] at h2); (obtain rfl := Option.some.inj h2); clear h2
  go_enter Tryz.func141, Tryz.ntmps141
  go_wp2_with (go_at_call 114; refine (impl_isWord.calls k a0 false _ HA.out).mono ?_; rintro e w' ⟨rfl, ⟨n, rfl⟩⟩)
  go_ret
  refine ⟨_, rfl, Kd.R_of_own (enc := Value.int .u8) ?_ (fun _ _ => trivial), pw_below_drewN ((Below.refl _ w).alloc (Nat.le_refl _) _) n⟩
  (have := own_made w w.heap.size 5 .u8 33 (Nat.le_refl _) (by decide)); (rw [List.length_replicate])
  exact own_move this (fun _ _ => rfl)
def impl_hashWord.l0 : Nat → Int → List Int → Int → Int → Option (Int)
 | 0, _, _, _, _ => none
 | k + 1, x5, x11, x12, x13 => if x13 < x12 then (if 0 ≤ x13 then (if x13 < (x11.length : Int) then (impl_hashWord.l0 k (((Go.bits .xor .u32 x5 ((rd x11 x13) % 4294967296)) * 16777619) % 4294967296) x11 x12 (wrap64 (x13 + 1))) else (none)) else (none)) else (some (wrap64 (Go.bits .xor .u32 x5 (x5 / 65536))))
def impl_hashWord.f (k : Nat) (a0 : Int) (a1 : ByteArray) : Option (Int) := (impl_pad.f k a1).bind fun t526 => (impl_hashWord.l0 k ((a0) % 4294967296) t526 (t526.length : Int) 0)
theorem impl_hashWord.calls (k : Nat) (a0 : Int) (a1 : ByteArray) (r : Int) (w : World) (h : impl_hashWord.f k a0 a1 = some r) :
  Calls Tryz.prog 136 #[.int .i64 a0, .string a1] w fun e w' => e = .returned (.int .i64 r) ∧ Below w.heap.size w w' := by
 (have HB := Aside0.mk (Below.refl w.heap.size w)); (have H : ((impl_pad.f k a1).bind fun t526 => (impl_hashWord.l0 k ((a0) % 4294967296) t526 (t526.length : Int) 0)) = some r := h); clear h; (obtain ⟨t526, A3, H⟩ := qX H); (replace H : (impl_hashWord.l0 k ((a0) % 4294967296) t526 (t526.length : Int) 0) = some r := H); (have H' := Aside0.mk H); clear H
 go_enter Tryz.func136, Tryz.ntmps136
 go_wp2_with (first | ((with_reducible refine gate_callee (f := 141) rfl ?_); refine goesL_ (some 11) rfl rfl Tryz.func141 (by kernel_rfl) rfl #[.string a1] rfl qL ?_; (with_reducible refine (impl_pad.calls k a1 t526 _ A3.out).mono ?_); rintro e w4 ⟨v527, rfl, ho0, hb⟩; refine ⟨_, rfl, ?_⟩; have HO528 := Aside0.mk (Kd.R_lower ho0 (below_size (qS0 HB))); replace HB := Aside0.mk (below_step (qS0 HB) hb); (try clear hb); (try clear hb2); (try clear hk); (try clear hi); (try clear ho0); obtain ⟨Ao5, co5, eo5⟩ := Kd.R_slice HO528.out; subst eo5))
 go_loopg [5, 13] k (fun kq v5 v13 w' => ∃ (x5_1 : Int) (x13_1 : Int), v5 = .int .u32 x5_1 ∧ v13 = .int .i64 x13_1 ∧ Aside0 (impl_hashWord.l0 kq x5_1 t526 (t526.length : Int) x13_1 = some r) ∧ Aside0 (kq ≤ k) ∧ Aside0 (Kd.R (Kd.int .u8) 5 w' w.heap.size (fun _ => True) (.slice Ao5 t526.length co5) t526) ∧ Aside0 (Below w.heap.size w w'))
 case atStart => exact ⟨((a0) % 4294967296), (0), qV, qV, H', ⟨Nat.le_refl _⟩, ⟨qR HO528⟩, ⟨qS0 HB⟩⟩
 case round =>
  clear H'; (obtain ⟨x5_1, x13_1, rfl, rfl, HA, HK1, HO_11, HB⟩ := hrel)
  cases gk with
  | zero => exact absurd HA.out (by simp [impl_hashWord.l0])
  | succ k1 =>
   (have H := HA.out); clear HA; (simp only [impl_hashWord.l0] at H)
   rcases qI H with ⟨c6b0, H⟩ | ⟨c6b0, H⟩
   ·obtain ⟨c7b0, H⟩ := qT H
    (obtain ⟨c8b0, H⟩ := qT H); (have H' := Aside0.mk H); clear H; (have p529 : 0 ≤ (x13_1 : Int) := qO); (have q529 : x13_1 < (t526.length : Int) := qO); (obtain ⟨ad529, e529, hx529_0⟩ := Kd.at_int (Kd.R_reads' HO_11.out).2.2 x13_1 p529 q529)
    cases e529
    (replace p529 := eq_true p529); (replace q529 := eq_true q529)
    go_wp2
    go_roundg k1
    case measure => have := HK1.out; omega
    case rel => exact ⟨(((Go.bits .xor .u32 x5_1 ((rd t526 x13_1) % 4294967296)) * 16777619) % 4294967296), (wrap64 (x13_1 + 1)), qV, qV, H', ⟨by have := HK1.out; omega⟩, ⟨qR HO_11⟩, ⟨qS0 HB⟩⟩
   ·obtain rfl := Option.some.inj H
    go_wp2
    go_ret
    exact ⟨qE, qS0 HB⟩
def impl_shelfFor.f (k : Nat) (a0 : Int) (a1 : ByteArray) (a2 : Int) : Option (Int) := (impl_hashWord.f k a0 a1).bind fun t530 => (if 0 ≤ a2 then (some (Go.bits .and .i64 t530 (wrap64 ((shl .i64 1 a2) - 1)))) else (none))
def impl_shelfFor.T1 : Bool × List (List Nat × List Nat) := (true, [([], []), ([], []), ([0, 1], [0, 1]), ([], []), ([3], [3]), ([4], [4]), ([2, 5], [2, 5]), ([6, 2, 0, 1, 2, 3, 4, 5, 6], [6])])
def impl_shelfFor.B1 : List Nat := [0, 0, 3, 0, 8, 24, 63, 127]
theorem impl_shelfFor.tab1 : rtab .any (opsOf Tryz.f126 1) = impl_shelfFor.T1 := by kernel_rfl
theorem impl_shelfFor.bits1 : waitsOk impl_shelfFor.T1.2 impl_shelfFor.B1 = true := by kernel_rfl
theorem impl_shelfFor.calls (k : Nat) (a0 : Int) (a1 : ByteArray) (a2 : Int) (r : Int) (w : World) (h : impl_shelfFor.f k a0 a1 a2 = some r) :
  Calls Tryz.prog 126 #[.int .i64 a0, .string a1, .int .i64 a2] w fun e w' => e = .returned (.int .i64 r) ∧ Below w.heap.size w w' := by
 (have HB := Aside0.mk (Below.refl w.heap.size w)); (have H : ((impl_hashWord.f k a0 a1).bind fun t530 => (if 0 ≤ a2 then (some (Go.bits .and .i64 t530 (wrap64 ((shl .i64 1 a2) - 1)))) else (none))) = some r := h); clear h; (obtain ⟨t530, A4, H⟩ := qX H); (replace H : (if 0 ≤ a2 then (some (Go.bits .and .i64 t530 (wrap64 ((shl .i64 1 a2) - 1)))) else (none)) = some r := H); (obtain ⟨c5b0, c5b1, H⟩ := qT2 H); (obtain ⟨ji6, hji6⟩ : ∃ j_ : Int, (shl .i64 1 a2) = j_ := ⟨_, rfl⟩); (replace H : (some (Go.bits .and .i64 t530 (wrap64 ((ji6) - 1)))) = some r := by first | (rw [hji6] at H; exact H) | (simp only [hji6] at H ⊢; exact H)); (try rw [hji6] at A4); (have hji6_ : (IntKind.i64.wrap (1 * 2 ^ min a2.toNat 64)) = ji6 := hji6); (have hji6z : a2 ≤ 64 → (IntKind.i64.wrap (1 * 2 ^ a2.toNat)) = ji6 := shl_small hji6); (have hji6u : (IntKind.i64.wrap (2 ^ min a2.toNat 64)) = ji6 := by have h_ := hji6_; rw [Int.one_mul] at h_; exact h_); (have hji6v : a2 ≤ 64 → (IntKind.i64.wrap (2 ^ a2.toNat)) = ji6 := fun hle_ => by have h_ := hji6z hle_; rw [Int.one_mul] at h_; exact h_); (have hji6y : (wrap64 (1 * 2 ^ min a2.toNat 64)) = ji6 := (i64_w _).symm.trans hji6_); (have hji6x : a2 ≤ 64 → (wrap64 (1 * 2 ^ a2.toNat)) = ji6 := fun h_ => (i64_w _).symm.trans (hji6z h_)); (obtain rfl := Option.some.inj H)
 go_enter Tryz.func126, Tryz.ntmps126
 try go_wp2
 replace HB := Aside0.mk (below_drew1 HB.out)
 refine start_ (n := 8) (S := fun w' => True) (ds := []) #[false, false, false, false, false, false, false, false] (by kernel_rfl) rfl rfl trivial (fun hHeld => ?_); refine with_tabW impl_shelfFor.tab1 impl_shelfFor.bits1 (fun HT_ HW_ => ?_)
 generalize w.drew = w7 at HB hHeld ⊢
 refine pure_ (i := 0) (N := some 7) (v := ?_) (a' := ?_) #[true, false, false, false, false, false, false, false] rfl rfl (any_of HT_.out (by kernel_rfl)) (fun _ _ _ h => h) (Or.inl ⟨by rfl, ?_⟩) ?_ ?_
 rotate_left
 ·intro w'
  go_simp
  with_reducible rfl
 rotate_left
 ·exact qPu
 refine pure_ (i := 1) (N := some 8) (v := ?_) (a' := ?_) #[true, true, false, false, false, false, false, false] rfl rfl (any_of HT_.out (by kernel_rfl)) (fun _ _ _ h => h) (Or.inl ⟨by rfl, ?_⟩) ?_ ?_
 rotate_left
 ·intro w'
  go_simp
  with_reducible rfl
 rotate_left
 ·exact qPu
 refine pure_ (i := 3) (N := some 10) (v := ?_) (a' := ?_) #[true, true, false, true, false, false, false, false] rfl rfl (any_of HT_.out (by kernel_rfl)) (fun _ _ _ h => h) (Or.inl ⟨by rfl, ?_⟩) ?_ ?_
 rotate_left
 ·intro w'
  go_simp
  with_reducible rfl
 rotate_left
 ·exact qPu
 refine pure_ (i := 4) (N := some 11) (v := ?_) (a' := ?_) #[true, true, false, true, true, false, false, false] rfl rfl (any_of HT_.out (by kernel_rfl)) (fun _ _ _ h => h) (Or.inl ⟨by rfl, ?_⟩) ?_ ?_
 rotate_left
 ·intro w'
  go_simp
  with_reducible rfl
 rotate_left
 ·exact qPu
 refine pure_ (i := 5) (N := some 12) (v := ?_) (a' := ?_) #[true, true, false, true, true, true, false, false] rfl rfl (any_of HT_.out (by kernel_rfl)) (fun _ _ _ h => h) (Or.inl ⟨by rfl, ?_⟩) ?_ ?_
 rotate_left
 ·intro w'
  go_simp
  with_reducible rfl
 rotate_left
 ·exact qPu
 refine one_ (i := 2) (N := some 9) #[true, true, true, true, true, true, false, false] rfl rfl (one_of HT_.out (by kernel_rfl)) (by decide) (fun K hK => ?_)
 refine goes_ Tryz.func136 (by kernel_rfl) rfl #[.int .i64 a0, .string a1] (by rfl) rfl rfl qL ?_
 with_reducible refine (impl_hashWord.calls k a0 a1 t530 _ A4.out).mono ?_
 rintro e w8 ⟨rfl, hb⟩
 refine ⟨_, rfl, ?_⟩
 (replace HB := Aside0.mk (below_step (qS0 HB) hb)); (try clear hb); (try clear hb2); (try clear hk); (try clear hi)
 refine hK.out _ _ trivial (fun hHeld => ?_)
 clear hK K
 refine norm_ (a' := ?_) ?_ ?_
 rotate_left
 ·show Act.put _ (some 9) _ = _
  exact qPu
 refine pure_ (i := 6) (N := some 13) (v := ?_) (a' := ?_) #[true, true, true, true, true, true, true, false] rfl rfl (any_of HT_.out (by kernel_rfl)) (fun _ _ _ h => h) (Or.inl ⟨by rfl, ?_⟩) ?_ ?_
 rotate_left
 ·intro w'
  go_simp
  with_reducible rfl
 rotate_left
 ·exact qPu
 refine pure_ (i := 7) (N := some 6) (v := ?_) (a' := ?_) #[true, true, true, true, true, true, true, true] rfl rfl (any_of HT_.out (by kernel_rfl)) (fun _ _ _ h => h) (Or.inl ⟨by rfl, ?_⟩) ?_ ?_
 rotate_left
 ·intro w'
  go_simp
  with_reducible rfl
 rotate_left
 ·exact qPu
 refine done_ (done_of HT_.out (by kernel_rfl)) ?_
 try go_wp2
 go_ret
 exact ⟨by first | rfl | (simp [errW_none, errW_some] <;> rfl) | (simp only [← hji6]; first | rfl | (simp [errW_none, errW_some] <;> rfl)) | (simp [*, errW_none, errW_some] <;> rfl), qS0 HB⟩
def impl_ShelfFor.f (k : Nat) (a0 : Int) (a1 : ByteArray) (a2 : Int) : Option (Int) := (impl_within.f a0 0 4294967295).bind fun t531 => (if t531 = true then ((impl_isWord.f k a1).bind fun t532 => (if t532 = true then ((impl_isLog.f a2).bind fun t533 => (if t533 = true then ((impl_shelfFor.f k a0 a1 a2).bind fun t534 => (some t534)) else (some (-1)))) else (some (-1)))) else (some (-1)))
theorem impl_ShelfFor.calls (k : Nat) (a0 : Int) (a1 : ByteArray) (a2 : Int) (r : Int) (w : World) (h : impl_ShelfFor.f k a0 a1 a2 = some r) :
  Calls Tryz.prog 113 #[.int .i64 a0, .string a1, .int .i64 a2] w fun e w' => e = .returned (.int .i64 r) ∧ Below w.heap.size w w' := by
 (have HB := Aside0.mk (Below.refl w.heap.size w)); (have H : ((impl_within.f a0 0 4294967295).bind fun t531 => (if t531 = true then ((impl_isWord.f k a1).bind fun t532 => (if t532 = true then ((impl_isLog.f a2).bind fun t533 => (if t533 = true then ((impl_shelfFor.f k a0 a1 a2).bind fun t534 => (some t534)) else (some (-1)))) else (some (-1)))) else (some (-1)))) = some r := h); clear h; (obtain ⟨t531, A4, H⟩ := qX H)
 try dsimp only at H
 by_cases c5 : t531 = true
 ·subst c5
  (have H1 : ((impl_isWord.f k a1).bind fun t532 => (if t532 = true then ((impl_isLog.f a2).bind fun t533 => (if t533 = true then ((impl_shelfFor.f k a0 a1 a2).bind fun t534 => (some t534)) else (some (-1)))) else (some (-1)))) = some r := by rw [if_pos rfl] at H; exact H); clear H; (have H := H1); clear H1; (obtain ⟨t532, A6, H⟩ := qX H)
  try dsimp only at H
  by_cases c7 : t532 = true
  ·subst c7
   (have H1 : ((impl_isLog.f a2).bind fun t533 => (if t533 = true then ((impl_shelfFor.f k a0 a1 a2).bind fun t534 => (some t534)) else (some (-1)))) = some r := by rw [if_pos rfl] at H; exact H); clear H; (have H := H1); clear H1; (obtain ⟨t533, A8, H⟩ := qX H)
   try dsimp only at H
   by_cases c9 : t533 = true
   ·subst c9
    (have H1 : ((impl_shelfFor.f k a0 a1 a2).bind fun t534 => (some t534)) = some r := by rw [if_pos rfl] at H; exact H); clear H; (have H := H1); clear H1; (obtain ⟨t534, A10, H⟩ := qX H); (replace H : (some t534) = some r := H); (obtain rfl := Option.some.inj H)
    go_enter Tryz.func113, Tryz.ntmps113
    go_wp2_with (first | ((with_reducible refine gate_callee (f := 61) rfl ?_); refine goesL_ (some 8) rfl rfl Tryz.func61 (by kernel_rfl) rfl #[.int .i64 a0, .int .i64 0, .int .i64 4294967295] rfl qL ?_; (with_reducible refine (impl_within.calls a0 0 4294967295 true _ A4.out).mono ?_); rintro e w' ⟨rfl, ⟨nd, rfl⟩⟩; refine ⟨_, rfl, ?_⟩) | (go_at_call 114; (with_reducible refine (impl_isWord.calls k a1 true _ A6.out).mono ?_); rintro e w' ⟨rfl, ⟨nd, rfl⟩⟩) | (go_at_call 109; (with_reducible refine (impl_isLog.calls a2 true _ A8.out).mono ?_); rintro e w' ⟨rfl, ⟨nd, rfl⟩⟩) | ((with_reducible refine gate_callee (f := 126) rfl ?_); refine goesL_ (some 23) rfl rfl Tryz.func126 (by kernel_rfl) rfl #[.int .i64 a0, .string a1, .int .i64 a2] rfl qL ?_; (with_reducible refine (impl_shelfFor.calls k a0 a1 a2 t534 _ A10.out).mono ?_); rintro e w11 ⟨rfl, hb⟩; refine ⟨_, rfl, ?_⟩; replace HB := Aside0.mk (below_step (qS0 HB) hb); (try clear hb); (try clear hb2); (try clear hk); (try clear hi)))
    go_ret
    exact ⟨qE, qS0 HB⟩
   ·replace c9 := Bool.eq_false_iff.mpr c9
    (subst c9); (have H1 : (some (-1)) = some r := by rw [if_neg (show ¬ (false = true) by decide)] at H; exact H); clear H; (have H := H1); clear H1; (obtain rfl := Option.some.inj H)
    go_enter Tryz.func113, Tryz.ntmps113
    go_wp2_with (first | ((with_reducible refine gate_callee (f := 61) rfl ?_); refine goesL_ (some 8) rfl rfl Tryz.func61 (by kernel_rfl) rfl #[.int .i64 a0, .int .i64 0, .int .i64 4294967295] rfl qL ?_; (with_reducible refine (impl_within.calls a0 0 4294967295 true _ A4.out).mono ?_); rintro e w' ⟨rfl, ⟨nd, rfl⟩⟩; refine ⟨_, rfl, ?_⟩) | (go_at_call 114; (with_reducible refine (impl_isWord.calls k a1 true _ A6.out).mono ?_); rintro e w' ⟨rfl, ⟨nd, rfl⟩⟩) | (go_at_call 109; (with_reducible refine (impl_isLog.calls a2 false _ A8.out).mono ?_); rintro e w' ⟨rfl, ⟨nd, rfl⟩⟩))
    go_ret
    exact ⟨qE, qS0 HB⟩
  ·replace c7 := Bool.eq_false_iff.mpr c7
   (subst c7); (have H1 : (some (-1)) = some r := by rw [if_neg (show ¬ (false = true) by decide)] at H; exact H); clear H; (have H := H1); clear H1; (obtain rfl := Option.some.inj H)
   go_enter Tryz.func113, Tryz.ntmps113
   go_wp2_with (first | ((with_reducible refine gate_callee (f := 61) rfl ?_); refine goesL_ (some 8) rfl rfl Tryz.func61 (by kernel_rfl) rfl #[.int .i64 a0, .int .i64 0, .int .i64 4294967295] rfl qL ?_; (with_reducible refine (impl_within.calls a0 0 4294967295 true _ A4.out).mono ?_); rintro e w' ⟨rfl, ⟨nd, rfl⟩⟩; refine ⟨_, rfl, ?_⟩) | (go_at_call 114; (with_reducible refine (impl_isWord.calls k a1 false _ A6.out).mono ?_); rintro e w' ⟨rfl, ⟨nd, rfl⟩⟩))
   go_ret
   exact ⟨qE, qS0 HB⟩
 ·replace c5 := Bool.eq_false_iff.mpr c5
  (subst c5); (have H1 : (some (-1)) = some r := by rw [if_neg (show ¬ (false = true) by decide)] at H; exact H); clear H; (have H := H1); clear H1; (obtain rfl := Option.some.inj H)
  go_enter Tryz.func113, Tryz.ntmps113
  go_wp2_with (first | ((with_reducible refine gate_callee (f := 61) rfl ?_); refine goesL_ (some 8) rfl rfl Tryz.func61 (by kernel_rfl) rfl #[.int .i64 a0, .int .i64 0, .int .i64 4294967295] rfl qL ?_; (with_reducible refine (impl_within.calls a0 0 4294967295 false _ A4.out).mono ?_); rintro e w' ⟨rfl, ⟨nd, rfl⟩⟩; refine ⟨_, rfl, ?_⟩))
  go_ret
  exact ⟨qE, qS0 HB⟩
def impl_bucketOf.f (k : Nat) (a0_0 : Int) (a0_1 : Int) (a0_2 : Int) (a0_3 : Int) (a1 : ByteArray) : Option (Int) := (impl_ShelfFor.f k a0_0 a1 a0_1).bind fun t536 => (some t536)
theorem impl_bucketOf.calls (k : Nat) (a0_0 : Int) (a0_1 : Int) (a0_2 : Int) (a0_3 : Int) (a1 : ByteArray) (r : Int) (w : World) (h : impl_bucketOf.f k a0_0 a0_1 a0_2 a0_3 a1 = some r) :
  Calls Tryz.prog 75 #[.agg #[.int .i64 a0_0, .int .i64 a0_1, .int .i64 a0_2, .int .i64 a0_3], .string a1] w fun e w' => e = .returned (.int .i64 r) ∧ Below w.heap.size w w' := by
 (have hu29 := Tryz.underlying29); (have HB := Aside0.mk (Below.refl w.heap.size w)); (have H : ((impl_ShelfFor.f k a0_0 a1 a0_1).bind fun t536 => (some t536)) = some r := h); clear h; (obtain ⟨t536, A3, H⟩ := qX H); (replace H : (some t536) = some r := H); (obtain rfl := Option.some.inj H)
 go_enter Tryz.func75, Tryz.ntmps75
 go_wp2_with (first | ((with_reducible refine gate_dst (N := 2) rfl ?_); refine box_event ?hg (N := 2) ?hd (cs := #[.int .i64 a0_0, .int .i64 a0_1, .int .i64 a0_2, .int .i64 a0_3]) (t := 29) ?hr ?_; (case hd => rfl); (case hg => rfl); (case hr => first | (go_simp; done) | (go_simp; rfl)); intro gb535 hg w4 hbox hb; have BK535 := Aside0.mk (hbox); have GW535 := qG hg (below_size (qS0 HB)); have GE535 := qG hg (below_size (qS0 HB)); replace HB := Aside0.mk (below_step (qS0 HB) hb); clear hb hbox hg; obtain ⟨hcz5_0, hcz5_1, hcz5_2, hcz5_3, hfz5_0, hfz5_1, hfz5_2, hfz5_3⟩ := qC4 BK535) | ((with_reducible refine gate_callee (f := 113) rfl ?_); refine goesL_ (some 10) rfl rfl Tryz.func113 (by kernel_rfl) rfl #[.int .i64 a0_0, .string a1, .int .i64 a0_1] rfl qL ?_; (with_reducible refine (impl_ShelfFor.calls k a0_0 a1 a0_1 t536 _ A3.out).mono ?_); rintro e w6 ⟨rfl, hb⟩; refine ⟨_, rfl, ?_⟩; replace BK535 := qD BK535 hb; replace HB := Aside0.mk (below_step (qS1 HB GE535) hb); (try clear hb); (try clear hb2); (try clear hk); (try clear hi)))
 go_ret
 exact ⟨qE, qS1 HB GE535⟩
def impl_changeOf.f (k : Nat) (a0_0 : Int) (a0_1 : ByteArray) (a0_2 : Int) (a0_3 : Int) (a0_4 : Int) (a0_5 : Int) (a0_6 : ByteArray) : Option (ByteArray × Int) := (impl_Fold.f k a0_1).bind fun t539 => (if a0_0 = 4 then (some (t539, 0)) else (some (t539, a0_2)))
def impl_changeOf.T1 : Bool × List (List Nat × List Nat) := (true, [([], []), ([0], [0]), ([1], [1]), ([], []), ([3], [3]), ([2, 4], [2, 4]), ([], []), ([6, 5, 2, 0, 1, 2, 3, 4, 5, 6], [5, 6])])
def impl_changeOf.B1 : List Nat := [0, 1, 3, 0, 8, 31, 0, 127]
theorem impl_changeOf.tab1 : rtab .any (opsOf Tryz.f77 1) = impl_changeOf.T1 := by kernel_rfl
theorem impl_changeOf.bits1 : waitsOk impl_changeOf.T1.2 impl_changeOf.B1 = true := by kernel_rfl
theorem impl_changeOf.calls (k : Nat) (a0_0 : Int) (a0_1 : ByteArray) (a0_2 : Int) (a0_3 : Int) (a0_4 : Int) (a0_5 : Int) (a0_6 : ByteArray) (r1 : ByteArray) (r2 : Int) (w : World) (h : impl_changeOf.f k a0_0 a0_1 a0_2 a0_3 a0_4 a0_5 a0_6 = some (r1, r2)) (hG : TabG w) :
  Calls Tryz.prog 77 #[.agg #[.int .i64 a0_0, .string a0_1, .int .i64 a0_2, .int .i64 a0_3, .int .i64 a0_4, .int .i64 a0_5, .string a0_6]] w fun e w' => e = .returned (.agg #[.string r1, .int .i64 r2]) ∧ Below w.heap.size w w' := by
 (have hu56 := Tryz.underlying56); (have hu94 := Tryz.underlying94); (have HB := Aside0.mk (Below.refl w.heap.size w)); (have H : ((impl_Fold.f k a0_1).bind fun t539 => (if a0_0 = 4 then (some (t539, 0)) else (some (t539, a0_2)))) = some (r1, r2) := h); clear h; (obtain ⟨t539, A2, H⟩ := qX H); (replace H : (if a0_0 = 4 then (some (t539, 0)) else (some (t539, a0_2))) = some (r1, r2) := H)
 rcases qJ H with ⟨c3, H⟩ | ⟨c3, H⟩
 ·have c3b0 : (a0_0 == 4) = true := beq_iff_eq.mpr c3
  (have c3b1 : (a0_0 != 4) = false := bne_eq_false_iff_eq.mpr c3); clear c3; (simp only [Option.some.injEq, Prod.mk.injEq] at H); (obtain ⟨rfl, rfl⟩ := H)
  go_enter Tryz.func77, Tryz.ntmps77
  try go_wp2_with (first | ((with_reducible refine gate_dst (N := 1) rfl ?_); refine box_event ?hg (N := 1) ?hd (cs := #[.int .i64 a0_0, .string a0_1, .int .i64 a0_2, .int .i64 a0_3, .int .i64 a0_4, .int .i64 a0_5, .string a0_6]) (t := 56) ?hr ?_; (case hd => rfl); (case hg => rfl); (case hr => first | (go_simp; done) | (go_simp; rfl)); intro gb537 hg w4 hbox hb; have BK537 := Aside0.mk (hbox); have GW537 := qG hg (below_size (qS0 HB)); have GE537 := qG hg (below_size (qS0 HB)); replace HB := Aside0.mk (below_step (qS0 HB) hb); clear hb hbox hg) | ((with_reducible refine gate_dst (N := 2) rfl ?_); refine box_event ?hg (N := 2) ?hd (cs := #[.string (⟨#[]⟩ : ByteArray), .int .i64 0]) (t := 94) ?hr ?_; (case hd => rfl); (case hg => rfl); (case hr => first | (go_simp; done) | (go_simp; rfl)); intro gb538 hg w5 hbox hb; have BK538 := Aside0.mk (hbox); have GW538 := qG hg (below_size (qS1 HB GE537)); have GE538 := qG hg (below_size (qS1 HB GE537)); replace HB := Aside0.mk (below_step (qS1 HB GE537) hb); have NB537_538 := qN hg (blk_lt (qB BK537)); have NB538_537 := qM hg (blk_lt (qB BK537)); replace BK537 := qD BK537 hb; clear hb hbox hg))
  (replace BK537 := Aside0.mk (blk_drew BK537.out)); (replace BK538 := Aside0.mk (blk_drew BK538.out)); (replace HB := Aside0.mk (below_drew1 HB.out))
  refine start_ (n := 8) (S := fun w' => w'.cell? ⟨gb537, 0, none⟩ = some (.int .i64 a0_0) ∧ w'.cell? ⟨gb537, 1, none⟩ = some (.string a0_1) ∧ w'.cell? ⟨gb537, 2, none⟩ = some (.int .i64 a0_2) ∧ w'.cell? ⟨gb537, 3, none⟩ = some (.int .i64 a0_3) ∧ w'.cell? ⟨gb537, 4, none⟩ = some (.int .i64 a0_4) ∧ w'.cell? ⟨gb537, 5, none⟩ = some (.int .i64 a0_5) ∧ w'.cell? ⟨gb537, 6, none⟩ = some (.string a0_6)) (ds := []) #[false, false, false, false, false, false, false, false] (by kernel_rfl) rfl rfl ⟨(blk_cell BK537.out 0).trans rfl, (blk_cell BK537.out 1).trans rfl, (blk_cell BK537.out 2).trans rfl, (blk_cell BK537.out 3).trans rfl, (blk_cell BK537.out 4).trans rfl, (blk_cell BK537.out 5).trans rfl, (blk_cell BK537.out 6).trans rfl⟩ (fun hHeld => ?_); refine with_tabW impl_changeOf.tab1 impl_changeOf.bits1 (fun HT_ HW_ => ?_)
  generalize w5.drew = w6 at BK537 BK538 HB hHeld ⊢
  refine pure_ (i := 0) (N := some 4) (v := ?_) (a' := ?_) #[true, false, false, false, false, false, false, false] rfl rfl (any_of HT_.out (by kernel_rfl)) (fun _ _ _ h => h) (Or.inl ⟨by rfl, ?_⟩) ?_ ?_
  rotate_left
  ·intro w'
   go_simp
   with_reducible rfl
  rotate_left
  ·exact qPu
  refine pure_ (i := 3) (N := some 7) (v := ?_) (a' := ?_) #[true, false, false, true, false, false, false, false] rfl rfl (any_of HT_.out (by kernel_rfl)) (fun _ _ _ h => h) (Or.inl ⟨by rfl, ?_⟩) ?_ ?_
  rotate_left
  ·intro w'
   go_simp
   with_reducible rfl
  rotate_left
  ·exact qPu
  refine take_ (i := 1) (N := some 5) (v := ?_) (a' := ?_) #[true, true, false, true, false, false, false, false] rfl rfl (take_ofW HT_.out HW_.out (by kernel_rfl)) (fun _ _ _ h => h) (Or.inl ⟨by rfl, ?_⟩) hHeld ?_ ?_
  rotate_left
  ·rintro w' ⟨s0, s1, s2, s3, s4, s5, s6⟩
   go_simp
   with_reducible rfl
  rotate_left
  ·exact qPu
  refine take_ (i := 4) (N := some 8) (v := ?_) (a' := ?_) #[true, true, false, true, true, false, false, false] rfl rfl (take_ofW HT_.out HW_.out (by kernel_rfl)) (fun _ _ _ h => h) (Or.inl ⟨by rfl, ?_⟩) hHeld ?_ ?_
  rotate_left
  ·rintro w' ⟨s0, s1, s2, s3, s4, s5, s6⟩
   go_simp
   with_reducible rfl
  rotate_left
  ·exact qPu
  refine join_ (σ := Nat) 1 #[true, true, true, true, true, true, true, false] (fun s_ => [(6, .string t539), (3, .pointer (some ⟨s_, 0, none⟩)), (9, .agg #[.string t539, .int .i64 a0_2])]) (fun s_ w' => (w'.cell? ⟨gb537, 0, none⟩ = some (.int .i64 a0_0) ∧ w'.cell? ⟨gb537, 1, none⟩ = some (.string a0_1) ∧ w'.cell? ⟨gb537, 2, none⟩ = some (.int .i64 a0_2) ∧ w'.cell? ⟨gb537, 3, none⟩ = some (.int .i64 a0_3) ∧ w'.cell? ⟨gb537, 4, none⟩ = some (.int .i64 a0_4) ∧ w'.cell? ⟨gb537, 5, none⟩ = some (.int .i64 a0_5) ∧ w'.cell? ⟨gb537, 6, none⟩ = some (.string a0_6)) ∧ (w'.heap[gb537]? = some (.cells #[.int .i64 a0_0, .string a0_1, .int .i64 a0_2, .int .i64 a0_3, .int .i64 a0_4, .int .i64 a0_5, .string a0_6] 56 (0, 0))) ∧ (w'.heap[gb538]? = some (.cells #[.string (⟨#[]⟩ : ByteArray), .int .i64 0] 94 (0, 0))) ∧ (w'.heap[s_]? = some (.cells #[.string (⟨#[]⟩ : ByteArray), .int .i64 0] 94 (0, 0))) ∧ (w.heap.size ≤ s_) ∧ (w.heap.size ≤ s_) ∧ (gb537 ≠ s_) ∧ (s_ ≠ gb537) ∧ (gb538 ≠ s_) ∧ (s_ ≠ gb538) ∧ (Below w.heap.size w w')) ?_ ?_
  rotate_left
  ·intro hCont
   refine two_ (i := 2) (j := 6) (Ni := some 6) (Nj := some 3) #[true, true, true, true, true, false, false, false] #[true, true, false, true, true, false, true, false] rfl rfl rfl rfl (two_of HT_.out (by kernel_rfl)) (by decide) (by decide) (fun K hK => ?_) (fun K hK => ?_)
   ·skip
    refine goes_ Tryz.func111 (by kernel_rfl) rfl #[.string a0_1] (by rfl) rfl rfl qL ?_
    with_reducible refine (impl_Fold.calls k a0_1 t539 _ A2.out (G_below (qS0 HB) hG)).mono ?_
    rintro e w7 ⟨rfl, hb⟩
    refine ⟨_, rfl, ?_⟩
    (replace BK537 := qD BK537 hb); (replace BK538 := qD BK538 hb); (replace HB := Aside0.mk (below_step (qS2 HB GE537 GE538) hb)); (try clear hb); (try clear hb2); (try clear hk); (try clear hi)
    refine hK.out _ _ ⟨(blk_cell BK537.out 0).trans rfl, (blk_cell BK537.out 1).trans rfl, (blk_cell BK537.out 2).trans rfl, (blk_cell BK537.out 3).trans rfl, (blk_cell BK537.out 4).trans rfl, (blk_cell BK537.out 5).trans rfl, (blk_cell BK537.out 6).trans rfl⟩ (fun hHeld => ?_)
    clear hK K
    refine norm_ (a' := ?_) ?_ ?_
    rotate_left
    ·show Act.put _ (some 6) _ = _
     exact qPu
    refine pure_ (i := 5) (N := some 9) (v := ?_) (a' := ?_) #[true, true, true, true, true, true, false, false] rfl rfl (any_of HT_.out (by kernel_rfl)) (fun _ _ _ h => h) (Or.inl ⟨by rfl, ?_⟩) ?_ ?_
    rotate_left
    ·intro w'
     go_simp
     with_reducible rfl
    rotate_left
    ·exact qPu
    refine one_ (i := 6) (N := some 3) #[true, true, true, true, true, true, true, false] rfl rfl (one_of HT_.out (by kernel_rfl)) (by decide) (fun K hK => ?_)
    refine box_step ?hg (N := 3) ?hd (cs := #[.string (⟨#[]⟩ : ByteArray), .int .i64 0]) (t := 94) ?hr ?_; (case hd => rfl); (case hg => rfl); (case hr => first | (go_simp; done) | (go_simp; rfl))
    intro gb540 hg w8 hbox hb
    (have BK540 := Aside0.mk (hbox)); (have GW540 := qG hg (below_size (qS2 HB GE537 GE538))); (have GE540 := qG hg (below_size (qS2 HB GE537 GE538))); (replace HB := Aside0.mk (below_step (qS2 HB GE537 GE538) hb)); (have NB537_540 := qN hg (blk_lt (qB BK537))); (have NB540_537 := qM hg (blk_lt (qB BK537))); (replace BK537 := qD BK537 hb); (have NB538_540 := qN hg (blk_lt (qB BK538))); (have NB540_538 := qM hg (blk_lt (qB BK538))); (replace BK538 := qD BK538 hb); clear hb hbox hg
    refine hK.out _ _ ⟨(blk_cell BK537.out 0).trans rfl, (blk_cell BK537.out 1).trans rfl, (blk_cell BK537.out 2).trans rfl, (blk_cell BK537.out 3).trans rfl, (blk_cell BK537.out 4).trans rfl, (blk_cell BK537.out 5).trans rfl, (blk_cell BK537.out 6).trans rfl⟩ (fun hHeld => ?_)
    clear hK K
    refine norm_ (a' := ?_) ?_ ?_
    rotate_left
    ·show Act.put _ (some 3) _ = _
     exact qPu
    exact norm_ (by simp only [putAll, Act.put, List.setIfInBounds_toArray, List.set_cons_zero, List.set_cons_succ]) (hCont (gb540) _ ⟨hHeld, (qB BK537), (qB BK538), (qB BK540), GW540.out, GE540.out, NB537_540.out, NB540_537.out, NB538_540.out, NB540_538.out, (qS3 HB GE537 GE538 GE540)⟩)
   ·skip
    refine box_step ?hg (N := 3) ?hd (cs := #[.string (⟨#[]⟩ : ByteArray), .int .i64 0]) (t := 94) ?hr ?_; (case hd => rfl); (case hg => rfl); (case hr => first | (go_simp; done) | (go_simp; rfl))
    intro gb540 hg w7 hbox hb
    (have BK540 := Aside0.mk (hbox)); (have GW540 := qG hg (below_size (qS2 HB GE537 GE538))); (have GE540 := qG hg (below_size (qS2 HB GE537 GE538))); (replace HB := Aside0.mk (below_step (qS2 HB GE537 GE538) hb)); (have NB537_540 := qN hg (blk_lt (qB BK537))); (have NB540_537 := qM hg (blk_lt (qB BK537))); (replace BK537 := qD BK537 hb); (have NB538_540 := qN hg (blk_lt (qB BK538))); (have NB540_538 := qM hg (blk_lt (qB BK538))); (replace BK538 := qD BK538 hb); clear hb hbox hg
    refine hK.out _ _ ⟨(blk_cell BK537.out 0).trans rfl, (blk_cell BK537.out 1).trans rfl, (blk_cell BK537.out 2).trans rfl, (blk_cell BK537.out 3).trans rfl, (blk_cell BK537.out 4).trans rfl, (blk_cell BK537.out 5).trans rfl, (blk_cell BK537.out 6).trans rfl⟩ (fun hHeld => ?_)
    clear hK K
    refine norm_ (a' := ?_) ?_ ?_
    rotate_left
    ·show Act.put _ (some 3) _ = _
     exact qPu
    refine one_ (i := 2) (N := some 6) #[true, true, true, true, true, false, true, false] rfl rfl (one_of HT_.out (by kernel_rfl)) (by decide) (fun K hK => ?_)
    refine goes_ Tryz.func111 (by kernel_rfl) rfl #[.string a0_1] (by rfl) rfl rfl qL ?_
    with_reducible refine (impl_Fold.calls k a0_1 t539 _ A2.out (G_below (qS0 HB) hG)).mono ?_
    rintro e w8 ⟨rfl, hb⟩
    refine ⟨_, rfl, ?_⟩
    (replace BK537 := qD BK537 hb); (replace BK538 := qD BK538 hb); (replace BK540 := qD BK540 hb); (replace HB := Aside0.mk (below_step (qS3 HB GE537 GE538 GE540) hb)); (try clear hb); (try clear hb2); (try clear hk); (try clear hi)
    refine hK.out _ _ ⟨(blk_cell BK537.out 0).trans rfl, (blk_cell BK537.out 1).trans rfl, (blk_cell BK537.out 2).trans rfl, (blk_cell BK537.out 3).trans rfl, (blk_cell BK537.out 4).trans rfl, (blk_cell BK537.out 5).trans rfl, (blk_cell BK537.out 6).trans rfl⟩ (fun hHeld => ?_)
    clear hK K
    refine norm_ (a' := ?_) ?_ ?_
    rotate_left
    ·show Act.put _ (some 6) _ = _
     exact qPu
    refine pure_ (i := 5) (N := some 9) (v := ?_) (a' := ?_) #[true, true, true, true, true, true, true, false] rfl rfl (any_of HT_.out (by kernel_rfl)) (fun _ _ _ h => h) (Or.inl ⟨by rfl, ?_⟩) ?_ ?_
    rotate_left
    ·intro w'
     go_simp
     with_reducible rfl
    rotate_left
    ·exact qPu
    exact norm_ (by simp only [putAll, Act.put, List.setIfInBounds_toArray, List.set_cons_zero, List.set_cons_succ]) (hCont (gb540) _ ⟨hHeld, (qB BK537), (qB BK538), (qB BK540), GW540.out, GE540.out, NB537_540.out, NB540_537.out, NB538_540.out, NB540_538.out, (qS3 HB GE537 GE538 GE540)⟩)
  rintro gb540 w9 ⟨hS_, h0_, h1_, h2_, h3_, h4_, h5_, h6_, h7_, h8_, h9_⟩
  (have n0_ : Aside0 (w9.heap[gb537]? = some (.cells #[.int .i64 a0_0, .string a0_1, .int .i64 a0_2, .int .i64 a0_3, .int .i64 a0_4, .int .i64 a0_5, .string a0_6] 56 (0, 0))) := ⟨h0_⟩); (have n1_ : Aside0 (w9.heap[gb538]? = some (.cells #[.string (⟨#[]⟩ : ByteArray), .int .i64 0] 94 (0, 0))) := ⟨h1_⟩); (have n2_ : Aside0 (w9.heap[gb540]? = some (.cells #[.string (⟨#[]⟩ : ByteArray), .int .i64 0] 94 (0, 0))) := ⟨h2_⟩); (have n3_ : Aside0 (w.heap.size ≤ gb540) := ⟨h3_⟩); (have n4_ : Aside0 (w.heap.size ≤ gb540) := ⟨h4_⟩); (have n5_ : Aside0 (gb537 ≠ gb540) := ⟨h5_⟩); (have n6_ : Aside0 (gb540 ≠ gb537) := ⟨h6_⟩); (have n7_ : Aside0 (gb538 ≠ gb540) := ⟨h7_⟩); (have n8_ : Aside0 (gb540 ≠ gb538) := ⟨h8_⟩); (have n9_ : Aside0 (Below w.heap.size w w9) := ⟨h9_⟩); clear BK537 BK538 HB h0_ h1_ h2_ h3_ h4_ h5_ h6_ h7_ h8_ h9_; (have BK537 := n0_); (have BK538 := n1_); (have BK540 := n2_); (have GW540 := n3_); (have GE540 := n4_); (have NB537_540 := n5_); (have NB540_537 := n6_); (have NB538_540 := n7_); (have NB540_538 := n8_); (have HB := n9_); clear n0_ n1_ n2_ n3_ n4_ n5_ n6_ n7_ n8_ n9_; (have hHeld : w9.cell? ⟨gb537, 0, none⟩ = some (.int .i64 a0_0) ∧ w9.cell? ⟨gb537, 1, none⟩ = some (.string a0_1) ∧ w9.cell? ⟨gb537, 2, none⟩ = some (.int .i64 a0_2) ∧ w9.cell? ⟨gb537, 3, none⟩ = some (.int .i64 a0_3) ∧ w9.cell? ⟨gb537, 4, none⟩ = some (.int .i64 a0_4) ∧ w9.cell? ⟨gb537, 5, none⟩ = some (.int .i64 a0_5) ∧ w9.cell? ⟨gb537, 6, none⟩ = some (.string a0_6) := hS_)
  refine norm_ (a' := ?_) ?_ ?_
  rotate_left
  ·simp only [putAll, Act.put, List.setIfInBounds_toArray, List.set_cons_zero, List.set_cons_succ]
   rfl
  refine one_ (i := 7) (N := none) #[true, true, true, true, true, true, true, true] rfl rfl (one_of HT_.out (by kernel_rfl)) (by decide) (fun K hK => ?_)
  (have hs10 : w9.cell? ⟨gb540, 0, none⟩ = some (.string (⟨#[]⟩ : ByteArray)) := (blk_cell BK540.out 0).trans rfl); (have hfs10 := blk_frozen BK540.out 0); (have hns10_0 := NB537_540.out); (have hns10_1 := NB538_540.out); (have hms10_0 := NB540_537.out); (have hms10_1 := NB540_538.out); (have hs11 : w9.cell? ⟨gb540, 1, none⟩ = some (.int .i64 0) := (blk_cell BK540.out 1).trans rfl); (have hfs11 := blk_frozen BK540.out 1); (have hns11_0 := NB537_540.out); (have hns11_1 := NB538_540.out); (have hms11_0 := NB540_537.out); (have hms11_1 := NB540_538.out)
  refine skip_ (w1 := ?_) (by rfl) rfl ?_ ?_
  rotate_left
  ·go_simp
   rfl
  refine hK.out _ _ ⟨((cell_far (p := ⟨gb540, _, none⟩) NB537_540.out _).trans (((cell_far (p := ⟨gb540, _, none⟩) NB537_540.out _).trans (hHeld.1)))), ((cell_far (p := ⟨gb540, _, none⟩) NB537_540.out _).trans (((cell_far (p := ⟨gb540, _, none⟩) NB537_540.out _).trans (hHeld.2.1)))), ((cell_far (p := ⟨gb540, _, none⟩) NB537_540.out _).trans (((cell_far (p := ⟨gb540, _, none⟩) NB537_540.out _).trans (hHeld.2.2.1)))), ((cell_far (p := ⟨gb540, _, none⟩) NB537_540.out _).trans (((cell_far (p := ⟨gb540, _, none⟩) NB537_540.out _).trans (hHeld.2.2.2.1)))), ((cell_far (p := ⟨gb540, _, none⟩) NB537_540.out _).trans (((cell_far (p := ⟨gb540, _, none⟩) NB537_540.out _).trans (hHeld.2.2.2.2.1)))), ((cell_far (p := ⟨gb540, _, none⟩) NB537_540.out _).trans (((cell_far (p := ⟨gb540, _, none⟩) NB537_540.out _).trans (hHeld.2.2.2.2.2.1)))), ((cell_far (p := ⟨gb540, _, none⟩) NB537_540.out _).trans (((cell_far (p := ⟨gb540, _, none⟩) NB537_540.out _).trans (hHeld.2.2.2.2.2.2))))⟩ (fun hHeld => ?_)
  clear hK K
  refine done_ (done_of HT_.out (by kernel_rfl)) ?_
  (have hnb12 := NB537_538.out); (have hnc12 := NB538_537.out); (have hnb13 := NB537_540.out); (have hnc13 := NB540_537.out); (obtain ⟨hcz14_0, hcz14_1, hcz14_2, hcz14_3, hcz14_4, hcz14_5, hcz14_6, hfz14_0, hfz14_1, hfz14_2, hfz14_3, hfz14_4, hfz14_5, hfz14_6⟩ := qC7 BK537); (have hnb15 := NB540_538.out); (have hnc15 := NB538_540.out); (obtain ⟨hcz16_0, hcz16_1, hfz16_0, hfz16_1⟩ := qC2 BK540); (obtain ⟨hcz17_0, hcz17_1, hfz17_0, hfz17_1⟩ := qC2 BK538); (have hd1_ : ((w9.setCell ⟨gb540, 0, none⟩ (.string t539)).setCell ⟨gb540, 1, none⟩ (.int .i64 a0_2)).cell? ⟨gb540, 1, none⟩ = some (.int .i64 a0_2) := (blk_cell (blk_set (blk_set BK540.out 0 (.string t539)) 1 (.int .i64 a0_2)) 1).trans rfl); (have hd2_ : (((w9.setCell ⟨gb540, 0, none⟩ (.string t539)).setCell ⟨gb540, 1, none⟩ (.int .i64 a0_2)).setCell ⟨gb540, 1, none⟩ (.int .i64 0)).cell? ⟨gb540, 1, none⟩ = some (.int .i64 0) := (blk_cell (blk_set (blk_set (blk_set BK540.out 0 (.string t539)) 1 (.int .i64 a0_2)) 1 (.int .i64 0)) 1).trans rfl)
  try go_wp2
  refine bodyPost_ret (results_cell_row rfl _ _ gb538 94 #[.string t539, .int .i64 0] (0, 0) _ rfl (by (with_reducible repeat (first | refine blk_drewN ?_ _ | refine blk_drew ?_ | refine blk_alloc ?_ _)); refine blk_put (cs := #[.string t539, .int .i64 0]) ?_ 1 _ rfl; (with_reducible repeat (first | refine blk_drewN ?_ _ | refine blk_drew ?_ | refine blk_alloc ?_ _)); refine blk_put (cs := #[.string (⟨#[]⟩ : ByteArray), .int .i64 0]) ?_ 0 _ rfl; (with_reducible repeat (first | refine blk_drewN ?_ _ | refine blk_drew ?_ | refine blk_alloc ?_ _)); refine blk_far ?_ NB538_540.out _; (with_reducible repeat (first | refine blk_drewN ?_ _ | refine blk_drew ?_ | refine blk_alloc ?_ _)); refine blk_far ?_ NB538_540.out _; (with_reducible repeat (first | refine blk_drewN ?_ _ | refine blk_drew ?_ | refine blk_alloc ?_ _)); refine blk_far ?_ NB538_540.out _; (with_reducible repeat (first | refine blk_drewN ?_ _ | refine blk_drew ?_ | refine blk_alloc ?_ _)); exact BK538.out) Tryz.underlying94 rfl (by kernel_rfl)) rfl ?_
  exact ⟨qE, qS3 HB GE537 GE538 GE540⟩
 ·have c3b0 : (a0_0 == 4) = false := beq_eq_false_iff_ne.mpr c3
  (have c3b1 : (a0_0 != 4) = true := bne_iff_ne.mpr c3); (simp only [Option.some.injEq, Prod.mk.injEq] at H); (obtain ⟨rfl, rfl⟩ := H)
  go_enter Tryz.func77, Tryz.ntmps77
  try go_wp2_with (first | ((with_reducible refine gate_dst (N := 1) rfl ?_); refine box_event ?hg (N := 1) ?hd (cs := #[.int .i64 a0_0, .string a0_1, .int .i64 a0_2, .int .i64 a0_3, .int .i64 a0_4, .int .i64 a0_5, .string a0_6]) (t := 56) ?hr ?_; (case hd => rfl); (case hg => rfl); (case hr => first | (go_simp; done) | (go_simp; rfl)); intro gb537 hg w18 hbox hb; have BK537 := Aside0.mk (hbox); have GW537 := qG hg (below_size (qS0 HB)); have GE537 := qG hg (below_size (qS0 HB)); replace HB := Aside0.mk (below_step (qS0 HB) hb); clear hb hbox hg) | ((with_reducible refine gate_dst (N := 2) rfl ?_); refine box_event ?hg (N := 2) ?hd (cs := #[.string (⟨#[]⟩ : ByteArray), .int .i64 0]) (t := 94) ?hr ?_; (case hd => rfl); (case hg => rfl); (case hr => first | (go_simp; done) | (go_simp; rfl)); intro gb538 hg w19 hbox hb; have BK538 := Aside0.mk (hbox); have GW538 := qG hg (below_size (qS1 HB GE537)); have GE538 := qG hg (below_size (qS1 HB GE537)); replace HB := Aside0.mk (below_step (qS1 HB GE537) hb); have NB537_538 := qN hg (blk_lt (qB BK537)); have NB538_537 := qM hg (blk_lt (qB BK537)); replace BK537 := qD BK537 hb; clear hb hbox hg))
  (replace BK537 := Aside0.mk (blk_drew BK537.out)); (replace BK538 := Aside0.mk (blk_drew BK538.out)); (replace HB := Aside0.mk (below_drew1 HB.out))
  refine start_ (n := 8) (S := fun w' => w'.cell? ⟨gb537, 0, none⟩ = some (.int .i64 a0_0) ∧ w'.cell? ⟨gb537, 1, none⟩ = some (.string a0_1) ∧ w'.cell? ⟨gb537, 2, none⟩ = some (.int .i64 a0_2) ∧ w'.cell? ⟨gb537, 3, none⟩ = some (.int .i64 a0_3) ∧ w'.cell? ⟨gb537, 4, none⟩ = some (.int .i64 a0_4) ∧ w'.cell? ⟨gb537, 5, none⟩ = some (.int .i64 a0_5) ∧ w'.cell? ⟨gb537, 6, none⟩ = some (.string a0_6)) (ds := []) #[false, false, false, false, false, false, false, false] (by kernel_rfl) rfl rfl ⟨(blk_cell BK537.out 0).trans rfl, (blk_cell BK537.out 1).trans rfl, (blk_cell BK537.out 2).trans rfl, (blk_cell BK537.out 3).trans rfl, (blk_cell BK537.out 4).trans rfl, (blk_cell BK537.out 5).trans rfl, (blk_cell BK537.out 6).trans rfl⟩ (fun hHeld => ?_); refine with_tabW impl_changeOf.tab1 impl_changeOf.bits1 (fun HT_ HW_ => ?_)
  generalize w19.drew = w20 at BK537 BK538 HB hHeld ⊢
  refine pure_ (i := 0) (N := some 4) (v := ?_) (a' := ?_) #[true, false, false, false, false, false, false, false] rfl rfl (any_of HT_.out (by kernel_rfl)) (fun _ _ _ h => h) (Or.inl ⟨by rfl, ?_⟩) ?_ ?_
  rotate_left
  ·intro w'
   go_simp
   with_reducible rfl
  rotate_left
  ·exact qPu
  refine pure_ (i := 3) (N := some 7) (v := ?_) (a' := ?_) #[true, false, false, true, false, false, false, false] rfl rfl (any_of HT_.out (by kernel_rfl)) (fun _ _ _ h => h) (Or.inl ⟨by rfl, ?_⟩) ?_ ?_
  rotate_left
  ·intro w'
   go_simp
   with_reducible rfl
  rotate_left
  ·exact qPu
  refine take_ (i := 1) (N := some 5) (v := ?_) (a' := ?_) #[true, true, false, true, false, false, false, false] rfl rfl (take_ofW HT_.out HW_.out (by kernel_rfl)) (fun _ _ _ h => h) (Or.inl ⟨by rfl, ?_⟩) hHeld ?_ ?_
  rotate_left
  ·rintro w' ⟨s0, s1, s2, s3, s4, s5, s6⟩
   go_simp
   with_reducible rfl
  rotate_left
  ·exact qPu
  refine take_ (i := 4) (N := some 8) (v := ?_) (a' := ?_) #[true, true, false, true, true, false, false, false] rfl rfl (take_ofW HT_.out HW_.out (by kernel_rfl)) (fun _ _ _ h => h) (Or.inl ⟨by rfl, ?_⟩) hHeld ?_ ?_
  rotate_left
  ·rintro w' ⟨s0, s1, s2, s3, s4, s5, s6⟩
   go_simp
   with_reducible rfl
  rotate_left
  ·exact qPu
  refine join_ (σ := Nat) 1 #[true, true, true, true, true, true, true, false] (fun s_ => [(6, .string t539), (3, .pointer (some ⟨s_, 0, none⟩)), (9, .agg #[.string t539, .int .i64 a0_2])]) (fun s_ w' => (w'.cell? ⟨gb537, 0, none⟩ = some (.int .i64 a0_0) ∧ w'.cell? ⟨gb537, 1, none⟩ = some (.string a0_1) ∧ w'.cell? ⟨gb537, 2, none⟩ = some (.int .i64 a0_2) ∧ w'.cell? ⟨gb537, 3, none⟩ = some (.int .i64 a0_3) ∧ w'.cell? ⟨gb537, 4, none⟩ = some (.int .i64 a0_4) ∧ w'.cell? ⟨gb537, 5, none⟩ = some (.int .i64 a0_5) ∧ w'.cell? ⟨gb537, 6, none⟩ = some (.string a0_6)) ∧ (w'.heap[gb537]? = some (.cells #[.int .i64 a0_0, .string a0_1, .int .i64 a0_2, .int .i64 a0_3, .int .i64 a0_4, .int .i64 a0_5, .string a0_6] 56 (0, 0))) ∧ (w'.heap[gb538]? = some (.cells #[.string (⟨#[]⟩ : ByteArray), .int .i64 0] 94 (0, 0))) ∧ (w'.heap[s_]? = some (.cells #[.string (⟨#[]⟩ : ByteArray), .int .i64 0] 94 (0, 0))) ∧ (w.heap.size ≤ s_) ∧ (w.heap.size ≤ s_) ∧ (gb537 ≠ s_) ∧ (s_ ≠ gb537) ∧ (gb538 ≠ s_) ∧ (s_ ≠ gb538) ∧ (Below w.heap.size w w')) ?_ ?_
  rotate_left
  ·intro hCont
   refine two_ (i := 2) (j := 6) (Ni := some 6) (Nj := some 3) #[true, true, true, true, true, false, false, false] #[true, true, false, true, true, false, true, false] rfl rfl rfl rfl (two_of HT_.out (by kernel_rfl)) (by decide) (by decide) (fun K hK => ?_) (fun K hK => ?_)
   ·skip
    refine goes_ Tryz.func111 (by kernel_rfl) rfl #[.string a0_1] (by rfl) rfl rfl qL ?_
    with_reducible refine (impl_Fold.calls k a0_1 t539 _ A2.out (G_below (qS0 HB) hG)).mono ?_
    rintro e w21 ⟨rfl, hb⟩
    refine ⟨_, rfl, ?_⟩
    (replace BK537 := qD BK537 hb); (replace BK538 := qD BK538 hb); (replace HB := Aside0.mk (below_step (qS2 HB GE537 GE538) hb)); (try clear hb); (try clear hb2); (try clear hk); (try clear hi)
    refine hK.out _ _ ⟨(blk_cell BK537.out 0).trans rfl, (blk_cell BK537.out 1).trans rfl, (blk_cell BK537.out 2).trans rfl, (blk_cell BK537.out 3).trans rfl, (blk_cell BK537.out 4).trans rfl, (blk_cell BK537.out 5).trans rfl, (blk_cell BK537.out 6).trans rfl⟩ (fun hHeld => ?_)
    clear hK K
    refine norm_ (a' := ?_) ?_ ?_
    rotate_left
    ·show Act.put _ (some 6) _ = _
     exact qPu
    refine pure_ (i := 5) (N := some 9) (v := ?_) (a' := ?_) #[true, true, true, true, true, true, false, false] rfl rfl (any_of HT_.out (by kernel_rfl)) (fun _ _ _ h => h) (Or.inl ⟨by rfl, ?_⟩) ?_ ?_
    rotate_left
    ·intro w'
     go_simp
     with_reducible rfl
    rotate_left
    ·exact qPu
    refine one_ (i := 6) (N := some 3) #[true, true, true, true, true, true, true, false] rfl rfl (one_of HT_.out (by kernel_rfl)) (by decide) (fun K hK => ?_)
    refine box_step ?hg (N := 3) ?hd (cs := #[.string (⟨#[]⟩ : ByteArray), .int .i64 0]) (t := 94) ?hr ?_; (case hd => rfl); (case hg => rfl); (case hr => first | (go_simp; done) | (go_simp; rfl))
    intro gb540 hg w22 hbox hb
    (have BK540 := Aside0.mk (hbox)); (have GW540 := qG hg (below_size (qS2 HB GE537 GE538))); (have GE540 := qG hg (below_size (qS2 HB GE537 GE538))); (replace HB := Aside0.mk (below_step (qS2 HB GE537 GE538) hb)); (have NB537_540 := qN hg (blk_lt (qB BK537))); (have NB540_537 := qM hg (blk_lt (qB BK537))); (replace BK537 := qD BK537 hb); (have NB538_540 := qN hg (blk_lt (qB BK538))); (have NB540_538 := qM hg (blk_lt (qB BK538))); (replace BK538 := qD BK538 hb); clear hb hbox hg
    refine hK.out _ _ ⟨(blk_cell BK537.out 0).trans rfl, (blk_cell BK537.out 1).trans rfl, (blk_cell BK537.out 2).trans rfl, (blk_cell BK537.out 3).trans rfl, (blk_cell BK537.out 4).trans rfl, (blk_cell BK537.out 5).trans rfl, (blk_cell BK537.out 6).trans rfl⟩ (fun hHeld => ?_)
    clear hK K
    refine norm_ (a' := ?_) ?_ ?_
    rotate_left
    ·show Act.put _ (some 3) _ = _
     exact qPu
    exact norm_ (by simp only [putAll, Act.put, List.setIfInBounds_toArray, List.set_cons_zero, List.set_cons_succ]) (hCont (gb540) _ ⟨hHeld, (qB BK537), (qB BK538), (qB BK540), GW540.out, GE540.out, NB537_540.out, NB540_537.out, NB538_540.out, NB540_538.out, (qS3 HB GE537 GE538 GE540)⟩)
   ·skip
    refine box_step ?hg (N := 3) ?hd (cs := #[.string (⟨#[]⟩ : ByteArray), .int .i64 0]) (t := 94) ?hr ?_; (case hd => rfl); (case hg => rfl); (case hr => first | (go_simp; done) | (go_simp; rfl))
    intro gb540 hg w21 hbox hb
    (have BK540 := Aside0.mk (hbox)); (have GW540 := qG hg (below_size (qS2 HB GE537 GE538))); (have GE540 := qG hg (below_size (qS2 HB GE537 GE538))); (replace HB := Aside0.mk (below_step (qS2 HB GE537 GE538) hb)); (have NB537_540 := qN hg (blk_lt (qB BK537))); (have NB540_537 := qM hg (blk_lt (qB BK537))); (replace BK537 := qD BK537 hb); (have NB538_540 := qN hg (blk_lt (qB BK538))); (have NB540_538 := qM hg (blk_lt (qB BK538))); (replace BK538 := qD BK538 hb); clear hb hbox hg
    refine hK.out _ _ ⟨(blk_cell BK537.out 0).trans rfl, (blk_cell BK537.out 1).trans rfl, (blk_cell BK537.out 2).trans rfl, (blk_cell BK537.out 3).trans rfl, (blk_cell BK537.out 4).trans rfl, (blk_cell BK537.out 5).trans rfl, (blk_cell BK537.out 6).trans rfl⟩ (fun hHeld => ?_)
    clear hK K
    refine norm_ (a' := ?_) ?_ ?_
    rotate_left
    ·show Act.put _ (some 3) _ = _
     exact qPu
    refine one_ (i := 2) (N := some 6) #[true, true, true, true, true, false, true, false] rfl rfl (one_of HT_.out (by kernel_rfl)) (by decide) (fun K hK => ?_)
    refine goes_ Tryz.func111 (by kernel_rfl) rfl #[.string a0_1] (by rfl) rfl rfl qL ?_
    with_reducible refine (impl_Fold.calls k a0_1 t539 _ A2.out (G_below (qS0 HB) hG)).mono ?_
    rintro e w22 ⟨rfl, hb⟩
    refine ⟨_, rfl, ?_⟩
    (replace BK537 := qD BK537 hb); (replace BK538 := qD BK538 hb); (replace BK540 := qD BK540 hb); (replace HB := Aside0.mk (below_step (qS3 HB GE537 GE538 GE540) hb)); (try clear hb); (try clear hb2); (try clear hk); (try clear hi)
    refine hK.out _ _ ⟨(blk_cell BK537.out 0).trans rfl, (blk_cell BK537.out 1).trans rfl, (blk_cell BK537.out 2).trans rfl, (blk_cell BK537.out 3).trans rfl, (blk_cell BK537.out 4).trans rfl, (blk_cell BK537.out 5).trans rfl, (blk_cell BK537.out 6).trans rfl⟩ (fun hHeld => ?_)
    clear hK K
    refine norm_ (a' := ?_) ?_ ?_
    rotate_left
    ·show Act.put _ (some 6) _ = _
     exact qPu
    refine pure_ (i := 5) (N := some 9) (v := ?_) (a' := ?_) #[true, true, true, true, true, true, true, false] rfl rfl (any_of HT_.out (by kernel_rfl)) (fun _ _ _ h => h) (Or.inl ⟨by rfl, ?_⟩) ?_ ?_
    rotate_left
    ·intro w'
     go_simp
     with_reducible rfl
    rotate_left
    ·exact qPu
    exact norm_ (by simp only [putAll, Act.put, List.setIfInBounds_toArray, List.set_cons_zero, List.set_cons_succ]) (hCont (gb540) _ ⟨hHeld, (qB BK537), (qB BK538), (qB BK540), GW540.out, GE540.out, NB537_540.out, NB540_537.out, NB538_540.out, NB540_538.out, (qS3 HB GE537 GE538 GE540)⟩)
  rintro gb540 w23 ⟨hS_, h0_, h1_, h2_, h3_, h4_, h5_, h6_, h7_, h8_, h9_⟩
  (have n0_ : Aside0 (w23.heap[gb537]? = some (.cells #[.int .i64 a0_0, .string a0_1, .int .i64 a0_2, .int .i64 a0_3, .int .i64 a0_4, .int .i64 a0_5, .string a0_6] 56 (0, 0))) := ⟨h0_⟩); (have n1_ : Aside0 (w23.heap[gb538]? = some (.cells #[.string (⟨#[]⟩ : ByteArray), .int .i64 0] 94 (0, 0))) := ⟨h1_⟩); (have n2_ : Aside0 (w23.heap[gb540]? = some (.cells #[.string (⟨#[]⟩ : ByteArray), .int .i64 0] 94 (0, 0))) := ⟨h2_⟩); (have n3_ : Aside0 (w.heap.size ≤ gb540) := ⟨h3_⟩); (have n4_ : Aside0 (w.heap.size ≤ gb540) := ⟨h4_⟩); (have n5_ : Aside0 (gb537 ≠ gb540) := ⟨h5_⟩); (have n6_ : Aside0 (gb540 ≠ gb537) := ⟨h6_⟩); (have n7_ : Aside0 (gb538 ≠ gb540) := ⟨h7_⟩); (have n8_ : Aside0 (gb540 ≠ gb538) := ⟨h8_⟩); (have n9_ : Aside0 (Below w.heap.size w w23) := ⟨h9_⟩); clear BK537 BK538 HB h0_ h1_ h2_ h3_ h4_ h5_ h6_ h7_ h8_ h9_; (have BK537 := n0_); (have BK538 := n1_); (have BK540 := n2_); (have GW540 := n3_); (have GE540 := n4_); (have NB537_540 := n5_); (have NB540_537 := n6_); (have NB538_540 := n7_); (have NB540_538 := n8_); (have HB := n9_); clear n0_ n1_ n2_ n3_ n4_ n5_ n6_ n7_ n8_ n9_; (have hHeld : w23.cell? ⟨gb537, 0, none⟩ = some (.int .i64 a0_0) ∧ w23.cell? ⟨gb537, 1, none⟩ = some (.string a0_1) ∧ w23.cell? ⟨gb537, 2, none⟩ = some (.int .i64 a0_2) ∧ w23.cell? ⟨gb537, 3, none⟩ = some (.int .i64 a0_3) ∧ w23.cell? ⟨gb537, 4, none⟩ = some (.int .i64 a0_4) ∧ w23.cell? ⟨gb537, 5, none⟩ = some (.int .i64 a0_5) ∧ w23.cell? ⟨gb537, 6, none⟩ = some (.string a0_6) := hS_)
  refine norm_ (a' := ?_) ?_ ?_
  rotate_left
  ·simp only [putAll, Act.put, List.setIfInBounds_toArray, List.set_cons_zero, List.set_cons_succ]
   rfl
  refine one_ (i := 7) (N := none) #[true, true, true, true, true, true, true, true] rfl rfl (one_of HT_.out (by kernel_rfl)) (by decide) (fun K hK => ?_)
  (have hs24 : w23.cell? ⟨gb540, 0, none⟩ = some (.string (⟨#[]⟩ : ByteArray)) := (blk_cell BK540.out 0).trans rfl); (have hfs24 := blk_frozen BK540.out 0); (have hns24_0 := NB537_540.out); (have hns24_1 := NB538_540.out); (have hms24_0 := NB540_537.out); (have hms24_1 := NB540_538.out); (have hs25 : w23.cell? ⟨gb540, 1, none⟩ = some (.int .i64 0) := (blk_cell BK540.out 1).trans rfl); (have hfs25 := blk_frozen BK540.out 1); (have hns25_0 := NB537_540.out); (have hns25_1 := NB538_540.out); (have hms25_0 := NB540_537.out); (have hms25_1 := NB540_538.out)
  refine skip_ (w1 := ?_) (by rfl) rfl ?_ ?_
  rotate_left
  ·go_simp
   rfl
  refine hK.out _ _ ⟨((cell_far (p := ⟨gb540, _, none⟩) NB537_540.out _).trans (((cell_far (p := ⟨gb540, _, none⟩) NB537_540.out _).trans (hHeld.1)))), ((cell_far (p := ⟨gb540, _, none⟩) NB537_540.out _).trans (((cell_far (p := ⟨gb540, _, none⟩) NB537_540.out _).trans (hHeld.2.1)))), ((cell_far (p := ⟨gb540, _, none⟩) NB537_540.out _).trans (((cell_far (p := ⟨gb540, _, none⟩) NB537_540.out _).trans (hHeld.2.2.1)))), ((cell_far (p := ⟨gb540, _, none⟩) NB537_540.out _).trans (((cell_far (p := ⟨gb540, _, none⟩) NB537_540.out _).trans (hHeld.2.2.2.1)))), ((cell_far (p := ⟨gb540, _, none⟩) NB537_540.out _).trans (((cell_far (p := ⟨gb540, _, none⟩) NB537_540.out _).trans (hHeld.2.2.2.2.1)))), ((cell_far (p := ⟨gb540, _, none⟩) NB537_540.out _).trans (((cell_far (p := ⟨gb540, _, none⟩) NB537_540.out _).trans (hHeld.2.2.2.2.2.1)))), ((cell_far (p := ⟨gb540, _, none⟩) NB537_540.out _).trans (((cell_far (p := ⟨gb540, _, none⟩) NB537_540.out _).trans (hHeld.2.2.2.2.2.2))))⟩ (fun hHeld => ?_)
  clear hK K
  refine done_ (done_of HT_.out (by kernel_rfl)) ?_
  (have hnb26 := NB537_538.out); (have hnc26 := NB538_537.out); (have hnb27 := NB537_540.out); (have hnc27 := NB540_537.out); (obtain ⟨hcz28_0, hcz28_1, hcz28_2, hcz28_3, hcz28_4, hcz28_5, hcz28_6, hfz28_0, hfz28_1, hfz28_2, hfz28_3, hfz28_4, hfz28_5, hfz28_6⟩ := qC7 BK537); (have hnb29 := NB540_538.out); (have hnc29 := NB538_540.out); (obtain ⟨hcz30_0, hcz30_1, hfz30_0, hfz30_1⟩ := qC2 BK540); (obtain ⟨hcz31_0, hcz31_1, hfz31_0, hfz31_1⟩ := qC2 BK538)
  try go_wp2
  refine bodyPost_ret (results_cell_row rfl _ _ gb538 94 #[.string t539, .int .i64 a0_2] (0, 0) _ rfl (by (with_reducible repeat (first | refine blk_drewN ?_ _ | refine blk_drew ?_ | refine blk_alloc ?_ _)); refine blk_put (cs := #[.string t539, .int .i64 0]) ?_ 1 _ rfl; (with_reducible repeat (first | refine blk_drewN ?_ _ | refine blk_drew ?_ | refine blk_alloc ?_ _)); refine blk_put (cs := #[.string (⟨#[]⟩ : ByteArray), .int .i64 0]) ?_ 0 _ rfl; (with_reducible repeat (first | refine blk_drewN ?_ _ | refine blk_drew ?_ | refine blk_alloc ?_ _)); refine blk_far ?_ NB538_540.out _; (with_reducible repeat (first | refine blk_drewN ?_ _ | refine blk_drew ?_ | refine blk_alloc ?_ _)); refine blk_far ?_ NB538_540.out _; (with_reducible repeat (first | refine blk_drewN ?_ _ | refine blk_drew ?_ | refine blk_alloc ?_ _)); exact BK538.out) Tryz.underlying94 rfl (by kernel_rfl)) rfl ?_
  exact ⟨qE, qS3 HB GE537 GE538 GE540⟩
def impl_isEntry.f (k : Nat) (a0_0 : ByteArray) (a0_1 : Int) : Option (Bool) := (impl_isWord.f k a0_0).bind fun t542 => (if t542 = true then ((impl_within.f a0_1 0 65535).bind fun t543 => (some t543)) else (some false))
theorem impl_isEntry.calls (k : Nat) (a0_0 : ByteArray) (a0_1 : Int) (r : Bool) (w : World) (h : impl_isEntry.f k a0_0 a0_1 = some r) :
  Calls Tryz.prog 78 #[.agg #[.string a0_0, .int .i64 a0_1]] w fun e w' => e = .returned (.bool r) ∧ Below w.heap.size w w' := by
 (have hu94 := Tryz.underlying94); (have HB := Aside0.mk (Below.refl w.heap.size w)); (have H : ((impl_isWord.f k a0_0).bind fun t542 => (if t542 = true then ((impl_within.f a0_1 0 65535).bind fun t543 => (some t543)) else (some false))) = some r := h); clear h; (obtain ⟨t542, A2, H⟩ := qX H)
 try dsimp only at H
 by_cases c3 : t542 = true
 ·subst c3
  (have H1 : ((impl_within.f a0_1 0 65535).bind fun t543 => (some t543)) = some r := by rw [if_pos rfl] at H; exact H); clear H; (have H := H1); clear H1; (obtain ⟨t543, A4, H⟩ := qX H); (replace H : (some t543) = some r := H); (obtain rfl := Option.some.inj H)
  go_enter Tryz.func78, Tryz.ntmps78
  go_wp2_with (first | ((with_reducible refine gate_dst (N := 1) rfl ?_); refine box_event ?hg (N := 1) ?hd (cs := #[.string a0_0, .int .i64 a0_1]) (t := 94) ?hr ?_; (case hd => rfl); (case hg => rfl); (case hr => first | (go_simp; done) | (go_simp; rfl)); intro gb541 hg w5 hbox hb; have BK541 := Aside0.mk (hbox); have GW541 := qG hg (below_size (qS0 HB)); have GE541 := qG hg (below_size (qS0 HB)); replace HB := Aside0.mk (below_step (qS0 HB) hb); clear hb hbox hg; obtain ⟨hcz6_0, hcz6_1, hfz6_0, hfz6_1⟩ := qC2 BK541) | ((with_reducible refine gate_callee (f := 114) rfl ?_); refine goesL_ (some 5) rfl rfl Tryz.func114 (by kernel_rfl) rfl #[.string a0_0] rfl qL ?_; (with_reducible refine (impl_isWord.calls k a0_0 true _ A2.out).mono ?_); rintro e w' ⟨rfl, ⟨nd, rfl⟩⟩; refine ⟨_, rfl, ?_⟩) | (go_at_call 61; (with_reducible refine (impl_within.calls a0_1 0 65535 t543 _ A4.out).mono ?_); rintro e w' ⟨rfl, ⟨nd, rfl⟩⟩))
  go_ret
  exact ⟨qE, qS1 HB GE541⟩
 ·replace c3 := Bool.eq_false_iff.mpr c3
  (subst c3); (have H1 : (some false) = some r := by rw [if_neg (show ¬ (false = true) by decide)] at H; exact H); clear H; (have H := H1); clear H1; (obtain rfl := Option.some.inj H)
  go_enter Tryz.func78, Tryz.ntmps78
  go_wp2_with (first | ((with_reducible refine gate_dst (N := 1) rfl ?_); refine box_event ?hg (N := 1) ?hd (cs := #[.string a0_0, .int .i64 a0_1]) (t := 94) ?hr ?_; (case hd => rfl); (case hg => rfl); (case hr => first | (go_simp; done) | (go_simp; rfl)); intro gb541 hg w7 hbox hb; have BK541 := Aside0.mk (hbox); have GW541 := qG hg (below_size (qS0 HB)); have GE541 := qG hg (below_size (qS0 HB)); replace HB := Aside0.mk (below_step (qS0 HB) hb); clear hb hbox hg; obtain ⟨hcz8_0, hcz8_1, hfz8_0, hfz8_1⟩ := qC2 BK541) | ((with_reducible refine gate_callee (f := 114) rfl ?_); refine goesL_ (some 5) rfl rfl Tryz.func114 (by kernel_rfl) rfl #[.string a0_0] rfl qL ?_; (with_reducible refine (impl_isWord.calls k a0_0 false _ A2.out).mono ?_); rintro e w' ⟨rfl, ⟨nd, rfl⟩⟩; refine ⟨_, rfl, ?_⟩))
  go_ret
  exact ⟨qE, qS1 HB GE541⟩
end Go.Proofs.YtppopmajclmhjaaGreatDoor.QB
