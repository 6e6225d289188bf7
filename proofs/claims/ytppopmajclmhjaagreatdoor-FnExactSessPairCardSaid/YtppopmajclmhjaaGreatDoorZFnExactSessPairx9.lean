/- Part of the proof of the law FnExactSessPair: what it uses of the texts that this session and the kit's print wrote. -/
import Derived.Test.YtppopmajclmhjaaGreatDoorZFnExactSessPairx2
import Derived.Test.YtppopmajclmhjaaGreatDoorZFnExactSessPairx6
import Derived.Test.YtppopmajclmhjaaGreatDoorZFnExactSessPairx8
namespace Go.Proofs.YtppopmajclmhjaaGreatDoor.QB
open Go.RowKit Go.Proofs.YtppopmajclmhjaaGreatDoorW.PrintWords Go.Proofs.YtppopmajclmhjaaGreatDoorW.PrintLast Go.Proofs.YtppopmajclmhjaaGreatDoorW.PrintMore
attribute [local go_sem] max2_int min2_int max_two min_two max_three min_three max_four min_four
set_option linter.unusedVariables false
set_option linter.unusedSimpArgs false
set_option maxHeartbeats 8000000
set_option maxRecDepth 100000
mutual
def impl_coords.l0 : Nat → Int → List Int → List Int → Int → Int → Option (List Int)
 | 0, _, _, _, _, _ => none
 | k + 1, x0, x1, x5, x13, x14 => if x14 < x13 then (if 0 ≤ x14 then (if x14 < (x5.length : Int) then (impl_coords.l0 k x0 x1 (x5.set (x14 : Int).toNat x14) x13 (wrap64 (x14 + 1))) else (none)) else (none)) else (if 0 ≤ (x1.length : Int) then (if ((x1.length : Int) : Int).toNat ≤ 35184372088832 then (impl_coords.l1 k x0 x5 (List.replicate ((x1.length : Int) : Int).toNat 0) x1 (x1.length : Int) 0) else (none)) else (none))
def impl_coords.l1 : Nat → Int → List Int → List Int → List Int → Int → Int → Option (List Int)
 | 0, _, _, _, _, _, _ => none
 | k + 1, x0, x5, x7, x25, x26, x27 => if x27 < x26 then (if 0 ≤ x27 then (if x27 < (x25.length : Int) then (if x27 < (x7.length : Int) then ((some (x7.set (x27 : Int).toNat (wrap64 (x0 + x27)) : List Int)).bind fun y400 => (if (rd x25 x27) ≥ 0 then (if 0 ≤ (rd x25 x27) then (if (rd x25 x27) < (x5.length : Int) then (impl_coords.l1 k x0 (x5.set ((rd x25 x27) : Int).toNat (wrap64 (x0 + x27))) (y400.set (x27 : Int).toNat (rd x5 (rd x25 x27))) x25 x26 (wrap64 (x27 + 1))) else (none)) else (none)) else (impl_coords.l1 k x0 x5 y400 x25 x26 (wrap64 (x27 + 1))))) else (none)) else (none)) else (none)) else (some x7)
end
def impl_coords.f (k : Nat) (a0 : Int) (l1 : List Int) : Option (List Int) := if 0 ≤ a0 then (if (a0 : Int).toNat ≤ 35184372088832 then ((some (List.replicate (a0 : Int).toNat 0 : List Int)).bind fun y392 => (impl_coords.l0 k a0 l1 y392 (y392.length : Int) 0)) else (none)) else (none)
theorem impl_coords.calls (k : Nat) (a0 : Int) (A1 : Option Addr) (c1 : Nat) (l1 : List Int) (r : List Int) (w : World) (hr1 : Kd.C (Kd.int .i64) w A1 l1.length l1) (hc1 : l1.length ≤ c1) (h : impl_coords.f k a0 l1 = some r) :
  Calls Tryz.prog 110 #[.int .i64 a0, .slice A1 l1.length c1] w fun e w' => ∃ v0_ : Value, e = .returned (v0_) ∧ Kd.R (Kd.int .i64) 3 w' w.heap.size (fun _ => True) v0_ r ∧ Below w.heap.size w w' := by
 (have HR1 := Aside0.mk hr1); (have HC1 := Aside0.mk hc1); clear hr1 hc1; (have HB := Aside0.mk (Below.refl w.heap.size w)); (have H : (if 0 ≤ a0 then (if (a0 : Int).toNat ≤ 35184372088832 then ((some (List.replicate (a0 : Int).toNat 0 : List Int)).bind fun y392 => (impl_coords.l0 k a0 l1 y392 (y392.length : Int) 0)) else (none)) else (none)) = some r := h); clear h; (obtain ⟨c3b0, c3b1, H⟩ := qT2 H); (obtain ⟨c4b0, c4b1, H⟩ := qT2 H); (obtain ⟨y392, hy392⟩ : ∃ y_ : List Int, y_ = (List.replicate (a0 : Int).toNat 0) := ⟨_, rfl⟩); (replace H : (impl_coords.l0 k a0 l1 y392 (y392.length : Int) 0) = some r := qY hy392 H); (have Ny392 := Aside0.mk hy392); clear hy392; (have H' := Aside0.mk H); clear H
 go_enter Tryz.func110, Tryz.ntmps110
 go_wp2_with (first | ((with_reducible refine gate_dst (N := 11) rfl ?_); refine Kd.R_make (Kd.int .i64) _ 3 rfl (N := 11) rfl 25 _ _ rfl a0 rfl rfl Tryz.underlying25 (.int .i64 0) 8 info3 rfl (by decide) (by omega) 0 (ok := fun _ => True) (okp := fun _ => True) rfl (fun _ hk => hk) trivial (qO) (Nat.le_trans (Nat.mul_le_mul_right _ (qO : a0.toNat ≤ 35184372088832)) (by omega)) (Below.refl _ _) (Nat.le_refl _) ?_; intro v393 w5 ho6 hb hg_ hnew_; clear hg_ hnew_; (first | rw [← Ny392.out] at ho6 | (simp only [Int.reduceToNat] at ho6; rw [← Ny392.out] at ho6)); have HO394 := Aside0.mk (Kd.R_lower ho6 (below_size (qS0 HB))); replace HB := Aside0.mk (below_step (qS0 HB) hb); clear hb ho6; obtain ⟨Ao7, co7, eo7⟩ := Kd.R_slice HO394.out; subst eo7))
 go_loopg [14] k (fun kq v14 w' => ∃ (x5_1 : List Int) (x14_1 : Int), v14 = .int .i64 x14_1 ∧ Aside0 (impl_coords.l0 kq a0 l1 x5_1 (y392.length : Int) x14_1 = some r) ∧ Aside0 (kq ≤ k) ∧ Aside0 (Kd.R (Kd.int .i64) 3 w' w.heap.size (fun _ => True) (.slice Ao7 y392.length co7) x5_1) ∧ Aside0 (Below w.heap.size w w'))
 case atStart => exact ⟨(y392), (0), qV, H', ⟨Nat.le_refl _⟩, ⟨qR HO394⟩, ⟨qS0 HB⟩⟩
 case round =>
  clear H'; (try clear c3b0); (try clear c3b1); (try clear c4b0); (try clear c4b1); (obtain ⟨x5_1, x14_1, rfl, HA, HK1, HO_5, HB⟩ := hrel); (have hl5_1 := (Kd.R_reads' HO_5.out).1); (rw [hl5_1] at HO_5); (try simp only [hl5_1])
  cases gk with
  | zero => exact absurd HA.out (by simp [impl_coords.l0])
  | succ k1 =>
   (have H := HA.out); clear HA; (simp only [impl_coords.l0] at H)
   rcases qI H with ⟨c8b0, H⟩ | ⟨c8b0, H⟩
   ·(try simp only [hl5_1] at c8b0)
    (obtain ⟨c9b0, H⟩ := qT H); (obtain ⟨c10b0, H⟩ := qT H); (obtain ⟨y395, hy395⟩ : ∃ y_ : List Int, y_ = (x5_1.set (x14_1 : Int).toNat x14_1) := ⟨_, rfl⟩); (replace H : (impl_coords.l0 k1 a0 l1 y395 (y392.length : Int) (wrap64 (x14_1 + 1))) = some r := qY hy395 H); (have Ny395 := Aside0.mk hy395); clear hy395; (have H' := Aside0.mk H); clear H; (have p11 : 0 ≤ (x14_1 : Int) := qO); (have q11 : (x14_1 : Int) < ((x5_1.length : Int) : Int) := qO); (obtain ⟨go11, co11, eo11, gb11, gl11, cl11, HG11⟩ := Kd.R_form HO_5.out (by omega))
    (first | cases eo11 | (injection eo11 with ea_ en_ ec_; (first | subst ea_ | (injection ea_ with ea_; subst ea_)); subst ec_; clear en_))
    (have GB11 := Aside0.mk gb11); (have GG11 := Aside0.mk HG11); clear gb11 gl11 HG11; (obtain ⟨hx11_0, hf11_0⟩ := Kd.R_celln 0 HO_5.out (x14_1 : Int) p11 q11); (replace p11 := eq_true p11); (replace q11 := eq_true q11); (have HP12 := Kd.R_putg HO_5.out (x14_1 : Int) x14_1)
    go_wp2_with (first | ((with_reducible refine gate_store (t := 3) (p := 20) rfl ?_); refine store_event (t := 3) (p := 20) (v := ?vo_w13) (w1 := (wr.setCell ⟨go11, (x14_1 : Int).toNat, none⟩ (.int .i64 x14_1))) ?hg ?ho ?hn ?hr ?_; (case ho => rfl); (case hg => rfl); (case hn => rfl); (case hr => first | (go_simp; done) | (go_simp; rfl)); intro w13 hw; have hg : wr.grownBy w13 (some go11) := (by rw [hw]; exact HP12.2); have hp_ : Kd.R (Kd.int .i64) 3 w13 w.heap.size (fun _ => True) (.slice (some ⟨go11, 0, none⟩) x5_1.length co7) y395 := (by rw [hw, Ny395.out]; exact HP12.1); clear HP12; replace HO_5 := Aside0.mk (hp_); replace HB := Aside0.mk ((by rw [hw]; exact below_set (HB.out) GB11.out : Below w.heap.size w w13)); clear hg hw hp_))
    (try simp only [← hl5_1])
    go_roundg k1
    case measure => have := HK1.out; omega
    case rel => exact ⟨(y395), (wrap64 (x14_1 + 1)), qV, H', ⟨by have := HK1.out; omega⟩, ⟨by (try simp only [hl5_1]); (with_reducible repeat (first | apply Kd.R_alloc | apply Kd.R_drewN | apply Kd.R_drew)); exact HO_5.out⟩, ⟨qS0 HB⟩⟩
   ·(try simp only [hl5_1] at c8b0)
    (obtain ⟨c14b0, c14b1, H⟩ := qT2 H); (obtain ⟨c15b0, c15b1, H⟩ := qT2 H); (obtain ⟨y396, hy396⟩ : ∃ y_ : List Int, y_ = (List.replicate ((l1.length : Int) : Int).toNat 0) := ⟨_, rfl⟩); (replace H : (impl_coords.l1 k1 a0 x5_1 y396 l1 (l1.length : Int) 0) = some r := qY hy396 H); (have Ny396 := Aside0.mk hy396); clear hy396; (have H' := Aside0.mk H); clear H
    go_wp2_with (first | ((with_reducible refine gate_dst (N := 24) rfl ?_); refine Kd.R_make (Kd.int .i64) _ 3 rfl (N := 24) rfl 25 _ _ rfl (l1.length : Int) rfl rfl Tryz.underlying25 (.int .i64 0) 8 info3 rfl (by decide) (by omega) 0 (ok := fun _ => True) (okp := fun _ => True) rfl (fun _ hk => hk) trivial (qO) (Nat.le_trans (Nat.mul_le_mul_right _ (qO : (l1.length : Int).toNat ≤ 35184372088832)) (by omega)) (Below.refl _ _) (Nat.le_refl _) ?_; intro v397 w16 ho17 hb hg_ hnew_; clear hg_ hnew_; (first | rw [← Ny396.out] at ho17 | (simp only [Int.reduceToNat] at ho17; rw [← Ny396.out] at ho17)); have HO398 := Aside0.mk (Kd.R_lower (Kd.R_new' ho17 (Kd.R_lt (qR HO_5))) (below_size (qS0 HB))); replace HO_5 := Aside0.mk (Kd.R_elder' (qR HO_5) (Kd.R_base ho17) hb); replace HB := Aside0.mk (below_step (qS0 HB) hb); clear hb ho17))
    go_loopg [27] k1 (fun kq v27 w' => ∃ (x5_2 : List Int) (x7_2 : List Int) (x27_2 : Int), v27 = .int .i64 x27_2 ∧ Aside0 (impl_coords.l1 kq a0 x5_2 x7_2 l1 (l1.length : Int) x27_2 = some r) ∧ Aside0 (kq ≤ k1) ∧ Aside0 (Kd.R (Kd.int .i64) 3 w' w.heap.size (fun k_ => some k_ ≠ (v397 : Value).ownBlock) (.slice Ao7 x5_1.length co7) x5_2) ∧ Aside0 (Kd.R (Kd.int .i64) 3 w' w.heap.size (fun k_ => some k_ ≠ ((.slice Ao7 x5_1.length co7) : Value).ownBlock) v397 x7_2) ∧ Aside0 (Below w.heap.size w w'))
    case atStart => exact ⟨(x5_1), (y396), (0), qV, H', ⟨Nat.le_refl _⟩, ⟨by (try simp only [hl5_1]); (with_reducible repeat (first | apply Kd.R_alloc | apply Kd.R_drewN | apply Kd.R_drew)); exact Kd.R_mono HO_5.out (fun _ hk => hk.2)⟩, ⟨by (try simp only [hl5_1]); (with_reducible repeat (first | apply Kd.R_alloc | apply Kd.R_drewN | apply Kd.R_drew)); exact Kd.R_mono HO398.out (fun _ hk => hk.2)⟩, ⟨qS0 HB⟩⟩
    case round =>
     clear H'; (try clear hx1); (try clear c8b0); (try clear c9b0); (try clear c10b0); (try clear p11); (try clear q11); (try clear hx11); (try clear hf11); (try clear c14b0); (try clear c14b1); (try clear c15b0); (try clear c15b1); (try clear hx11_0); (obtain ⟨x5_2, x7_2, x27_2, rfl, HA, HK2, HO_5, HO_7, HB⟩ := hrel); (have hl5_2 := (Kd.R_reads' HO_5.out).1); (rw [hl5_2] at HO_5); (try simp only [hl5_2]); (try simp only [hl5_2] at HO_7)
     cases gk with
     | zero => exact absurd HA.out (by simp [impl_coords.l1])
     | succ k2 =>
      (have H := HA.out); clear HA; (simp only [impl_coords.l1] at H)
      rcases qI H with ⟨c18b0, H⟩ | ⟨c18b0, H⟩
      ·obtain ⟨c19b0, H⟩ := qT H
       (obtain ⟨c20b0, H⟩ := qT H); (obtain ⟨c21b0, H⟩ := qT H); (obtain ⟨y400, hy400⟩ : ∃ y_ : List Int, y_ = (x7_2.set (x27_2 : Int).toNat (wrap64 (a0 + x27_2))) := ⟨_, rfl⟩); (replace H : (if (rd l1 x27_2) ≥ 0 then (if 0 ≤ (rd l1 x27_2) then (if (rd l1 x27_2) < (x5_2.length : Int) then (impl_coords.l1 k2 a0 (x5_2.set ((rd l1 x27_2) : Int).toNat (wrap64 (a0 + x27_2))) (y400.set (x27_2 : Int).toNat (rd x5_2 (rd l1 x27_2))) l1 (l1.length : Int) (wrap64 (x27_2 + 1))) else (none)) else (none)) else (impl_coords.l1 k2 a0 x5_2 y400 l1 (l1.length : Int) (wrap64 (x27_2 + 1)))) = some r := qY hy400 H); (have Ny400 := Aside0.mk hy400); clear hy400
       rcases qI H with ⟨(c23b0 : decide (0 ≤ (rd l1 x27_2)) = true), H⟩ | ⟨(c23b0 : decide (0 ≤ (rd l1 x27_2)) = false), H⟩
       ·obtain ⟨c24b0, H⟩ := qT H
        (obtain ⟨c25b0, H⟩ := qT H); (obtain ⟨y402, hy402⟩ : ∃ y_ : List Int, y_ = (y400.set (x27_2 : Int).toNat (rd x5_2 (rd l1 x27_2))) := ⟨_, rfl⟩); (replace H : (impl_coords.l1 k2 a0 (x5_2.set ((rd l1 x27_2) : Int).toNat (wrap64 (a0 + x27_2))) y402 l1 (l1.length : Int) (wrap64 (x27_2 + 1))) = some r := qY hy402 H); (have Ny402 := Aside0.mk hy402); clear hy402; (obtain ⟨y403, hy403⟩ : ∃ y_ : List Int, y_ = (x5_2.set ((rd l1 x27_2) : Int).toNat (wrap64 (a0 + x27_2))) := ⟨_, rfl⟩); (replace H : (impl_coords.l1 k2 a0 y403 y402 l1 (l1.length : Int) (wrap64 (x27_2 + 1))) = some r := qY hy403 H); (have Ny403 := Aside0.mk hy403); clear hy403; (have H' := Aside0.mk H); clear H; (have p399 : 0 ≤ (x27_2 : Int) := qO); (have q399 : x27_2 < (l1.length : Int) := qO); (obtain ⟨ad399, e399, hx399_0⟩ := Kd.at_int HR1.out x27_2 p399 q399)
        cases e399
        (replace hx399_0 := qF HB hx399_0); (replace p399 := eq_true p399); (replace q399 := eq_true q399); (have p22 : 0 ≤ (x27_2 : Int) := qO); (have q22 : (x27_2 : Int) < ((x7_2.length : Int) : Int) := qO); (obtain ⟨go22, co22, eo22, gb22, gl22, cl22, HG22⟩ := Kd.R_form HO_7.out (by omega))
        (first | cases eo22 | (injection eo22 with ea_ en_ ec_; (first | subst ea_ | (injection ea_ with ea_; subst ea_)); subst ec_; clear en_))
        (have GB22 := Aside0.mk gb22); (have GG22 := Aside0.mk HG22); clear gb22 gl22 HG22; (obtain ⟨hx22_0, hf22_0⟩ := Kd.R_celln 0 HO_7.out (x27_2 : Int) p22 q22); (replace p22 := eq_true p22); (replace q22 := eq_true q22); (have HP28 := Kd.R_putg HO_7.out (x27_2 : Int) (wrap64 (a0 + x27_2)))
        go_wp2_with (first | ((with_reducible refine gate_store (t := 3) (p := 37) rfl ?_); refine store_event (t := 3) (p := 37) (v := ?vo_w29) (w1 := (wr.setCell ⟨go22, (x27_2 : Int).toNat, none⟩ (.int .i64 (wrap64 (a0 + x27_2))))) ?hg ?ho ?hn ?hr ?_; (case ho => rfl); (case hg => rfl); (case hn => rfl); (case hr => first | (go_simp; done) | (go_simp; rfl)); intro w29 hw; have hg : wr.grownBy w29 (some go22) := (by rw [hw]; exact HP28.2); have hp_ : Kd.R (Kd.int .i64) 3 w29 w.heap.size (fun k_ => some k_ ≠ (.slice Ao7 x5_2.length co7 : Value).ownBlock) (.slice (some ⟨go22, 0, none⟩) x7_2.length co22) y400 := (by rw [hw, Ny400.out]; exact HP28.1); clear HP28; replace HO_5 := Aside0.mk (Kd.R_after (v := (.slice (some ⟨go22, 0, none⟩) x7_2.length co22)) (v1 := (.slice (some ⟨go22, 0, none⟩) x7_2.length co22)) (ok := (fun _ => True)) (by (with_reducible repeat (first | apply Kd.R_alloc | apply Kd.R_drewN | apply Kd.R_drew)); exact Kd.R_mono HO_5.out (fun _ hk => ⟨trivial, hk⟩)) hg (.inl rfl)); replace HO_7 := Aside0.mk (hp_); replace HB := Aside0.mk ((by rw [hw]; exact below_set (HB.out) GB22.out : Below w.heap.size w w29)); clear hg hw hp_; have p401 : 0 ≤ ((rd l1 x27_2) : Int) := qO; have q401 : (rd l1 x27_2) < (x5_2.length : Int) := qO; obtain ⟨ad401, e401, hx401_0⟩ := Kd.at_int (Kd.R_reads' HO_5.out).2.2 (rd l1 x27_2) p401 q401; cases e401; replace p401 := eq_true p401; replace q401 := eq_true q401; have p26 : 0 ≤ (x27_2 : Int) := qO; have q26 : (x27_2 : Int) < ((x7_2.length : Int) : Int) := qO; obtain ⟨hx26_0, hf26_0⟩ := Kd.R_celln 0 HO_7.out (x27_2 : Int) p26 q26; replace p26 := eq_true p26; replace q26 := eq_true q26; obtain ⟨hy30_, hz30_⟩ := Kd.R_celln 0 HO_7.out (x27_2 : Int) (qO) (qO); have HP30 := Kd.R_putg HO_7.out (x27_2 : Int) (rd x5_2 (rd l1 x27_2))) | ((with_reducible refine gate_store (t := 3) (p := 51) rfl ?_); refine store_event (t := 3) (p := 51) (v := ?vo_w31) (w1 := (w29.setCell ⟨go22, (x27_2 : Int).toNat, none⟩ (.int .i64 (rd x5_2 (rd l1 x27_2))))) ?hg ?ho ?hn ?hr ?_; (case ho => rfl); (case hg => rfl); (case hn => rfl); (case hr => first | (go_simp; done) | (go_simp; rfl)); intro w31 hw; have hg : w29.grownBy w31 (some go22) := (by rw [hw]; exact HP30.2); have hp_ : Kd.R (Kd.int .i64) 3 w31 w.heap.size (fun k_ => some k_ ≠ (.slice (some ad401) x5_2.length co7 : Value).ownBlock) (.slice (some ⟨go22, 0, none⟩) x7_2.length co22) y402 := (by rw [hw, Ny402.out]; exact HP30.1); clear HP30; replace HO_5 := Aside0.mk (Kd.R_after (v := (.slice (some ⟨go22, 0, none⟩) x7_2.length co22)) (v1 := (.slice (some ⟨go22, 0, none⟩) x7_2.length co22)) (ok := (fun _ => True)) (qR HO_5) hg (.inl rfl)); replace HO_7 := Aside0.mk (hp_); replace HB := Aside0.mk ((by rw [hw]; exact below_set (HB.out) GB22.out : Below w.heap.size w w31)); clear hg hw hp_; have p27 : 0 ≤ ((rd l1 x27_2) : Int) := qO; have q27 : ((rd l1 x27_2) : Int) < ((x5_2.length : Int) : Int) := qO; obtain ⟨go27, co27, eo27, gb27, gl27, cl27, HG27⟩ := Kd.R_form HO_5.out (by omega); (first | cases eo27 | (injection eo27 with ea_ en_ ec_; (first | subst ea_ | (injection ea_ with ea_; subst ea_)); subst ec_; clear en_)); have GB27 := Aside0.mk gb27; have GG27 := Aside0.mk HG27; clear gb27 gl27 HG27; (first | simp only [add_plain] at hx401_0 | skip); obtain ⟨hx27_0, hf27_0⟩ := Kd.R_celln 0 HO_5.out ((rd l1 x27_2) : Int) p27 q27; replace p27 := eq_true p27; replace q27 := eq_true q27; have n_ := Aside0.mk (Kd.R_mono (ok' := (fun k_ => some k_ ≠ (.slice (some ⟨go22, 0, none⟩) x7_2.length co22 : Value).ownBlock)) HO_5.out (fun k_ hk => hk.2)); clear HO_5; have HO_5 := n_; clear n_; obtain ⟨hy32_, hz32_⟩ := Kd.R_celln 0 HO_5.out ((rd l1 x27_2) : Int) (qO) (qO); have HP32 := Kd.R_putg HO_5.out ((rd l1 x27_2) : Int) (wrap64 (a0 + x27_2))) | ((with_reducible refine gate_store (t := 3) (p := 52) rfl ?_); refine store_event (t := 3) (p := 52) (v := ?vo_w33) (w1 := (w31.setCell ⟨go27, ((rd l1 x27_2) : Int).toNat, none⟩ (.int .i64 (wrap64 (a0 + x27_2))))) ?hg ?ho ?hn ?hr ?_; (case ho => rfl); (case hg => rfl); (case hn => rfl); (case hr => first | (go_simp; done) | (go_simp; rfl)); intro w33 hw; have hg : w31.grownBy w33 (some go27) := (by rw [hw]; exact HP32.2); have hp_ : Kd.R (Kd.int .i64) 3 w33 w.heap.size (fun k_ => some k_ ≠ (.slice (some ⟨go22, 0, none⟩) x7_2.length co22 : Value).ownBlock) (.slice (some ⟨go27, 0, none⟩) x5_2.length co7) y403 := (by rw [hw, Ny403.out]; exact HP32.1); clear HP32; replace HO_5 := Aside0.mk (hp_); replace HO_7 := Aside0.mk (Kd.R_after (v := (.slice (some ⟨go27, 0, none⟩) x5_2.length co7)) (v1 := (.slice (some ⟨go27, 0, none⟩) x5_2.length co7)) (ok := (fun _ => True)) (by (with_reducible repeat (first | apply Kd.R_alloc | apply Kd.R_drewN | apply Kd.R_drew)); exact Kd.R_mono HO_7.out (fun _ hk => ⟨trivial, hk⟩)) hg (.inl rfl)); replace HB := Aside0.mk ((by rw [hw]; exact below_set (HB.out) GB27.out : Below w.heap.size w w33)); clear hg hw hp_))
        (try simp only [← hl5_2])
        go_roundg k2
        case measure => have := HK1.out; have := HK2.out; omega
        case rel => exact ⟨(y403), (y402), (wrap64 (x27_2 + 1)), qV, H', ⟨by have := HK1.out; have := HK2.out; omega⟩, ⟨by (try simp only [hl5_1]); (try simp only [hl5_2]); (with_reducible repeat (first | apply Kd.R_alloc | apply Kd.R_drewN | apply Kd.R_drew)); exact HO_5.out⟩, ⟨by (try simp only [hl5_1]); (try simp only [hl5_2]); (with_reducible repeat (first | apply Kd.R_alloc | apply Kd.R_drewN | apply Kd.R_drew)); exact Kd.R_mono HO_7.out (fun _ hk => hk.2)⟩, ⟨qS0 HB⟩⟩
       ·have H' := Aside0.mk H
        clear H; (have p399 : 0 ≤ (x27_2 : Int) := qO); (have q399 : x27_2 < (l1.length : Int) := qO); (obtain ⟨ad399, e399, hx399_0⟩ := Kd.at_int HR1.out x27_2 p399 q399)
        cases e399
        (replace hx399_0 := qF HB hx399_0); (replace p399 := eq_true p399); (replace q399 := eq_true q399); (have p22 : 0 ≤ (x27_2 : Int) := qO); (have q22 : (x27_2 : Int) < ((x7_2.length : Int) : Int) := qO); (obtain ⟨go22, co22, eo22, gb22, gl22, cl22, HG22⟩ := Kd.R_form HO_7.out (by omega))
        (first | cases eo22 | (injection eo22 with ea_ en_ ec_; (first | subst ea_ | (injection ea_ with ea_; subst ea_)); subst ec_; clear en_))
        (have GB22 := Aside0.mk gb22); (have GG22 := Aside0.mk HG22); clear gb22 gl22 HG22; (obtain ⟨hx22_0, hf22_0⟩ := Kd.R_celln 0 HO_7.out (x27_2 : Int) p22 q22); (replace p22 := eq_true p22); (replace q22 := eq_true q22); (have HP34 := Kd.R_putg HO_7.out (x27_2 : Int) (wrap64 (a0 + x27_2)))
        go_wp2_with (first | ((with_reducible refine gate_store (t := 3) (p := 37) rfl ?_); refine store_event (t := 3) (p := 37) (v := ?vo_w35) (w1 := (wr.setCell ⟨go22, (x27_2 : Int).toNat, none⟩ (.int .i64 (wrap64 (a0 + x27_2))))) ?hg ?ho ?hn ?hr ?_; (case ho => rfl); (case hg => rfl); (case hn => rfl); (case hr => first | (go_simp; done) | (go_simp; rfl)); intro w35 hw; have hg : wr.grownBy w35 (some go22) := (by rw [hw]; exact HP34.2); have hp_ : Kd.R (Kd.int .i64) 3 w35 w.heap.size (fun k_ => some k_ ≠ (.slice Ao7 x5_2.length co7 : Value).ownBlock) (.slice (some ⟨go22, 0, none⟩) x7_2.length co22) y400 := (by rw [hw, Ny400.out]; exact HP34.1); clear HP34; replace HO_5 := Aside0.mk (Kd.R_after (v := (.slice (some ⟨go22, 0, none⟩) x7_2.length co22)) (v1 := (.slice (some ⟨go22, 0, none⟩) x7_2.length co22)) (ok := (fun _ => True)) (by (with_reducible repeat (first | apply Kd.R_alloc | apply Kd.R_drewN | apply Kd.R_drew)); exact Kd.R_mono HO_5.out (fun _ hk => ⟨trivial, hk⟩)) hg (.inl rfl)); replace HO_7 := Aside0.mk (hp_); replace HB := Aside0.mk ((by rw [hw]; exact below_set (HB.out) GB22.out : Below w.heap.size w w35)); clear hg hw hp_))
        (try simp only [← hl5_2])
        go_roundg k2
        case measure => have := HK1.out; have := HK2.out; omega
        case rel => exact ⟨(x5_2), (y400), (wrap64 (x27_2 + 1)), qV, H', ⟨by have := HK1.out; have := HK2.out; omega⟩, ⟨by (try simp only [hl5_1]); (try simp only [hl5_2]); (with_reducible repeat (first | apply Kd.R_alloc | apply Kd.R_drewN | apply Kd.R_drew)); exact Kd.R_mono HO_5.out (fun _ hk => hk.2)⟩, ⟨by (try simp only [hl5_1]); (try simp only [hl5_2]); (with_reducible repeat (first | apply Kd.R_alloc | apply Kd.R_drewN | apply Kd.R_drew)); exact HO_7.out⟩, ⟨qS0 HB⟩⟩
      ·obtain rfl := Option.some.inj H
       go_wp2
       go_ret
       exact ⟨_, qE, by (with_reducible repeat (first | apply Kd.R_alloc | apply Kd.R_drewN | apply Kd.R_drew)); exact Kd.R_mono HO_7.out (fun _ hk => trivial), qS0 HB⟩
mutual
def impl_PairDraws.j0 : Nat → Int → List Int → List Int → List Int → Bool → Option (List Int × Bool)
 | 0, _, _, _, _, _ => none
 | k + 1, x0, x1, x2, x3, x43 => if x43 = true then (some (([] : List Int), false)) else (if 0 ≤ (x3.length : Int) then (if ((x3.length : Int) : Int).toNat ≤ 35184372088832 then (if ((x3.length : Int) : Int).toNat ≤ 281474976710656 then ((impl_coords.f k x0 x1).bind fun t814 => ((impl_coords.f k x0 x2).bind fun t817 => (impl_PairDraws.l0 k x3 (List.replicate ((x3.length : Int) : Int).toNat 0) (List.replicate ((x3.length : Int) : Int).toNat false) (List.replicate ((x3.length : Int) : Int).toNat false) t814 t817 (t814.length : Int) 0))) else (none)) else (none)) else (none))
def impl_PairDraws.l0 : Nat → List Int → List Int → List Bool → List Bool → List Int → List Int → Int → Int → Option (List Int × Bool)
 | 0, _, _, _, _, _, _, _, _ => none
 | k + 1, x3, x10, x11, x12, x13, x14, x60, x61 => if x61 < x60 then (if 0 ≤ x61 then (if x61 < (x14.length : Int) then (if x61 < (x13.length : Int) then (if 0 ≤ (rd x13 x61) then (if (rd x13 x61) < (x3.length : Int) then (if 0 ≤ (rd x14 x61) then (if (rd x14 x61) < (x10.length : Int) then (if (rd x13 x61) < (x11.length : Int) then (if (rd x14 x61) < (x12.length : Int) then (impl_PairDraws.l0 k x3 (x10.set ((rd x14 x61) : Int).toNat (rd x3 (rd x13 x61))) (x11.set ((rd x13 x61) : Int).toNat true) (x12.set ((rd x14 x61) : Int).toNat true) x13 x14 x60 (wrap64 (x61 + 1))) else (none)) else (none)) else (none)) else (none)) else (none)) else (none)) else (none)) else (none)) else (none)) else (impl_PairDraws.l1 k x3 x10 x11 x12 0 (x10.length : Int) 0)
def impl_PairDraws.l1 : Nat → List Int → List Int → List Bool → List Bool → Int → Int → Int → Option (List Int × Bool)
 | 0, _, _, _, _, _, _, _ => none
 | k + 1, x3, x10, x11, x12, x16, x91, x92 => if x92 < x91 then (if 0 ≤ x92 then (if x92 < (x12.length : Int) then (if rdOf false x12 x92 = true then (impl_PairDraws.l1 k x3 x10 x11 x12 x16 x91 (wrap64 (x92 + 1))) else (impl_PairDraws.l2 k x3 x10 x11 x12 x16 x92 x91 x92)) else (none)) else (none)) else (some (x10, true))
def impl_PairDraws.l2 : Nat → List Int → List Int → List Bool → List Bool → Int → Int → Int → Int → Option (List Int × Bool)
 | 0, _, _, _, _, _, _, _, _ => none
 | k + 1, x3, x10, x11, x12, x16, x17, x91, x92 => if 0 ≤ x16 then (if x16 < (x11.length : Int) then (if rdOf false x11 x16 = true then (impl_PairDraws.l2 k x3 x10 x11 x12 (wrap64 (x16 + 1)) x17 x91 x92) else (if x16 < (x3.length : Int) then (if 0 ≤ x17 then (if x17 < (x10.length : Int) then (impl_PairDraws.l1 k x3 (x10.set (x17 : Int).toNat (rd x3 x16)) x11 x12 (wrap64 (x16 + 1)) x91 (wrap64 (x92 + 1))) else (none)) else (none)) else (none))) else (none)) else (none)
end
def impl_PairDraws.f (k : Nat) (a0 : Int) (l1 : List Int) (l2 : List Int) (l3 : List Int) : Option (List Int × Bool) := (impl_isSeq.f a0 l1).bind fun t802 => (if t802 = true then ((impl_isSeq.f a0 l2).bind fun t803 => (if t803 = true then (if (l1.length : Int) = (l2.length : Int) then ((impl_areDraws.f l3 (wrap64 (a0 + (l1.length : Int)))).bind fun t804 => (impl_PairDraws.j0 k a0 l1 l2 l3 (!t804))) else (impl_PairDraws.j0 k a0 l1 l2 l3 true)) else (impl_PairDraws.j0 k a0 l1 l2 l3 true))) else (impl_PairDraws.j0 k a0 l1 l2 l3 true))
def impl_PairDraws.T4 : Bool × List (List Nat × List Nat) := (true, [([], []), ([0], [0]), ([1, 1], [1]), ([], []), ([3], [3]), ([4, 4], [4]), ([2, 0, 1, 2], [2]), ([5, 6, 0, 1, 2, 3, 4, 5, 6], [5])])
def impl_PairDraws.B4 : List Nat := [0, 1, 3, 0, 8, 24, 7, 127]
theorem impl_PairDraws.tab4 : rtab .any (opsOf Tryz.f84 4) = impl_PairDraws.T4 := by kernel_rfl
theorem impl_PairDraws.bits4 : waitsOk impl_PairDraws.T4.2 impl_PairDraws.B4 = true := by kernel_rfl
def impl_PairDraws.T9 : Bool × List (List Nat × List Nat) := (true, [([], []), ([], []), ([], []), ([1, 2], [1, 2]), ([3], [3]), ([], []), ([], []), ([], []), ([6, 7], [6, 7]), ([8], [8]), ([5, 9], [5, 9]), ([10], [10]), ([0, 4, 0, 1, 2, 3, 4, 5, 6, 7, 8, 9, 10, 11], [0, 4]), ([12, 11, 0, 1, 2, 3, 4, 5, 6, 7, 8, 9, 10, 11], [11, 12])])
def impl_PairDraws.B9 : List Nat := [0, 0, 0, 6, 14, 0, 0, 0, 192, 448, 992, 2016, 4095, 8191]
theorem impl_PairDraws.tab9 : rtab .any (opsOf Tryz.f84 9) = impl_PairDraws.T9 := by kernel_rfl
theorem impl_PairDraws.bits9 : waitsOk impl_PairDraws.T9.2 impl_PairDraws.B9 = true := by kernel_rfl
def impl_PairDraws.T10 : Bool × List (List Nat × List Nat) := (true, [([], []), ([], []), ([], []), ([1, 2], [1, 2]), ([3], [3]), ([], []), ([], []), ([], []), ([6, 7], [6, 7]), ([8], [8]), ([0, 4, 0, 1, 2, 3, 4, 9], [0, 4]), ([10, 0, 1, 2, 3, 4, 9], [10]), ([5, 9, 0, 1, 2, 3, 4, 5, 6, 7, 8, 9, 10, 11], [5, 9]), ([12, 11, 0, 1, 2, 3, 4, 5, 6, 7, 8, 9, 10, 11], [12])])
def impl_PairDraws.B10 : List Nat := [0, 0, 0, 6, 14, 0, 0, 0, 192, 448, 991, 2015, 4095, 8191]
theorem impl_PairDraws.tab10 : rtab .any (opsOf Tryz.f84 10) = impl_PairDraws.T10 := by kernel_rfl
theorem impl_PairDraws.bits10 : waitsOk impl_PairDraws.T10.2 impl_PairDraws.B10 = true := by kernel_rfl
theorem impl_PairDraws.calls (k : Nat) (a0 : Int) (A1 : Option Addr) (c1 : Nat) (l1 : List Int) (A2 : Option Addr) (c2 : Nat) (l2 : List Int) (A3 : Option Addr) (c3 : Nat) (l3 : List Int) (r1 : List Int) (r2 : Bool) (w : World) (hr1 : Kd.C (Kd.int .i64) w A1 l1.length l1) (hc1 : l1.length ≤ c1) (hr2 : Kd.C (Kd.int .i64) w A2 l2.length l2) (hc2 : l2.length ≤ c2) (hr3 : Kd.C (Kd.int .i64) w A3 l3.length l3) (hc3 : l3.length ≤ c3) (h : impl_PairDraws.f k a0 l1 l2 l3 = some (r1, r2)) :
  Calls Tryz.prog 84 #[.int .i64 a0, .slice A1 l1.length c1, .slice A2 l2.length c2, .slice A3 l3.length c3] w fun e w' => ∃ v0_ : Value, e = .returned (.tuple #[v0_, .bool r2]) ∧ Kd.R (Kd.int .i64) 3 w' w.heap.size (fun _ => True) v0_ r1 ∧ Below w.heap.size w w' := by
 (have HR1 := Aside0.mk hr1); (have HC1 := Aside0.mk hc1); clear hr1 hc1; (have HR2 := Aside0.mk hr2); (have HC2 := Aside0.mk hc2); clear hr2 hc2; (have HR3 := Aside0.mk hr3); (have HC3 := Aside0.mk hc3); clear hr3 hc3; (have HB := Aside0.mk (Below.refl w.heap.size w)); (have H : ((impl_isSeq.f a0 l1).bind fun t802 => (if t802 = true then ((impl_isSeq.f a0 l2).bind fun t803 => (if t803 = true then (if (l1.length : Int) = (l2.length : Int) then ((impl_areDraws.f l3 (wrap64 (a0 + (l1.length : Int)))).bind fun t804 => (impl_PairDraws.j0 k a0 l1 l2 l3 (!t804))) else (impl_PairDraws.j0 k a0 l1 l2 l3 true)) else (impl_PairDraws.j0 k a0 l1 l2 l3 true))) else (impl_PairDraws.j0 k a0 l1 l2 l3 true))) = some (r1, r2) := h); clear h; (have HC5 := Aside0.mk H); clear H
 go_enter Tryz.func84, Tryz.ntmps84
 go_upto_region 1 with (fail)
 go_cut [43] (fun v43 wc => ∃ (kq : Nat) (x43_4 : Bool), v43 = .bool x43_4 ∧ Aside0 (impl_PairDraws.j0 kq a0 l1 l2 l3 x43_4 = some (r1, r2)) ∧ Aside0 (kq ≤ k) ∧ Aside0 (Below w.heap.size w wc))
 case first =>
  (have H := HC5.out); clear HC5; (obtain ⟨t802, A6, H⟩ := qX H)
  try dsimp only at H
  by_cases c7 : t802 = true
  ·subst c7
   (have H1 : ((impl_isSeq.f a0 l2).bind fun t803 => (if t803 = true then (if (l1.length : Int) = (l2.length : Int) then ((impl_areDraws.f l3 (wrap64 (a0 + (l1.length : Int)))).bind fun t804 => (impl_PairDraws.j0 k a0 l1 l2 l3 (!t804))) else (impl_PairDraws.j0 k a0 l1 l2 l3 true)) else (impl_PairDraws.j0 k a0 l1 l2 l3 true))) = some (r1, r2) := by rw [if_pos rfl] at H; exact H); clear H; (have H := H1); clear H1; (obtain ⟨t803, A8, H⟩ := qX H)
   try dsimp only at H
   by_cases c9 : t803 = true
   ·subst c9
    (have H1 : (if (l1.length : Int) = (l2.length : Int) then ((impl_areDraws.f l3 (wrap64 (a0 + (l1.length : Int)))).bind fun t804 => (impl_PairDraws.j0 k a0 l1 l2 l3 (!t804))) else (impl_PairDraws.j0 k a0 l1 l2 l3 true)) = some (r1, r2) := by rw [if_pos rfl] at H; exact H); clear H; (have H := H1); clear H1
    rcases qJ H with ⟨c10, H⟩ | ⟨c10, H⟩
    ·have c10b0 : ((l1.length : Int) == (l2.length : Int)) = true := beq_iff_eq.mpr c10
     (have c10b1 : ((l1.length : Int) != (l2.length : Int)) = false := bne_eq_false_iff_eq.mpr c10); (have c10b2 : (l1.length == l2.length) = true := by first | simpa using c10 | (simp at c10 ⊢; omega)); clear c10
     (first | rw [c10b0] | (simp only [i64_w, i32_w]; rw [c10b0]) | skip)
     (obtain ⟨t804, A11, H⟩ := qX H); (replace H : (impl_PairDraws.j0 k a0 l1 l2 l3 (!t804)) = some (r1, r2) := H); (have H' := Aside0.mk H); clear H
     go_wp2_with (first | ((with_reducible refine gate_callee (f := 108) rfl ?_); refine goesL_ (some 20) rfl rfl Tryz.func108 (by kernel_rfl) rfl #[.int .i64 a0, .slice A1 l1.length c1] rfl qL ?_; (with_reducible refine (impl_isSeq.calls a0 _ _ l1 true _ ?side1 ?side2 A6.out).mono ?_); (case side1 => exact qW (Kd.C_below HR1.out HB.out)); (case side2 => exact HC1.out); rintro e w12 ⟨rfl, hb⟩; refine ⟨_, rfl, ?_⟩; replace HB := Aside0.mk (below_step (qS0 HB) hb); (try clear hb); (try clear hb2); (try clear hk); (try clear hi)) | (go_at_call 108; (with_reducible refine (impl_isSeq.calls a0 _ _ l2 true _ ?side1 ?side2 A8.out).mono ?_); (case side1 => exact qW (Kd.C_below HR2.out HB.out)); (case side2 => exact HC2.out); rintro e w13 ⟨rfl, hb⟩; replace HB := Aside0.mk (below_step (qS0 HB) hb); (try clear hb); (try clear hb2); (try clear hk); (try clear hi)) | (go_at_call 35; (with_reducible refine (impl_areDraws.calls _ _ l3 (wrap64 (a0 + (l1.length : Int))) t804 _ ?side1 ?side2 A11.out).mono ?_); (case side1 => exact qW (Kd.C_below HR3.out HB.out)); (case side2 => exact HC3.out); rintro e w14 ⟨rfl, hb⟩; replace HB := Aside0.mk (below_step (qS0 HB) hb); (try clear hb); (try clear hb2); (try clear hk); (try clear hi)))
     go_meet
     case rel => exact ⟨_, (!t804), qV, H', ⟨by first | omega | exact Nat.le_refl _⟩, ⟨qS0 HB⟩⟩
    ·have c10b0 : ((l1.length : Int) == (l2.length : Int)) = false := beq_eq_false_iff_ne.mpr c10
     (have c10b1 : ((l1.length : Int) != (l2.length : Int)) = true := bne_iff_ne.mpr c10); (have c10b2 : (l1.length == l2.length) = false := by first | simpa using c10 | (simp at c10 ⊢; omega))
     (first | rw [c10b0] | (simp only [i64_w, i32_w]; rw [c10b0]) | skip)
     (have H' := Aside0.mk H); clear H
     go_wp2_with (first | ((with_reducible refine gate_callee (f := 108) rfl ?_); refine goesL_ (some 20) rfl rfl Tryz.func108 (by kernel_rfl) rfl #[.int .i64 a0, .slice A1 l1.length c1] rfl qL ?_; (with_reducible refine (impl_isSeq.calls a0 _ _ l1 true _ ?side1 ?side2 A6.out).mono ?_); (case side1 => exact qW (Kd.C_below HR1.out HB.out)); (case side2 => exact HC1.out); rintro e w15 ⟨rfl, hb⟩; refine ⟨_, rfl, ?_⟩; replace HB := Aside0.mk (below_step (qS0 HB) hb); (try clear hb); (try clear hb2); (try clear hk); (try clear hi)) | (go_at_call 108; (with_reducible refine (impl_isSeq.calls a0 _ _ l2 true _ ?side1 ?side2 A8.out).mono ?_); (case side1 => exact qW (Kd.C_below HR2.out HB.out)); (case side2 => exact HC2.out); rintro e w16 ⟨rfl, hb⟩; replace HB := Aside0.mk (below_step (qS0 HB) hb); (try clear hb); (try clear hb2); (try clear hk); (try clear hi)))
     go_meet
     case rel => exact ⟨_, (true), qV, H', ⟨by first | omega | exact Nat.le_refl _⟩, ⟨qS0 HB⟩⟩
   ·replace c9 := Bool.eq_false_iff.mpr c9
    (subst c9); (have H1 : (impl_PairDraws.j0 k a0 l1 l2 l3 true) = some (r1, r2) := by rw [if_neg (show ¬ (false = true) by decide)] at H; exact H); clear H; (have H := H1); clear H1; (have H' := Aside0.mk H); clear H
    go_wp2_with (first | ((with_reducible refine gate_callee (f := 108) rfl ?_); refine goesL_ (some 20) rfl rfl Tryz.func108 (by kernel_rfl) rfl #[.int .i64 a0, .slice A1 l1.length c1] rfl qL ?_; (with_reducible refine (impl_isSeq.calls a0 _ _ l1 true _ ?side1 ?side2 A6.out).mono ?_); (case side1 => exact qW (Kd.C_below HR1.out HB.out)); (case side2 => exact HC1.out); rintro e w17 ⟨rfl, hb⟩; refine ⟨_, rfl, ?_⟩; replace HB := Aside0.mk (below_step (qS0 HB) hb); (try clear hb); (try clear hb2); (try clear hk); (try clear hi)) | (go_at_call 108; (with_reducible refine (impl_isSeq.calls a0 _ _ l2 false _ ?side1 ?side2 A8.out).mono ?_); (case side1 => exact qW (Kd.C_below HR2.out HB.out)); (case side2 => exact HC2.out); rintro e w18 ⟨rfl, hb⟩; replace HB := Aside0.mk (below_step (qS0 HB) hb); (try clear hb); (try clear hb2); (try clear hk); (try clear hi)))
    go_meet
    case rel => exact ⟨_, (true), qV, H', ⟨by first | omega | exact Nat.le_refl _⟩, ⟨qS0 HB⟩⟩
  ·replace c7 := Bool.eq_false_iff.mpr c7
   (subst c7); (have H1 : (impl_PairDraws.j0 k a0 l1 l2 l3 true) = some (r1, r2) := by rw [if_neg (show ¬ (false = true) by decide)] at H; exact H); clear H; (have H := H1); clear H1; (have H' := Aside0.mk H); clear H
   go_wp2_with (first | ((with_reducible refine gate_callee (f := 108) rfl ?_); refine goesL_ (some 20) rfl rfl Tryz.func108 (by kernel_rfl) rfl #[.int .i64 a0, .slice A1 l1.length c1] rfl qL ?_; (with_reducible refine (impl_isSeq.calls a0 _ _ l1 false _ ?side1 ?side2 A6.out).mono ?_); (case side1 => exact qW (Kd.C_below HR1.out HB.out)); (case side2 => exact HC1.out); rintro e w19 ⟨rfl, hb⟩; refine ⟨_, rfl, ?_⟩; replace HB := Aside0.mk (below_step (qS0 HB) hb); (try clear hb); (try clear hb2); (try clear hk); (try clear hi)))
   go_meet
   case rel => exact ⟨_, (true), qV, H', ⟨by first | omega | exact Nat.le_refl _⟩, ⟨qS0 HB⟩⟩
 case rest =>
  clear HC5; (try clear c7); (try clear c9); (try clear c10b0); (try clear c10b1); (try clear c10b2); (obtain ⟨kq, x43_4, rfl, HA, HJ4, HB⟩ := hcut)
  cases kq with
  | zero => exact absurd HA.out (by simp [impl_PairDraws.j0])
  | succ kj4 =>
   (have H := HA.out); clear HA; (simp only [impl_PairDraws.j0] at H)
   by_cases c20 : x43_4 = true
   ·subst c20
    (have H1 : (some (([] : List Int), false)) = some (r1, r2) := by rw [if_pos rfl] at H; exact H); clear H; (have H := H1); clear H1; (simp only [Option.some.injEq, Prod.mk.injEq] at H); (obtain ⟨rfl, rfl⟩ := H)
    go_wp2
    go_ret2
    exact ⟨_, qE, by first | exact Kd.R_nil _ _ _ _ _ | exact Kd.N_nil _ _ _ _ _ | exact Kd.V_nil _ _ _ _ _ | exact Kd.Q_nil _ _ _ _ _ | exact Kd.S_nil _ _ _ _ _, qS0 HB⟩
   ·replace c20 := Bool.eq_false_iff.mpr c20
    (subst c20); (have H1 : (if 0 ≤ (l3.length : Int) then (if ((l3.length : Int) : Int).toNat ≤ 35184372088832 then (if ((l3.length : Int) : Int).toNat ≤ 281474976710656 then ((impl_coords.f kj4 a0 l1).bind fun t814 => ((impl_coords.f kj4 a0 l2).bind fun t817 => (impl_PairDraws.l0 kj4 l3 (List.replicate ((l3.length : Int) : Int).toNat 0) (List.replicate ((l3.length : Int) : Int).toNat false) (List.replicate ((l3.length : Int) : Int).toNat false) t814 t817 (t814.length : Int) 0))) else (none)) else (none)) else (none)) = some (r1, r2) := by rw [if_neg (show ¬ (false = true) by decide)] at H; exact H); clear H; (have H := H1); clear H1; (obtain ⟨c21b0, c21b1, H⟩ := qT2 H); (obtain ⟨c22b0, c22b1, H⟩ := qT2 H); (obtain ⟨y805, hy805⟩ : ∃ y_ : List Int, y_ = (List.replicate ((l3.length : Int) : Int).toNat 0) := ⟨_, rfl⟩); (replace H : (if ((l3.length : Int) : Int).toNat ≤ 281474976710656 then ((impl_coords.f kj4 a0 l1).bind fun t814 => ((impl_coords.f kj4 a0 l2).bind fun t817 => (impl_PairDraws.l0 kj4 l3 y805 (List.replicate ((l3.length : Int) : Int).toNat false) (List.replicate ((l3.length : Int) : Int).toNat false) t814 t817 (t814.length : Int) 0))) else (none)) = some (r1, r2) := qY hy805 H); (have Ny805 := Aside0.mk hy805); clear hy805; (obtain ⟨c23b0, c23b1, H⟩ := qT2 H); (obtain ⟨y808, hy808⟩ : ∃ y_ : List Bool, y_ = (List.replicate ((l3.length : Int) : Int).toNat false) := ⟨_, rfl⟩); (replace H : ((impl_coords.f kj4 a0 l1).bind fun t814 => ((impl_coords.f kj4 a0 l2).bind fun t817 => (impl_PairDraws.l0 kj4 l3 y805 y808 (List.replicate ((l3.length : Int) : Int).toNat false) t814 t817 (t814.length : Int) 0))) = some (r1, r2) := qY hy808 H); (have Ny808 := Aside0.mk hy808); clear hy808; (obtain ⟨y811, hy811⟩ : ∃ y_ : List Bool, y_ = (List.replicate ((l3.length : Int) : Int).toNat false) := ⟨_, rfl⟩); (replace H : ((impl_coords.f kj4 a0 l1).bind fun t814 => ((impl_coords.f kj4 a0 l2).bind fun t817 => (impl_PairDraws.l0 kj4 l3 y805 y808 y811 t814 t817 (t814.length : Int) 0))) = some (r1, r2) := qY hy811 H); (have Ny811 := Aside0.mk hy811); clear hy811; (obtain ⟨t814, A24, H⟩ := qX H)
    try dsimp only at H
    (obtain ⟨t817, A25, H⟩ := qX H); (replace H : (impl_PairDraws.l0 kj4 l3 y805 y808 y811 t814 t817 (t814.length : Int) 0) = some (r1, r2) := H); (have H' := Aside0.mk H); clear H
    try go_wp2_with (first | ((with_reducible refine gate_dst (N := 46) rfl ?_); (try (refine gate_guard (by rfl) ?_; dsimp only)); refine Kd.R_make (Kd.int .i64) _ 3 rfl (N := 46) rfl 25 _ _ rfl (l3.length : Int) rfl rfl Tryz.underlying25 (.int .i64 0) 8 info3 rfl (by decide) (by omega) 0 (ok := fun _ => True) (okp := fun _ => True) rfl (fun _ hk => hk) trivial (qO) (Nat.le_trans (Nat.mul_le_mul_right _ (qO : (l3.length : Int).toNat ≤ 35184372088832)) (by omega)) (Below.refl _ _) (Nat.le_refl _) ?_; intro v806 w26 ho27 hb hg_ hnew_; clear hg_ hnew_; (first | rw [← Ny805.out] at ho27 | (simp only [Int.reduceToNat] at ho27; rw [← Ny805.out] at ho27)); have HO807 := Aside0.mk (Kd.R_lower ho27 (below_size (qS0 HB))); replace HB := Aside0.mk (below_step (qS0 HB) hb); clear hb ho27))
    (replace HO807 := Aside0.mk (Kd.R_drew HO807.out)); (replace HB := Aside0.mk (below_drew1 HB.out))
    refine start_ (n := 8) (S := fun w' => True) (ds := []) #[false, false, false, false, false, false, false, false] (by kernel_rfl) rfl rfl trivial (fun hHeld => ?_); refine with_tabW impl_PairDraws.tab4 impl_PairDraws.bits4 (fun HT_ HW_ => ?_)
    generalize w26.drew = w28 at HO807 HB hHeld ⊢
    refine pure_ (i := 0) (N := some 47) (v := ?_) (a' := ?_) #[true, false, false, false, false, false, false, false] rfl rfl (any_of HT_.out (by kernel_rfl)) (fun _ _ _ h => h) (Or.inl ⟨by rfl, ?_⟩) ?_ ?_
    rotate_left
    ·intro w'
     go_simp
     with_reducible rfl
    rotate_left
    ·exact qPu
    refine pure_ (i := 1) (N := some 48) (v := ?_) (a' := ?_) #[true, true, false, false, false, false, false, false] rfl rfl (any_of HT_.out (by kernel_rfl)) (fun _ _ _ h => h) (Or.inl ⟨by rfl, ?_⟩) ?_ ?_
    rotate_left
    ·intro w'
     go_simp
     with_reducible rfl
    rotate_left
    ·exact qPu
    refine pure_ (i := 3) (N := some 50) (v := ?_) (a' := ?_) #[true, true, false, true, false, false, false, false] rfl rfl (any_of HT_.out (by kernel_rfl)) (fun _ _ _ h => h) (Or.inl ⟨by rfl, ?_⟩) ?_ ?_
    rotate_left
    ·intro w'
     go_simp
     with_reducible rfl
    rotate_left
    ·exact qPu
    refine pure_ (i := 4) (N := some 51) (v := ?_) (a' := ?_) #[true, true, false, true, true, false, false, false] rfl rfl (any_of HT_.out (by kernel_rfl)) (fun _ _ _ h => h) (Or.inl ⟨by rfl, ?_⟩) ?_ ?_
    rotate_left
    ·intro w'
     go_simp
     with_reducible rfl
    rotate_left
    ·exact qPu
    refine join_ (σ := Value × Value) 1 #[true, true, true, true, true, true, true, false] (fun s_ => [(49, s_.1), (52, s_.2), (11, s_.1)]) (fun s_ w' => (Kd.R (Kd.int .i64) 3 w' w.heap.size (fun _ => True) v806 y805) ∧ (Kd.R Kd.bool 4 w' w.heap.size (fun k_ => some k_ ≠ (s_.2 : Value).ownBlock) s_.1 y808) ∧ (Kd.R Kd.bool 4 w' w.heap.size (fun k_ => some k_ ≠ (s_.1 : Value).ownBlock) s_.2 y811) ∧ (Below w.heap.size w w')) ?_ ?_
    rotate_left
    ·intro hCont
     refine two_ (i := 2) (j := 5) (Ni := some 49) (Nj := some 52) #[true, true, true, true, true, false, false, false] #[true, true, false, true, true, true, false, false] rfl rfl rfl rfl (two_of HT_.out (by kernel_rfl)) (by decide) (by decide) (fun K hK => ?_) (fun K hK => ?_)
     ·skip
      refine Kd.R_make_step Kd.bool _ 4 (by rfl) (N := 49) rfl 116 _ _ rfl (l3.length : Int) rfl rfl Tryz.underlying116 (.bool false) 1 info4 rfl (by decide) (by omega) false (ok := fun _ => True) (okp := fun _ => True) rfl (fun _ hk => hk) trivial (qO) (Nat.le_trans (Nat.mul_le_mul_right _ (qO : (l3.length : Int).toNat ≤ 281474976710656)) (by omega)) (Below.refl _ _) (Nat.le_refl _) ?_
      intro v809 w29 ho30 hb hg_ hnew_
      clear hg_ hnew_
      (first | rw [← Ny808.out] at ho30 | (simp only [Int.reduceToNat] at ho30; rw [← Ny808.out] at ho30))
      (replace HO807 := Aside0.mk (Kd.R_below (qR HO807) hb)); (have HO810 := Aside0.mk (Kd.R_lower ho30 (below_size (qS0 HB)))); (replace HB := Aside0.mk (below_step (qS0 HB) hb)); clear hb ho30
      refine hK.out _ _ trivial (fun hHeld => ?_)
      clear hK K
      refine norm_ (a' := ?_) ?_ ?_
      rotate_left
      ·show Act.put _ (some 49) _ = _
       exact qPu
      refine pure_ (i := 6) (N := some 11) (v := ?_) (a' := ?_) #[true, true, true, true, true, false, true, false] rfl rfl (any_of HT_.out (by kernel_rfl)) (fun _ _ _ h => h) (Or.inl ⟨by rfl, ?_⟩) ?_ ?_
      rotate_left
      ·intro w'
       go_simp
       with_reducible rfl
      rotate_left
      ·exact qPu
      refine one_ (i := 5) (N := some 52) #[true, true, true, true, true, true, true, false] rfl rfl (one_of HT_.out (by kernel_rfl)) (by decide) (fun K hK => ?_)
      refine Kd.R_make_step Kd.bool _ 4 (by rfl) (N := 52) rfl 116 _ _ rfl (l3.length : Int) rfl rfl Tryz.underlying116 (.bool false) 1 info4 rfl (by decide) (by omega) false (ok := fun _ => True) (okp := fun _ => True) rfl (fun _ hk => hk) trivial (qO) (Nat.le_trans (Nat.mul_le_mul_right _ (qO : (l3.length : Int).toNat ≤ 281474976710656)) (by omega)) (Below.refl _ _) (Nat.le_refl _) ?_
      intro v812 w31 ho32 hb hg_ hnew_
      clear hg_ hnew_
      (first | rw [← Ny811.out] at ho32 | (simp only [Int.reduceToNat] at ho32; rw [← Ny811.out] at ho32))
      (replace HO807 := Aside0.mk (Kd.R_below (qR HO807) hb)); (have HO813 := Aside0.mk (Kd.R_lower (Kd.R_new' ho32 (Kd.R_lt (qR HO810))) (below_size (qS0 HB)))); (replace HO810 := Aside0.mk (Kd.R_elder' (qR HO810) (Kd.R_base ho32) hb)); (replace HB := Aside0.mk (below_step (qS0 HB) hb)); clear hb ho32
      refine hK.out _ _ trivial (fun hHeld => ?_)
      clear hK K
      refine norm_ (a' := ?_) ?_ ?_
      rotate_left
      ·show Act.put _ (some 52) _ = _
       exact qPu
      exact norm_ (by simp only [putAll, Act.put, List.setIfInBounds_toArray, List.set_cons_zero, List.set_cons_succ]) (hCont (v809, v812) _ ⟨(qR HO807), (by (with_reducible repeat (first | apply Kd.R_alloc | apply Kd.R_drewN | apply Kd.R_drew)); exact Kd.R_mono HO810.out (fun _ hk => hk.2)), (by (with_reducible repeat (first | apply Kd.R_alloc | apply Kd.R_drewN | apply Kd.R_drew)); exact Kd.R_mono HO813.out (fun _ hk => hk.2)), (qS0 HB)⟩)
     ·skip
      refine Kd.R_make_step Kd.bool _ 4 (by rfl) (N := 52) rfl 116 _ _ rfl (l3.length : Int) rfl rfl Tryz.underlying116 (.bool false) 1 info4 rfl (by decide) (by omega) false (ok := fun _ => True) (okp := fun _ => True) rfl (fun _ hk => hk) trivial (qO) (Nat.le_trans (Nat.mul_le_mul_right _ (qO : (l3.length : Int).toNat ≤ 281474976710656)) (by omega)) (Below.refl _ _) (Nat.le_refl _) ?_
      intro v812 w29 ho30 hb hg_ hnew_
      clear hg_ hnew_
      (first | rw [← Ny811.out] at ho30 | (simp only [Int.reduceToNat] at ho30; rw [← Ny811.out] at ho30))
      (replace HO807 := Aside0.mk (Kd.R_below (qR HO807) hb)); (have HO813 := Aside0.mk (Kd.R_lower ho30 (below_size (qS0 HB)))); (replace HB := Aside0.mk (below_step (qS0 HB) hb)); clear hb ho30
      refine hK.out _ _ trivial (fun hHeld => ?_)
      clear hK K
      refine norm_ (a' := ?_) ?_ ?_
      rotate_left
      ·show Act.put _ (some 52) _ = _
       exact qPu
      refine one_ (i := 2) (N := some 49) #[true, true, true, true, true, true, false, false] rfl rfl (one_of HT_.out (by kernel_rfl)) (by decide) (fun K hK => ?_)
      refine Kd.R_make_step Kd.bool _ 4 (by rfl) (N := 49) rfl 116 _ _ rfl (l3.length : Int) rfl rfl Tryz.underlying116 (.bool false) 1 info4 rfl (by decide) (by omega) false (ok := fun _ => True) (okp := fun _ => True) rfl (fun _ hk => hk) trivial (qO) (Nat.le_trans (Nat.mul_le_mul_right _ (qO : (l3.length : Int).toNat ≤ 281474976710656)) (by omega)) (Below.refl _ _) (Nat.le_refl _) ?_
      intro v809 w31 ho32 hb hg_ hnew_
      clear hg_ hnew_
      (first | rw [← Ny808.out] at ho32 | (simp only [Int.reduceToNat] at ho32; rw [← Ny808.out] at ho32))
      (replace HO807 := Aside0.mk (Kd.R_below (qR HO807) hb)); (have HO810 := Aside0.mk (Kd.R_lower (Kd.R_new' ho32 (Kd.R_lt (qR HO813))) (below_size (qS0 HB)))); (replace HO813 := Aside0.mk (Kd.R_elder' (qR HO813) (Kd.R_base ho32) hb)); (replace HB := Aside0.mk (below_step (qS0 HB) hb)); clear hb ho32
      refine hK.out _ _ trivial (fun hHeld => ?_)
      clear hK K
      refine norm_ (a' := ?_) ?_ ?_
      rotate_left
      ·show Act.put _ (some 49) _ = _
       exact qPu
      refine pure_ (i := 6) (N := some 11) (v := ?_) (a' := ?_) #[true, true, true, true, true, true, true, false] rfl rfl (any_of HT_.out (by kernel_rfl)) (fun _ _ _ h => h) (Or.inl ⟨by rfl, ?_⟩) ?_ ?_
      rotate_left
      ·intro w'
       go_simp
       with_reducible rfl
      rotate_left
      ·exact qPu
      exact norm_ (by simp only [putAll, Act.put, List.setIfInBounds_toArray, List.set_cons_zero, List.set_cons_succ]) (hCont (v809, v812) _ ⟨(qR HO807), (by (with_reducible repeat (first | apply Kd.R_alloc | apply Kd.R_drewN | apply Kd.R_drew)); exact Kd.R_mono HO810.out (fun _ hk => hk.2)), (by (with_reducible repeat (first | apply Kd.R_alloc | apply Kd.R_drewN | apply Kd.R_drew)); exact Kd.R_mono HO813.out (fun _ hk => hk.2)), (qS0 HB)⟩)
    rintro ⟨v809, v812⟩ w33 ⟨h0_, h1_, h2_, h3_⟩
    (have n0_ : Aside0 (Kd.R (Kd.int .i64) 3 w33 w.heap.size (fun _ => True) v806 y805) := ⟨h0_⟩); (have n1_ : Aside0 (Kd.R Kd.bool 4 w33 w.heap.size (fun k_ => some k_ ≠ (v812 : Value).ownBlock) v809 y808) := ⟨h1_⟩); (have n2_ : Aside0 (Kd.R Kd.bool 4 w33 w.heap.size (fun k_ => some k_ ≠ (v809 : Value).ownBlock) v812 y811) := ⟨h2_⟩); (have n3_ : Aside0 (Below w.heap.size w w33) := ⟨h3_⟩); clear HO807 HB h0_ h1_ h2_ h3_; (have HO807 := n0_); (have HO810 := n1_); (have HO813 := n2_); (have HB := n3_); clear n0_ n1_ n2_ n3_; (have hHeld := trivial)
    refine norm_ (a' := ?_) ?_ ?_
    rotate_left
    ·simp only [putAll, Act.put, List.setIfInBounds_toArray, List.set_cons_zero, List.set_cons_succ]
     rfl
    refine pure_ (i := 7) (N := some 12) (v := ?_) (a' := ?_) #[true, true, true, true, true, true, true, true] rfl rfl (any_of HT_.out (by kernel_rfl)) (fun _ _ _ h => h) (Or.inl ⟨by rfl, ?_⟩) ?_ ?_
    rotate_left
    ·intro w'
     go_simp
     with_reducible rfl
    rotate_left
    ·exact qPu
    refine done_ (done_of HT_.out (by kernel_rfl)) ?_
    try go_wp2_with (first | ((with_reducible refine gate_callee (f := 110) rfl ?_); refine goesL_ (some 55) rfl rfl Tryz.func110 (by kernel_rfl) rfl #[.int .i64 a0, .slice A1 l1.length c1] rfl qL ?_; (with_reducible refine (impl_coords.calls kj4 a0 _ _ l1 t814 _ ?side1 ?side2 A24.out).mono ?_); (case side1 => exact qW (Kd.C_below HR1.out HB.out)); (case side2 => exact HC1.out); rintro e w34 ⟨v815, rfl, ho0, hb⟩; refine ⟨_, rfl, ?_⟩; replace HO810 := Aside0.mk (Kd.R_below (qR HO810) hb); replace HO813 := Aside0.mk (Kd.R_below (qR HO813) hb); have HO816 := Aside0.mk (Kd.R_lower (Kd.R_new' ho0 (Kd.R_lt (qR HO807))) (below_size (qS0 HB))); replace HO807 := Aside0.mk (Kd.R_elder' (qR HO807) (Kd.R_base ho0) hb); replace HB := Aside0.mk (below_step (qS0 HB) hb); (try clear hb); (try clear hb2); (try clear hk); (try clear hi); (try clear ho0)) | ((with_reducible refine gate_callee (f := 110) rfl ?_); refine goesL_ (some 58) rfl rfl Tryz.func110 (by kernel_rfl) rfl #[.int .i64 a0, .slice A2 l2.length c2] rfl qL ?_; (with_reducible refine (impl_coords.calls kj4 a0 _ _ l2 t817 _ ?side1 ?side2 A25.out).mono ?_); (case side1 => exact qW (Kd.C_below HR2.out HB.out)); (case side2 => exact HC2.out); rintro e w35 ⟨v818, rfl, ho0, hb⟩; refine ⟨_, rfl, ?_⟩; replace HO810 := Aside0.mk (Kd.R_below (qR HO810) hb); replace HO813 := Aside0.mk (Kd.R_below (qR HO813) hb); have HO819 := Aside0.mk (Kd.R_lower (Kd.R_new' (Kd.R_new' ho0 (Kd.R_lt (qR HO807))) (Kd.R_lt (qR HO816))) (below_size (qS0 HB))); replace HO807 := Aside0.mk (Kd.R_elder' (qR HO807) (Kd.R_base ho0) hb); replace HO816 := Aside0.mk (Kd.R_elder' (qR HO816) (Kd.R_base ho0) hb); replace HB := Aside0.mk (below_step (qS0 HB) hb); (try clear hb); (try clear hb2); (try clear hk); (try clear hi); (try clear ho0); obtain ⟨Ao36, co36, eo36⟩ := Kd.R_slice HO816.out; subst eo36))
    go_loopg [61] kj4 (fun kq v61 w' => ∃ (x10_2 : List Int) (x11_2 : List Bool) (x12_2 : List Bool) (x61_2 : Int), v61 = .int .i64 x61_2 ∧ Aside0 (impl_PairDraws.l0 kq l3 x10_2 x11_2 x12_2 t814 t817 (t814.length : Int) x61_2 = some (r1, r2)) ∧ Aside0 (kq ≤ kj4) ∧ Aside0 (Kd.R (Kd.int .i64) 3 w' w.heap.size (fun k_ => some k_ ≠ ((.slice Ao36 t814.length co36) : Value).ownBlock ∧ some k_ ≠ (v818 : Value).ownBlock) v806 x10_2) ∧ Aside0 (Kd.R Kd.bool 4 w' w.heap.size (fun k_ => some k_ ≠ (v812 : Value).ownBlock) v809 x11_2) ∧ Aside0 (Kd.R Kd.bool 4 w' w.heap.size (fun k_ => some k_ ≠ (v809 : Value).ownBlock) v812 x12_2) ∧ Aside0 (Kd.R (Kd.int .i64) 3 w' w.heap.size (fun k_ => some k_ ≠ (v806 : Value).ownBlock ∧ some k_ ≠ (v818 : Value).ownBlock) (.slice Ao36 t814.length co36) t814) ∧ Aside0 (Kd.R (Kd.int .i64) 3 w' w.heap.size (fun k_ => some k_ ≠ (v806 : Value).ownBlock ∧ some k_ ≠ ((.slice Ao36 t814.length co36) : Value).ownBlock) v818 t817) ∧ Aside0 (Below w.heap.size w w'))
    case atStart => exact ⟨(y805), (y808), (y811), (0), qV, H', ⟨Nat.le_refl _⟩, ⟨by (with_reducible repeat (first | apply Kd.R_alloc | apply Kd.R_drewN | apply Kd.R_drew)); exact Kd.R_mono HO807.out (fun _ hk => ⟨hk.1.2, hk.2⟩)⟩, ⟨qR HO810⟩, ⟨qR HO813⟩, ⟨by (with_reducible repeat (first | apply Kd.R_alloc | apply Kd.R_drewN | apply Kd.R_drew)); exact Kd.R_mono HO816.out (fun _ hk => ⟨hk.1.2, hk.2⟩)⟩, ⟨by (with_reducible repeat (first | apply Kd.R_alloc | apply Kd.R_drewN | apply Kd.R_drew)); exact Kd.R_mono HO819.out (fun _ hk => ⟨hk.1.2, hk.2⟩)⟩, ⟨qS0 HB⟩⟩
    case round =>
     clear H'; (try clear c20); (try clear c21b0); (try clear c21b1); (try clear c22b0); (try clear c22b1); (try clear c23b0); (try clear c23b1); (obtain ⟨x10_2, x11_2, x12_2, x61_2, rfl, HA, HK2, HO_10, HO_11, HO_12, HO_13, HO_14, HB⟩ := hrel)
     cases gk with
     | zero => exact absurd HA.out (by simp [impl_PairDraws.l0])
     | succ k2 =>
      (have H := HA.out); clear HA; (simp only [impl_PairDraws.l0] at H)
      rcases qI H with ⟨c37b0, H⟩ | ⟨c37b0, H⟩
      ·obtain ⟨c38b0, H⟩ := qT H
       (obtain ⟨c39b0, H⟩ := qT H); (obtain ⟨c40b0, H⟩ := qT H); (obtain ⟨c41b0, H⟩ := qT H); (obtain ⟨c42b0, H⟩ := qT H); (obtain ⟨c43b0, H⟩ := qT H); (obtain ⟨c44b0, H⟩ := qT H); (obtain ⟨y823, hy823⟩ : ∃ y_ : List Int, y_ = (x10_2.set ((rd t817 x61_2) : Int).toNat (rd l3 (rd t814 x61_2))) := ⟨_, rfl⟩); (replace H : (if (rd t814 x61_2) < (x11_2.length : Int) then (if (rd t817 x61_2) < (x12_2.length : Int) then (impl_PairDraws.l0 k2 l3 y823 (x11_2.set ((rd t814 x61_2) : Int).toNat true) (x12_2.set ((rd t817 x61_2) : Int).toNat true) t814 t817 (t814.length : Int) (wrap64 (x61_2 + 1))) else (none)) else (none)) = some (r1, r2) := qY hy823 H); (have Ny823 := Aside0.mk hy823); clear hy823; (obtain ⟨c46b0, H⟩ := qT H); (obtain ⟨y826, hy826⟩ : ∃ y_ : List Bool, y_ = (x11_2.set ((rd t814 x61_2) : Int).toNat true) := ⟨_, rfl⟩); (replace H : (if (rd t817 x61_2) < (x12_2.length : Int) then (impl_PairDraws.l0 k2 l3 y823 y826 (x12_2.set ((rd t817 x61_2) : Int).toNat true) t814 t817 (t814.length : Int) (wrap64 (x61_2 + 1))) else (none)) = some (r1, r2) := qY hy826 H); (have Ny826 := Aside0.mk hy826); clear hy826; (obtain ⟨c48b0, H⟩ := qT H); (obtain ⟨y827, hy827⟩ : ∃ y_ : List Bool, y_ = (x12_2.set ((rd t817 x61_2) : Int).toNat true) := ⟨_, rfl⟩); (replace H : (impl_PairDraws.l0 k2 l3 y823 y826 y827 t814 t817 (t814.length : Int) (wrap64 (x61_2 + 1))) = some (r1, r2) := qY hy827 H); (have Ny827 := Aside0.mk hy827); clear hy827; (have H' := Aside0.mk H); clear H
       try go_wp2
       (replace HO_10 := Aside0.mk (Kd.R_drew HO_10.out)); (replace HO_11 := Aside0.mk (Kd.R_drew HO_11.out)); (replace HO_12 := Aside0.mk (Kd.R_drew HO_12.out)); (replace HO_13 := Aside0.mk (Kd.R_drew HO_13.out)); (replace HO_14 := Aside0.mk (Kd.R_drew HO_14.out)); (replace HB := Aside0.mk (below_drew1 HB.out)); (obtain ⟨Ao51, co51, eo51⟩ := Kd.R_slice HO_14.out)
       (first | subst eo51 | (injection eo51 with f1_ f2_ f3_; have f4_ := f1_.symm; have f5_ := f3_.symm; clear f1_ f2_ f3_; subst f4_; subst f5_))
       (have p820 : 0 ≤ (x61_2 : Int) := qO); (have q820 : x61_2 < (t817.length : Int) := qO); (obtain ⟨ad820, e820, hx820_0⟩ := Kd.at_int (Kd.R_reads' HO_14.out).2.2 x61_2 p820 q820)
       cases e820
       (replace p820 := eq_true p820); (replace q820 := eq_true q820); (have p821 : 0 ≤ (x61_2 : Int) := qO); (have q821 : x61_2 < (t814.length : Int) := qO); (obtain ⟨ad821, e821, hx821_0⟩ := Kd.at_int (Kd.R_reads' HO_13.out).2.2 x61_2 p821 q821)
       cases e821
       (replace p821 := eq_true p821); (replace q821 := eq_true q821); (have p822 : 0 ≤ ((rd t814 x61_2) : Int) := qO); (have q822 : (rd t814 x61_2) < (l3.length : Int) := qO); (obtain ⟨ad822, e822, hx822_0⟩ := Kd.at_int HR3.out (rd t814 x61_2) p822 q822); (have hw822_0 := hx822_0)
       cases e822
       (replace hx822_0 := qF HB hx822_0); (replace p822 := eq_true p822); (replace q822 := eq_true q822); (have p45 : 0 ≤ ((rd t817 x61_2) : Int) := qO); (have q45 : ((rd t817 x61_2) : Int) < ((x10_2.length : Int) : Int) := qO); (obtain ⟨go45, co45, eo45, gb45, gl45, cl45, HG45⟩ := Kd.R_form HO_10.out (by omega))
       (first | cases eo45 | (injection eo45 with ea_ en_ ec_; (first | subst ea_ | (injection ea_ with ea_; subst ea_)); subst ec_; clear en_))
       (have GB45 := Aside0.mk gb45); (have GG45 := Aside0.mk HG45); clear gb45 gl45 HG45; (obtain ⟨hx45_0, hf45_0⟩ := Kd.R_celln 0 HO_10.out ((rd t817 x61_2) : Int) p45 q45); (replace p45 := eq_true p45); (replace q45 := eq_true q45); (have HP52 := Kd.R_putn HO_10.out ((rd t817 x61_2) : Int) (rd l3 (rd t814 x61_2))); (rw [← Ny823.out] at HP52); (have HQ52 := Aside0.mk HP52); clear HP52
       refine start_ (n := 14) (S := fun w' => w'.cell? (ad820.add (x61_2).toNat) = some (.int .i64 (rd t817 x61_2)) ∧ w'.cell? (ad821.add (x61_2).toNat) = some (.int .i64 (rd t814 x61_2)) ∧ w'.cell? (ad822.add ((rd t814 x61_2)).toNat) = some (.int .i64 (rd l3 (rd t814 x61_2)))) (ds := [13]) #[false, false, false, false, false, false, false, false, false, false, false, false, false, false] (by kernel_rfl) rfl rfl ⟨hx820_0, hx821_0, (qF HB hw822_0)⟩ (fun hHeld => ?_); refine with_tabW impl_PairDraws.tab9 impl_PairDraws.bits9 (fun HT_ HW_ => ?_)
       generalize wr.drew = w50 at HO_10 HO_11 HO_12 HO_13 HO_14 HB GG45 HQ52 hf45_0 hx45_0 hx820_0 hx821_0 hx822_0 hHeld ⊢
       refine pure_ (i := 0) (N := some 64) (v := ?_) (a' := ?_) #[true, false, false, false, false, false, false, false, false, false, false, false, false, false] rfl rfl (any_of HT_.out (by kernel_rfl)) (fun _ _ _ h => h) (Or.inl ⟨by rfl, ?_⟩) ?_ ?_
       rotate_left
       ·intro w'
        go_simp
        with_reducible rfl
       rotate_left
       ·exact qPu
       refine pure_ (i := 1) (N := some 65) (v := ?_) (a' := ?_) #[true, true, false, false, false, false, false, false, false, false, false, false, false, false] rfl rfl (any_of HT_.out (by kernel_rfl)) (fun _ _ _ h => h) (Or.inl ⟨by rfl, ?_⟩) ?_ ?_
       rotate_left
       ·intro w'
        go_simp
        with_reducible rfl
       rotate_left
       ·exact qPu
       refine pure_ (i := 2) (N := some 66) (v := ?_) (a' := ?_) #[true, true, true, false, false, false, false, false, false, false, false, false, false, false] rfl rfl (any_of HT_.out (by kernel_rfl)) (fun _ _ _ h => h) (Or.inl ⟨by rfl, ?_⟩) ?_ ?_
       rotate_left
       ·intro w'
        go_simp
        with_reducible rfl
       rotate_left
       ·exact qPu
       refine pure_ (i := 3) (N := some 67) (v := ?_) (a' := ?_) #[true, true, true, true, false, false, false, false, false, false, false, false, false, false] rfl rfl (any_of HT_.out (by kernel_rfl)) (fun _ _ _ h => h) (Or.inl ⟨by rfl, ?_⟩) ?_ ?_
       rotate_left
       ·intro w'
        go_simp
        with_reducible rfl
       rotate_left
       ·exact qPu
       refine pure_ (i := 5) (N := some 69) (v := ?_) (a' := ?_) #[true, true, true, true, false, true, false, false, false, false, false, false, false, false] rfl rfl (any_of HT_.out (by kernel_rfl)) (fun _ _ _ h => h) (Or.inl ⟨by rfl, ?_⟩) ?_ ?_
       rotate_left
       ·intro w'
        go_simp
        with_reducible rfl
       rotate_left
       ·exact qPu
       refine pure_ (i := 6) (N := some 70) (v := ?_) (a' := ?_) #[true, true, true, true, false, true, true, false, false, false, false, false, false, false] rfl rfl (any_of HT_.out (by kernel_rfl)) (fun _ _ _ h => h) (Or.inl ⟨by rfl, ?_⟩) ?_ ?_
       rotate_left
       ·intro w'
        go_simp
        with_reducible rfl
       rotate_left
       ·exact qPu
       refine pure_ (i := 7) (N := some 71) (v := ?_) (a' := ?_) #[true, true, true, true, false, true, true, true, false, false, false, false, false, false] rfl rfl (any_of HT_.out (by kernel_rfl)) (fun _ _ _ h => h) (Or.inl ⟨by rfl, ?_⟩) ?_ ?_
       rotate_left
       ·intro w'
        go_simp
        with_reducible rfl
       rotate_left
       ·exact qPu
       refine pure_ (i := 8) (N := some 72) (v := ?_) (a' := ?_) #[true, true, true, true, false, true, true, true, true, false, false, false, false, false] rfl rfl (any_of HT_.out (by kernel_rfl)) (fun _ _ _ h => h) (Or.inl ⟨by rfl, ?_⟩) ?_ ?_
       rotate_left
       ·intro w'
        go_simp
        with_reducible rfl
       rotate_left
       ·exact qPu
       refine take_ (i := 4) (N := some 68) (v := ?_) (a' := ?_) #[true, true, true, true, true, true, true, true, true, false, false, false, false, false] rfl rfl (take_ofW HT_.out HW_.out (by kernel_rfl)) (fun _ _ _ h => h) (Or.inl ⟨by rfl, ?_⟩) hHeld ?_ ?_
       rotate_left
       ·rintro w' ⟨s0, s1, s2⟩
        go_simp
        with_reducible rfl
       rotate_left
       ·exact qPu
       refine take_ (i := 9) (N := some 73) (v := ?_) (a' := ?_) #[true, true, true, true, true, true, true, true, true, true, false, false, false, false] rfl rfl (take_ofW HT_.out HW_.out (by kernel_rfl)) (fun _ _ _ h => h) (Or.inl ⟨by rfl, ?_⟩) hHeld ?_ ?_
       rotate_left
       ·rintro w' ⟨s0, s1, s2⟩
        go_simp
        with_reducible rfl
       rotate_left
       ·exact qPu
       refine pure_ (i := 10) (N := some 74) (v := ?_) (a' := ?_) #[true, true, true, true, true, true, true, true, true, true, true, false, false, false] rfl rfl (any_of HT_.out (by kernel_rfl)) (fun _ _ _ h => h) (Or.inl ⟨by rfl, ?_⟩) ?_ ?_
       rotate_left
       ·intro w'
        go_simp
        with_reducible rfl
       rotate_left
       ·exact qPu
       refine take_ (i := 11) (N := some 75) (v := ?_) (a' := ?_) #[true, true, true, true, true, true, true, true, true, true, true, true, false, false] rfl rfl (take_ofW HT_.out HW_.out (by kernel_rfl)) (fun _ _ _ h => h) (Or.inl ⟨by rfl, ?_⟩) hHeld ?_ ?_
       rotate_left
       ·rintro w' ⟨s0, s1, s2⟩
        go_simp
        with_reducible rfl
       rotate_left
       ·exact qPu
       refine pure_ (i := 12) (N := some 76) (v := ?_) (a' := ?_) #[true, true, true, true, true, true, true, true, true, true, true, true, true, false] rfl rfl (any_of HT_.out (by kernel_rfl)) (fun _ _ _ h => h) (Or.inl ⟨by rfl, ?_⟩) ?_ ?_
       rotate_left
       ·intro w'
        go_simp
        with_reducible rfl
       rotate_left
       ·exact qPu
       refine last_ (i := 13) (N := none) #[true, true, true, true, true, true, true, true, true, true, true, true, true, true] rfl rfl (one_of HT_.out (by kernel_rfl)) (by decide) (fun K hK => ?_)
       refine skip_ (w1 := ?_) (by rfl) rfl ?_ ?_
       rotate_left
       ·go_simp
        rfl
       refine hK.out _ _ ?_
       clear hK K
       refine done_ (done_of HT_.out (by kernel_rfl)) ?_
       try go_wp2
       (have n0_ : Aside0 (Kd.R (Kd.int .i64) 3 (w50.setCell ⟨go45, ((rd t817 x61_2) : Int).toNat, none⟩ (.int .i64 (rd l3 (rd t814 x61_2)))) w.heap.size (fun k_ => some k_ ≠ (.slice (some ad821) t814.length co36 : Value).ownBlock ∧ some k_ ≠ (.slice (some ad820) t817.length co51 : Value).ownBlock) (.slice (some ⟨go45, 0, none⟩) x10_2.length co45) y823) := ⟨qR HQ52⟩); (have n1_ : Aside0 (Kd.R Kd.bool 4 (w50.setCell ⟨go45, ((rd t817 x61_2) : Int).toNat, none⟩ (.int .i64 (rd l3 (rd t814 x61_2)))) w.heap.size (fun k_ => some k_ ≠ (v812 : Value).ownBlock) v809 x11_2) := ⟨by (with_reducible repeat (first | apply Kd.R_alloc | apply Kd.R_drewN | apply Kd.R_drew)); exact Kd.R_mono (Kd.R_far (p := ⟨go45, ((rd t817 x61_2) : Int).toNat, none⟩) (Kd.R_types HO_11.out GG45.out (by decide)) (fun _ hk => hk.2) (.int .i64 (rd l3 (rd t814 x61_2)))) (fun _ hk => hk.1)⟩); (have n2_ : Aside0 (Kd.R Kd.bool 4 (w50.setCell ⟨go45, ((rd t817 x61_2) : Int).toNat, none⟩ (.int .i64 (rd l3 (rd t814 x61_2)))) w.heap.size (fun k_ => some k_ ≠ (v809 : Value).ownBlock) v812 x12_2) := ⟨by (with_reducible repeat (first | apply Kd.R_alloc | apply Kd.R_drewN | apply Kd.R_drew)); exact Kd.R_mono (Kd.R_far (p := ⟨go45, ((rd t817 x61_2) : Int).toNat, none⟩) (Kd.R_types HO_12.out GG45.out (by decide)) (fun _ hk => hk.2) (.int .i64 (rd l3 (rd t814 x61_2)))) (fun _ hk => hk.1)⟩); (have n3_ : Aside0 (Kd.R (Kd.int .i64) 3 (w50.setCell ⟨go45, ((rd t817 x61_2) : Int).toNat, none⟩ (.int .i64 (rd l3 (rd t814 x61_2)))) w.heap.size (fun k_ => some k_ ≠ (.slice (some ⟨go45, 0, none⟩) x10_2.length co45 : Value).ownBlock ∧ some k_ ≠ (.slice (some ad820) t817.length co51 : Value).ownBlock) (.slice (some ad821) t814.length co36) t814) := ⟨by (with_reducible repeat (first | apply Kd.R_alloc | apply Kd.R_drewN | apply Kd.R_drew)); exact Kd.R_mono (Kd.R_far (p := ⟨go45, ((rd t817 x61_2) : Int).toNat, none⟩) (Kd.R_mono HO_13.out (fun k_ hk => (⟨hk, fun e_ => hk.1 (by rw [e_]; rfl)⟩ : _ ∧ k_ ≠ go45))) (fun _ hk => hk.2) (.int .i64 (rd l3 (rd t814 x61_2)))) (fun _ hk => ⟨hk.1.1, hk.1.2⟩)⟩); (have n4_ : Aside0 (Kd.R (Kd.int .i64) 3 (w50.setCell ⟨go45, ((rd t817 x61_2) : Int).toNat, none⟩ (.int .i64 (rd l3 (rd t814 x61_2)))) w.heap.size (fun k_ => some k_ ≠ (.slice (some ⟨go45, 0, none⟩) x10_2.length co45 : Value).ownBlock ∧ some k_ ≠ (.slice (some ad821) t814.length co36 : Value).ownBlock) (.slice (some ad820) t817.length co51) t817) := ⟨by (with_reducible repeat (first | apply Kd.R_alloc | apply Kd.R_drewN | apply Kd.R_drew)); exact Kd.R_mono (Kd.R_far (p := ⟨go45, ((rd t817 x61_2) : Int).toNat, none⟩) (Kd.R_mono HO_14.out (fun k_ hk => (⟨hk, fun e_ => hk.1 (by rw [e_]; rfl)⟩ : _ ∧ k_ ≠ go45))) (fun _ hk => hk.2) (.int .i64 (rd l3 (rd t814 x61_2)))) (fun _ hk => ⟨hk.1.1, hk.1.2⟩)⟩); (have n5_ : Aside0 (Below w.heap.size w (w50.setCell ⟨go45, ((rd t817 x61_2) : Int).toNat, none⟩ (.int .i64 (rd l3 (rd t814 x61_2))))) := ⟨qS1 HB GB45⟩); (try clear HO_10); (try clear HO_11); (try clear HO_12); (try clear HO_13); (try clear HO_14); (try clear HB)
       generalize (w50.setCell ⟨go45, ((rd t817 x61_2) : Int).toNat, none⟩ (.int .i64 (rd l3 (rd t814 x61_2)))) = w53 at n0_ n1_ n2_ n3_ n4_ n5_ ⊢
       (have HO_10 := n0_); (have HO_11 := n1_); (have HO_12 := n2_); (have HO_13 := n3_); (have HO_14 := n4_); (have HB := n5_); clear n0_ n1_ n2_ n3_ n4_ n5_; (replace HO_10 := Aside0.mk (Kd.R_drew HO_10.out)); (replace HO_11 := Aside0.mk (Kd.R_drew HO_11.out)); (replace HO_12 := Aside0.mk (Kd.R_drew HO_12.out)); (replace HO_13 := Aside0.mk (Kd.R_drew HO_13.out)); (replace HO_14 := Aside0.mk (Kd.R_drew HO_14.out)); (replace HB := Aside0.mk (below_drew1 HB.out)); (have p824 : 0 ≤ (x61_2 : Int) := qO); (have q824 : x61_2 < (t814.length : Int) := qO); (obtain ⟨ad824, e824, hx824_0⟩ := Kd.at_int (Kd.R_reads' HO_13.out).2.2 x61_2 p824 q824); (obtain rfl : ad821 = ad824 := (by injection e824)); (replace p824 := eq_true p824); (replace q824 := eq_true q824); (have p825 : 0 ≤ (x61_2 : Int) := qO); (have q825 : x61_2 < (t817.length : Int) := qO); (obtain ⟨ad825, e825, hx825_0⟩ := Kd.at_int (Kd.R_reads' HO_14.out).2.2 x61_2 p825 q825); (obtain rfl : ad820 = ad825 := (by injection e825)); (replace p825 := eq_true p825); (replace q825 := eq_true q825); (have p47 : 0 ≤ ((rd t814 x61_2) : Int) := qO); (have q47 : ((rd t814 x61_2) : Int) < ((x11_2.length : Int) : Int) := qO); (obtain ⟨go47, co47, eo47, gb47, gl47, cl47, HG47⟩ := Kd.R_form HO_11.out (by omega))
       (first | cases eo47 | (injection eo47 with ea_ en_ ec_; (first | subst ea_ | (injection ea_ with ea_; subst ea_)); subst ec_; clear en_))
       (have GB47 := Aside0.mk gb47); (have GG47 := Aside0.mk HG47); clear gb47 gl47 HG47; (obtain ⟨hx47_0, hf47_0⟩ := Kd.R_celln false HO_11.out ((rd t814 x61_2) : Int) p47 q47); (replace p47 := eq_true p47); (replace q47 := eq_true q47); (have HP55 := Kd.R_putn HO_11.out ((rd t814 x61_2) : Int) true); (rw [← Ny826.out] at HP55); (have HQ55 := Aside0.mk HP55); clear HP55; (have p49 : 0 ≤ ((rd t817 x61_2) : Int) := qO); (have q49 : ((rd t817 x61_2) : Int) < ((x12_2.length : Int) : Int) := qO); (obtain ⟨go49, co49, eo49, gb49, gl49, cl49, HG49⟩ := Kd.R_form HO_12.out (by omega))
       (first | cases eo49 | (injection eo49 with ea_ en_ ec_; (first | subst ea_ | (injection ea_ with ea_; subst ea_)); subst ec_; clear en_))
       (have GB49 := Aside0.mk gb49); (have GG49 := Aside0.mk HG49); clear gb49 gl49 HG49; (obtain ⟨hx49_0, hf49_0⟩ := Kd.R_celln false (Kd.R_far (p := ⟨go47, ((rd t814 x61_2) : Int).toNat, none⟩) (Kd.R_mono HO_12.out (fun k_ hk => (⟨hk, fun e_ => hk (by rw [e_]; rfl)⟩ : _ ∧ k_ ≠ go47))) (fun _ hk => hk.2) (.bool true)) ((rd t817 x61_2) : Int) p49 q49); (replace p49 := eq_true p49); (replace q49 := eq_true q49); (have HP56 := Kd.R_putn (Kd.R_far (p := ⟨go47, ((rd t814 x61_2) : Int).toNat, none⟩) (Kd.R_mono HO_12.out (fun k_ hk => (⟨hk, fun e_ => hk (by rw [e_]; rfl)⟩ : _ ∧ k_ ≠ go47))) (fun _ hk => hk.2) (.bool true)) ((rd t817 x61_2) : Int) true); (rw [← Ny827.out] at HP56); (have HQ56 := Aside0.mk HP56); clear HP56
       refine start_ (n := 14) (S := fun w' => w'.cell? (ad821.add (x61_2).toNat) = some (.int .i64 (rd t814 x61_2)) ∧ w'.cell? (ad820.add (x61_2).toNat) = some (.int .i64 (rd t817 x61_2))) (ds := [11, 13]) #[false, false, false, false, false, false, false, false, false, false, false, false, false, false] (by kernel_rfl) rfl rfl ⟨hx824_0, hx825_0⟩ (fun hHeld => ?_); refine with_tabW impl_PairDraws.tab10 impl_PairDraws.bits10 (fun HT_ HW_ => ?_)
       generalize w53.drew = w54 at HO_10 HO_11 HO_12 HO_13 HO_14 HB GG47 GG49 HQ52 HQ55 HQ56 hf47_0 hf49_0 hx47_0 hx49_0 hx824_0 hx825_0 hHeld ⊢
       refine pure_ (i := 0) (N := some 77) (v := ?_) (a' := ?_) #[true, false, false, false, false, false, false, false, false, false, false, false, false, false] rfl rfl (any_of HT_.out (by kernel_rfl)) (fun _ _ _ h => h) (Or.inl ⟨by rfl, ?_⟩) ?_ ?_
       rotate_left
       ·intro w'
        go_simp
        with_reducible rfl
       rotate_left
       ·exact qPu
       refine pure_ (i := 1) (N := some 78) (v := ?_) (a' := ?_) #[true, true, false, false, false, false, false, false, false, false, false, false, false, false] rfl rfl (any_of HT_.out (by kernel_rfl)) (fun _ _ _ h => h) (Or.inl ⟨by rfl, ?_⟩) ?_ ?_
       rotate_left
       ·intro w'
        go_simp
        with_reducible rfl
       rotate_left
       ·exact qPu
       refine pure_ (i := 2) (N := some 79) (v := ?_) (a' := ?_) #[true, true, true, false, false, false, false, false, false, false, false, false, false, false] rfl rfl (any_of HT_.out (by kernel_rfl)) (fun _ _ _ h => h) (Or.inl ⟨by rfl, ?_⟩) ?_ ?_
       rotate_left
       ·intro w'
        go_simp
        with_reducible rfl
       rotate_left
       ·exact qPu
       refine pure_ (i := 3) (N := some 80) (v := ?_) (a' := ?_) #[true, true, true, true, false, false, false, false, false, false, false, false, false, false] rfl rfl (any_of HT_.out (by kernel_rfl)) (fun _ _ _ h => h) (Or.inl ⟨by rfl, ?_⟩) ?_ ?_
       rotate_left
       ·intro w'
        go_simp
        with_reducible rfl
       rotate_left
       ·exact qPu
       refine pure_ (i := 5) (N := some 82) (v := ?_) (a' := ?_) #[true, true, true, true, false, true, false, false, false, false, false, false, false, false] rfl rfl (any_of HT_.out (by kernel_rfl)) (fun _ _ _ h => h) (Or.inl ⟨by rfl, ?_⟩) ?_ ?_
       rotate_left
       ·intro w'
        go_simp
        with_reducible rfl
       rotate_left
       ·exact qPu
       refine pure_ (i := 6) (N := some 83) (v := ?_) (a' := ?_) #[true, true, true, true, false, true, true, false, false, false, false, false, false, false] rfl rfl (any_of HT_.out (by kernel_rfl)) (fun _ _ _ h => h) (Or.inl ⟨by rfl, ?_⟩) ?_ ?_
       rotate_left
       ·intro w'
        go_simp
        with_reducible rfl
       rotate_left
       ·exact qPu
       refine pure_ (i := 7) (N := some 84) (v := ?_) (a' := ?_) #[true, true, true, true, false, true, true, true, false, false, false, false, false, false] rfl rfl (any_of HT_.out (by kernel_rfl)) (fun _ _ _ h => h) (Or.inl ⟨by rfl, ?_⟩) ?_ ?_
       rotate_left
       ·intro w'
        go_simp
        with_reducible rfl
       rotate_left
       ·exact qPu
       refine pure_ (i := 8) (N := some 85) (v := ?_) (a' := ?_) #[true, true, true, true, false, true, true, true, true, false, false, false, false, false] rfl rfl (any_of HT_.out (by kernel_rfl)) (fun _ _ _ h => h) (Or.inl ⟨by rfl, ?_⟩) ?_ ?_
       rotate_left
       ·intro w'
        go_simp
        with_reducible rfl
       rotate_left
       ·exact qPu
       refine take_ (i := 4) (N := some 81) (v := ?_) (a' := ?_) #[true, true, true, true, true, true, true, true, true, false, false, false, false, false] rfl rfl (take_ofW HT_.out HW_.out (by kernel_rfl)) (fun _ _ _ h => h) (Or.inl ⟨by rfl, ?_⟩) hHeld ?_ ?_
       rotate_left
       ·rintro w' ⟨s0, s1⟩
        go_simp
        with_reducible rfl
       rotate_left
       ·exact qPu
       refine take_ (i := 9) (N := some 86) (v := ?_) (a' := ?_) #[true, true, true, true, true, true, true, true, true, true, false, false, false, false] rfl rfl (take_ofW HT_.out HW_.out (by kernel_rfl)) (fun _ _ _ h => h) (Or.inl ⟨by rfl, ?_⟩) hHeld ?_ ?_
       rotate_left
       ·rintro w' ⟨s0, s1⟩
        go_simp
        with_reducible rfl
       rotate_left
       ·exact qPu
       refine pure_ (i := 10) (N := some 87) (v := ?_) (a' := ?_) #[true, true, true, true, true, true, true, true, true, true, true, false, false, false] rfl rfl (any_of HT_.out (by kernel_rfl)) (fun _ _ _ h => h) (Or.inl ⟨by rfl, ?_⟩) ?_ ?_
       rotate_left
       ·intro w'
        go_simp
        with_reducible rfl
       rotate_left
       ·exact qPu
       refine last_ (i := 11) (N := none) #[true, true, true, true, true, true, true, true, true, true, true, true, false, false] rfl rfl (one_of HT_.out (by kernel_rfl)) (by decide) (fun K hK => ?_)
       refine skip_ (w1 := ?_) (by rfl) rfl ?_ ?_
       rotate_left
       ·go_simp
        rfl
       refine hK.out _ _ ?_
       clear hK K
       refine pure_ (i := 12) (N := some 88) (v := ?_) (a' := ?_) #[true, true, true, true, true, true, true, true, true, true, true, true, true, false] rfl rfl (any_of HT_.out (by kernel_rfl)) (fun _ _ _ h => h) (Or.inl ⟨by rfl, ?_⟩) ?_ ?_
       rotate_left
       ·intro w'
        go_simp
        with_reducible rfl
       rotate_left
       ·exact qPu
       refine last_ (i := 13) (N := none) #[true, true, true, true, true, true, true, true, true, true, true, true, true, true] rfl rfl (one_of HT_.out (by kernel_rfl)) (by decide) (fun K hK => ?_)
       refine skip_ (w1 := ?_) (by rfl) rfl ?_ ?_
       rotate_left
       ·go_simp
        rfl
       refine hK.out _ _ ?_
       clear hK K
       refine done_ (done_of HT_.out (by kernel_rfl)) ?_
       try go_wp2
       go_roundg k2
       case measure => have := HJ4.out; have := HK2.out; omega
       case rel => exact ⟨(y823), (y826), (y827), (wrap64 (x61_2 + 1)), qV, H', ⟨by have := HJ4.out; have := HK2.out; omega⟩, ⟨by (with_reducible repeat (first | apply Kd.R_alloc | apply Kd.R_drewN | apply Kd.R_drew)); exact Kd.R_mono (Kd.R_far (p := ⟨go49, ((rd t817 x61_2) : Int).toNat, none⟩) (Kd.R_far (p := ⟨go47, ((rd t814 x61_2) : Int).toNat, none⟩) (Kd.R_types (Kd.R_types HO_10.out GG47.out (by decide)) GG49.out (by decide)) (fun _ hk => hk.1.2) (.bool true)) (fun _ hk => hk.2) (.bool true)) (fun _ hk => ⟨hk.1.1.1, hk.1.1.2⟩)⟩, ⟨by (with_reducible repeat (first | apply Kd.R_alloc | apply Kd.R_drewN | apply Kd.R_drew)); exact Kd.R_mono (Kd.R_far (p := ⟨go49, ((rd t817 x61_2) : Int).toNat, none⟩) (Kd.R_mono HQ55.out (fun k_ hk => (⟨hk, fun e_ => hk (by rw [e_]; rfl)⟩ : _ ∧ k_ ≠ go49))) (fun _ hk => hk.2) (.bool true)) (fun _ hk => hk.1)⟩, ⟨by (with_reducible repeat (first | apply Kd.R_alloc | apply Kd.R_drewN | apply Kd.R_drew)); exact Kd.R_mono HQ56.out (fun _ hk => hk.1)⟩, ⟨by (with_reducible repeat (first | apply Kd.R_alloc | apply Kd.R_drewN | apply Kd.R_drew)); exact Kd.R_mono (Kd.R_far (p := ⟨go49, ((rd t817 x61_2) : Int).toNat, none⟩) (Kd.R_far (p := ⟨go47, ((rd t814 x61_2) : Int).toNat, none⟩) (Kd.R_types (Kd.R_types HO_13.out GG47.out (by decide)) GG49.out (by decide)) (fun _ hk => hk.1.2) (.bool true)) (fun _ hk => hk.2) (.bool true)) (fun _ hk => ⟨hk.1.1.1, hk.1.1.2⟩)⟩, ⟨by (with_reducible repeat (first | apply Kd.R_alloc | apply Kd.R_drewN | apply Kd.R_drew)); exact Kd.R_mono (Kd.R_far (p := ⟨go49, ((rd t817 x61_2) : Int).toNat, none⟩) (Kd.R_far (p := ⟨go47, ((rd t814 x61_2) : Int).toNat, none⟩) (Kd.R_types (Kd.R_types HO_14.out GG47.out (by decide)) GG49.out (by decide)) (fun _ hk => hk.1.2) (.bool true)) (fun _ hk => hk.2) (.bool true)) (fun _ hk => ⟨hk.1.1.1, hk.1.1.2⟩)⟩, ⟨qS2 HB GB47 GB49⟩⟩
      ·have H' := Aside0.mk H
       clear H; (obtain ⟨Ao57, co57, eo57⟩ := Kd.R_slice HO_10.out); (subst eo57)
       go_wp2
       go_loopg [16, 92] k2 (fun kq v16 v92 w' => ∃ (x10_3 : List Int) (x16_3 : Int) (x92_3 : Int), v16 = .int .i64 x16_3 ∧ v92 = .int .i64 x92_3 ∧ Aside0 (impl_PairDraws.l1 kq l3 x10_3 x11_2 x12_2 x16_3 (x10_2.length : Int) x92_3 = some (r1, r2)) ∧ Aside0 (kq ≤ k2) ∧ Aside0 (Kd.R (Kd.int .i64) 3 w' w.heap.size (fun _ => True) (.slice Ao57 x10_2.length co57) x10_3) ∧ Aside0 (Kd.R Kd.bool 4 w' w.heap.size (fun k_ => some k_ ≠ (v812 : Value).ownBlock) v809 x11_2) ∧ Aside0 (Kd.R Kd.bool 4 w' w.heap.size (fun k_ => some k_ ≠ (v809 : Value).ownBlock) v812 x12_2) ∧ Aside0 (Below w.heap.size w w'))
       case atStart => exact ⟨(x10_2), (0), (0), qV, qV, H', ⟨Nat.le_refl _⟩, ⟨by (with_reducible repeat (first | apply Kd.R_alloc | apply Kd.R_drewN | apply Kd.R_drew)); exact Kd.R_mono HO_10.out (fun _ hk => trivial)⟩, ⟨qR HO_11⟩, ⟨qR HO_12⟩, ⟨qS0 HB⟩⟩
       case round =>
        clear H'; (try clear hx4); (try clear hf4); (try clear hx8); (try clear c37b0); (try clear c38b0); (try clear c39b0); (try clear c40b0); (try clear c41b0); (try clear c42b0); (try clear c43b0); (try clear c44b0); (try clear p45); (try clear q45); (try clear hx45); (try clear hf45); (try clear c46b0); (try clear p47); (try clear q47); (try clear hx47); (try clear hf47); (try clear c48b0); (try clear p49); (try clear q49); (try clear hx49); (try clear hf49); (try clear hx45_0); (try clear hx47_0); (try clear hx49_0); (try clear hx820_0); (try clear hx821_0); (try clear hx822_0); (try clear hx824_0); (try clear hx825_0); (try clear p820); (try clear p821); (try clear p822); (try clear p824); (try clear p825); (try clear q820); (try clear q821); (try clear q822); (try clear q824); (try clear q825); (obtain ⟨x10_3, x16_3, x92_3, rfl, rfl, HA, HK3, HO_10, HO_11, HO_12, HB⟩ := hrel); (have hl10_3 := (Kd.R_reads' HO_10.out).1); (rw [hl10_3] at HO_10); (try simp only [hl10_3]); (try simp only [hl10_3] at HO_11); (try simp only [hl10_3] at HO_12)
        cases gk with
        | zero => exact absurd HA.out (by simp [impl_PairDraws.l1])
        | succ k3 =>
         (have H := HA.out); clear HA; (simp only [impl_PairDraws.l1] at H)
         rcases qI H with ⟨c58b0, H⟩ | ⟨c58b0, H⟩
         ·(try simp only [hl10_3] at c58b0)
          (obtain ⟨c59b0, H⟩ := qT H); (obtain ⟨c60b0, H⟩ := qT H); (obtain ⟨bq61, hbq61⟩ : ∃ b_ : Bool, b_ = (rdOf false x12_2 x92_3) := ⟨_, rfl⟩); (replace H : (if bq61 = true then (impl_PairDraws.l1 k3 l3 x10_3 x11_2 x12_2 x16_3 (x10_2.length : Int) (wrap64 (x92_3 + 1))) else (impl_PairDraws.l2 k3 l3 x10_3 x11_2 x12_2 x16_3 x92_3 (x10_2.length : Int) x92_3)) = some (r1, r2) := by rw [← hbq61] at H; exact H); (have Nbq61 := Aside0.mk hbq61); clear hbq61
          by_cases c62 : bq61 = true
          ·subst c62
           (have H1 : (impl_PairDraws.l1 k3 l3 x10_3 x11_2 x12_2 x16_3 (x10_2.length : Int) (wrap64 (x92_3 + 1))) = some (r1, r2) := by rw [if_pos rfl] at H; exact H); clear H; (have H := H1); clear H1; (have H' := Aside0.mk H); clear H; (obtain ⟨Ao63, co63, eo63⟩ := Kd.R_slice HO_12.out); (subst eo63); (have p828 : 0 ≤ (x92_3 : Int) := qO); (have q828 : x92_3 < (x12_2.length : Int) := qO); (obtain ⟨ad828, e828, hx828_0⟩ := Kd.at_bool (Kd.R_reads' HO_12.out).2.2 x92_3 p828 q828); (try rw [← Nbq61.out] at hx828_0); (try rw [← Nbq61.out] at hw828_0)
           cases e828
           (replace p828 := eq_true p828); (replace q828 := eq_true q828)
           go_wp2
           (try simp only [← hl10_3])
           go_roundg k3
           case measure => have := HJ4.out; have := HK2.out; have := HK3.out; omega
           case rel => exact ⟨(x10_3), (x16_3), (wrap64 (x92_3 + 1)), qV, qV, H', ⟨by have := HJ4.out; have := HK2.out; have := HK3.out; omega⟩, ⟨by (try simp only [hl10_3]); (with_reducible repeat (first | apply Kd.R_alloc | apply Kd.R_drewN | apply Kd.R_drew)); exact HO_10.out⟩, ⟨by (try simp only [hl10_3]); (with_reducible repeat (first | apply Kd.R_alloc | apply Kd.R_drewN | apply Kd.R_drew)); exact HO_11.out⟩, ⟨by (try simp only [hl10_3]); (with_reducible repeat (first | apply Kd.R_alloc | apply Kd.R_drewN | apply Kd.R_drew)); exact HO_12.out⟩, ⟨qS0 HB⟩⟩
          ·replace c62 := Bool.eq_false_iff.mpr c62
           (subst c62); (have H1 : (impl_PairDraws.l2 k3 l3 x10_3 x11_2 x12_2 x16_3 x92_3 (x10_2.length : Int) x92_3) = some (r1, r2) := by rw [if_neg (show ¬ (false = true) by decide)] at H; exact H); clear H; (have H := H1); clear H1; (have H' := Aside0.mk H); clear H; (obtain ⟨Ao64, co64, eo64⟩ := Kd.R_slice HO_12.out); (subst eo64); (have p828 : 0 ≤ (x92_3 : Int) := qO); (have q828 : x92_3 < (x12_2.length : Int) := qO); (obtain ⟨ad828, e828, hx828_0⟩ := Kd.at_bool (Kd.R_reads' HO_12.out).2.2 x92_3 p828 q828); (try rw [← Nbq61.out] at hx828_0); (try rw [← Nbq61.out] at hw828_0)
           cases e828
           (replace p828 := eq_true p828); (replace q828 := eq_true q828)
           go_wp2
           go_loopg [16] k3 (fun kq v16 w' => ∃ (x16_4 : Int), v16 = .int .i64 x16_4 ∧ Aside0 (impl_PairDraws.l2 kq l3 x10_3 x11_2 x12_2 x16_4 x92_3 (x10_2.length : Int) x92_3 = some (r1, r2)) ∧ Aside0 (kq ≤ k3) ∧ Aside0 (Kd.R (Kd.int .i64) 3 w' w.heap.size (fun _ => True) (.slice Ao57 x10_3.length co57) x10_3) ∧ Aside0 (Kd.R Kd.bool 4 w' w.heap.size (fun k_ => some k_ ≠ ((.slice (some ad828) x12_2.length co64) : Value).ownBlock) v809 x11_2) ∧ Aside0 (Kd.R Kd.bool 4 w' w.heap.size (fun k_ => some k_ ≠ (v809 : Value).ownBlock) (.slice (some ad828) x12_2.length co64) x12_2) ∧ Aside0 (Below w.heap.size w w'))
           case atStart => exact ⟨(x16_3), qV, H', ⟨Nat.le_refl _⟩, ⟨by (try simp only [hl10_3]); (with_reducible repeat (first | apply Kd.R_alloc | apply Kd.R_drewN | apply Kd.R_drew)); exact HO_10.out⟩, ⟨by (try simp only [hl10_3]); (with_reducible repeat (first | apply Kd.R_alloc | apply Kd.R_drewN | apply Kd.R_drew)); exact HO_11.out⟩, ⟨by (try simp only [hl10_3]); (with_reducible repeat (first | apply Kd.R_alloc | apply Kd.R_drewN | apply Kd.R_drew)); exact HO_12.out⟩, ⟨qS0 HB⟩⟩
           case round =>
            clear H'; (try clear c58b0); (try clear c59b0); (try clear c60b0); (try clear c62); (try clear hx828_0); (try clear p828); (try clear q828); (obtain ⟨x16_4, rfl, HA, HK4, HO_10, HO_11, HO_12, HB⟩ := hrel)
            cases gk with
            | zero => exact absurd HA.out (by simp [impl_PairDraws.l2])
            | succ k4 =>
             (have H := HA.out); clear HA; (simp only [impl_PairDraws.l2] at H); (obtain ⟨c65b0, H⟩ := qT H); (obtain ⟨c66b0, H⟩ := qT H); (obtain ⟨bq67, hbq67⟩ : ∃ b_ : Bool, b_ = (rdOf false x11_2 x16_4) := ⟨_, rfl⟩); (replace H : (if bq67 = true then (impl_PairDraws.l2 k4 l3 x10_3 x11_2 x12_2 (wrap64 (x16_4 + 1)) x92_3 (x10_2.length : Int) x92_3) else (if x16_4 < (l3.length : Int) then (if 0 ≤ x92_3 then (if x92_3 < (x10_3.length : Int) then (impl_PairDraws.l1 k4 l3 (x10_3.set (x92_3 : Int).toNat (rd l3 x16_4)) x11_2 x12_2 (wrap64 (x16_4 + 1)) (x10_2.length : Int) (wrap64 (x92_3 + 1))) else (none)) else (none)) else (none))) = some (r1, r2) := by rw [← hbq67] at H; exact H); (have Nbq67 := Aside0.mk hbq67); clear hbq67
             by_cases c68 : bq67 = true
             ·subst c68
              (have H1 : (impl_PairDraws.l2 k4 l3 x10_3 x11_2 x12_2 (wrap64 (x16_4 + 1)) x92_3 (x10_2.length : Int) x92_3) = some (r1, r2) := by rw [if_pos rfl] at H; exact H); clear H; (have H := H1); clear H1; (have H' := Aside0.mk H); clear H; (obtain ⟨Ao69, co69, eo69⟩ := Kd.R_slice HO_11.out); (subst eo69); (have p829 : 0 ≤ (x16_4 : Int) := qO); (have q829 : x16_4 < (x11_2.length : Int) := qO); (obtain ⟨ad829, e829, hx829_0⟩ := Kd.at_bool (Kd.R_reads' HO_11.out).2.2 x16_4 p829 q829); (try rw [← Nbq61.out] at hx829_0); (try rw [← Nbq61.out] at hw829_0); (try rw [← Nbq67.out] at hx829_0); (try rw [← Nbq67.out] at hw829_0)
              cases e829
              (replace p829 := eq_true p829); (replace q829 := eq_true q829)
              go_wp2
              go_roundg k4
              case measure => have := HJ4.out; have := HK2.out; have := HK3.out; have := HK4.out; omega
              case rel => exact ⟨(wrap64 (x16_4 + 1)), qV, H', ⟨by have := HJ4.out; have := HK2.out; have := HK3.out; have := HK4.out; omega⟩, ⟨by (try simp only [hl10_3]); (with_reducible repeat (first | apply Kd.R_alloc | apply Kd.R_drewN | apply Kd.R_drew)); exact HO_10.out⟩, ⟨by (try simp only [hl10_3]); (with_reducible repeat (first | apply Kd.R_alloc | apply Kd.R_drewN | apply Kd.R_drew)); exact HO_11.out⟩, ⟨by (try simp only [hl10_3]); (with_reducible repeat (first | apply Kd.R_alloc | apply Kd.R_drewN | apply Kd.R_drew)); exact HO_12.out⟩, ⟨qS0 HB⟩⟩
             ·replace c68 := Bool.eq_false_iff.mpr c68
              (subst c68); (have H1 : (if x16_4 < (l3.length : Int) then (if 0 ≤ x92_3 then (if x92_3 < (x10_3.length : Int) then (impl_PairDraws.l1 k4 l3 (x10_3.set (x92_3 : Int).toNat (rd l3 x16_4)) x11_2 x12_2 (wrap64 (x16_4 + 1)) (x10_2.length : Int) (wrap64 (x92_3 + 1))) else (none)) else (none)) else (none)) = some (r1, r2) := by rw [if_neg (show ¬ (false = true) by decide)] at H; exact H); clear H; (have H := H1); clear H1; (obtain ⟨c70b0, H⟩ := qT H); (obtain ⟨c71b0, H⟩ := qT H); (obtain ⟨c72b0, H⟩ := qT H); (obtain ⟨y831, hy831⟩ : ∃ y_ : List Int, y_ = (x10_3.set (x92_3 : Int).toNat (rd l3 x16_4)) := ⟨_, rfl⟩); (replace H : (impl_PairDraws.l1 k4 l3 y831 x11_2 x12_2 (wrap64 (x16_4 + 1)) (x10_2.length : Int) (wrap64 (x92_3 + 1))) = some (r1, r2) := qY hy831 H); (have Ny831 := Aside0.mk hy831); clear hy831; (have H' := Aside0.mk H); clear H; (obtain ⟨Ao74, co74, eo74⟩ := Kd.R_slice HO_11.out); (subst eo74); (have p829 : 0 ≤ (x16_4 : Int) := qO); (have q829 : x16_4 < (x11_2.length : Int) := qO); (obtain ⟨ad829, e829, hx829_0⟩ := Kd.at_bool (Kd.R_reads' HO_11.out).2.2 x16_4 p829 q829); (try rw [← Nbq61.out] at hx829_0); (try rw [← Nbq61.out] at hw829_0); (try rw [← Nbq67.out] at hx829_0); (try rw [← Nbq67.out] at hw829_0)
              cases e829
              (replace p829 := eq_true p829); (replace q829 := eq_true q829); (have p830 : 0 ≤ (x16_4 : Int) := qO); (have q830 : x16_4 < (l3.length : Int) := qO); (obtain ⟨ad830, e830, hx830_0⟩ := Kd.at_int HR3.out x16_4 p830 q830)
              cases e830
              (replace hx830_0 := qF HB hx830_0); (replace p830 := eq_true p830); (replace q830 := eq_true q830); (have p73 : 0 ≤ (x92_3 : Int) := qO); (have q73 : (x92_3 : Int) < ((x10_3.length : Int) : Int) := qO); (obtain ⟨go73, co73, eo73, gb73, gl73, cl73, HG73⟩ := Kd.R_form HO_10.out (by omega))
              (first | cases eo73 | (injection eo73 with ea_ en_ ec_; (first | subst ea_ | (injection ea_ with ea_; subst ea_)); subst ec_; clear en_))
              (have GB73 := Aside0.mk gb73); (have GG73 := Aside0.mk HG73); clear gb73 gl73 HG73; (obtain ⟨hx73_0, hf73_0⟩ := Kd.R_celln 0 HO_10.out (x92_3 : Int) p73 q73); (replace p73 := eq_true p73); (replace q73 := eq_true q73); (have HP75 := Kd.R_putg HO_10.out (x92_3 : Int) (rd l3 x16_4))
              go_wp2_with (first | ((with_reducible refine gate_store (t := 3) (p := 111) rfl ?_); refine store_event (t := 3) (p := 111) (v := ?vo_w76) (w1 := (wr.setCell ⟨go73, (x92_3 : Int).toNat, none⟩ (.int .i64 (rd l3 x16_4)))) ?hg ?ho ?hn ?hr ?_; (case ho => rfl); (case hg => rfl); (case hn => rfl); (case hr => first | (go_simp; done) | (go_simp; rfl)); intro w76 hw; have hg : wr.grownBy w76 (some go73) := (by rw [hw]; exact HP75.2); have hp_ : Kd.R (Kd.int .i64) 3 w76 w.heap.size (fun _ => True) (.slice (some ⟨go73, 0, none⟩) x10_3.length co57) y831 := (by rw [hw, Ny831.out]; exact HP75.1); clear HP75; replace HO_11 := Aside0.mk (Kd.R_over' (v := (.slice (some ⟨go73, 0, none⟩) x10_3.length co57)) (qR HO_11) (Kd.R_typed HO_10.out) (by decide) hg); replace HO_12 := Aside0.mk (Kd.R_over' (v := (.slice (some ⟨go73, 0, none⟩) x10_3.length co57)) (qR HO_12) (Kd.R_typed HO_10.out) (by decide) hg); replace HO_10 := Aside0.mk (hp_); replace HB := Aside0.mk ((by rw [hw]; exact below_set (HB.out) GB73.out : Below w.heap.size w w76)); clear hg hw hp_))
              (try simp only [← hl10_3])
              go_roundg k4
              case measure => have := HJ4.out; have := HK2.out; have := HK3.out; have := HK4.out; omega
              case rel => exact ⟨(y831), (wrap64 (x16_4 + 1)), (wrap64 (x92_3 + 1)), qV, qV, H', ⟨by have := HJ4.out; have := HK2.out; have := HK3.out; have := HK4.out; omega⟩, ⟨by (try simp only [hl10_3]); (with_reducible repeat (first | apply Kd.R_alloc | apply Kd.R_drewN | apply Kd.R_drew)); exact HO_10.out⟩, ⟨by (try simp only [hl10_3]); (with_reducible repeat (first | apply Kd.R_alloc | apply Kd.R_drewN | apply Kd.R_drew)); exact HO_11.out⟩, ⟨by (try simp only [hl10_3]); (with_reducible repeat (first | apply Kd.R_alloc | apply Kd.R_drewN | apply Kd.R_drew)); exact HO_12.out⟩, ⟨qS0 HB⟩⟩
         ·(try simp only [hl10_3] at c58b0)
          (simp only [Option.some.injEq, Prod.mk.injEq] at H); (obtain ⟨rfl, rfl⟩ := H)
          go_wp2
          go_ret2
          exact ⟨_, qE, qR HO_10, qS0 HB⟩
end Go.Proofs.YtppopmajclmhjaaGreatDoor.QB
