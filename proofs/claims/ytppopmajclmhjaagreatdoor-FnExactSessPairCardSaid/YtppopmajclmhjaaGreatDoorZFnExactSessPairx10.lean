/- Part of the proof of the law FnExactSessPair: what it uses of the texts that this session and the kit's print wrote. -/
import Derived.Test.YtppopmajclmhjaaGreatDoorZFnExactSessPairx2
import Derived.Test.YtppopmajclmhjaaGreatDoorZFnExactSessPairx6
import Derived.Test.YtppopmajclmhjaaGreatDoorZFnExactSessPairx8
import Derived.Test.YtppopmajclmhjaaGreatDoorZFnExactSessPairx9
namespace Go.Proofs.YtppopmajclmhjaaGreatDoor.QB
open Go.RowKit Go.Proofs.YtppopmajclmhjaaGreatDoorW.PrintWords Go.Proofs.YtppopmajclmhjaaGreatDoorW.PrintLast Go.Proofs.YtppopmajclmhjaaGreatDoorW.PrintMore
attribute [local go_sem] max2_int min2_int max_two min_two max_three min_three max_four min_four
set_option linter.unusedVariables false
set_option linter.unusedSimpArgs false
set_option maxHeartbeats 8000000
set_option maxRecDepth 100000
mutual
def impl_sessPair.l0 : Nat → List Int → List Int → List Int → List Int → List Int → Int → Int → Option (List Int)
 | 0, _, _, _, _, _, _, _ => none
 | k + 1, x9, x11, x12, x14, x56, x57, x58 => if x58 < x57 then (if 0 ≤ x58 then (if x58 < (x56.length : Int) then (if x58 < (x12.length : Int) then (if 0 ≤ (rd x56 x58) then (if (rd x56 x58) < (x9.length : Int) then (impl_sessPair.l0 k (x9.set ((rd x56 x58) : Int).toNat (rd x12 x58)) x11 x12 x14 x56 x57 (wrap64 (x58 + 1))) else (none)) else (none)) else (none)) else (none)) else (none)) else (impl_sessPair.l1 k x9 x14 x11 (x11.length : Int) 0)
def impl_sessPair.l1 : Nat → List Int → List Int → List Int → Int → Int → Option (List Int)
 | 0, _, _, _, _, _ => none
 | k + 1, x9, x14, x71, x72, x73 => if x73 < x72 then (if 0 ≤ x73 then (if x73 < (x71.length : Int) then (if x73 < (x14.length : Int) then (if 0 ≤ (rd x71 x73) then (if (rd x71 x73) < (x9.length : Int) then (impl_sessPair.l1 k (x9.set ((rd x71 x73) : Int).toNat (rd x14 x73)) x14 x71 x72 (wrap64 (x73 + 1))) else (none)) else (none)) else (none)) else (none)) else (none)) else (some x9)
end
def impl_sessPair.f (k : Nat) (a0_0 : Int) (a0_1 : Int) (a0_2 : Int) (a0_3 : Int) (l1 : List Int) (l2 : List Int) (l3 : List Int) : Option (List Int) := (slices_Clone_int_int.f l3).bind fun t833 => ((impl_drawPlaces.f k a0_0 a0_1 a0_2 a0_3 (l1.length : Int)).bind fun bt836 => (if 0 ≤ (wrap64 (a0_1 - 2)) then ((impl_smallIds.f k l1).bind fun t842 => ((impl_smallIds.f k l2).bind fun t845 => ((impl_drawsAt.f k l3 bt836.1).bind fun t848 => ((impl_PairDraws.f k (shl .i64 1 (wrap64 (a0_1 - 2))) t842 t845 t848).bind fun bt851 => (if 0 ≤ a0_1 then ((impl_drawsAt.f k l3 bt836.2).bind fun t855 => ((impl_PairDraws.f k (shl .i64 1 a0_1) l1 l2 t855).bind fun bt858 => (impl_sessPair.l0 k t833 bt836.2 bt851.1 bt858.1 bt836.1 (bt836.1.length : Int) 0))) else (none)))))) else (none)))
def impl_sessPair.T3 : Bool × List (List Nat × List Nat) := (true, [([], []), ([0], [0]), ([1], [1]), ([2], [2]), ([], []), ([4], [4]), ([], []), ([6, 5], [6]), ([], []), ([], []), ([8, 9, 7], [8, 9]), ([3, 5, 7, 10, 10], [3, 5, 7, 10]), ([11], [11]), ([12], [12]), ([12], [12]), ([13, 11, 0, 1, 2, 3, 4, 5, 6, 7, 8, 9, 10, 11, 12, 13], [13]), ([14, 15, 0, 1, 2, 3, 4, 5, 6, 7, 8, 9, 10, 11, 12, 13, 14, 15], [14])])
def impl_sessPair.B3 : List Nat := [0, 1, 3, 7, 0, 16, 0, 112, 0, 0, 1008, 2047, 4095, 8191, 8191, 16383, 65535]
theorem impl_sessPair.tab3 : rtab .any (opsOf Tryz.f45 3) = impl_sessPair.T3 := by kernel_rfl
theorem impl_sessPair.bits3 : waitsOk impl_sessPair.T3.2 impl_sessPair.B3 = true := by kernel_rfl
def impl_sessPair.T4 : Bool × List (List Nat × List Nat) := (true, [([], []), ([0], [0]), ([1], [1]), ([], []), ([], []), ([], []), ([], []), ([5, 6], [5, 6]), ([2, 3, 4, 7, 7], [2, 3, 4, 7]), ([8], [8]), ([9], [9]), ([9], [9]), ([10, 8, 0, 1, 2, 3, 4, 5, 6, 7, 8, 9, 10], [10]), ([11, 12, 0, 1, 2, 3, 4, 5, 6, 7, 8, 9, 10, 11, 12], [11])])
def impl_sessPair.B4 : List Nat := [0, 1, 3, 0, 0, 0, 0, 96, 255, 511, 1023, 1023, 2047, 8191]
theorem impl_sessPair.tab4 : rtab .any (opsOf Tryz.f45 4) = impl_sessPair.T4 := by kernel_rfl
theorem impl_sessPair.bits4 : waitsOk impl_sessPair.T4.2 impl_sessPair.B4 = true := by kernel_rfl
theorem impl_sessPair.calls (k : Nat) (a0_0 : Int) (a0_1 : Int) (a0_2 : Int) (a0_3 : Int) (A1 : Option Addr) (c1 : Nat) (l1 : List Int) (A2 : Option Addr) (c2 : Nat) (l2 : List Int) (A3 : Option Addr) (c3 : Nat) (l3 : List Int) (r : List Int) (w : World) (hr1 : Kd.C (Kd.int .i64) w A1 l1.length l1) (hc1 : l1.length ≤ c1) (hr2 : Kd.C (Kd.int .i64) w A2 l2.length l2) (hc2 : l2.length ≤ c2) (hr3 : Kd.C (Kd.int .i64) w A3 l3.length l3) (hc3 : l3.length ≤ c3) (h : impl_sessPair.f k a0_0 a0_1 a0_2 a0_3 l1 l2 l3 = some r) :
  Calls Tryz.prog 45 #[.agg #[.int .i64 a0_0, .int .i64 a0_1, .int .i64 a0_2, .int .i64 a0_3], .slice A1 l1.length c1, .slice A2 l2.length c2, .slice A3 l3.length c3] w fun e w' => ∃ v0_ : Value, e = .returned (v0_) ∧ Kd.R (Kd.int .i64) 3 w' w.heap.size (fun _ => True) v0_ r ∧ Below w.heap.size w w' := by
 (have hu29 := Tryz.underlying29); (have HR1 := Aside0.mk hr1); (have HC1 := Aside0.mk hc1); clear hr1 hc1; (have HR2 := Aside0.mk hr2); (have HC2 := Aside0.mk hc2); clear hr2 hc2; (have HR3 := Aside0.mk hr3); (have HC3 := Aside0.mk hc3); clear hr3 hc3; (have HB := Aside0.mk (Below.refl w.heap.size w)); (have H : ((slices_Clone_int_int.f l3).bind fun t833 => ((impl_drawPlaces.f k a0_0 a0_1 a0_2 a0_3 (l1.length : Int)).bind fun bt836 => (if 0 ≤ (wrap64 (a0_1 - 2)) then ((impl_smallIds.f k l1).bind fun t842 => ((impl_smallIds.f k l2).bind fun t845 => ((impl_drawsAt.f k l3 bt836.1).bind fun t848 => ((impl_PairDraws.f k (shl .i64 1 (wrap64 (a0_1 - 2))) t842 t845 t848).bind fun bt851 => (if 0 ≤ a0_1 then ((impl_drawsAt.f k l3 bt836.2).bind fun t855 => ((impl_PairDraws.f k (shl .i64 1 a0_1) l1 l2 t855).bind fun bt858 => (impl_sessPair.l0 k t833 bt836.2 bt851.1 bt858.1 bt836.1 (bt836.1.length : Int) 0))) else (none)))))) else (none)))) = some r := h); clear h; (obtain ⟨t833, A5, H⟩ := qX H)
 try dsimp only at H
 obtain ⟨⟨t836, t839⟩, A6, H⟩ := qX H
 try dsimp only at H
 (obtain ⟨ji7, hji7⟩ : ∃ j_ : Int, (wrap64 (a0_1 - 2)) = j_ := ⟨_, rfl⟩); (replace H : (if 0 ≤ (ji7) then ((impl_smallIds.f k l1).bind fun t842 => ((impl_smallIds.f k l2).bind fun t845 => ((impl_drawsAt.f k l3 t836).bind fun t848 => ((impl_PairDraws.f k (shl .i64 1 (ji7)) t842 t845 t848).bind fun bt851 => (if 0 ≤ a0_1 then ((impl_drawsAt.f k l3 t839).bind fun t855 => ((impl_PairDraws.f k (shl .i64 1 a0_1) l1 l2 t855).bind fun bt858 => (impl_sessPair.l0 k t833 t839 bt851.1 bt858.1 t836 (t836.length : Int) 0))) else (none)))))) else (none)) = some r := by first | (rw [hji7] at H; exact H) | (simp only [hji7] at H ⊢; exact H)); (try rw [hji7] at A5); (try rw [hji7] at A6); (have hji7w : (IntKind.i64.wrap (a0_1 - 2)) = ji7 := (i64_w _).trans hji7); (obtain ⟨c8b0, c8b1, H⟩ := qT2 H); (obtain ⟨ji9, hji9⟩ : ∃ j_ : Int, (shl .i64 1 (ji7)) = j_ := ⟨_, rfl⟩); (replace H : ((impl_smallIds.f k l1).bind fun t842 => ((impl_smallIds.f k l2).bind fun t845 => ((impl_drawsAt.f k l3 t836).bind fun t848 => ((impl_PairDraws.f k (ji9) t842 t845 t848).bind fun bt851 => (if 0 ≤ a0_1 then ((impl_drawsAt.f k l3 t839).bind fun t855 => ((impl_PairDraws.f k (shl .i64 1 a0_1) l1 l2 t855).bind fun bt858 => (impl_sessPair.l0 k t833 t839 bt851.1 bt858.1 t836 (t836.length : Int) 0))) else (none)))))) = some r := by first | (rw [hji9] at H; exact H) | (simp only [hji9] at H ⊢; exact H)); (try rw [hji9] at A5); (try rw [hji9] at A6); (have hji9_ : (IntKind.i64.wrap (1 * 2 ^ min (ji7).toNat 64)) = ji9 := hji9); (have hji9z : (ji7) ≤ 64 → (IntKind.i64.wrap (1 * 2 ^ (ji7).toNat)) = ji9 := shl_small hji9); (have hji9u : (IntKind.i64.wrap (2 ^ min (ji7).toNat 64)) = ji9 := by have h_ := hji9_; rw [Int.one_mul] at h_; exact h_); (have hji9v : (ji7) ≤ 64 → (IntKind.i64.wrap (2 ^ (ji7).toNat)) = ji9 := fun hle_ => by have h_ := hji9z hle_; rw [Int.one_mul] at h_; exact h_); (have hji9y : (wrap64 (1 * 2 ^ min (ji7).toNat 64)) = ji9 := (i64_w _).symm.trans hji9_); (have hji9x : (ji7) ≤ 64 → (wrap64 (1 * 2 ^ (ji7).toNat)) = ji9 := fun h_ => (i64_w _).symm.trans (hji9z h_)); (obtain ⟨t842, A10, H⟩ := qX H)
 try dsimp only at H
 obtain ⟨t845, A11, H⟩ := qX H
 try dsimp only at H
 obtain ⟨t848, A12, H⟩ := qX H
 try dsimp only at H
 obtain ⟨⟨t851, t852⟩, A13, H⟩ := qX H
 try dsimp only at H
 (obtain ⟨c14b0, c14b1, H⟩ := qT2 H); (obtain ⟨ji15, hji15⟩ : ∃ j_ : Int, (shl .i64 1 a0_1) = j_ := ⟨_, rfl⟩); (replace H : ((impl_drawsAt.f k l3 t839).bind fun t855 => ((impl_PairDraws.f k (ji15) l1 l2 t855).bind fun bt858 => (impl_sessPair.l0 k t833 t839 t851 bt858.1 t836 (t836.length : Int) 0))) = some r := by first | (rw [hji15] at H; exact H) | (simp only [hji15] at H ⊢; exact H)); (try rw [hji15] at A5); (try rw [hji15] at A6); (try rw [hji15] at A10); (try rw [hji15] at A11); (try rw [hji15] at A12); (try rw [hji15] at A13); (have hji15_ : (IntKind.i64.wrap (1 * 2 ^ min a0_1.toNat 64)) = ji15 := hji15); (have hji15z : a0_1 ≤ 64 → (IntKind.i64.wrap (1 * 2 ^ a0_1.toNat)) = ji15 := shl_small hji15); (have hji15u : (IntKind.i64.wrap (2 ^ min a0_1.toNat 64)) = ji15 := by have h_ := hji15_; rw [Int.one_mul] at h_; exact h_); (have hji15v : a0_1 ≤ 64 → (IntKind.i64.wrap (2 ^ a0_1.toNat)) = ji15 := fun hle_ => by have h_ := hji15z hle_; rw [Int.one_mul] at h_; exact h_); (have hji15y : (wrap64 (1 * 2 ^ min a0_1.toNat 64)) = ji15 := (i64_w _).symm.trans hji15_); (have hji15x : a0_1 ≤ 64 → (wrap64 (1 * 2 ^ a0_1.toNat)) = ji15 := fun h_ => (i64_w _).symm.trans (hji15z h_)); (obtain ⟨t855, A16, H⟩ := qX H)
 try dsimp only at H
 (obtain ⟨⟨t858, t859⟩, A17, H⟩ := qX H); (replace H : (impl_sessPair.l0 k t833 t839 t851 t858 t836 (t836.length : Int) 0) = some r := H); (have H' := Aside0.mk H); clear H
 go_enter Tryz.func45, Tryz.ntmps45
 try go_wp2_with (first | ((with_reducible refine gate_dst (N := 4) rfl ?_); refine box_event ?hg (N := 4) ?hd (cs := #[.int .i64 a0_0, .int .i64 a0_1, .int .i64 a0_2, .int .i64 a0_3]) (t := 29) ?hr ?_; (case hd => rfl); (case hg => rfl); (case hr => first | (go_simp; done) | (go_simp; rfl)); intro gb832 hg w18 hbox hb; have BK832 := Aside0.mk (hbox); have GW832 := qG hg (below_size (qS0 HB)); have GE832 := qG hg (below_size (qS0 HB)); replace HB := Aside0.mk (below_step (qS0 HB) hb); clear hb hbox hg) | ((with_reducible refine gate_callee (f := 83) rfl ?_); refine goesL_ (some 21) rfl rfl Tryz.func83 (by kernel_rfl) rfl #[.slice A3 l3.length c3] rfl qL ?_; (with_reducible refine (slices_Clone_int_int.calls _ _ l3 t833 _ ?side1 ?side2 A5.out).mono ?_); (case side1 => exact qW (Kd.C_below HR3.out HB.out)); (case side2 => exact HC3.out); rintro e w19 ⟨v834, rfl, ho0, hb⟩; refine ⟨_, rfl, ?_⟩; have HO835 := Aside0.mk (Kd.R_lower ho0 (below_size (qS1 HB GE832))); replace BK832 := qD BK832 hb; replace HB := Aside0.mk (below_step (qS1 HB GE832) hb); (try clear hb); (try clear hb2); (try clear hk); (try clear hi); (try clear ho0); obtain ⟨hcz20_0, hcz20_1, hcz20_2, hcz20_3, hfz20_0, hfz20_1, hfz20_2, hfz20_3⟩ := qC4 BK832) | ((with_reducible refine gate_callee (f := 69) rfl ?_); refine goesL_ (some 26) rfl rfl Tryz.func69 (by kernel_rfl) rfl #[.agg #[.int .i64 a0_0, .int .i64 a0_1, .int .i64 a0_2, .int .i64 a0_3], .int .i64 (l1.length : Int)] rfl qL ?_; (with_reducible refine (impl_drawPlaces.calls k a0_0 a0_1 a0_2 a0_3 (l1.length : Int) t836 t839 _ A6.out).mono ?_); rintro e w21 ⟨v837, v840, rfl, ho0, ho1, hb⟩; refine ⟨_, rfl, ?_⟩; have HO838 := Aside0.mk (Kd.R_lower (Kd.R_new' ho0 (Kd.R_lt (qR HO835))) (below_size (qS1 HB GE832))); have HO841 := Aside0.mk (Kd.R_lower (Kd.R_new' ho1 (Kd.R_lt (qR HO835))) (below_size (qS1 HB GE832))); replace HO835 := Aside0.mk (Kd.R_mono (Kd.R_told (Kd.R_told (Kd.R_old (qR HO835) hb) (Kd.R_base ho0)) (Kd.R_base ho1)) (fun _ h_ => h_.1)); replace BK832 := qD BK832 hb; replace HB := Aside0.mk (below_step (qS1 HB GE832) hb); (try clear hb); (try clear hb2); (try clear hk); (try clear hi); (try clear ho0); (try clear ho1)))
 (replace HO835 := Aside0.mk (Kd.R_drew HO835.out)); (replace HO838 := Aside0.mk (Kd.R_drew HO838.out)); (replace HO841 := Aside0.mk (Kd.R_drew HO841.out)); (replace BK832 := Aside0.mk (blk_drew BK832.out)); (replace HB := Aside0.mk (below_drew1 HB.out))
 refine start_ (n := 17) (S := fun w' => w'.cell? ⟨gb832, 0, none⟩ = some (.int .i64 a0_0) ∧ w'.cell? ⟨gb832, 1, none⟩ = some (.int .i64 a0_1) ∧ w'.cell? ⟨gb832, 2, none⟩ = some (.int .i64 a0_2) ∧ w'.cell? ⟨gb832, 3, none⟩ = some (.int .i64 a0_3)) (ds := []) #[false, false, false, false, false, false, false, false, false, false, false, false, false, false, false, false, false] (by kernel_rfl) rfl rfl ⟨(blk_cell BK832.out 0).trans rfl, (blk_cell BK832.out 1).trans rfl, (blk_cell BK832.out 2).trans rfl, (blk_cell BK832.out 3).trans rfl⟩ (fun hHeld => ?_); refine with_tabW impl_sessPair.tab3 impl_sessPair.bits3 (fun HT_ HW_ => ?_)
 generalize w21.drew = w22 at HO835 HO838 HO841 BK832 HB hHeld ⊢
 refine pure_ (i := 0) (N := some 30) (v := ?_) (a' := ?_) #[true, false, false, false, false, false, false, false, false, false, false, false, false, false, false, false, false] rfl rfl (any_of HT_.out (by kernel_rfl)) (fun _ _ _ h => h) (Or.inl ⟨by rfl, ?_⟩) ?_ ?_
 rotate_left
 ·intro w'
  go_simp
  with_reducible rfl
 rotate_left
 ·exact qPu
 refine pure_ (i := 4) (N := some 34) (v := ?_) (a' := ?_) #[true, false, false, false, true, false, false, false, false, false, false, false, false, false, false, false, false] rfl rfl (any_of HT_.out (by kernel_rfl)) (fun _ _ _ h => h) (Or.inl ⟨by rfl, ?_⟩) ?_ ?_
 rotate_left
 ·intro w'
  go_simp
  with_reducible rfl
 rotate_left
 ·exact qPu
 refine pure_ (i := 6) (N := some 36) (v := ?_) (a' := ?_) #[true, false, false, false, true, false, true, false, false, false, false, false, false, false, false, false, false] rfl rfl (any_of HT_.out (by kernel_rfl)) (fun _ _ _ h => h) (Or.inl ⟨by rfl, ?_⟩) ?_ ?_
 rotate_left
 ·intro w'
  go_simp
  with_reducible rfl
 rotate_left
 ·exact qPu
 refine pure_ (i := 8) (N := some 38) (v := ?_) (a' := ?_) #[true, false, false, false, true, false, true, false, true, false, false, false, false, false, false, false, false] rfl rfl (any_of HT_.out (by kernel_rfl)) (fun _ _ _ h => h) (Or.inl ⟨by rfl, ?_⟩) ?_ ?_
 rotate_left
 ·intro w'
  go_simp
  with_reducible rfl
 rotate_left
 ·exact qPu
 refine pure_ (i := 9) (N := some 39) (v := ?_) (a' := ?_) #[true, false, false, false, true, false, true, false, true, true, false, false, false, false, false, false, false] rfl rfl (any_of HT_.out (by kernel_rfl)) (fun _ _ _ h => h) (Or.inl ⟨by rfl, ?_⟩) ?_ ?_
 rotate_left
 ·intro w'
  go_simp
  with_reducible rfl
 rotate_left
 ·exact qPu
 refine take_ (i := 1) (N := some 31) (v := ?_) (a' := ?_) #[true, true, false, false, true, false, true, false, true, true, false, false, false, false, false, false, false] rfl rfl (take_ofW HT_.out HW_.out (by kernel_rfl)) (fun _ _ _ h => h) (Or.inl ⟨by rfl, ?_⟩) hHeld ?_ ?_
 rotate_left
 ·rintro w' ⟨s0, s1, s2, s3⟩
  go_simp
  with_reducible rfl
 rotate_left
 ·exact qPu
 refine pure_ (i := 2) (N := some 32) (v := ?_) (a' := ?_) #[true, true, true, false, true, false, true, false, true, true, false, false, false, false, false, false, false] rfl rfl (any_of HT_.out (by kernel_rfl)) (fun _ _ _ h => h) (Or.inl ⟨by rfl, ?_⟩) ?_ ?_
 rotate_left
 ·intro w'
  go_simp
  with_reducible rfl
 rotate_left
 ·exact qPu
 refine pure_ (i := 3) (N := some 33) (v := ?_) (a' := ?_) #[true, true, true, true, true, false, true, false, true, true, false, false, false, false, false, false, false] rfl rfl (any_of HT_.out (by kernel_rfl)) (fun _ _ _ h => h) (Or.inl ⟨by rfl, ?_⟩) ?_ ?_
 rotate_left
 ·intro w'
  go_simp
  with_reducible rfl
 rotate_left
 ·exact qPu
 refine one_ (i := 5) (N := some 35) #[true, true, true, true, true, true, true, false, true, true, false, false, false, false, false, false, false] rfl rfl (one_of HT_.out (by kernel_rfl)) (by decide) (fun K hK => ?_)
 refine goes_ Tryz.func72 (by kernel_rfl) rfl #[.slice A1 l1.length c1] (by rfl) rfl rfl qL ?_
 with_reducible refine (impl_smallIds.calls k _ _ l1 t842 _ ?side1 ?side2 A10.out).mono ?_
 (case side1 => exact qW (Kd.C_below HR1.out HB.out))
 (case side2 => exact HC1.out)
 rintro e w23 ⟨v843, rfl, ho0, hb⟩
 refine ⟨_, rfl, ?_⟩
 (have HO844 := Aside0.mk (Kd.R_lower (Kd.R_new' (Kd.R_new' (Kd.R_new' ho0 (Kd.R_lt (qR HO835))) (Kd.R_lt (qR HO838))) (Kd.R_lt (qR HO841))) (below_size (qS1 HB GE832)))); (replace HO835 := Aside0.mk (Kd.R_elder' (qR HO835) (Kd.R_base ho0) hb)); (replace HO838 := Aside0.mk (Kd.R_elder' (qR HO838) (Kd.R_base ho0) hb)); (replace HO841 := Aside0.mk (Kd.R_elder' (qR HO841) (Kd.R_base ho0) hb)); (replace BK832 := qD BK832 hb); (replace HB := Aside0.mk (below_step (qS1 HB GE832) hb)); (try clear hb); (try clear hb2); (try clear hk); (try clear hi); (try clear ho0)
 refine hK.out _ _ ⟨(blk_cell BK832.out 0).trans rfl, (blk_cell BK832.out 1).trans rfl, (blk_cell BK832.out 2).trans rfl, (blk_cell BK832.out 3).trans rfl⟩ (fun hHeld => ?_)
 clear hK K
 refine norm_ (a' := ?_) ?_ ?_
 rotate_left
 ·show Act.put _ (some 35) _ = _
  exact qPu
 refine one_ (i := 7) (N := some 37) #[true, true, true, true, true, true, true, true, true, true, false, false, false, false, false, false, false] rfl rfl (one_of HT_.out (by kernel_rfl)) (by decide) (fun K hK => ?_)
 refine goes_ Tryz.func72 (by kernel_rfl) rfl #[.slice A2 l2.length c2] (by rfl) rfl rfl qL ?_
 with_reducible refine (impl_smallIds.calls k _ _ l2 t845 _ ?side1 ?side2 A11.out).mono ?_
 (case side1 => exact qW (Kd.C_below HR2.out HB.out))
 (case side2 => exact HC2.out)
 rintro e w24 ⟨v846, rfl, ho0, hb⟩
 refine ⟨_, rfl, ?_⟩
 (have HO847 := Aside0.mk (Kd.R_lower (Kd.R_new' (Kd.R_new' (Kd.R_new' (Kd.R_new' ho0 (Kd.R_lt (qR HO835))) (Kd.R_lt (qR HO838))) (Kd.R_lt (qR HO841))) (Kd.R_lt (qR HO844))) (below_size (qS1 HB GE832)))); (replace HO835 := Aside0.mk (Kd.R_elder' (qR HO835) (Kd.R_base ho0) hb)); (replace HO838 := Aside0.mk (Kd.R_elder' (qR HO838) (Kd.R_base ho0) hb)); (replace HO841 := Aside0.mk (Kd.R_elder' (qR HO841) (Kd.R_base ho0) hb)); (replace HO844 := Aside0.mk (Kd.R_elder' (qR HO844) (Kd.R_base ho0) hb)); (replace BK832 := qD BK832 hb); (replace HB := Aside0.mk (below_step (qS1 HB GE832) hb)); (try clear hb); (try clear hb2); (try clear hk); (try clear hi); (try clear ho0); (obtain ⟨Ao25, co25, eo25⟩ := Kd.R_slice HO838.out)
 (first | subst eo25 | (injection eo25 with f1_ f2_ f3_; have f4_ := f1_.symm; have f5_ := f3_.symm; clear f1_ f2_ f3_; subst f4_; subst f5_))
 refine hK.out _ _ ⟨(blk_cell BK832.out 0).trans rfl, (blk_cell BK832.out 1).trans rfl, (blk_cell BK832.out 2).trans rfl, (blk_cell BK832.out 3).trans rfl⟩ (fun hHeld => ?_)
 clear hK K
 refine norm_ (a' := ?_) ?_ ?_
 rotate_left
 ·show Act.put _ (some 37) _ = _
  exact qPu
 refine one_ (i := 10) (N := some 40) #[true, true, true, true, true, true, true, true, true, true, true, false, false, false, false, false, false] rfl rfl (one_of HT_.out (by kernel_rfl)) (by decide) (fun K hK => ?_)
 refine goes_ Tryz.func73 (by kernel_rfl) rfl #[.slice A3 l3.length c3, .slice Ao25 t836.length co25] (by rfl) rfl rfl qL ?_
 with_reducible refine (impl_drawsAt.calls k _ _ l3 _ _ t836 t848 _ ?side1 ?side2 ?side3 ?side4 A12.out).mono ?_
 (case side1 => exact qW (Kd.C_below HR3.out HB.out))
 (case side2 => exact HC3.out)
 (case side3 => repeat (first | exact (Kd.R_reads' HO838.out).2.2 | (with_reducible refine Kd.C_alloc ?_ _) | (with_reducible refine Kd.C_drewN ?_ _) | (with_reducible refine Kd.C_drew ?_)))
 (case side4 => exact (Kd.R_reads' HO838.out).2.1)
 rintro e w26 ⟨v849, rfl, ho0, hb⟩
 refine ⟨_, rfl, ?_⟩
 (have HO850 := Aside0.mk (Kd.R_lower (Kd.R_new' (Kd.R_new' (Kd.R_new' (Kd.R_new' (Kd.R_new' ho0 (Kd.R_lt (qR HO835))) (Kd.R_lt (qR HO838))) (Kd.R_lt (qR HO841))) (Kd.R_lt (qR HO844))) (Kd.R_lt (qR HO847))) (below_size (qS1 HB GE832)))); (replace HO835 := Aside0.mk (Kd.R_elder' (qR HO835) (Kd.R_base ho0) hb)); (replace HO838 := Aside0.mk (Kd.R_elder' (qR HO838) (Kd.R_base ho0) hb)); (replace HO841 := Aside0.mk (Kd.R_elder' (qR HO841) (Kd.R_base ho0) hb)); (replace HO844 := Aside0.mk (Kd.R_elder' (qR HO844) (Kd.R_base ho0) hb)); (replace HO847 := Aside0.mk (Kd.R_elder' (qR HO847) (Kd.R_base ho0) hb)); (replace BK832 := qD BK832 hb); (replace HB := Aside0.mk (below_step (qS1 HB GE832) hb)); (try clear hb); (try clear hb2); (try clear hk); (try clear hi); (try clear ho0); (obtain ⟨Ao27, co27, eo27⟩ := Kd.R_slice HO844.out)
 (first | subst eo27 | (injection eo27 with f1_ f2_ f3_; have f4_ := f1_.symm; have f5_ := f3_.symm; clear f1_ f2_ f3_; subst f4_; subst f5_))
 obtain ⟨Ao28, co28, eo28⟩ := Kd.R_slice HO847.out
 (first | subst eo28 | (injection eo28 with f1_ f2_ f3_; have f4_ := f1_.symm; have f5_ := f3_.symm; clear f1_ f2_ f3_; subst f4_; subst f5_))
 obtain ⟨Ao29, co29, eo29⟩ := Kd.R_slice HO850.out
 (first | subst eo29 | (injection eo29 with f1_ f2_ f3_; have f4_ := f1_.symm; have f5_ := f3_.symm; clear f1_ f2_ f3_; subst f4_; subst f5_))
 refine hK.out _ _ ⟨(blk_cell BK832.out 0).trans rfl, (blk_cell BK832.out 1).trans rfl, (blk_cell BK832.out 2).trans rfl, (blk_cell BK832.out 3).trans rfl⟩ (fun hHeld => ?_)
 clear hK K
 refine norm_ (a' := ?_) ?_ ?_
 rotate_left
 ·show Act.put _ (some 40) _ = _
  exact qPu
 refine one_ (i := 11) (N := some 41) #[true, true, true, true, true, true, true, true, true, true, true, true, false, false, false, false, false] rfl rfl (one_of HT_.out (by kernel_rfl)) (by decide) (fun K hK => ?_)
 refine goes_ Tryz.func84 (by kernel_rfl) rfl #[.int .i64 ji9, .slice Ao27 t842.length co27, .slice Ao28 t845.length co28, .slice Ao29 t848.length co29] (by rfl) rfl rfl (by (try simp only [List.map_toArray, List.map_cons, List.map_nil]); first | done | (simp only [hji9]; rfl) | rfl | (simp only [List.length_drop, List.length_take]; rfl)) ?_
 with_reducible refine (impl_PairDraws.calls k ji9 _ _ t842 _ _ t845 _ _ t848 t851 t852 _ ?side1 ?side2 ?side3 ?side4 ?side5 ?side6 A13.out).mono ?_
 (case side1 => repeat (first | exact (Kd.R_reads' HO844.out).2.2 | (with_reducible refine Kd.C_alloc ?_ _) | (with_reducible refine Kd.C_drewN ?_ _) | (with_reducible refine Kd.C_drew ?_)))
 (case side2 => exact (Kd.R_reads' HO844.out).2.1)
 (case side3 => repeat (first | exact (Kd.R_reads' HO847.out).2.2 | (with_reducible refine Kd.C_alloc ?_ _) | (with_reducible refine Kd.C_drewN ?_ _) | (with_reducible refine Kd.C_drew ?_)))
 (case side4 => exact (Kd.R_reads' HO847.out).2.1)
 (case side5 => repeat (first | exact (Kd.R_reads' HO850.out).2.2 | (with_reducible refine Kd.C_alloc ?_ _) | (with_reducible refine Kd.C_drewN ?_ _) | (with_reducible refine Kd.C_drew ?_)))
 (case side6 => exact (Kd.R_reads' HO850.out).2.1)
 rintro e w30 ⟨v853, rfl, ho0, hb⟩
 refine ⟨_, rfl, ?_⟩
 (have HO854 := Aside0.mk (Kd.R_lower (Kd.R_new' (Kd.R_new' (Kd.R_new' (Kd.R_new' (Kd.R_new' (Kd.R_new' ho0 (Kd.R_lt (qR HO835))) (Kd.R_lt (qR HO838))) (Kd.R_lt (qR HO841))) (Kd.R_lt (qR HO844))) (Kd.R_lt (qR HO847))) (Kd.R_lt (qR HO850))) (below_size (qS1 HB GE832)))); (replace HO835 := Aside0.mk (Kd.R_elder' (qR HO835) (Kd.R_base ho0) hb)); (replace HO838 := Aside0.mk (Kd.R_elder' (qR HO838) (Kd.R_base ho0) hb)); (replace HO841 := Aside0.mk (Kd.R_elder' (qR HO841) (Kd.R_base ho0) hb)); (replace HO844 := Aside0.mk (Kd.R_elder' (qR HO844) (Kd.R_base ho0) hb)); (replace HO847 := Aside0.mk (Kd.R_elder' (qR HO847) (Kd.R_base ho0) hb)); (replace HO850 := Aside0.mk (Kd.R_elder' (qR HO850) (Kd.R_base ho0) hb)); (replace BK832 := qD BK832 hb); (replace HB := Aside0.mk (below_step (qS1 HB GE832) hb)); (try clear hb); (try clear hb2); (try clear hk); (try clear hi); (try clear ho0)
 refine hK.out _ _ ⟨(blk_cell BK832.out 0).trans rfl, (blk_cell BK832.out 1).trans rfl, (blk_cell BK832.out 2).trans rfl, (blk_cell BK832.out 3).trans rfl⟩ (fun hHeld => ?_)
 clear hK K
 refine norm_ (a' := ?_) ?_ ?_
 rotate_left
 ·show Act.put _ (some 41) _ = _
  exact qPu
 refine pure_ (i := 12) (N := some 29) (v := ?_) (a' := ?_) #[true, true, true, true, true, true, true, true, true, true, true, true, true, false, false, false, false] rfl rfl (any_of HT_.out (by kernel_rfl)) (fun _ _ _ h => h) (Or.inl ⟨by rfl, ?_⟩) ?_ ?_
 rotate_left
 ·intro w'
  go_simp
  with_reducible rfl
 rotate_left
 ·exact qPu
 refine pure_ (i := 13) (N := some 42) (v := ?_) (a' := ?_) #[true, true, true, true, true, true, true, true, true, true, true, true, true, true, false, false, false] rfl rfl (any_of HT_.out (by kernel_rfl)) (fun _ _ _ h => h) (Or.inl ⟨by rfl, ?_⟩) ?_ ?_
 rotate_left
 ·intro w'
  go_simp
  with_reducible rfl
 rotate_left
 ·exact qPu
 refine pure_ (i := 14) (N := some 43) (v := ?_) (a' := ?_) #[true, true, true, true, true, true, true, true, true, true, true, true, true, true, true, false, false] rfl rfl (any_of HT_.out (by kernel_rfl)) (fun _ _ _ h => h) (Or.inl ⟨by rfl, ?_⟩) ?_ ?_
 rotate_left
 ·intro w'
  go_simp
  with_reducible rfl
 rotate_left
 ·exact qPu
 refine pure_ (i := 15) (N := some 12) (v := ?_) (a' := ?_) #[true, true, true, true, true, true, true, true, true, true, true, true, true, true, true, true, false] rfl rfl (any_of HT_.out (by kernel_rfl)) (fun _ _ _ h => h) (Or.inl ⟨by rfl, ?_⟩) ?_ ?_
 rotate_left
 ·intro w'
  go_simp
  with_reducible rfl
 rotate_left
 ·exact qPu
 refine pure_ (i := 16) (N := some 13) (v := ?_) (a' := ?_) #[true, true, true, true, true, true, true, true, true, true, true, true, true, true, true, true, true] rfl rfl (any_of HT_.out (by kernel_rfl)) (fun _ _ _ h => h) (Or.inl ⟨by rfl, ?_⟩) ?_ ?_
 rotate_left
 ·intro w'
  go_simp
  with_reducible rfl
 rotate_left
 ·exact qPu
 refine done_ (done_of HT_.out (by kernel_rfl)) ?_
 try go_wp2
 (replace HO835 := Aside0.mk (Kd.R_drew HO835.out)); (replace HO838 := Aside0.mk (Kd.R_drew HO838.out)); (replace HO841 := Aside0.mk (Kd.R_drew HO841.out)); (replace HO844 := Aside0.mk (Kd.R_drew HO844.out)); (replace HO847 := Aside0.mk (Kd.R_drew HO847.out)); (replace HO850 := Aside0.mk (Kd.R_drew HO850.out)); (replace HO854 := Aside0.mk (Kd.R_drew HO854.out)); (replace BK832 := Aside0.mk (blk_drew BK832.out)); (replace HB := Aside0.mk (below_drew1 HB.out)); (obtain ⟨Ao32, co32, eo32⟩ := Kd.R_slice HO841.out)
 (first | subst eo32 | (injection eo32 with f1_ f2_ f3_; have f4_ := f1_.symm; have f5_ := f3_.symm; clear f1_ f2_ f3_; subst f4_; subst f5_))
 refine start_ (n := 14) (S := fun w' => w'.cell? ⟨gb832, 0, none⟩ = some (.int .i64 a0_0) ∧ w'.cell? ⟨gb832, 1, none⟩ = some (.int .i64 a0_1) ∧ w'.cell? ⟨gb832, 2, none⟩ = some (.int .i64 a0_2) ∧ w'.cell? ⟨gb832, 3, none⟩ = some (.int .i64 a0_3)) (ds := []) #[false, false, false, false, false, false, false, false, false, false, false, false, false, false] (by kernel_rfl) rfl rfl ⟨(blk_cell BK832.out 0).trans rfl, (blk_cell BK832.out 1).trans rfl, (blk_cell BK832.out 2).trans rfl, (blk_cell BK832.out 3).trans rfl⟩ (fun hHeld => ?_); refine with_tabW impl_sessPair.tab4 impl_sessPair.bits4 (fun HT_ HW_ => ?_)
 generalize w30.drew = w31 at HO835 HO838 HO841 HO844 HO847 HO850 HO854 BK832 HB hHeld ⊢
 refine pure_ (i := 0) (N := some 45) (v := ?_) (a' := ?_) #[true, false, false, false, false, false, false, false, false, false, false, false, false, false] rfl rfl (any_of HT_.out (by kernel_rfl)) (fun _ _ _ h => h) (Or.inl ⟨by rfl, ?_⟩) ?_ ?_
 rotate_left
 ·intro w'
  go_simp
  with_reducible rfl
 rotate_left
 ·exact qPu
 refine pure_ (i := 3) (N := some 48) (v := ?_) (a' := ?_) #[true, false, false, true, false, false, false, false, false, false, false, false, false, false] rfl rfl (any_of HT_.out (by kernel_rfl)) (fun _ _ _ h => h) (Or.inl ⟨by rfl, ?_⟩) ?_ ?_
 rotate_left
 ·intro w'
  go_simp
  with_reducible rfl
 rotate_left
 ·exact qPu
 refine pure_ (i := 4) (N := some 49) (v := ?_) (a' := ?_) #[true, false, false, true, true, false, false, false, false, false, false, false, false, false] rfl rfl (any_of HT_.out (by kernel_rfl)) (fun _ _ _ h => h) (Or.inl ⟨by rfl, ?_⟩) ?_ ?_
 rotate_left
 ·intro w'
  go_simp
  with_reducible rfl
 rotate_left
 ·exact qPu
 refine pure_ (i := 5) (N := some 50) (v := ?_) (a' := ?_) #[true, false, false, true, true, true, false, false, false, false, false, false, false, false] rfl rfl (any_of HT_.out (by kernel_rfl)) (fun _ _ _ h => h) (Or.inl ⟨by rfl, ?_⟩) ?_ ?_
 rotate_left
 ·intro w'
  go_simp
  with_reducible rfl
 rotate_left
 ·exact qPu
 refine pure_ (i := 6) (N := some 51) (v := ?_) (a' := ?_) #[true, false, false, true, true, true, true, false, false, false, false, false, false, false] rfl rfl (any_of HT_.out (by kernel_rfl)) (fun _ _ _ h => h) (Or.inl ⟨by rfl, ?_⟩) ?_ ?_
 rotate_left
 ·intro w'
  go_simp
  with_reducible rfl
 rotate_left
 ·exact qPu
 refine take_ (i := 1) (N := some 46) (v := ?_) (a' := ?_) #[true, true, false, true, true, true, true, false, false, false, false, false, false, false] rfl rfl (take_ofW HT_.out HW_.out (by kernel_rfl)) (fun _ _ _ h => h) (Or.inl ⟨by rfl, ?_⟩) hHeld ?_ ?_
 rotate_left
 ·rintro w' ⟨s0, s1, s2, s3⟩
  go_simp
  with_reducible rfl
 rotate_left
 ·exact qPu
 refine pure_ (i := 2) (N := some 47) (v := ?_) (a' := ?_) #[true, true, true, true, true, true, true, false, false, false, false, false, false, false] rfl rfl (any_of HT_.out (by kernel_rfl)) (fun _ _ _ h => h) (Or.inl ⟨by rfl, ?_⟩) ?_ ?_
 rotate_left
 ·intro w'
  go_simp
  with_reducible rfl
 rotate_left
 ·exact qPu
 refine one_ (i := 7) (N := some 52) #[true, true, true, true, true, true, true, true, false, false, false, false, false, false] rfl rfl (one_of HT_.out (by kernel_rfl)) (by decide) (fun K hK => ?_)
 refine goes_ Tryz.func73 (by kernel_rfl) rfl #[.slice A3 l3.length c3, .slice Ao32 t839.length co32] (by rfl) rfl rfl qL ?_
 with_reducible refine (impl_drawsAt.calls k _ _ l3 _ _ t839 t855 _ ?side1 ?side2 ?side3 ?side4 A16.out).mono ?_
 (case side1 => exact qW (Kd.C_below HR3.out HB.out))
 (case side2 => exact HC3.out)
 (case side3 => repeat (first | exact (Kd.R_reads' HO841.out).2.2 | (with_reducible refine Kd.C_alloc ?_ _) | (with_reducible refine Kd.C_drewN ?_ _) | (with_reducible refine Kd.C_drew ?_)))
 (case side4 => exact (Kd.R_reads' HO841.out).2.1)
 rintro e w33 ⟨v856, rfl, ho0, hb⟩
 refine ⟨_, rfl, ?_⟩
 (have HO857 := Aside0.mk (Kd.R_lower (Kd.R_new' (Kd.R_new' (Kd.R_new' (Kd.R_new' (Kd.R_new' (Kd.R_new' (Kd.R_new' ho0 (Kd.R_lt (qR HO835))) (Kd.R_lt (qR HO838))) (Kd.R_lt (qR HO841))) (Kd.R_lt (qR HO844))) (Kd.R_lt (qR HO847))) (Kd.R_lt (qR HO850))) (Kd.R_lt (qR HO854))) (below_size (qS1 HB GE832)))); (replace HO835 := Aside0.mk (Kd.R_elder' (qR HO835) (Kd.R_base ho0) hb)); (replace HO838 := Aside0.mk (Kd.R_elder' (qR HO838) (Kd.R_base ho0) hb)); (replace HO841 := Aside0.mk (Kd.R_elder' (qR HO841) (Kd.R_base ho0) hb)); (replace HO844 := Aside0.mk (Kd.R_elder' (qR HO844) (Kd.R_base ho0) hb)); (replace HO847 := Aside0.mk (Kd.R_elder' (qR HO847) (Kd.R_base ho0) hb)); (replace HO850 := Aside0.mk (Kd.R_elder' (qR HO850) (Kd.R_base ho0) hb)); (replace HO854 := Aside0.mk (Kd.R_elder' (qR HO854) (Kd.R_base ho0) hb)); (replace BK832 := qD BK832 hb); (replace HB := Aside0.mk (below_step (qS1 HB GE832) hb)); (try clear hb); (try clear hb2); (try clear hk); (try clear hi); (try clear ho0); (obtain ⟨Ao34, co34, eo34⟩ := Kd.R_slice HO857.out)
 (first | subst eo34 | (injection eo34 with f1_ f2_ f3_; have f4_ := f1_.symm; have f5_ := f3_.symm; clear f1_ f2_ f3_; subst f4_; subst f5_))
 refine hK.out _ _ ⟨(blk_cell BK832.out 0).trans rfl, (blk_cell BK832.out 1).trans rfl, (blk_cell BK832.out 2).trans rfl, (blk_cell BK832.out 3).trans rfl⟩ (fun hHeld => ?_)
 clear hK K
 refine norm_ (a' := ?_) ?_ ?_
 rotate_left
 ·show Act.put _ (some 52) _ = _
  exact qPu
 refine one_ (i := 8) (N := some 53) #[true, true, true, true, true, true, true, true, true, false, false, false, false, false] rfl rfl (one_of HT_.out (by kernel_rfl)) (by decide) (fun K hK => ?_)
 refine goes_ Tryz.func84 (by kernel_rfl) rfl #[.int .i64 ji15, .slice A1 l1.length c1, .slice A2 l2.length c2, .slice Ao34 t855.length co34] (by rfl) rfl rfl (by (try simp only [List.map_toArray, List.map_cons, List.map_nil]); first | done | (simp only [hji15]; rfl) | rfl | (simp only [List.length_drop, List.length_take]; rfl)) ?_
 with_reducible refine (impl_PairDraws.calls k ji15 _ _ l1 _ _ l2 _ _ t855 t858 t859 _ ?side1 ?side2 ?side3 ?side4 ?side5 ?side6 A17.out).mono ?_
 (case side1 => exact qW (Kd.C_below HR1.out HB.out))
 (case side2 => exact HC1.out)
 (case side3 => exact qW (Kd.C_below HR2.out HB.out))
 (case side4 => exact HC2.out)
 (case side5 => repeat (first | exact (Kd.R_reads' HO857.out).2.2 | (with_reducible refine Kd.C_alloc ?_ _) | (with_reducible refine Kd.C_drewN ?_ _) | (with_reducible refine Kd.C_drew ?_)))
 (case side6 => exact (Kd.R_reads' HO857.out).2.1)
 rintro e w35 ⟨v860, rfl, ho0, hb⟩
 refine ⟨_, rfl, ?_⟩
 (have HO861 := Aside0.mk (Kd.R_lower (Kd.R_new' (Kd.R_new' (Kd.R_new' (Kd.R_new' (Kd.R_new' (Kd.R_new' (Kd.R_new' (Kd.R_new' ho0 (Kd.R_lt (qR HO835))) (Kd.R_lt (qR HO838))) (Kd.R_lt (qR HO841))) (Kd.R_lt (qR HO844))) (Kd.R_lt (qR HO847))) (Kd.R_lt (qR HO850))) (Kd.R_lt (qR HO854))) (Kd.R_lt (qR HO857))) (below_size (qS1 HB GE832)))); (replace HO835 := Aside0.mk (Kd.R_elder' (qR HO835) (Kd.R_base ho0) hb)); (replace HO838 := Aside0.mk (Kd.R_elder' (qR HO838) (Kd.R_base ho0) hb)); (replace HO841 := Aside0.mk (Kd.R_elder' (qR HO841) (Kd.R_base ho0) hb)); (replace HO844 := Aside0.mk (Kd.R_elder' (qR HO844) (Kd.R_base ho0) hb)); (replace HO847 := Aside0.mk (Kd.R_elder' (qR HO847) (Kd.R_base ho0) hb)); (replace HO850 := Aside0.mk (Kd.R_elder' (qR HO850) (Kd.R_base ho0) hb)); (replace HO854 := Aside0.mk (Kd.R_elder' (qR HO854) (Kd.R_base ho0) hb)); (replace HO857 := Aside0.mk (Kd.R_elder' (qR HO857) (Kd.R_base ho0) hb)); (replace BK832 := qD BK832 hb); (replace HB := Aside0.mk (below_step (qS1 HB GE832) hb)); (try clear hb); (try clear hb2); (try clear hk); (try clear hi); (try clear ho0)
 refine hK.out _ _ ⟨(blk_cell BK832.out 0).trans rfl, (blk_cell BK832.out 1).trans rfl, (blk_cell BK832.out 2).trans rfl, (blk_cell BK832.out 3).trans rfl⟩ (fun hHeld => ?_)
 clear hK K
 refine norm_ (a' := ?_) ?_ ?_
 rotate_left
 ·show Act.put _ (some 53) _ = _
  exact qPu
 refine pure_ (i := 9) (N := some 44) (v := ?_) (a' := ?_) #[true, true, true, true, true, true, true, true, true, true, false, false, false, false] rfl rfl (any_of HT_.out (by kernel_rfl)) (fun _ _ _ h => h) (Or.inl ⟨by rfl, ?_⟩) ?_ ?_
 rotate_left
 ·intro w'
  go_simp
  with_reducible rfl
 rotate_left
 ·exact qPu
 refine pure_ (i := 10) (N := some 54) (v := ?_) (a' := ?_) #[true, true, true, true, true, true, true, true, true, true, true, false, false, false] rfl rfl (any_of HT_.out (by kernel_rfl)) (fun _ _ _ h => h) (Or.inl ⟨by rfl, ?_⟩) ?_ ?_
 rotate_left
 ·intro w'
  go_simp
  with_reducible rfl
 rotate_left
 ·exact qPu
 refine pure_ (i := 11) (N := some 55) (v := ?_) (a' := ?_) #[true, true, true, true, true, true, true, true, true, true, true, true, false, false] rfl rfl (any_of HT_.out (by kernel_rfl)) (fun _ _ _ h => h) (Or.inl ⟨by rfl, ?_⟩) ?_ ?_
 rotate_left
 ·intro w'
  go_simp
  with_reducible rfl
 rotate_left
 ·exact qPu
 refine pure_ (i := 12) (N := some 14) (v := ?_) (a' := ?_) #[true, true, true, true, true, true, true, true, true, true, true, true, true, false] rfl rfl (any_of HT_.out (by kernel_rfl)) (fun _ _ _ h => h) (Or.inl ⟨by rfl, ?_⟩) ?_ ?_
 rotate_left
 ·intro w'
  go_simp
  with_reducible rfl
 rotate_left
 ·exact qPu
 refine pure_ (i := 13) (N := some 15) (v := ?_) (a' := ?_) #[true, true, true, true, true, true, true, true, true, true, true, true, true, true] rfl rfl (any_of HT_.out (by kernel_rfl)) (fun _ _ _ h => h) (Or.inl ⟨by rfl, ?_⟩) ?_ ?_
 rotate_left
 ·intro w'
  go_simp
  with_reducible rfl
 rotate_left
 ·exact qPu
 refine done_ (done_of HT_.out (by kernel_rfl)) ?_
 try go_wp2
 go_loopg [58] k (fun kq v58 w' => ∃ (x9_1 : List Int) (x58_1 : Int), v58 = .int .i64 x58_1 ∧ Aside0 (impl_sessPair.l0 kq x9_1 t839 t851 t858 t836 (t836.length : Int) x58_1 = some r) ∧ Aside0 (kq ≤ k) ∧ Aside0 (Kd.R (Kd.int .i64) 3 w' w.heap.size (fun k_ => some k_ ≠ ((.slice Ao32 t839.length co32) : Value).ownBlock ∧ some k_ ≠ (v853 : Value).ownBlock ∧ some k_ ≠ (v860 : Value).ownBlock ∧ some k_ ≠ ((.slice Ao25 t836.length co25) : Value).ownBlock) v834 x9_1) ∧ Aside0 (Kd.R (Kd.int .i64) 3 w' w.heap.size (fun k_ => some k_ ≠ (v834 : Value).ownBlock ∧ some k_ ≠ (v853 : Value).ownBlock ∧ some k_ ≠ (v860 : Value).ownBlock ∧ some k_ ≠ ((.slice Ao25 t836.length co25) : Value).ownBlock) (.slice Ao32 t839.length co32) t839) ∧ Aside0 (Kd.R (Kd.int .i64) 3 w' w.heap.size (fun k_ => some k_ ≠ (v834 : Value).ownBlock ∧ some k_ ≠ ((.slice Ao32 t839.length co32) : Value).ownBlock ∧ some k_ ≠ (v860 : Value).ownBlock ∧ some k_ ≠ ((.slice Ao25 t836.length co25) : Value).ownBlock) v853 t851) ∧ Aside0 (Kd.R (Kd.int .i64) 3 w' w.heap.size (fun k_ => some k_ ≠ (v834 : Value).ownBlock ∧ some k_ ≠ ((.slice Ao32 t839.length co32) : Value).ownBlock ∧ some k_ ≠ (v853 : Value).ownBlock ∧ some k_ ≠ ((.slice Ao25 t836.length co25) : Value).ownBlock) v860 t858) ∧ Aside0 (Kd.R (Kd.int .i64) 3 w' w.heap.size (fun k_ => some k_ ≠ (v834 : Value).ownBlock ∧ some k_ ≠ ((.slice Ao32 t839.length co32) : Value).ownBlock ∧ some k_ ≠ (v853 : Value).ownBlock ∧ some k_ ≠ (v860 : Value).ownBlock) (.slice Ao25 t836.length co25) t836) ∧ Aside0 (w'.heap[gb832]? = some (.cells #[.int .i64 a0_0, .int .i64 a0_1, .int .i64 a0_2, .int .i64 a0_3] 29 (0, 0))) ∧ Aside0 (Below w.heap.size w w'))
 case atStart => exact ⟨(t833), (0), qV, H', ⟨Nat.le_refl _⟩, ⟨by (with_reducible repeat (first | apply Kd.R_alloc | apply Kd.R_drewN | apply Kd.R_drew)); exact Kd.R_mono HO835.out (fun _ hk => ⟨hk.1.1.1.1.1.1.2, ⟨hk.1.1.2, ⟨hk.2, hk.1.1.1.1.1.1.1.2⟩⟩⟩)⟩, ⟨by (with_reducible repeat (first | apply Kd.R_alloc | apply Kd.R_drewN | apply Kd.R_drew)); exact Kd.R_mono HO841.out (fun _ hk => ⟨hk.1.1.1.1.1.1.2, ⟨hk.1.1.2, ⟨hk.2, hk.1.1.1.1.1.1.1⟩⟩⟩)⟩, ⟨by (with_reducible repeat (first | apply Kd.R_alloc | apply Kd.R_drewN | apply Kd.R_drew)); exact Kd.R_mono HO854.out (fun _ hk => ⟨hk.1.1.1.1.1.1.1.2, ⟨hk.1.1.1.1.1.2, ⟨hk.2, hk.1.1.1.1.1.1.2⟩⟩⟩)⟩, ⟨by (with_reducible repeat (first | apply Kd.R_alloc | apply Kd.R_drewN | apply Kd.R_drew)); exact Kd.R_mono HO861.out (fun _ hk => ⟨hk.1.1.1.1.1.1.1.2, ⟨hk.1.1.1.1.1.2, ⟨hk.1.2, hk.1.1.1.1.1.1.2⟩⟩⟩)⟩, ⟨by (with_reducible repeat (first | apply Kd.R_alloc | apply Kd.R_drewN | apply Kd.R_drew)); exact Kd.R_mono HO838.out (fun _ hk => ⟨hk.1.1.1.1.1.1.2, ⟨hk.1.1.1.1.1.1.1, ⟨hk.1.1.2, hk.2⟩⟩⟩)⟩, ⟨qB BK832⟩, ⟨qS1 HB GE832⟩⟩
 case round =>
  clear H'; (try clear c14b0); (try clear c14b1); (try clear hcz20_0); (try clear hcz20_1); (try clear hcz20_2); (try clear hcz20_3); (try clear hfz20_0); (try clear hfz20_1); (try clear hfz20_2); (try clear hfz20_3); (obtain ⟨x9_1, x58_1, rfl, HA, HK1, HO_9, HO_11, HO_12, HO_14, HO_56, BK832, HB⟩ := hrel)
  cases gk with
  | zero => exact absurd HA.out (by simp [impl_sessPair.l0])
  | succ k1 =>
   (have H := HA.out); clear HA; (simp only [impl_sessPair.l0] at H)
   rcases qI H with ⟨c36b0, H⟩ | ⟨c36b0, H⟩
   ·obtain ⟨c37b0, H⟩ := qT H
    (obtain ⟨c38b0, H⟩ := qT H); (obtain ⟨c39b0, H⟩ := qT H); (obtain ⟨c40b0, H⟩ := qT H); (obtain ⟨c41b0, H⟩ := qT H); (obtain ⟨y864, hy864⟩ : ∃ y_ : List Int, y_ = (x9_1.set ((rd t836 x58_1) : Int).toNat (rd t851 x58_1)) := ⟨_, rfl⟩); (replace H : (impl_sessPair.l0 k1 y864 t839 t851 t858 t836 (t836.length : Int) (wrap64 (x58_1 + 1))) = some r := qY hy864 H); (have Ny864 := Aside0.mk hy864); clear hy864; (have H' := Aside0.mk H); clear H; (have p862 : 0 ≤ (x58_1 : Int) := qO); (have q862 : x58_1 < (t836.length : Int) := qO); (obtain ⟨ad862, e862, hx862_0⟩ := Kd.at_int (Kd.R_reads' HO_56.out).2.2 x58_1 p862 q862)
    cases e862
    (replace p862 := eq_true p862); (replace q862 := eq_true q862); (obtain ⟨Ao43, co43, eo43⟩ := Kd.R_slice HO_12.out); (subst eo43); (have p863 : 0 ≤ (x58_1 : Int) := qO); (have q863 : x58_1 < (t851.length : Int) := qO); (obtain ⟨ad863, e863, hx863_0⟩ := Kd.at_int (Kd.R_reads' HO_12.out).2.2 x58_1 p863 q863)
    cases e863
    (replace p863 := eq_true p863); (replace q863 := eq_true q863); (have p42 : 0 ≤ ((rd t836 x58_1) : Int) := qO); (have q42 : ((rd t836 x58_1) : Int) < ((x9_1.length : Int) : Int) := qO); (obtain ⟨go42, co42, eo42, gb42, gl42, cl42, HG42⟩ := Kd.R_form HO_9.out (by omega))
    (first | cases eo42 | (injection eo42 with ea_ en_ ec_; (first | subst ea_ | (injection ea_ with ea_; subst ea_)); subst ec_; clear en_))
    (have GB42 := Aside0.mk gb42); (have GG42 := Aside0.mk HG42); clear gb42 gl42 HG42; (obtain ⟨hx42_0, hf42_0⟩ := Kd.R_celln 0 HO_9.out ((rd t836 x58_1) : Int) p42 q42); (replace p42 := eq_true p42); (replace q42 := eq_true q42); (have HP44 := Kd.R_putg HO_9.out ((rd t836 x58_1) : Int) (rd t851 x58_1))
    go_wp2_with (first | ((with_reducible refine gate_store (t := 3) (p := 69) rfl ?_); refine store_event (t := 3) (p := 69) (v := ?vo_w45) (w1 := (wr.setCell ⟨go42, ((rd t836 x58_1) : Int).toNat, none⟩ (.int .i64 (rd t851 x58_1)))) ?hg ?ho ?hn ?hr ?_; (case ho => rfl); (case hg => rfl); (case hn => rfl); (case hr => first | (go_simp; done) | (go_simp; rfl)); intro w45 hw; have hg : wr.grownBy w45 (some go42) := (by rw [hw]; exact HP44.2); have hp_ : Kd.R (Kd.int .i64) 3 w45 w.heap.size (fun k_ => some k_ ≠ (.slice Ao32 t839.length co32 : Value).ownBlock ∧ some k_ ≠ (.slice (some ad863) t851.length co43 : Value).ownBlock ∧ some k_ ≠ (v860 : Value).ownBlock ∧ some k_ ≠ (.slice (some ad862) t836.length co25 : Value).ownBlock) (.slice (some ⟨go42, 0, none⟩) x9_1.length co42) y864 := (by rw [hw, Ny864.out]; exact HP44.1); clear HP44; replace HO_11 := Aside0.mk (Kd.R_after (v := (.slice (some ⟨go42, 0, none⟩) x9_1.length co42)) (v1 := (.slice (some ⟨go42, 0, none⟩) x9_1.length co42)) (ok := (fun k_ => some k_ ≠ (.slice (some ad863) t851.length co43 : Value).ownBlock ∧ some k_ ≠ (v860 : Value).ownBlock ∧ some k_ ≠ (.slice (some ad862) t836.length co25 : Value).ownBlock)) (by (with_reducible repeat (first | apply Kd.R_alloc | apply Kd.R_drewN | apply Kd.R_drew)); exact Kd.R_mono HO_11.out (fun _ hk => ⟨⟨hk.2.1, ⟨hk.2.2.1, hk.2.2.2⟩⟩, hk.1⟩)) hg (.inl rfl)); replace HO_12 := Aside0.mk (Kd.R_after (v := (.slice (some ⟨go42, 0, none⟩) x9_1.length co42)) (v1 := (.slice (some ⟨go42, 0, none⟩) x9_1.length co42)) (ok := (fun k_ => some k_ ≠ (.slice Ao32 t839.length co32 : Value).ownBlock ∧ some k_ ≠ (v860 : Value).ownBlock ∧ some k_ ≠ (.slice (some ad862) t836.length co25 : Value).ownBlock)) (by (with_reducible repeat (first | apply Kd.R_alloc | apply Kd.R_drewN | apply Kd.R_drew)); exact Kd.R_mono HO_12.out (fun _ hk => ⟨⟨hk.2.1, ⟨hk.2.2.1, hk.2.2.2⟩⟩, hk.1⟩)) hg (.inl rfl)); replace HO_14 := Aside0.mk (Kd.R_after (v := (.slice (some ⟨go42, 0, none⟩) x9_1.length co42)) (v1 := (.slice (some ⟨go42, 0, none⟩) x9_1.length co42)) (ok := (fun k_ => some k_ ≠ (.slice Ao32 t839.length co32 : Value).ownBlock ∧ some k_ ≠ (.slice (some ad863) t851.length co43 : Value).ownBlock ∧ some k_ ≠ (.slice (some ad862) t836.length co25 : Value).ownBlock)) (by (with_reducible repeat (first | apply Kd.R_alloc | apply Kd.R_drewN | apply Kd.R_drew)); exact Kd.R_mono HO_14.out (fun _ hk => ⟨⟨hk.2.1, ⟨hk.2.2.1, hk.2.2.2⟩⟩, hk.1⟩)) hg (.inl rfl)); replace HO_56 := Aside0.mk (Kd.R_after (v := (.slice (some ⟨go42, 0, none⟩) x9_1.length co42)) (v1 := (.slice (some ⟨go42, 0, none⟩) x9_1.length co42)) (ok := (fun k_ => some k_ ≠ (.slice Ao32 t839.length co32 : Value).ownBlock ∧ some k_ ≠ (.slice (some ad863) t851.length co43 : Value).ownBlock ∧ some k_ ≠ (v860 : Value).ownBlock)) (by (with_reducible repeat (first | apply Kd.R_alloc | apply Kd.R_drewN | apply Kd.R_drew)); exact Kd.R_mono HO_56.out (fun _ hk => ⟨⟨hk.2.1, ⟨hk.2.2.1, hk.2.2.2⟩⟩, hk.1⟩)) hg (.inl rfl)); replace BK832 := Aside0.mk (blk_grown (qB BK832) hg (Kd.R_ne HO_9.out BK832.out (by decide))); replace HO_9 := Aside0.mk (hp_); replace HB := Aside0.mk ((by rw [hw]; exact below_set (HB.out) GB42.out : Below w.heap.size w w45)); clear hg hw hp_))
    go_roundg k1
    case measure => have := HK1.out; omega
    case rel => exact ⟨(y864), (wrap64 (x58_1 + 1)), qV, H', ⟨by have := HK1.out; omega⟩, ⟨qR HO_9⟩, ⟨by (with_reducible repeat (first | apply Kd.R_alloc | apply Kd.R_drewN | apply Kd.R_drew)); exact Kd.R_mono HO_11.out (fun _ hk => ⟨hk.2, ⟨hk.1.1, ⟨hk.1.2.1, hk.1.2.2⟩⟩⟩)⟩, ⟨by (with_reducible repeat (first | apply Kd.R_alloc | apply Kd.R_drewN | apply Kd.R_drew)); exact Kd.R_mono HO_12.out (fun _ hk => ⟨hk.2, ⟨hk.1.1, ⟨hk.1.2.1, hk.1.2.2⟩⟩⟩)⟩, ⟨by (with_reducible repeat (first | apply Kd.R_alloc | apply Kd.R_drewN | apply Kd.R_drew)); exact Kd.R_mono HO_14.out (fun _ hk => ⟨hk.2, ⟨hk.1.1, ⟨hk.1.2.1, hk.1.2.2⟩⟩⟩)⟩, ⟨by (with_reducible repeat (first | apply Kd.R_alloc | apply Kd.R_drewN | apply Kd.R_drew)); exact Kd.R_mono HO_56.out (fun _ hk => ⟨hk.2, ⟨hk.1.1, ⟨hk.1.2.1, hk.1.2.2⟩⟩⟩)⟩, ⟨qB BK832⟩, ⟨qS1 HB GE832⟩⟩
   ·have H' := Aside0.mk H
    clear H
    go_wp2
    go_loopg [73] k1 (fun kq v73 w' => ∃ (x9_2 : List Int) (x73_2 : Int), v73 = .int .i64 x73_2 ∧ Aside0 (impl_sessPair.l1 kq x9_2 t858 t839 (t839.length : Int) x73_2 = some r) ∧ Aside0 (kq ≤ k1) ∧ Aside0 (Kd.R (Kd.int .i64) 3 w' w.heap.size (fun k_ => some k_ ≠ (v860 : Value).ownBlock ∧ some k_ ≠ ((.slice Ao32 t839.length co32) : Value).ownBlock) v834 x9_2) ∧ Aside0 (Kd.R (Kd.int .i64) 3 w' w.heap.size (fun k_ => some k_ ≠ (v834 : Value).ownBlock ∧ some k_ ≠ ((.slice Ao32 t839.length co32) : Value).ownBlock) v860 t858) ∧ Aside0 (Kd.R (Kd.int .i64) 3 w' w.heap.size (fun k_ => some k_ ≠ (v834 : Value).ownBlock ∧ some k_ ≠ (v860 : Value).ownBlock) (.slice Ao32 t839.length co32) t839) ∧ Aside0 (w'.heap[gb832]? = some (.cells #[.int .i64 a0_0, .int .i64 a0_1, .int .i64 a0_2, .int .i64 a0_3] 29 (0, 0))) ∧ Aside0 (Below w.heap.size w w'))
    case atStart => exact ⟨(x9_1), (0), qV, H', ⟨Nat.le_refl _⟩, ⟨by (with_reducible repeat (first | apply Kd.R_alloc | apply Kd.R_drewN | apply Kd.R_drew)); exact Kd.R_mono HO_9.out (fun _ hk => ⟨hk.2.2.1, hk.1⟩)⟩, ⟨by (with_reducible repeat (first | apply Kd.R_alloc | apply Kd.R_drewN | apply Kd.R_drew)); exact Kd.R_mono HO_14.out (fun _ hk => ⟨hk.1, hk.2.1⟩)⟩, ⟨by (with_reducible repeat (first | apply Kd.R_alloc | apply Kd.R_drewN | apply Kd.R_drew)); exact Kd.R_mono HO_11.out (fun _ hk => ⟨hk.1, hk.2.2.1⟩)⟩, ⟨qB BK832⟩, ⟨qS1 HB GE832⟩⟩
    case round =>
     clear H'; (try clear hx4); (try clear hf4); (try clear hx8); (try clear c36b0); (try clear c37b0); (try clear c38b0); (try clear c39b0); (try clear c40b0); (try clear c41b0); (try clear p42); (try clear q42); (try clear hx42); (try clear hf42); (try clear hx42_0); (try clear hx862_0); (try clear hx863_0); (try clear p862); (try clear p863); (try clear q862); (try clear q863); (obtain ⟨x9_2, x73_2, rfl, HA, HK2, HO_9, HO_14, HO_71, BK832, HB⟩ := hrel)
     cases gk with
     | zero => exact absurd HA.out (by simp [impl_sessPair.l1])
     | succ k2 =>
      (have H := HA.out); clear HA; (simp only [impl_sessPair.l1] at H)
      rcases qI H with ⟨c46b0, H⟩ | ⟨c46b0, H⟩
      ·obtain ⟨c47b0, H⟩ := qT H
       (obtain ⟨c48b0, H⟩ := qT H); (obtain ⟨c49b0, H⟩ := qT H); (obtain ⟨c50b0, H⟩ := qT H); (obtain ⟨c51b0, H⟩ := qT H); (obtain ⟨y867, hy867⟩ : ∃ y_ : List Int, y_ = (x9_2.set ((rd t839 x73_2) : Int).toNat (rd t858 x73_2)) := ⟨_, rfl⟩); (replace H : (impl_sessPair.l1 k2 y867 t858 t839 (t839.length : Int) (wrap64 (x73_2 + 1))) = some r := qY hy867 H); (have Ny867 := Aside0.mk hy867); clear hy867; (have H' := Aside0.mk H); clear H; (have p865 : 0 ≤ (x73_2 : Int) := qO); (have q865 : x73_2 < (t839.length : Int) := qO); (obtain ⟨ad865, e865, hx865_0⟩ := Kd.at_int (Kd.R_reads' HO_71.out).2.2 x73_2 p865 q865)
       cases e865
       (replace p865 := eq_true p865); (replace q865 := eq_true q865); (obtain ⟨Ao53, co53, eo53⟩ := Kd.R_slice HO_14.out); (subst eo53); (have p866 : 0 ≤ (x73_2 : Int) := qO); (have q866 : x73_2 < (t858.length : Int) := qO); (obtain ⟨ad866, e866, hx866_0⟩ := Kd.at_int (Kd.R_reads' HO_14.out).2.2 x73_2 p866 q866)
       cases e866
       (replace p866 := eq_true p866); (replace q866 := eq_true q866); (have p52 : 0 ≤ ((rd t839 x73_2) : Int) := qO); (have q52 : ((rd t839 x73_2) : Int) < ((x9_2.length : Int) : Int) := qO); (obtain ⟨go52, co52, eo52, gb52, gl52, cl52, HG52⟩ := Kd.R_form HO_9.out (by omega))
       (first | cases eo52 | (injection eo52 with ea_ en_ ec_; (first | subst ea_ | (injection ea_ with ea_; subst ea_)); subst ec_; clear en_))
       (have GB52 := Aside0.mk gb52); (have GG52 := Aside0.mk HG52); clear gb52 gl52 HG52; (obtain ⟨hx52_0, hf52_0⟩ := Kd.R_celln 0 HO_9.out ((rd t839 x73_2) : Int) p52 q52); (replace p52 := eq_true p52); (replace q52 := eq_true q52); (have HP54 := Kd.R_putg HO_9.out ((rd t839 x73_2) : Int) (rd t858 x73_2))
       go_wp2_with (first | ((with_reducible refine gate_store (t := 3) (p := 84) rfl ?_); refine store_event (t := 3) (p := 84) (v := ?vo_w55) (w1 := (wr.setCell ⟨go52, ((rd t839 x73_2) : Int).toNat, none⟩ (.int .i64 (rd t858 x73_2)))) ?hg ?ho ?hn ?hr ?_; (case ho => rfl); (case hg => rfl); (case hn => rfl); (case hr => first | (go_simp; done) | (go_simp; rfl)); intro w55 hw; have hg : wr.grownBy w55 (some go52) := (by rw [hw]; exact HP54.2); have hp_ : Kd.R (Kd.int .i64) 3 w55 w.heap.size (fun k_ => some k_ ≠ (.slice (some ad866) t858.length co53 : Value).ownBlock ∧ some k_ ≠ (.slice (some ad865) t839.length co32 : Value).ownBlock) (.slice (some ⟨go52, 0, none⟩) x9_2.length co52) y867 := (by rw [hw, Ny867.out]; exact HP54.1); clear HP54; replace HO_14 := Aside0.mk (Kd.R_after (v := (.slice (some ⟨go52, 0, none⟩) x9_2.length co52)) (v1 := (.slice (some ⟨go52, 0, none⟩) x9_2.length co52)) (ok := (fun k_ => some k_ ≠ (.slice (some ad865) t839.length co32 : Value).ownBlock)) (by (with_reducible repeat (first | apply Kd.R_alloc | apply Kd.R_drewN | apply Kd.R_drew)); exact Kd.R_mono HO_14.out (fun _ hk => ⟨hk.2, hk.1⟩)) hg (.inl rfl)); replace HO_71 := Aside0.mk (Kd.R_after (v := (.slice (some ⟨go52, 0, none⟩) x9_2.length co52)) (v1 := (.slice (some ⟨go52, 0, none⟩) x9_2.length co52)) (ok := (fun k_ => some k_ ≠ (.slice (some ad866) t858.length co53 : Value).ownBlock)) (by (with_reducible repeat (first | apply Kd.R_alloc | apply Kd.R_drewN | apply Kd.R_drew)); exact Kd.R_mono HO_71.out (fun _ hk => ⟨hk.2, hk.1⟩)) hg (.inl rfl)); replace BK832 := Aside0.mk (blk_grown (qB BK832) hg (Kd.R_ne HO_9.out BK832.out (by decide))); replace HO_9 := Aside0.mk (hp_); replace HB := Aside0.mk ((by rw [hw]; exact below_set (HB.out) GB52.out : Below w.heap.size w w55)); clear hg hw hp_))
       go_roundg k2
       case measure => have := HK1.out; have := HK2.out; omega
       case rel => exact ⟨(y867), (wrap64 (x73_2 + 1)), qV, H', ⟨by have := HK1.out; have := HK2.out; omega⟩, ⟨qR HO_9⟩, ⟨by (with_reducible repeat (first | apply Kd.R_alloc | apply Kd.R_drewN | apply Kd.R_drew)); exact Kd.R_mono HO_14.out (fun _ hk => ⟨hk.2, hk.1⟩)⟩, ⟨by (with_reducible repeat (first | apply Kd.R_alloc | apply Kd.R_drewN | apply Kd.R_drew)); exact Kd.R_mono HO_71.out (fun _ hk => ⟨hk.2, hk.1⟩)⟩, ⟨qB BK832⟩, ⟨qS1 HB GE832⟩⟩
      ·obtain rfl := Option.some.inj H
       go_wp2
       go_ret
       exact ⟨_, by first | rfl | (simp [errW_none, errW_some] <;> rfl) | (simp only [← hji7, ← hji9, ← hji15]; first | rfl | (simp [errW_none, errW_some] <;> rfl)) | (simp [*, errW_none, errW_some] <;> rfl), by (with_reducible repeat (first | apply Kd.R_alloc | apply Kd.R_drewN | apply Kd.R_drew)); exact Kd.R_mono HO_9.out (fun _ hk => trivial), qS1 HB GE832⟩
def impl_SessPair.j0 : Nat → List (S56) → List (S56) → List Int → Bool → Int → Int → Int → Int → Option (List Int × Bool)
 | 0, _, _, _, _, _, _, _, _ => none
 | k + 1, x1, x2, x3, x27, x869000, x869001, x869002, x869003 => if x27 = true then (some (([] : List Int), false)) else ((impl_sessIds.f k x869000 x869001 x869002 x869003 x1).bind fun t876 => ((impl_sessIds.f k x869000 x869001 x869002 x869003 x2).bind fun t879 => ((impl_sessPair.f k x869000 x869001 x869002 x869003 t876 t879 x3).bind fun t882 => (some (t882, true)))))
def impl_SessPair.f (k : Nat) (a0_0 : Int) (a0_1 : Int) (a0_2 : Int) (a0_3 : Int) (l1 : List (S56)) (l2 : List (S56)) (l3 : List Int) : Option (List Int × Bool) := (impl_isConf.f a0_0 a0_1 a0_2 a0_3).bind fun t869 => (if t869 = true then ((impl_sameShape.f k l1 l2).bind fun t870 => (if t870 = true then ((impl_shapesOf.f k l1).bind fun t871 => ((impl_shapeDraws.f k a0_0 a0_1 a0_2 a0_3 t871).bind fun t874 => ((impl_areDraws.f l3 t874).bind fun t875 => (impl_SessPair.j0 k l1 l2 l3 (!t875) a0_0 a0_1 a0_2 a0_3)))) else (impl_SessPair.j0 k l1 l2 l3 true a0_0 a0_1 a0_2 a0_3))) else (impl_SessPair.j0 k l1 l2 l3 true a0_0 a0_1 a0_2 a0_3))
def impl_SessPair.T1 : Bool × List (List Nat × List Nat) := (true, [([], []), ([0], [0]), ([1], [1]), ([2, 1], [2]), ([3], [3]), ([3], [3]), ([4, 5, 3, 3], [3, 4, 5]), ([6, 3], [3, 6]), ([3, 7], [3, 7]), ([8, 6], [8]), ([9], [9]), ([9], [9]), ([9], [9]), ([12, 9, 9], [9, 12]), ([11, 13, 13, 9], [9, 11, 13]), ([10, 14, 14, 9], [9, 10, 14]), ([15, 9], [9, 15]), ([9, 16], [9, 16])])
def impl_SessPair.B1 : List Nat := [0, 1, 3, 7, 15, 15, 63, 127, 255, 511, 1023, 1023, 1023, 5119, 15359, 32767, 65535, 131071]
theorem impl_SessPair.tab1 : rtab .any (opsOf Tryz.f18 1) = impl_SessPair.T1 := by kernel_rfl
theorem impl_SessPair.bits1 : waitsOk impl_SessPair.T1.2 impl_SessPair.B1 = true := by kernel_rfl
def impl_SessPair.T3 : Bool × List (List Nat × List Nat) := (true, [([], []), ([], []), ([], []), ([1, 2], [1, 2]), ([], []), ([], []), ([4, 5, 3], [4, 5]), ([], []), ([0, 3, 6, 7, 6], [0, 3, 6, 7]), ([8, 8, 0, 1, 2, 3, 4, 5, 6, 7, 8], [8]), ([9, 0, 1, 2, 3, 4, 5, 6, 7, 8, 9], [])])
def impl_SessPair.B3 : List Nat := [0, 0, 0, 6, 0, 0, 62, 0, 255, 511, 1023]
theorem impl_SessPair.tab3 : rtab .any (opsOf Tryz.f18 3) = impl_SessPair.T3 := by kernel_rfl
theorem impl_SessPair.bits3 : waitsOk impl_SessPair.T3.2 impl_SessPair.B3 = true := by kernel_rfl
theorem impl_SessPair.calls (k : Nat) (a0_0 : Int) (a0_1 : Int) (a0_2 : Int) (a0_3 : Int) (A1 : Option Addr) (c1 : Nat) (l1 : List (S56)) (A2 : Option Addr) (c2 : Nat) (l2 : List (S56)) (A3 : Option Addr) (c3 : Nat) (l3 : List Int) (r1 : List Int) (r2 : Bool) (w : World) (hr1 : Kd.C k56 w A1 l1.length l1) (hc1 : l1.length ≤ c1) (hr2 : Kd.C k56 w A2 l2.length l2) (hc2 : l2.length ≤ c2) (hr3 : Kd.C (Kd.int .i64) w A3 l3.length l3) (hc3 : l3.length ≤ c3) (h : impl_SessPair.f k a0_0 a0_1 a0_2 a0_3 l1 l2 l3 = some (r1, r2)) (hG : TabG w) :
  Calls Tryz.prog 18 #[.agg #[.int .i64 a0_0, .int .i64 a0_1, .int .i64 a0_2, .int .i64 a0_3], .slice A1 l1.length c1, .slice A2 l2.length c2, .slice A3 l3.length c3] w fun e w' => ∃ v0_ : Value, e = .returned (.tuple #[v0_, .bool r2]) ∧ Kd.R (Kd.int .i64) 3 w' w.heap.size (fun _ => True) v0_ r1 ∧ Below w.heap.size w w' := by
 (have hu29 := Tryz.underlying29); (have HR1 := Aside0.mk hr1); (have HC1 := Aside0.mk hc1); clear hr1 hc1; (have HR2 := Aside0.mk hr2); (have HC2 := Aside0.mk hc2); clear hr2 hc2; (have HR3 := Aside0.mk hr3); (have HC3 := Aside0.mk hc3); clear hr3 hc3; (have HB := Aside0.mk (Below.refl w.heap.size w)); (have H : ((impl_isConf.f a0_0 a0_1 a0_2 a0_3).bind fun t869 => (if t869 = true then ((impl_sameShape.f k l1 l2).bind fun t870 => (if t870 = true then ((impl_shapesOf.f k l1).bind fun t871 => ((impl_shapeDraws.f k a0_0 a0_1 a0_2 a0_3 t871).bind fun t874 => ((impl_areDraws.f l3 t874).bind fun t875 => (impl_SessPair.j0 k l1 l2 l3 (!t875) a0_0 a0_1 a0_2 a0_3)))) else (impl_SessPair.j0 k l1 l2 l3 true a0_0 a0_1 a0_2 a0_3))) else (impl_SessPair.j0 k l1 l2 l3 true a0_0 a0_1 a0_2 a0_3))) = some (r1, r2) := h); clear h; (have HC5 := Aside0.mk H); clear H
 go_enter Tryz.func18, Tryz.ntmps18
 go_upto_region 1 with (first | ((with_reducible refine gate_dst (N := 4) rfl ?_); refine box_event ?hg (N := 4) ?hd (cs := #[.int .i64 a0_0, .int .i64 a0_1, .int .i64 a0_2, .int .i64 a0_3]) (t := 29) ?hr ?_; (case hd => rfl); (case hg => rfl); (case hr => first | (go_simp; done) | (go_simp; rfl)); intro gb868 hg w6 hbox hb; have BK868 := Aside0.mk (hbox); have GW868 := qG hg (below_size (qS0 HB)); have GE868 := qG hg (below_size (qS0 HB)); replace HB := Aside0.mk (below_step (qS0 HB) hb); clear hb hbox hg))
 (try simp only [Act.put, List.setIfInBounds_toArray, List.set_cons_zero, List.set_cons_succ])
 go_cut [27] (fun v27 wc => ∃ (kq : Nat) (x27_4 : Bool), v27 = .bool x27_4 ∧ Aside0 (impl_SessPair.j0 kq l1 l2 l3 x27_4 a0_0 a0_1 a0_2 a0_3 = some (r1, r2)) ∧ Aside0 (kq ≤ k) ∧ Aside0 (wc.heap[gb868]? = some (.cells #[.int .i64 a0_0, .int .i64 a0_1, .int .i64 a0_2, .int .i64 a0_3] 29 (0, 0))) ∧ Aside0 (Below w.heap.size w wc))
 case first =>
  (have H := HC5.out); clear HC5; (obtain ⟨t869, A7, H⟩ := qX H)
  try dsimp only at H
  by_cases c8 : t869 = true
  ·subst c8
   (have H1 : ((impl_sameShape.f k l1 l2).bind fun t870 => (if t870 = true then ((impl_shapesOf.f k l1).bind fun t871 => ((impl_shapeDraws.f k a0_0 a0_1 a0_2 a0_3 t871).bind fun t874 => ((impl_areDraws.f l3 t874).bind fun t875 => (impl_SessPair.j0 k l1 l2 l3 (!t875) a0_0 a0_1 a0_2 a0_3)))) else (impl_SessPair.j0 k l1 l2 l3 true a0_0 a0_1 a0_2 a0_3))) = some (r1, r2) := by rw [if_pos rfl] at H; exact H); clear H; (have H := H1); clear H1; (obtain ⟨t870, A9, H⟩ := qX H)
   try dsimp only at H
   by_cases c10 : t870 = true
   ·subst c10
    (have H1 : ((impl_shapesOf.f k l1).bind fun t871 => ((impl_shapeDraws.f k a0_0 a0_1 a0_2 a0_3 t871).bind fun t874 => ((impl_areDraws.f l3 t874).bind fun t875 => (impl_SessPair.j0 k l1 l2 l3 (!t875) a0_0 a0_1 a0_2 a0_3)))) = some (r1, r2) := by rw [if_pos rfl] at H; exact H); clear H; (have H := H1); clear H1; (obtain ⟨t871, A11, H⟩ := qX H)
    try dsimp only at H
    obtain ⟨t874, A12, H⟩ := qX H
    try dsimp only at H
    (obtain ⟨t875, A13, H⟩ := qX H); (replace H : (impl_SessPair.j0 k l1 l2 l3 (!t875) a0_0 a0_1 a0_2 a0_3) = some (r1, r2) := H); (have H' := Aside0.mk H); clear H
    try go_wp2
    (replace BK868 := Aside0.mk (blk_drew BK868.out)); (replace HB := Aside0.mk (below_drew1 HB.out))
    refine start_ (n := 18) (S := fun w' => w'.cell? ⟨gb868, 0, none⟩ = some (.int .i64 a0_0) ∧ w'.cell? ⟨gb868, 1, none⟩ = some (.int .i64 a0_1) ∧ w'.cell? ⟨gb868, 2, none⟩ = some (.int .i64 a0_2) ∧ w'.cell? ⟨gb868, 3, none⟩ = some (.int .i64 a0_3)) (ds := []) #[false, false, false, false, false, false, false, false, false, false, false, false, false, false, false, false, false, false] (by kernel_rfl) rfl rfl ⟨(blk_cell BK868.out 0).trans rfl, (blk_cell BK868.out 1).trans rfl, (blk_cell BK868.out 2).trans rfl, (blk_cell BK868.out 3).trans rfl⟩ (fun hHeld => ?_); refine with_tabW impl_SessPair.tab1 impl_SessPair.bits1 (fun HT_ HW_ => ?_)
    generalize w6.drew = w14 at BK868 HB hHeld ⊢
    refine take_ (i := 0) (N := some 10) (v := ?_) (a' := ?_) #[true, false, false, false, false, false, false, false, false, false, false, false, false, false, false, false, false, false] rfl rfl (take_ofW HT_.out HW_.out (by kernel_rfl)) (fun _ _ _ h => h) (Or.inl ⟨by rfl, ?_⟩) hHeld ?_ ?_
    rotate_left
    ·rintro w' ⟨s0, s1, s2, s3⟩
     go_simp
     with_reducible rfl
    rotate_left
    ·exact qPu
    refine one_ (i := 1) (N := some 11) #[true, true, false, false, false, false, false, false, false, false, false, false, false, false, false, false, false, false] rfl rfl (one_of HT_.out (by kernel_rfl)) (by decide) (fun K hK => ?_)
    refine goes_ Tryz.func33 (by kernel_rfl) rfl #[.agg #[.int .i64 a0_0, .int .i64 a0_1, .int .i64 a0_2, .int .i64 a0_3]] (by rfl) rfl rfl qL ?_
    with_reducible refine (impl_isConf.calls a0_0 a0_1 a0_2 a0_3 true _ A7.out).mono ?_
    rintro e w15 ⟨rfl, hb⟩
    refine ⟨_, rfl, ?_⟩
    (replace BK868 := qD BK868 hb); (replace HB := Aside0.mk (below_step (qS1 HB GE868) hb)); (try clear hb); (try clear hb2); (try clear hk); (try clear hi)
    refine hK.out _ _ ⟨(blk_cell BK868.out 0).trans rfl, (blk_cell BK868.out 1).trans rfl, (blk_cell BK868.out 2).trans rfl, (blk_cell BK868.out 3).trans rfl⟩ (fun hHeld => ?_)
    clear hK K
    refine norm_ (a' := ?_) ?_ ?_
    rotate_left
    ·show Act.put _ (some 11) _ = _
     exact qPu
    refine pure_ (i := 2) (N := some 12) (v := ?_) (a' := ?_) #[true, true, true, false, false, false, false, false, false, false, false, false, false, false, false, false, false, false] rfl rfl (any_of HT_.out (by kernel_rfl)) (fun _ _ _ h => h) (Or.inl ⟨by rfl, ?_⟩) ?_ ?_
    rotate_left
    ·intro w'
     go_simp
     with_reducible rfl
    rotate_left
    ·exact qPu
    refine pure_ (i := 3) (N := some 13) (v := ?_) (a' := ?_) #[true, true, true, true, false, false, false, false, false, false, false, false, false, false, false, false, false, false] rfl rfl (any_of HT_.out (by kernel_rfl)) (fun _ _ _ h => h) (Or.inl ⟨by rfl, ?_⟩) ?_ ?_
    rotate_left
    ·intro w'
     go_simp
     with_reducible rfl
    rotate_left
    ·exact qPu
    refine pure_ (i := 4) (N := some 14) (v := ?_) (a' := ?_) #[true, true, true, true, true, false, false, false, false, false, false, false, false, false, false, false, false, false] rfl rfl (any_of HT_.out (by kernel_rfl)) (fun _ _ _ h => h) (Or.inl ⟨by rfl, ?_⟩) ?_ ?_
    rotate_left
    ·intro w'
     go_simp
     with_reducible rfl
    rotate_left
    ·exact qPu
    refine pure_ (i := 5) (N := some 15) (v := ?_) (a' := ?_) #[true, true, true, true, true, true, false, false, false, false, false, false, false, false, false, false, false, false] rfl rfl (any_of HT_.out (by kernel_rfl)) (fun _ _ _ h => h) (Or.inl ⟨by rfl, ?_⟩) ?_ ?_
    rotate_left
    ·intro w'
     go_simp
     with_reducible rfl
    rotate_left
    ·exact qPu
    refine one_ (i := 6) (N := some 16) #[true, true, true, true, true, true, true, false, false, false, false, false, false, false, false, false, false, false] rfl rfl (one_of HT_.out (by kernel_rfl)) (by decide) (fun K hK => ?_)
    refine goes_ Tryz.func44 (by kernel_rfl) rfl #[.slice A1 l1.length c1, .slice A2 l2.length c2] (by rfl) rfl rfl qL ?_
    with_reducible refine (impl_sameShape.calls k _ _ l1 _ _ l2 true _ ?side1 ?side2 ?side3 ?side4 A9.out).mono ?_
    (case side1 => exact qW (Kd.C_below HR1.out HB.out))
    (case side2 => exact HC1.out)
    (case side3 => exact qW (Kd.C_below HR2.out HB.out))
    (case side4 => exact HC2.out)
    rintro e w16 ⟨rfl, hb⟩
    refine ⟨_, rfl, ?_⟩
    (replace BK868 := qD BK868 hb); (replace HB := Aside0.mk (below_step (qS1 HB GE868) hb)); (try clear hb); (try clear hb2); (try clear hk); (try clear hi)
    refine hK.out _ _ ⟨(blk_cell BK868.out 0).trans rfl, (blk_cell BK868.out 1).trans rfl, (blk_cell BK868.out 2).trans rfl, (blk_cell BK868.out 3).trans rfl⟩ (fun hHeld => ?_)
    clear hK K
    refine norm_ (a' := ?_) ?_ ?_
    rotate_left
    ·show Act.put _ (some 16) _ = _
     exact qPu
    refine pure_ (i := 7) (N := some 17) (v := ?_) (a' := ?_) #[true, true, true, true, true, true, true, true, false, false, false, false, false, false, false, false, false, false] rfl rfl (any_of HT_.out (by kernel_rfl)) (fun _ _ _ h => h) (Or.inl ⟨by rfl, ?_⟩) ?_ ?_
    rotate_left
    ·intro w'
     go_simp
     with_reducible rfl
    rotate_left
    ·exact qPu
    refine pure_ (i := 8) (N := some 18) (v := ?_) (a' := ?_) #[true, true, true, true, true, true, true, true, true, false, false, false, false, false, false, false, false, false] rfl rfl (any_of HT_.out (by kernel_rfl)) (fun _ _ _ h => h) (Or.inl ⟨by rfl, ?_⟩) ?_ ?_
    rotate_left
    ·intro w'
     go_simp
     with_reducible rfl
    rotate_left
    ·exact qPu
    refine pure_ (i := 9) (N := some 19) (v := ?_) (a' := ?_) #[true, true, true, true, true, true, true, true, true, true, false, false, false, false, false, false, false, false] rfl rfl (any_of HT_.out (by kernel_rfl)) (fun _ _ _ h => h) (Or.inl ⟨by rfl, ?_⟩) ?_ ?_
    rotate_left
    ·intro w'
     go_simp
     with_reducible rfl
    rotate_left
    ·exact qPu
    refine pure_ (i := 10) (N := some 20) (v := ?_) (a' := ?_) #[true, true, true, true, true, true, true, true, true, true, true, false, false, false, false, false, false, false] rfl rfl (any_of HT_.out (by kernel_rfl)) (fun _ _ _ h => h) (Or.inl ⟨by rfl, ?_⟩) ?_ ?_
    rotate_left
    ·intro w'
     go_simp
     with_reducible rfl
    rotate_left
    ·exact qPu
    refine pure_ (i := 12) (N := some 22) (v := ?_) (a' := ?_) #[true, true, true, true, true, true, true, true, true, true, true, false, true, false, false, false, false, false] rfl rfl (any_of HT_.out (by kernel_rfl)) (fun _ _ _ h => h) (Or.inl ⟨by rfl, ?_⟩) ?_ ?_
    rotate_left
    ·intro w'
     go_simp
     with_reducible rfl
    rotate_left
    ·exact qPu
    refine take_ (i := 11) (N := some 21) (v := ?_) (a' := ?_) #[true, true, true, true, true, true, true, true, true, true, true, true, true, false, false, false, false, false] rfl rfl (take_ofW HT_.out HW_.out (by kernel_rfl)) (fun _ _ _ h => h) (Or.inl ⟨by rfl, ?_⟩) hHeld ?_ ?_
    rotate_left
    ·rintro w' ⟨s0, s1, s2, s3⟩
     go_simp
     with_reducible rfl
    rotate_left
    ·exact qPu
    refine one_ (i := 13) (N := some 23) #[true, true, true, true, true, true, true, true, true, true, true, true, true, true, false, false, false, false] rfl rfl (one_of HT_.out (by kernel_rfl)) (by decide) (fun K hK => ?_)
    refine goes_ Tryz.func37 (by kernel_rfl) rfl #[.slice A1 l1.length c1] (by rfl) rfl rfl qL ?_
    with_reducible refine (impl_shapesOf.calls k _ _ l1 t871 _ ?side1 ?side2 A11.out).mono ?_
    (case side1 => exact qW (Kd.C_below HR1.out HB.out))
    (case side2 => exact HC1.out)
    rintro e w17 ⟨v872, rfl, ho0, hb⟩
    refine ⟨_, rfl, ?_⟩
    (have HO873 := Aside0.mk (Kd.R_lower ho0 (below_size (qS1 HB GE868)))); (replace BK868 := qD BK868 hb); (replace HB := Aside0.mk (below_step (qS1 HB GE868) hb)); (try clear hb); (try clear hb2); (try clear hk); (try clear hi); (try clear ho0); (obtain ⟨Ao18, co18, eo18⟩ := Kd.R_slice HO873.out)
    (first | subst eo18 | (injection eo18 with f1_ f2_ f3_; have f4_ := f1_.symm; have f5_ := f3_.symm; clear f1_ f2_ f3_; subst f4_; subst f5_))
    refine hK.out _ _ ⟨(blk_cell BK868.out 0).trans rfl, (blk_cell BK868.out 1).trans rfl, (blk_cell BK868.out 2).trans rfl, (blk_cell BK868.out 3).trans rfl⟩ (fun hHeld => ?_)
    clear hK K
    refine norm_ (a' := ?_) ?_ ?_
    rotate_left
    ·show Act.put _ (some 23) _ = _
     exact qPu
    refine one_ (i := 14) (N := some 24) #[true, true, true, true, true, true, true, true, true, true, true, true, true, true, true, false, false, false] rfl rfl (one_of HT_.out (by kernel_rfl)) (by decide) (fun K hK => ?_)
    refine goes_ Tryz.func36 (by kernel_rfl) rfl #[.agg #[.int .i64 a0_0, .int .i64 a0_1, .int .i64 a0_2, .int .i64 a0_3], .slice Ao18 t871.length co18] (by rfl) rfl rfl qL ?_
    with_reducible refine (impl_shapeDraws.calls k a0_0 a0_1 a0_2 a0_3 _ _ t871 t874 _ ?side1 ?side2 A12.out).mono ?_
    (case side1 => repeat (first | exact (Kd.R_reads' HO873.out).2.2 | (with_reducible refine Kd.C_alloc ?_ _) | (with_reducible refine Kd.C_drewN ?_ _) | (with_reducible refine Kd.C_drew ?_)))
    (case side2 => exact (Kd.R_reads' HO873.out).2.1)
    rintro e w19 ⟨rfl, hb⟩
    refine ⟨_, rfl, ?_⟩
    (replace HO873 := Aside0.mk (Kd.R_below (qR HO873) hb)); (replace BK868 := qD BK868 hb); (replace HB := Aside0.mk (below_step (qS1 HB GE868) hb)); (try clear hb); (try clear hb2); (try clear hk); (try clear hi)
    refine hK.out _ _ ⟨(blk_cell BK868.out 0).trans rfl, (blk_cell BK868.out 1).trans rfl, (blk_cell BK868.out 2).trans rfl, (blk_cell BK868.out 3).trans rfl⟩ (fun hHeld => ?_)
    clear hK K
    refine norm_ (a' := ?_) ?_ ?_
    rotate_left
    ·show Act.put _ (some 24) _ = _
     exact qPu
    refine one_ (i := 15) (N := some 25) #[true, true, true, true, true, true, true, true, true, true, true, true, true, true, true, true, false, false] rfl rfl (one_of HT_.out (by kernel_rfl)) (by decide) (fun K hK => ?_)
    refine goes_ Tryz.func35 (by kernel_rfl) rfl #[.slice A3 l3.length c3, .int .i64 t874] (by rfl) rfl rfl qL ?_
    with_reducible refine (impl_areDraws.calls _ _ l3 t874 t875 _ ?side1 ?side2 A13.out).mono ?_
    (case side1 => exact qW (Kd.C_below HR3.out HB.out))
    (case side2 => exact HC3.out)
    rintro e w20 ⟨rfl, hb⟩
    refine ⟨_, rfl, ?_⟩
    (replace HO873 := Aside0.mk (Kd.R_below (qR HO873) hb)); (replace BK868 := qD BK868 hb); (replace HB := Aside0.mk (below_step (qS1 HB GE868) hb)); (try clear hb); (try clear hb2); (try clear hk); (try clear hi)
    refine hK.out _ _ ⟨(blk_cell BK868.out 0).trans rfl, (blk_cell BK868.out 1).trans rfl, (blk_cell BK868.out 2).trans rfl, (blk_cell BK868.out 3).trans rfl⟩ (fun hHeld => ?_)
    clear hK K
    refine norm_ (a' := ?_) ?_ ?_
    rotate_left
    ·show Act.put _ (some 25) _ = _
     exact qPu
    refine pure_ (i := 16) (N := some 26) (v := ?_) (a' := ?_) #[true, true, true, true, true, true, true, true, true, true, true, true, true, true, true, true, true, false] rfl rfl (any_of HT_.out (by kernel_rfl)) (fun _ _ _ h => h) (Or.inl ⟨by rfl, ?_⟩) ?_ ?_
    rotate_left
    ·intro w'
     go_simp
     with_reducible rfl
    rotate_left
    ·exact qPu
    refine pure_ (i := 17) (N := some 27) (v := ?_) (a' := ?_) #[true, true, true, true, true, true, true, true, true, true, true, true, true, true, true, true, true, true] rfl rfl (any_of HT_.out (by kernel_rfl)) (fun _ _ _ h => h) (Or.inl ⟨by rfl, ?_⟩) ?_ ?_
    rotate_left
    ·intro w'
     go_simp
     with_reducible rfl
    rotate_left
    ·exact qPu
    refine done_ (done_of HT_.out (by kernel_rfl)) ?_
    try go_wp2
    go_meet
    case rel => exact ⟨_, (!t875), qV, H', ⟨by first | omega | exact Nat.le_refl _⟩, ⟨qB BK868⟩, ⟨qS1 HB GE868⟩⟩
   ·replace c10 := Bool.eq_false_iff.mpr c10
    (subst c10); (have H1 : (impl_SessPair.j0 k l1 l2 l3 true a0_0 a0_1 a0_2 a0_3) = some (r1, r2) := by rw [if_neg (show ¬ (false = true) by decide)] at H; exact H); clear H; (have H := H1); clear H1; (have H' := Aside0.mk H); clear H
    try go_wp2
    (replace BK868 := Aside0.mk (blk_drew BK868.out)); (replace HB := Aside0.mk (below_drew1 HB.out))
    refine start_ (n := 18) (S := fun w' => w'.cell? ⟨gb868, 0, none⟩ = some (.int .i64 a0_0) ∧ w'.cell? ⟨gb868, 1, none⟩ = some (.int .i64 a0_1) ∧ w'.cell? ⟨gb868, 2, none⟩ = some (.int .i64 a0_2) ∧ w'.cell? ⟨gb868, 3, none⟩ = some (.int .i64 a0_3)) (ds := []) #[false, false, false, false, false, false, false, false, false, false, false, false, false, false, false, false, false, false] (by kernel_rfl) rfl rfl ⟨(blk_cell BK868.out 0).trans rfl, (blk_cell BK868.out 1).trans rfl, (blk_cell BK868.out 2).trans rfl, (blk_cell BK868.out 3).trans rfl⟩ (fun hHeld => ?_); refine with_tabW impl_SessPair.tab1 impl_SessPair.bits1 (fun HT_ HW_ => ?_)
    generalize w6.drew = w21 at BK868 HB hHeld ⊢
    refine take_ (i := 0) (N := some 10) (v := ?_) (a' := ?_) #[true, false, false, false, false, false, false, false, false, false, false, false, false, false, false, false, false, false] rfl rfl (take_ofW HT_.out HW_.out (by kernel_rfl)) (fun _ _ _ h => h) (Or.inl ⟨by rfl, ?_⟩) hHeld ?_ ?_
    rotate_left
    ·rintro w' ⟨s0, s1, s2, s3⟩
     go_simp
     with_reducible rfl
    rotate_left
    ·exact qPu
    refine one_ (i := 1) (N := some 11) #[true, true, false, false, false, false, false, false, false, false, false, false, false, false, false, false, false, false] rfl rfl (one_of HT_.out (by kernel_rfl)) (by decide) (fun K hK => ?_)
    refine goes_ Tryz.func33 (by kernel_rfl) rfl #[.agg #[.int .i64 a0_0, .int .i64 a0_1, .int .i64 a0_2, .int .i64 a0_3]] (by rfl) rfl rfl qL ?_
    with_reducible refine (impl_isConf.calls a0_0 a0_1 a0_2 a0_3 true _ A7.out).mono ?_
    rintro e w22 ⟨rfl, hb⟩
    refine ⟨_, rfl, ?_⟩
    (replace BK868 := qD BK868 hb); (replace HB := Aside0.mk (below_step (qS1 HB GE868) hb)); (try clear hb); (try clear hb2); (try clear hk); (try clear hi)
    refine hK.out _ _ ⟨(blk_cell BK868.out 0).trans rfl, (blk_cell BK868.out 1).trans rfl, (blk_cell BK868.out 2).trans rfl, (blk_cell BK868.out 3).trans rfl⟩ (fun hHeld => ?_)
    clear hK K
    refine norm_ (a' := ?_) ?_ ?_
    rotate_left
    ·show Act.put _ (some 11) _ = _
     exact qPu
    refine pure_ (i := 2) (N := some 12) (v := ?_) (a' := ?_) #[true, true, true, false, false, false, false, false, false, false, false, false, false, false, false, false, false, false] rfl rfl (any_of HT_.out (by kernel_rfl)) (fun _ _ _ h => h) (Or.inl ⟨by rfl, ?_⟩) ?_ ?_
    rotate_left
    ·intro w'
     go_simp
     with_reducible rfl
    rotate_left
    ·exact qPu
    refine pure_ (i := 3) (N := some 13) (v := ?_) (a' := ?_) #[true, true, true, true, false, false, false, false, false, false, false, false, false, false, false, false, false, false] rfl rfl (any_of HT_.out (by kernel_rfl)) (fun _ _ _ h => h) (Or.inl ⟨by rfl, ?_⟩) ?_ ?_
    rotate_left
    ·intro w'
     go_simp
     with_reducible rfl
    rotate_left
    ·exact qPu
    refine pure_ (i := 4) (N := some 14) (v := ?_) (a' := ?_) #[true, true, true, true, true, false, false, false, false, false, false, false, false, false, false, false, false, false] rfl rfl (any_of HT_.out (by kernel_rfl)) (fun _ _ _ h => h) (Or.inl ⟨by rfl, ?_⟩) ?_ ?_
    rotate_left
    ·intro w'
     go_simp
     with_reducible rfl
    rotate_left
    ·exact qPu
    refine pure_ (i := 5) (N := some 15) (v := ?_) (a' := ?_) #[true, true, true, true, true, true, false, false, false, false, false, false, false, false, false, false, false, false] rfl rfl (any_of HT_.out (by kernel_rfl)) (fun _ _ _ h => h) (Or.inl ⟨by rfl, ?_⟩) ?_ ?_
    rotate_left
    ·intro w'
     go_simp
     with_reducible rfl
    rotate_left
    ·exact qPu
    refine one_ (i := 6) (N := some 16) #[true, true, true, true, true, true, true, false, false, false, false, false, false, false, false, false, false, false] rfl rfl (one_of HT_.out (by kernel_rfl)) (by decide) (fun K hK => ?_)
    refine goes_ Tryz.func44 (by kernel_rfl) rfl #[.slice A1 l1.length c1, .slice A2 l2.length c2] (by rfl) rfl rfl qL ?_
    with_reducible refine (impl_sameShape.calls k _ _ l1 _ _ l2 false _ ?side1 ?side2 ?side3 ?side4 A9.out).mono ?_
    (case side1 => exact qW (Kd.C_below HR1.out HB.out))
    (case side2 => exact HC1.out)
    (case side3 => exact qW (Kd.C_below HR2.out HB.out))
    (case side4 => exact HC2.out)
    rintro e w23 ⟨rfl, hb⟩
    refine ⟨_, rfl, ?_⟩
    (replace BK868 := qD BK868 hb); (replace HB := Aside0.mk (below_step (qS1 HB GE868) hb)); (try clear hb); (try clear hb2); (try clear hk); (try clear hi)
    refine hK.out _ _ ⟨(blk_cell BK868.out 0).trans rfl, (blk_cell BK868.out 1).trans rfl, (blk_cell BK868.out 2).trans rfl, (blk_cell BK868.out 3).trans rfl⟩ (fun hHeld => ?_)
    clear hK K
    refine norm_ (a' := ?_) ?_ ?_
    rotate_left
    ·show Act.put _ (some 16) _ = _
     exact qPu
    refine pure_ (i := 7) (N := some 17) (v := ?_) (a' := ?_) #[true, true, true, true, true, true, true, true, false, false, false, false, false, false, false, false, false, false] rfl rfl (any_of HT_.out (by kernel_rfl)) (fun _ _ _ h => h) (Or.inl ⟨by rfl, ?_⟩) ?_ ?_
    rotate_left
    ·intro w'
     go_simp
     with_reducible rfl
    rotate_left
    ·exact qPu
    refine pure_ (i := 8) (N := some 18) (v := ?_) (a' := ?_) #[true, true, true, true, true, true, true, true, true, false, false, false, false, false, false, false, false, false] rfl rfl (any_of HT_.out (by kernel_rfl)) (fun _ _ _ h => h) (Or.inl ⟨by rfl, ?_⟩) ?_ ?_
    rotate_left
    ·intro w'
     go_simp
     with_reducible rfl
    rotate_left
    ·exact qPu
    refine pure_ (i := 9) (N := some 19) (v := ?_) (a' := ?_) #[true, true, true, true, true, true, true, true, true, true, false, false, false, false, false, false, false, false] rfl rfl (any_of HT_.out (by kernel_rfl)) (fun _ _ _ h => h) (Or.inl ⟨by rfl, ?_⟩) ?_ ?_
    rotate_left
    ·intro w'
     go_simp
     with_reducible rfl
    rotate_left
    ·exact qPu
    refine pure_ (i := 10) (N := some 20) (v := undef) (a' := ?_) #[true, true, true, true, true, true, true, true, true, true, true, false, false, false, false, false, false, false] rfl rfl (any_of HT_.out (by kernel_rfl)) (fun _ _ _ h => h) (Or.inr ⟨by rfl, rfl⟩) ?_ ?_
    rotate_left
    ·exact qPu
    refine pure_ (i := 11) (N := some 21) (v := undef) (a' := ?_) #[true, true, true, true, true, true, true, true, true, true, true, true, false, false, false, false, false, false] rfl rfl (any_of HT_.out (by kernel_rfl)) (fun _ _ _ h => h) (Or.inr ⟨by rfl, rfl⟩) ?_ ?_
    rotate_left
    ·exact qPu
    refine pure_ (i := 12) (N := some 22) (v := undef) (a' := ?_) #[true, true, true, true, true, true, true, true, true, true, true, true, true, false, false, false, false, false] rfl rfl (any_of HT_.out (by kernel_rfl)) (fun _ _ _ h => h) (Or.inr ⟨by rfl, rfl⟩) ?_ ?_
    rotate_left
    ·exact qPu
    refine pure_ (i := 13) (N := some 23) (v := undef) (a' := ?_) #[true, true, true, true, true, true, true, true, true, true, true, true, true, true, false, false, false, false] rfl rfl (any_of HT_.out (by kernel_rfl)) (fun _ _ _ h => h) (Or.inr ⟨by rfl, rfl⟩) ?_ ?_
    rotate_left
    ·exact qPu
    refine pure_ (i := 14) (N := some 24) (v := undef) (a' := ?_) #[true, true, true, true, true, true, true, true, true, true, true, true, true, true, true, false, false, false] rfl rfl (any_of HT_.out (by kernel_rfl)) (fun _ _ _ h => h) (Or.inr ⟨by rfl, rfl⟩) ?_ ?_
    rotate_left
    ·exact qPu
    refine pure_ (i := 15) (N := some 25) (v := undef) (a' := ?_) #[true, true, true, true, true, true, true, true, true, true, true, true, true, true, true, true, false, false] rfl rfl (any_of HT_.out (by kernel_rfl)) (fun _ _ _ h => h) (Or.inr ⟨by rfl, rfl⟩) ?_ ?_
    rotate_left
    ·exact qPu
    refine pure_ (i := 16) (N := some 26) (v := undef) (a' := ?_) #[true, true, true, true, true, true, true, true, true, true, true, true, true, true, true, true, true, false] rfl rfl (any_of HT_.out (by kernel_rfl)) (fun _ _ _ h => h) (Or.inr ⟨by rfl, rfl⟩) ?_ ?_
    rotate_left
    ·exact qPu
    refine pure_ (i := 17) (N := some 27) (v := ?_) (a' := ?_) #[true, true, true, true, true, true, true, true, true, true, true, true, true, true, true, true, true, true] rfl rfl (any_of HT_.out (by kernel_rfl)) (fun _ _ _ h => h) (Or.inl ⟨by rfl, ?_⟩) ?_ ?_
    rotate_left
    ·intro w'
     go_simp
     with_reducible rfl
    rotate_left
    ·exact qPu
    refine done_ (done_of HT_.out (by kernel_rfl)) ?_
    try go_wp2
    go_meet
    case rel => exact ⟨_, (true), qV, H', ⟨by first | omega | exact Nat.le_refl _⟩, ⟨qB BK868⟩, ⟨qS1 HB GE868⟩⟩
  ·replace c8 := Bool.eq_false_iff.mpr c8
   (subst c8); (have H1 : (impl_SessPair.j0 k l1 l2 l3 true a0_0 a0_1 a0_2 a0_3) = some (r1, r2) := by rw [if_neg (show ¬ (false = true) by decide)] at H; exact H); clear H; (have H := H1); clear H1; (have H' := Aside0.mk H); clear H
   try go_wp2
   (replace BK868 := Aside0.mk (blk_drew BK868.out)); (replace HB := Aside0.mk (below_drew1 HB.out))
   refine start_ (n := 18) (S := fun w' => w'.cell? ⟨gb868, 0, none⟩ = some (.int .i64 a0_0) ∧ w'.cell? ⟨gb868, 1, none⟩ = some (.int .i64 a0_1) ∧ w'.cell? ⟨gb868, 2, none⟩ = some (.int .i64 a0_2) ∧ w'.cell? ⟨gb868, 3, none⟩ = some (.int .i64 a0_3)) (ds := []) #[false, false, false, false, false, false, false, false, false, false, false, false, false, false, false, false, false, false] (by kernel_rfl) rfl rfl ⟨(blk_cell BK868.out 0).trans rfl, (blk_cell BK868.out 1).trans rfl, (blk_cell BK868.out 2).trans rfl, (blk_cell BK868.out 3).trans rfl⟩ (fun hHeld => ?_); refine with_tabW impl_SessPair.tab1 impl_SessPair.bits1 (fun HT_ HW_ => ?_)
   generalize w6.drew = w24 at BK868 HB hHeld ⊢
   refine take_ (i := 0) (N := some 10) (v := ?_) (a' := ?_) #[true, false, false, false, false, false, false, false, false, false, false, false, false, false, false, false, false, false] rfl rfl (take_ofW HT_.out HW_.out (by kernel_rfl)) (fun _ _ _ h => h) (Or.inl ⟨by rfl, ?_⟩) hHeld ?_ ?_
   rotate_left
   ·rintro w' ⟨s0, s1, s2, s3⟩
    go_simp
    with_reducible rfl
   rotate_left
   ·exact qPu
   refine one_ (i := 1) (N := some 11) #[true, true, false, false, false, false, false, false, false, false, false, false, false, false, false, false, false, false] rfl rfl (one_of HT_.out (by kernel_rfl)) (by decide) (fun K hK => ?_)
   refine goes_ Tryz.func33 (by kernel_rfl) rfl #[.agg #[.int .i64 a0_0, .int .i64 a0_1, .int .i64 a0_2, .int .i64 a0_3]] (by rfl) rfl rfl qL ?_
   with_reducible refine (impl_isConf.calls a0_0 a0_1 a0_2 a0_3 false _ A7.out).mono ?_
   rintro e w25 ⟨rfl, hb⟩
   refine ⟨_, rfl, ?_⟩
   (replace BK868 := qD BK868 hb); (replace HB := Aside0.mk (below_step (qS1 HB GE868) hb)); (try clear hb); (try clear hb2); (try clear hk); (try clear hi)
   refine hK.out _ _ ⟨(blk_cell BK868.out 0).trans rfl, (blk_cell BK868.out 1).trans rfl, (blk_cell BK868.out 2).trans rfl, (blk_cell BK868.out 3).trans rfl⟩ (fun hHeld => ?_)
   clear hK K
   refine norm_ (a' := ?_) ?_ ?_
   rotate_left
   ·show Act.put _ (some 11) _ = _
    exact qPu
   refine pure_ (i := 2) (N := some 12) (v := ?_) (a' := ?_) #[true, true, true, false, false, false, false, false, false, false, false, false, false, false, false, false, false, false] rfl rfl (any_of HT_.out (by kernel_rfl)) (fun _ _ _ h => h) (Or.inl ⟨by rfl, ?_⟩) ?_ ?_
   rotate_left
   ·intro w'
    go_simp
    with_reducible rfl
   rotate_left
   ·exact qPu
   refine pure_ (i := 3) (N := some 13) (v := ?_) (a' := ?_) #[true, true, true, true, false, false, false, false, false, false, false, false, false, false, false, false, false, false] rfl rfl (any_of HT_.out (by kernel_rfl)) (fun _ _ _ h => h) (Or.inl ⟨by rfl, ?_⟩) ?_ ?_
   rotate_left
   ·intro w'
    go_simp
    with_reducible rfl
   rotate_left
   ·exact qPu
   refine pure_ (i := 4) (N := some 14) (v := undef) (a' := ?_) #[true, true, true, true, true, false, false, false, false, false, false, false, false, false, false, false, false, false] rfl rfl (any_of HT_.out (by kernel_rfl)) (fun _ _ _ h => h) (Or.inr ⟨by rfl, rfl⟩) ?_ ?_
   rotate_left
   ·exact qPu
   refine pure_ (i := 5) (N := some 15) (v := undef) (a' := ?_) #[true, true, true, true, true, true, false, false, false, false, false, false, false, false, false, false, false, false] rfl rfl (any_of HT_.out (by kernel_rfl)) (fun _ _ _ h => h) (Or.inr ⟨by rfl, rfl⟩) ?_ ?_
   rotate_left
   ·exact qPu
   refine pure_ (i := 6) (N := some 16) (v := undef) (a' := ?_) #[true, true, true, true, true, true, true, false, false, false, false, false, false, false, false, false, false, false] rfl rfl (any_of HT_.out (by kernel_rfl)) (fun _ _ _ h => h) (Or.inr ⟨by rfl, rfl⟩) ?_ ?_
   rotate_left
   ·exact qPu
   refine pure_ (i := 7) (N := some 17) (v := undef) (a' := ?_) #[true, true, true, true, true, true, true, true, false, false, false, false, false, false, false, false, false, false] rfl rfl (any_of HT_.out (by kernel_rfl)) (fun _ _ _ h => h) (Or.inr ⟨by rfl, rfl⟩) ?_ ?_
   rotate_left
   ·exact qPu
   refine pure_ (i := 8) (N := some 18) (v := ?_) (a' := ?_) #[true, true, true, true, true, true, true, true, true, false, false, false, false, false, false, false, false, false] rfl rfl (any_of HT_.out (by kernel_rfl)) (fun _ _ _ h => h) (Or.inl ⟨by rfl, ?_⟩) ?_ ?_
   rotate_left
   ·intro w'
    go_simp
    with_reducible rfl
   rotate_left
   ·exact qPu
   refine pure_ (i := 9) (N := some 19) (v := ?_) (a' := ?_) #[true, true, true, true, true, true, true, true, true, true, false, false, false, false, false, false, false, false] rfl rfl (any_of HT_.out (by kernel_rfl)) (fun _ _ _ h => h) (Or.inl ⟨by rfl, ?_⟩) ?_ ?_
   rotate_left
   ·intro w'
    go_simp
    with_reducible rfl
   rotate_left
   ·exact qPu
   refine pure_ (i := 10) (N := some 20) (v := undef) (a' := ?_) #[true, true, true, true, true, true, true, true, true, true, true, false, false, false, false, false, false, false] rfl rfl (any_of HT_.out (by kernel_rfl)) (fun _ _ _ h => h) (Or.inr ⟨by rfl, rfl⟩) ?_ ?_
   rotate_left
   ·exact qPu
   refine pure_ (i := 11) (N := some 21) (v := undef) (a' := ?_) #[true, true, true, true, true, true, true, true, true, true, true, true, false, false, false, false, false, false] rfl rfl (any_of HT_.out (by kernel_rfl)) (fun _ _ _ h => h) (Or.inr ⟨by rfl, rfl⟩) ?_ ?_
   rotate_left
   ·exact qPu
   refine pure_ (i := 12) (N := some 22) (v := undef) (a' := ?_) #[true, true, true, true, true, true, true, true, true, true, true, true, true, false, false, false, false, false] rfl rfl (any_of HT_.out (by kernel_rfl)) (fun _ _ _ h => h) (Or.inr ⟨by rfl, rfl⟩) ?_ ?_
   rotate_left
   ·exact qPu
   refine pure_ (i := 13) (N := some 23) (v := undef) (a' := ?_) #[true, true, true, true, true, true, true, true, true, true, true, true, true, true, false, false, false, false] rfl rfl (any_of HT_.out (by kernel_rfl)) (fun _ _ _ h => h) (Or.inr ⟨by rfl, rfl⟩) ?_ ?_
   rotate_left
   ·exact qPu
   refine pure_ (i := 14) (N := some 24) (v := undef) (a' := ?_) #[true, true, true, true, true, true, true, true, true, true, true, true, true, true, true, false, false, false] rfl rfl (any_of HT_.out (by kernel_rfl)) (fun _ _ _ h => h) (Or.inr ⟨by rfl, rfl⟩) ?_ ?_
   rotate_left
   ·exact qPu
   refine pure_ (i := 15) (N := some 25) (v := undef) (a' := ?_) #[true, true, true, true, true, true, true, true, true, true, true, true, true, true, true, true, false, false] rfl rfl (any_of HT_.out (by kernel_rfl)) (fun _ _ _ h => h) (Or.inr ⟨by rfl, rfl⟩) ?_ ?_
   rotate_left
   ·exact qPu
   refine pure_ (i := 16) (N := some 26) (v := undef) (a' := ?_) #[true, true, true, true, true, true, true, true, true, true, true, true, true, true, true, true, true, false] rfl rfl (any_of HT_.out (by kernel_rfl)) (fun _ _ _ h => h) (Or.inr ⟨by rfl, rfl⟩) ?_ ?_
   rotate_left
   ·exact qPu
   refine pure_ (i := 17) (N := some 27) (v := ?_) (a' := ?_) #[true, true, true, true, true, true, true, true, true, true, true, true, true, true, true, true, true, true] rfl rfl (any_of HT_.out (by kernel_rfl)) (fun _ _ _ h => h) (Or.inl ⟨by rfl, ?_⟩) ?_ ?_
   rotate_left
   ·intro w'
    go_simp
    with_reducible rfl
   rotate_left
   ·exact qPu
   refine done_ (done_of HT_.out (by kernel_rfl)) ?_
   try go_wp2
   go_meet
   case rel => exact ⟨_, (true), qV, H', ⟨by first | omega | exact Nat.le_refl _⟩, ⟨qB BK868⟩, ⟨qS1 HB GE868⟩⟩
 case rest =>
  clear HC5; (try clear c8); (try clear c10); (obtain ⟨kq, x27_4, rfl, HA, HJ4, BK868, HB⟩ := hcut)
  cases kq with
  | zero => exact absurd HA.out (by simp [impl_SessPair.j0])
  | succ kj4 =>
   (have H := HA.out); clear HA; (simp only [impl_SessPair.j0] at H)
   by_cases c26 : x27_4 = true
   ·subst c26
    (have H1 : (some (([] : List Int), false)) = some (r1, r2) := by rw [if_pos rfl] at H; exact H); clear H; (have H := H1); clear H1; (simp only [Option.some.injEq, Prod.mk.injEq] at H); (obtain ⟨rfl, rfl⟩ := H)
    go_wp2
    go_ret2
    exact ⟨_, qE, by first | exact Kd.R_nil _ _ _ _ _ | exact Kd.N_nil _ _ _ _ _ | exact Kd.V_nil _ _ _ _ _ | exact Kd.Q_nil _ _ _ _ _ | exact Kd.S_nil _ _ _ _ _, qS1 HB GE868⟩
   ·replace c26 := Bool.eq_false_iff.mpr c26
    (subst c26); (have H1 : ((impl_sessIds.f kj4 a0_0 a0_1 a0_2 a0_3 l1).bind fun t876 => ((impl_sessIds.f kj4 a0_0 a0_1 a0_2 a0_3 l2).bind fun t879 => ((impl_sessPair.f kj4 a0_0 a0_1 a0_2 a0_3 t876 t879 l3).bind fun t882 => (some (t882, true))))) = some (r1, r2) := by rw [if_neg (show ¬ (false = true) by decide)] at H; exact H); clear H; (have H := H1); clear H1; (obtain ⟨t876, A27, H⟩ := qX H)
    try dsimp only at H
    obtain ⟨t879, A28, H⟩ := qX H
    try dsimp only at H
    (obtain ⟨t882, A29, H⟩ := qX H); (replace H : (some (t882, true)) = some (r1, r2) := H); (simp only [Option.some.injEq, Prod.mk.injEq] at H); (obtain ⟨rfl, rfl⟩ := H)
    try go_wp2
    (replace BK868 := Aside0.mk (blk_drew BK868.out)); (replace HB := Aside0.mk (below_drew1 HB.out))
    refine start_ (n := 11) (S := fun w' => w'.cell? ⟨gb868, 0, none⟩ = some (.int .i64 a0_0) ∧ w'.cell? ⟨gb868, 1, none⟩ = some (.int .i64 a0_1) ∧ w'.cell? ⟨gb868, 2, none⟩ = some (.int .i64 a0_2) ∧ w'.cell? ⟨gb868, 3, none⟩ = some (.int .i64 a0_3)) (ds := []) #[false, false, false, false, false, false, false, false, false, false, false] (by kernel_rfl) rfl rfl ⟨(blk_cell BK868.out 0).trans rfl, (blk_cell BK868.out 1).trans rfl, (blk_cell BK868.out 2).trans rfl, (blk_cell BK868.out 3).trans rfl⟩ (fun hHeld => ?_); refine with_tabW impl_SessPair.tab3 impl_SessPair.bits3 (fun HT_ HW_ => ?_)
    generalize wc.drew = w30 at BK868 HB hHeld ⊢
    refine pure_ (i := 2) (N := some 30) (v := ?_) (a' := ?_) #[false, false, true, false, false, false, false, false, false, false, false] rfl rfl (any_of HT_.out (by kernel_rfl)) (fun _ _ _ h => h) (Or.inl ⟨by rfl, ?_⟩) ?_ ?_
    rotate_left
    ·intro w'
     go_simp
     with_reducible rfl
    rotate_left
    ·exact qPu
    refine pure_ (i := 5) (N := some 33) (v := ?_) (a' := ?_) #[false, false, true, false, false, true, false, false, false, false, false] rfl rfl (any_of HT_.out (by kernel_rfl)) (fun _ _ _ h => h) (Or.inl ⟨by rfl, ?_⟩) ?_ ?_
    rotate_left
    ·intro w'
     go_simp
     with_reducible rfl
    rotate_left
    ·exact qPu
    refine pure_ (i := 7) (N := some 35) (v := ?_) (a' := ?_) #[false, false, true, false, false, true, false, true, false, false, false] rfl rfl (any_of HT_.out (by kernel_rfl)) (fun _ _ _ h => h) (Or.inl ⟨by rfl, ?_⟩) ?_ ?_
    rotate_left
    ·intro w'
     go_simp
     with_reducible rfl
    rotate_left
    ·exact qPu
    refine take_ (i := 0) (N := some 28) (v := ?_) (a' := ?_) #[true, false, true, false, false, true, false, true, false, false, false] rfl rfl (take_ofW HT_.out HW_.out (by kernel_rfl)) (fun _ _ _ h => h) (Or.inl ⟨by rfl, ?_⟩) hHeld ?_ ?_
    rotate_left
    ·rintro w' ⟨s0, s1, s2, s3⟩
     go_simp
     with_reducible rfl
    rotate_left
    ·exact qPu
    refine take_ (i := 1) (N := some 29) (v := ?_) (a' := ?_) #[true, true, true, false, false, true, false, true, false, false, false] rfl rfl (take_ofW HT_.out HW_.out (by kernel_rfl)) (fun _ _ _ h => h) (Or.inl ⟨by rfl, ?_⟩) hHeld ?_ ?_
    rotate_left
    ·rintro w' ⟨s0, s1, s2, s3⟩
     go_simp
     with_reducible rfl
    rotate_left
    ·exact qPu
    refine take_ (i := 4) (N := some 32) (v := ?_) (a' := ?_) #[true, true, true, false, true, true, false, true, false, false, false] rfl rfl (take_ofW HT_.out HW_.out (by kernel_rfl)) (fun _ _ _ h => h) (Or.inl ⟨by rfl, ?_⟩) hHeld ?_ ?_
    rotate_left
    ·rintro w' ⟨s0, s1, s2, s3⟩
     go_simp
     with_reducible rfl
    rotate_left
    ·exact qPu
    refine one_ (i := 3) (N := some 31) #[true, true, true, true, true, true, false, true, false, false, false] rfl rfl (one_of HT_.out (by kernel_rfl)) (by decide) (fun K hK => ?_)
    refine goes_ Tryz.func39 (by kernel_rfl) rfl #[.agg #[.int .i64 a0_0, .int .i64 a0_1, .int .i64 a0_2, .int .i64 a0_3], .slice A1 l1.length c1] (by rfl) rfl rfl qL ?_
    with_reducible refine (impl_sessIds.calls kj4 a0_0 a0_1 a0_2 a0_3 _ _ l1 t876 _ ?side1 ?side2 A27.out (G_below (qS0 HB) hG)).mono ?_
    (case side1 => exact qW (Kd.C_below HR1.out HB.out))
    (case side2 => exact HC1.out)
    rintro e w31 ⟨v877, rfl, ho0, hb⟩
    refine ⟨_, rfl, ?_⟩
    (have HO878 := Aside0.mk (Kd.R_lower ho0 (below_size (qS1 HB GE868)))); (replace BK868 := qD BK868 hb); (replace HB := Aside0.mk (below_step (qS1 HB GE868) hb)); (try clear hb); (try clear hb2); (try clear hk); (try clear hi); (try clear ho0)
    refine hK.out _ _ ⟨(blk_cell BK868.out 0).trans rfl, (blk_cell BK868.out 1).trans rfl, (blk_cell BK868.out 2).trans rfl, (blk_cell BK868.out 3).trans rfl⟩ (fun hHeld => ?_)
    clear hK K
    refine norm_ (a' := ?_) ?_ ?_
    rotate_left
    ·show Act.put _ (some 31) _ = _
     exact qPu
    refine one_ (i := 6) (N := some 34) #[true, true, true, true, true, true, true, true, false, false, false] rfl rfl (one_of HT_.out (by kernel_rfl)) (by decide) (fun K hK => ?_)
    refine goes_ Tryz.func39 (by kernel_rfl) rfl #[.agg #[.int .i64 a0_0, .int .i64 a0_1, .int .i64 a0_2, .int .i64 a0_3], .slice A2 l2.length c2] (by rfl) rfl rfl qL ?_
    with_reducible refine (impl_sessIds.calls kj4 a0_0 a0_1 a0_2 a0_3 _ _ l2 t879 _ ?side1 ?side2 A28.out (G_below (qS0 HB) hG)).mono ?_
    (case side1 => exact qW (Kd.C_below HR2.out HB.out))
    (case side2 => exact HC2.out)
    rintro e w32 ⟨v880, rfl, ho0, hb⟩
    refine ⟨_, rfl, ?_⟩
    (have HO881 := Aside0.mk (Kd.R_lower (Kd.R_new' ho0 (Kd.R_lt (qR HO878))) (below_size (qS1 HB GE868)))); (replace HO878 := Aside0.mk (Kd.R_elder' (qR HO878) (Kd.R_base ho0) hb)); (replace BK868 := qD BK868 hb); (replace HB := Aside0.mk (below_step (qS1 HB GE868) hb)); (try clear hb); (try clear hb2); (try clear hk); (try clear hi); (try clear ho0); (obtain ⟨Ao33, co33, eo33⟩ := Kd.R_slice HO878.out)
    (first | subst eo33 | (injection eo33 with f1_ f2_ f3_; have f4_ := f1_.symm; have f5_ := f3_.symm; clear f1_ f2_ f3_; subst f4_; subst f5_))
    obtain ⟨Ao34, co34, eo34⟩ := Kd.R_slice HO881.out
    (first | subst eo34 | (injection eo34 with f1_ f2_ f3_; have f4_ := f1_.symm; have f5_ := f3_.symm; clear f1_ f2_ f3_; subst f4_; subst f5_))
    refine hK.out _ _ ⟨(blk_cell BK868.out 0).trans rfl, (blk_cell BK868.out 1).trans rfl, (blk_cell BK868.out 2).trans rfl, (blk_cell BK868.out 3).trans rfl⟩ (fun hHeld => ?_)
    clear hK K
    refine norm_ (a' := ?_) ?_ ?_
    rotate_left
    ·show Act.put _ (some 34) _ = _
     exact qPu
    refine one_ (i := 8) (N := some 36) #[true, true, true, true, true, true, true, true, true, false, false] rfl rfl (one_of HT_.out (by kernel_rfl)) (by decide) (fun K hK => ?_)
    refine goes_ Tryz.func45 (by kernel_rfl) rfl #[.agg #[.int .i64 a0_0, .int .i64 a0_1, .int .i64 a0_2, .int .i64 a0_3], .slice Ao33 t876.length co33, .slice Ao34 t879.length co34, .slice A3 l3.length c3] (by rfl) rfl rfl qL ?_
    with_reducible refine (impl_sessPair.calls kj4 a0_0 a0_1 a0_2 a0_3 _ _ t876 _ _ t879 _ _ l3 t882 _ ?side1 ?side2 ?side3 ?side4 ?side5 ?side6 A29.out).mono ?_
    (case side1 => repeat (first | exact (Kd.R_reads' HO878.out).2.2 | (with_reducible refine Kd.C_alloc ?_ _) | (with_reducible refine Kd.C_drewN ?_ _) | (with_reducible refine Kd.C_drew ?_)))
    (case side2 => exact (Kd.R_reads' HO878.out).2.1)
    (case side3 => repeat (first | exact (Kd.R_reads' HO881.out).2.2 | (with_reducible refine Kd.C_alloc ?_ _) | (with_reducible refine Kd.C_drewN ?_ _) | (with_reducible refine Kd.C_drew ?_)))
    (case side4 => exact (Kd.R_reads' HO881.out).2.1)
    (case side5 => exact qW (Kd.C_below HR3.out HB.out))
    (case side6 => exact HC3.out)
    rintro e w35 ⟨v883, rfl, ho0, hb⟩
    refine ⟨_, rfl, ?_⟩
    (have HO884 := Aside0.mk (Kd.R_lower (Kd.R_new' (Kd.R_new' ho0 (Kd.R_lt (qR HO878))) (Kd.R_lt (qR HO881))) (below_size (qS1 HB GE868)))); (replace HO878 := Aside0.mk (Kd.R_elder' (qR HO878) (Kd.R_base ho0) hb)); (replace HO881 := Aside0.mk (Kd.R_elder' (qR HO881) (Kd.R_base ho0) hb)); (replace BK868 := qD BK868 hb); (replace HB := Aside0.mk (below_step (qS1 HB GE868) hb)); (try clear hb); (try clear hb2); (try clear hk); (try clear hi); (try clear ho0)
    refine hK.out _ _ ⟨(blk_cell BK868.out 0).trans rfl, (blk_cell BK868.out 1).trans rfl, (blk_cell BK868.out 2).trans rfl, (blk_cell BK868.out 3).trans rfl⟩ (fun hHeld => ?_)
    clear hK K
    refine norm_ (a' := ?_) ?_ ?_
    rotate_left
    ·show Act.put _ (some 36) _ = _
     exact qPu
    refine pure_ (i := 9) (N := some 8) (v := ?_) (a' := ?_) #[true, true, true, true, true, true, true, true, true, true, false] rfl rfl (any_of HT_.out (by kernel_rfl)) (fun _ _ _ h => h) (Or.inl ⟨by rfl, ?_⟩) ?_ ?_
    rotate_left
    ·intro w'
     go_simp
     with_reducible rfl
    rotate_left
    ·exact qPu
    refine pure_ (i := 10) (N := some 9) (v := ?_) (a' := ?_) #[true, true, true, true, true, true, true, true, true, true, true] rfl rfl (any_of HT_.out (by kernel_rfl)) (fun _ _ _ h => h) (Or.inl ⟨by rfl, ?_⟩) ?_ ?_
    rotate_left
    ·intro w'
     go_simp
     with_reducible rfl
    rotate_left
    ·exact qPu
    refine done_ (done_of HT_.out (by kernel_rfl)) ?_
    try go_wp2
    go_ret2
    exact ⟨_, qE, by (with_reducible repeat (first | apply Kd.R_alloc | apply Kd.R_drewN | apply Kd.R_drew)); exact Kd.R_mono HO884.out (fun _ hk => trivial), qS1 HB GE868⟩
end Go.Proofs.YtppopmajclmhjaaGreatDoor.QB
