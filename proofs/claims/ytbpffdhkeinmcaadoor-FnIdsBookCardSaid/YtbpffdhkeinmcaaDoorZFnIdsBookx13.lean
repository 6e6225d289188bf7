/- Part of the proof of the law FnIdsBook: what it uses of the texts that this session and the kit's print wrote. -/
import Derived.Test.YtbpffdhkeinmcaaDoorZFnIdsBookx0
import Derived.Test.YtbpffdhkeinmcaaDoorZFnIdsBookx2
import Derived.Test.YtbpffdhkeinmcaaDoorZFnIdsBookx3
import Derived.Test.YtbpffdhkeinmcaaDoorZFnIdsBookx5
import Derived.Test.YtbpffdhkeinmcaaDoorZFnIdsBookx11
import Derived.Test.YtbpffdhkeinmcaaDoorZFnIdsBookx12
import Derived.Deep.Slices
import Derived.WideShapes
import Derived.ProofKit
import Derived.KernelRfl
namespace Go.Proofs.YtbpffdhkeinmcaaDoor.QE
open Go.RowKit Go.Proofs.YtbpffdhkeinmcaaDoorW.PrintWords Go.Proofs.YtbpffdhkeinmcaaDoorW.PrintLast Go.Proofs.YtbpffdhkeinmcaaDoorW.PrintMore
attribute [local go_sem] max2_int min2_int max_two min_two max_three min_three max_four min_four
set_option linter.unusedVariables false
set_option linter.unusedSimpArgs false
mutual
def laws_FnIdsBook.j0 : Nat → List (S32) → List Int → Bool → List Int → Bool → Bool → Int → Int → Int → Int → Option (Bool)
 | 0, _, _, _, _, _, _, _, _, _, _ => none
 | k + 1, x4, x5, x6, x7, x8, x37, x708000, x708001, x708002, x708003 => if x37 = true then (some (x8 == x6)) else (laws_FnIdsBook.l0 k x4 x5 x7 0 0 x708000 x708001 x708002 x708003)
def laws_FnIdsBook.l0 : Nat → List (S32) → List Int → List Int → Int → Int → Int → Int → Int → Int → Option (Bool)
 | 0, _, _, _, _, _, _, _, _, _ => none
 | k + 1, x4, x5, x7, x9, x10, x708000, x708001, x708002, x708003 => if x10 < (x4.length : Int) then (if 0 ≤ x10 then ((impl_ShapeTakes.f ((rd_T32 x4 x10).f0) ((rd_T32 x4 x10).f5)).bind fun t719 => (if t719 < 0 then (laws_FnIdsBook.j2 k x4 x5 x7 x9 x10 t719 true x708000 x708001 x708002 x708003) else (laws_FnIdsBook.j2 k x4 x5 x7 x9 x10 t719 (decide ((wrap64 (x9 + t719)) > (x7.length : Int))) x708000 x708001 x708002 x708003))) else (none)) else (if x9 = (x7.length : Int) then ((laws_same.f k x7 x5).bind fun t716 => (some t716)) else (some false))
def laws_FnIdsBook.j2 : Nat → List (S32) → List Int → List Int → Int → Int → Int → Bool → Int → Int → Int → Int → Option (Bool)
 | 0, _, _, _, _, _, _, _, _, _, _, _ => none
 | k + 1, x4, x5, x7, x9, x10, x11, x68, x708000, x708001, x708002, x708003 => if x68 = true then (some false) else (if 0 ≤ x10 then (if x10 < (x4.length : Int) then (if ((rd_T32 x4 x10).f0) = 1 then (if 0 ≤ x9 then (if x9 < (x7.length : Int) then ((spec_Fold.f k ((rd_T32 x4 x10).f1)).bind fun t723 => ((impl_ShelfFor.f k x708000 t723 x708001).bind fun t724 => (if (rd x7 x9) = t724 then (laws_FnIdsBook.l0 k x4 x5 x7 (wrap64 (x9 + x11)) (wrap64 (x10 + 1)) x708000 x708001 x708002 x708003) else (some false)))) else (none)) else (none)) else (laws_FnIdsBook.l0 k x4 x5 x7 (wrap64 (x9 + x11)) (wrap64 (x10 + 1)) x708000 x708001 x708002 x708003)) else (none)) else (none))
end
def laws_FnIdsBook.f (k : Nat) (l0 : List Int) : Option (Bool) := (laws_big.f l0).bind fun t699 => (if t699 = true then (some true) else ((spec_DrawSessIds.f k l0).bind fun bt700 => ((spec_SessIds.f k bt700.1 bt700.2.1 bt700.2.2.1 bt700.2.2.2.1 bt700.2.2.2.2).bind fun bt708 => ((impl_SessIds.f k bt700.1 bt700.2.1 bt700.2.2.1 bt700.2.2.2.1 bt700.2.2.2.2).bind fun bt712 => (if (bt712.2 != bt708.2) = true then (laws_FnIdsBook.j0 k bt700.2.2.2.2 bt708.1 bt708.2 bt712.1 bt712.2 true bt700.1 bt700.2.1 bt700.2.2.1 bt700.2.2.2.1) else (laws_FnIdsBook.j0 k bt700.2.2.2.2 bt708.1 bt708.2 bt712.1 bt712.2 (!bt712.2) bt700.1 bt700.2.1 bt700.2.2.1 bt700.2.2.2.1))))))
def laws_FnIdsBook.T12 : Bool × List (List Nat × List Nat) := (true, [([], []), ([], []), ([0, 1], [0, 1]), ([2], [2]), ([3], [3]), ([], []), ([], []), ([5, 6], [5, 6]), ([7], [7]), ([8], [8]), ([4, 9], [4, 9]), ([10], [10]), ([11, 11, 0, 1, 2, 3, 4, 5, 6, 7, 8, 9, 10, 11], [11])])
def laws_FnIdsBook.B12 : List Nat := [0, 0, 3, 7, 15, 0, 0, 96, 224, 480, 1023, 2047, 4095]
theorem laws_FnIdsBook.tab12 : rtab .any (opsOf Tryd.f7 12) = laws_FnIdsBook.T12 := by kernel_rfl
theorem laws_FnIdsBook.bits12 : waitsOk laws_FnIdsBook.T12.2 laws_FnIdsBook.B12 = true := by kernel_rfl
def laws_FnIdsBook.T15 : Bool × List (List Nat × List Nat) := (true, [([], []), ([], []), ([0, 1], [0, 1]), ([2], [2]), ([3], [3]), ([4], [4]), ([5], [5]), ([6], [6]), ([6], [6]), ([7, 8, 6], [6, 7, 8]), ([9, 6], [6, 9]), ([6], [6]), ([11, 6], [6, 11]), ([6], [6]), ([6], [6]), ([13, 14, 6], [6, 13, 14]), ([15, 6], [6, 15]), ([16, 6], [6, 16]), ([17, 6, 6], [6, 17]), ([6], [6]), ([19, 6], [6, 19]), ([12, 18, 20, 18, 6], [6, 12, 18, 20]), ([10, 21, 6], [6, 10, 21]), ([6, 22], [6, 22])])
def laws_FnIdsBook.B15 : List Nat := [0, 0, 3, 7, 15, 31, 63, 127, 127, 511, 1023, 127, 2175, 127, 127, 24703, 57471, 123007, 254079, 127, 524415, 2095231, 4194303, 8388607]
theorem laws_FnIdsBook.tab15 : rtab .any (opsOf Tryd.f7 15) = laws_FnIdsBook.T15 := by kernel_rfl
theorem laws_FnIdsBook.bits15 : waitsOk laws_FnIdsBook.T15.2 laws_FnIdsBook.B15 = true := by kernel_rfl
set_option maxHeartbeats 8000000 in
set_option maxRecDepth 100000 in
theorem laws_FnIdsBook.calls (k : Nat) (A0 : Option Addr) (c0 : Nat) (l0 : List Int) (r : Bool) (w : World) (hr0 : Kd.C (Kd.int .u8) w A0 l0.length l0) (hc0 : l0.length ≤ c0) (h : laws_FnIdsBook.f k l0 = some r) (hG : TabG w) :
  Calls Tryd.prog 7 #[.slice A0 l0.length c0] w fun e w' => e = .returned (.bool r) ∧ Below w.heap.size w w' := by
 (have hu25 := Tryd.underlying25); (have hu64 := Tryd.underlying64); (have HR0 := Aside0.mk hr0); (have HC0 := Aside0.mk hc0); clear hr0 hc0; (have HB := Aside0.mk (Below.refl w.heap.size w)); (have H : ((laws_big.f l0).bind fun t699 => (if t699 = true then (some true) else ((spec_DrawSessIds.f k l0).bind fun bt700 => ((spec_SessIds.f k bt700.1 bt700.2.1 bt700.2.2.1 bt700.2.2.2.1 bt700.2.2.2.2).bind fun bt708 => ((impl_SessIds.f k bt700.1 bt700.2.1 bt700.2.2.1 bt700.2.2.2.1 bt700.2.2.2.2).bind fun bt712 => (if (bt712.2 != bt708.2) = true then (laws_FnIdsBook.j0 k bt700.2.2.2.2 bt708.1 bt708.2 bt712.1 bt712.2 true bt700.1 bt700.2.1 bt700.2.2.1 bt700.2.2.2.1) else (laws_FnIdsBook.j0 k bt700.2.2.2.2 bt708.1 bt708.2 bt712.1 bt712.2 (!bt712.2) bt700.1 bt700.2.1 bt700.2.2.1 bt700.2.2.2.1))))))) = some r := h); clear h; (replace H := Option.bind_eq_some_iff.mp H); (obtain ⟨t699, A20, H⟩ := H)
 try dsimp only at H
 (have A2 := Aside0.mk A20); clear A20
 by_cases c3 : t699 = true
 ·subst c3
  (have H1 : (some true) = some r := by rw [if_pos rfl] at H; exact H); clear H; (have H := H1); clear H1; (obtain rfl := Option.some.inj H)
  go_enter Tryd.func7, Tryd.ntmps7
  go_wp2_with (first | ((with_reducible refine gate_callee (f := 30) rfl ?_); refine goesL_ (some 13) rfl rfl Tryd.func30 (by kernel_rfl) rfl #[.slice A0 l0.length c0] rfl qL ?_; (with_reducible refine (laws_big.calls _ _ l0 true _ ?side1 ?side2 A2.out).mono ?_); (case side1 => repeat (first | exact HR0.out | (with_reducible refine Kd.C_alloc ?_ _) | (with_reducible refine Kd.C_drewN ?_ _) | (with_reducible refine Kd.C_drew ?_))); (case side2 => exact HC0.out); rintro e w' ⟨rfl, ⟨nd, rfl⟩⟩; refine ⟨_, rfl, ?_⟩))
  go_ret
  exact ⟨qE, qS0 HB⟩
 ·replace c3 := Bool.eq_false_iff.mpr c3
  (subst c3); (have H1 : ((spec_DrawSessIds.f k l0).bind fun bt700 => ((spec_SessIds.f k bt700.1 bt700.2.1 bt700.2.2.1 bt700.2.2.2.1 bt700.2.2.2.2).bind fun bt708 => ((impl_SessIds.f k bt700.1 bt700.2.1 bt700.2.2.1 bt700.2.2.2.1 bt700.2.2.2.2).bind fun bt712 => (if (bt712.2 != bt708.2) = true then (laws_FnIdsBook.j0 k bt700.2.2.2.2 bt708.1 bt708.2 bt712.1 bt712.2 true bt700.1 bt700.2.1 bt700.2.2.1 bt700.2.2.2.1) else (laws_FnIdsBook.j0 k bt700.2.2.2.2 bt708.1 bt708.2 bt712.1 bt712.2 (!bt712.2) bt700.1 bt700.2.1 bt700.2.2.1 bt700.2.2.2.1))))) = some r := by rw [if_neg (show ¬ (false = true) by decide)] at H; exact H); clear H; (have H := H1); clear H1; (replace H := Option.bind_eq_some_iff.mp H); (obtain ⟨⟨t700, t701, t702, t703, t704⟩, A40, H⟩ := H)
  try dsimp only at H
  (have A4 := Aside0.mk A40); clear A40; (replace H := Option.bind_eq_some_iff.mp H); (obtain ⟨⟨t708, t711⟩, A50, H⟩ := H)
  try dsimp only at H
  (have A5 := Aside0.mk A50); clear A50; (replace H := Option.bind_eq_some_iff.mp H); (obtain ⟨⟨t712, t715⟩, A60, H⟩ := H)
  try dsimp only at H
  (have A6 := Aside0.mk A60); clear A60; (have HC7 := Aside0.mk H); clear H
  go_enter Tryd.func7, Tryd.ntmps7
  go_upto_region 6 with (first | ((with_reducible refine gate_callee (f := 30) rfl ?_); refine goesL_ (some 13) rfl rfl Tryd.func30 (by kernel_rfl) rfl #[.slice A0 l0.length c0] rfl qL ?_; (with_reducible refine (laws_big.calls _ _ l0 false _ ?side1 ?side2 A2.out).mono ?_); (case side1 => repeat (first | exact HR0.out | (with_reducible refine Kd.C_alloc ?_ _) | (with_reducible refine Kd.C_drewN ?_ _) | (with_reducible refine Kd.C_drew ?_))); (case side2 => exact HC0.out); rintro e w' ⟨rfl, ⟨nd, rfl⟩⟩; refine ⟨_, rfl, ?_⟩) | ((with_reducible refine gate_callee (f := 31) rfl ?_); refine goesL_ (some 16) rfl rfl Tryd.func31 (by kernel_rfl) rfl #[.slice A0 l0.length c0] rfl qL ?_; (with_reducible refine (spec_DrawSessIds.calls k _ _ l0 t700 t701 t702 t703 t704 _ ?side1 ?side2 A4.out).mono ?_); (case side1 => repeat (first | exact HR0.out | (with_reducible refine Kd.C_alloc ?_ _) | (with_reducible refine Kd.C_drewN ?_ _) | (with_reducible refine Kd.C_drew ?_))); (case side2 => exact HC0.out); rintro e w8 ⟨v705, rfl, ho0, hb⟩; refine ⟨_, rfl, ?_⟩; have n0_ := Aside0.mk (Kd.R_lower ho0 (below_size (qS0 HB))); have n1_ := Aside0.mk (below_step (qS0 HB) hb); clear HB; have HO706 := n0_; have HB := n1_; clear n0_ n1_; (try clear hb); (try clear hb2); (try clear hk); (try clear hi); (try clear ho0)) | ((with_reducible refine gate_dst (N := 3) rfl ?_); (try (refine gate_guard (by rfl) ?_; dsimp only)); refine box_event ?hg (N := 3) ?hd (cs := #[.int .i64 0, .int .i64 0, .int .i64 0, .int .i64 0]) (t := 25) ?hr ?_; (case hd => rfl); (case hg => rfl); (case hr => first | (go_simp; done) | (go_simp; rfl)); intro gb707 hg w9 hbox hb; have n0_ := Aside0.mk (Kd.R_below (qR HO706) hb); have n1_ := Aside0.mk (below_step (qS0 HB) hb); have n2_ := Aside0.mk (hbox); have n3_ := qG hg (below_size (qS0 HB)); have n4_ := qG hg (below_size (qS0 HB)); clear HO706 HB; have HO706 := n0_; have HB := n1_; have BK707 := n2_; have GW707 := n3_; have GE707 := n4_; clear n0_ n1_ n2_ n3_ n4_ hb hbox hg; obtain ⟨hcz10_0, hcz10_1, hcz10_2, hcz10_3, hfz10_0, hfz10_1, hfz10_2, hfz10_3⟩ := qC4 BK707; obtain ⟨Ao11, co11, eo11⟩ := Kd.R_slice HO706.out; subst eo11) | ((with_reducible refine gate_callee (f := 22) rfl ?_); refine goesL_ (some 22) rfl rfl Tryd.func22 (by kernel_rfl) rfl #[.agg #[.int .i64 t700, .int .i64 t701, .int .i64 t702, .int .i64 t703], .slice Ao11 t704.length co11] rfl qL ?_; (with_reducible refine (spec_SessIds.calls k t700 t701 t702 t703 _ _ t704 t708 t711 _ ?side1 ?side2 A5.out).mono ?_); (case side1 => refine (Kd.R_reads' (e := 32) (base := w.heap.size) (ok := fun k_ => True) (n := t704.length) (c := co11) ?_).2.2; exact (by (with_reducible repeat (first | apply Kd.R_alloc | apply Kd.R_drewN | apply Kd.R_drew)); exact (Kd.R_mono (Kd.R_far (p := ⟨gb707, 3, none⟩) (Kd.R_far (p := ⟨gb707, 2, none⟩) (Kd.R_far (p := ⟨gb707, 1, none⟩) (Kd.R_far (p := ⟨gb707, 0, none⟩) (Kd.R_types HO706.out BK707.out (by decide)) (fun _ hk => hk.2) (.int .i64 t700)) (fun _ hk => hk.2) (.int .i64 t701)) (fun _ hk => hk.2) (.int .i64 t702)) (fun _ hk => hk.2) (.int .i64 t703)) (fun _ h_ => h_.1)))); (case side2 => exact (Kd.R_reads' HO706.out).2.1); rintro e w12 ⟨v709, rfl, ho0, hb⟩; refine ⟨_, rfl, ?_⟩; have n0_ := Aside0.mk (Kd.R_below (by (with_reducible repeat (first | apply Kd.R_alloc | apply Kd.R_drewN | apply Kd.R_drew)); exact (Kd.R_mono (Kd.R_far (p := ⟨gb707, 3, none⟩) (Kd.R_far (p := ⟨gb707, 2, none⟩) (Kd.R_far (p := ⟨gb707, 1, none⟩) (Kd.R_far (p := ⟨gb707, 0, none⟩) (Kd.R_types HO706.out BK707.out (by decide)) (fun _ hk => hk.2) (.int .i64 t700)) (fun _ hk => hk.2) (.int .i64 t701)) (fun _ hk => hk.2) (.int .i64 t702)) (fun _ hk => hk.2) (.int .i64 t703)) (fun _ h_ => h_.1))) hb); have n1_ := Aside0.mk (Kd.R_lower ho0 (below_size (qS1 HB GE707))); have n2_ := Aside0.mk (blk_below (g := gb707) (o := .cells #[.int .i64 t700, .int .i64 t701, .int .i64 t702, .int .i64 t703] 25 (0, 0)) (by (with_reducible repeat (first | refine blk_drewN ?_ _ | refine blk_drew ?_ | refine blk_alloc ?_ _)); refine blk_put (cs := #[.int .i64 t700, .int .i64 t701, .int .i64 t702, .int .i64 0]) ?_ 3 _ rfl; (with_reducible repeat (first | refine blk_drewN ?_ _ | refine blk_drew ?_ | refine blk_alloc ?_ _)); refine blk_put (cs := #[.int .i64 t700, .int .i64 t701, .int .i64 0, .int .i64 0]) ?_ 2 _ rfl; (with_reducible repeat (first | refine blk_drewN ?_ _ | refine blk_drew ?_ | refine blk_alloc ?_ _)); refine blk_put (cs := #[.int .i64 t700, .int .i64 0, .int .i64 0, .int .i64 0]) ?_ 1 _ rfl; (with_reducible repeat (first | refine blk_drewN ?_ _ | refine blk_drew ?_ | refine blk_alloc ?_ _)); refine blk_put (cs := #[.int .i64 0, .int .i64 0, .int .i64 0, .int .i64 0]) ?_ 0 _ rfl; (with_reducible repeat (first | refine blk_drewN ?_ _ | refine blk_drew ?_ | refine blk_alloc ?_ _)); exact BK707.out) hb); have n3_ := Aside0.mk (below_step (qS1 HB GE707) hb); clear HO706 BK707 HB; have HO706 := n0_; have HO710 := n1_; have BK707 := n2_; have HB := n3_; clear n0_ n1_ n2_ n3_; (try clear hb); (try clear hb2); (try clear hk); (try clear hi); (try clear ho0); obtain ⟨hcz13_0, hcz13_1, hcz13_2, hcz13_3, hfz13_0, hfz13_1, hfz13_2, hfz13_3⟩ := qC4 BK707) | ((with_reducible refine gate_callee (f := 24) rfl ?_); refine goesL_ (some 28) rfl rfl Tryd.func24 (by kernel_rfl) rfl #[.agg #[.int .i64 t700, .int .i64 t701, .int .i64 t702, .int .i64 t703], .slice Ao11 t704.length co11] rfl qL ?_; (with_reducible refine (impl_SessIds.calls k t700 t701 t702 t703 _ _ t704 t712 t715 _ ?side1 ?side2 A6.out (G_below (qS1 HB GE707) hG)).mono ?_); (case side1 => repeat (first | exact (Kd.R_reads' HO706.out).2.2 | (with_reducible refine Kd.C_alloc ?_ _) | (with_reducible refine Kd.C_drewN ?_ _) | (with_reducible refine Kd.C_drew ?_))); (case side2 => exact (Kd.R_reads' HO706.out).2.1); rintro e w14 ⟨v713, rfl, ho0, hb⟩; refine ⟨_, rfl, ?_⟩; have n0_ := Aside0.mk (Kd.R_below (qR HO706) hb); have n1_ := Aside0.mk (Kd.R_elder' (qR HO710) (Kd.R_base ho0) hb); have n2_ := Aside0.mk (Kd.R_lower (Kd.R_new' ho0 (Kd.R_lt (qR HO710))) (below_size (qS1 HB GE707))); have n3_ := qD BK707 hb; have n4_ := Aside0.mk (below_step (qS1 HB GE707) hb); clear HO706 HO710 BK707 HB; have HO706 := n0_; have HO710 := n1_; have HO714 := n2_; have BK707 := n3_; have HB := n4_; clear n0_ n1_ n2_ n3_ n4_; (try clear hb); (try clear hb2); (try clear hk); (try clear hi); (try clear ho0)))
  (try simp only [Act.put, List.setIfInBounds_toArray, List.set_cons_zero, List.set_cons_succ])
  go_cut [37] (fun v37 wc => ∃ (kq : Nat) (x37_6 : Bool), v37 = .bool x37_6 ∧ Aside0 (laws_FnIdsBook.j0 kq t704 t708 t711 t712 t715 x37_6 t700 t701 t702 t703 = some r) ∧ Aside0 (kq ≤ k) ∧ Aside0 (Kd.R k32 32 wc w.heap.size (fun _ => True) (.slice Ao11 t704.length co11) t704) ∧ Aside0 (Kd.R (Kd.int .i64) 3 wc w.heap.size (fun k_ => some k_ ≠ (v713 : Value).ownBlock) v709 t708) ∧ Aside0 (Kd.R (Kd.int .i64) 3 wc w.heap.size (fun k_ => some k_ ≠ (v709 : Value).ownBlock) v713 t712) ∧ Aside0 (wc.heap[gb707]? = some (.cells #[.int .i64 t700, .int .i64 t701, .int .i64 t702, .int .i64 t703] 25 (0, 0))) ∧ Aside0 (Below w.heap.size w wc))
  case first =>
   (have H := HC7.out); clear HC7
   by_cases c15 : (t715 != t711) = true
   ·rw [if_pos c15] at H
    (have c15b0 : (t715 != t711) = true := c15); (try (have c15b1 : decide (t715 = t711) = false := by simpa using c15)); (try (have c15b2 : (t715 == t711) = false := by simpa using c15)); (try (have c15b3 : ¬ (t715 = t711) := by simpa using c15)); clear c15
    (first | rw [c15b0] | (simp only [i64_w, i32_w]; rw [c15b0]) | skip)
    (have H' := Aside0.mk H); clear H
    go_wp2
    go_meet
    case rel => exact ⟨_, (true), (by first | rfl | (simp; done) | (simp [*]; done)), H', ⟨by first | omega | exact Nat.le_refl _⟩, ⟨qR HO706⟩, ⟨by (with_reducible repeat (first | apply Kd.R_alloc | apply Kd.R_drewN | apply Kd.R_drew)); exact Kd.R_mono HO710.out (fun _ hk => hk.2)⟩, ⟨by (with_reducible repeat (first | apply Kd.R_alloc | apply Kd.R_drewN | apply Kd.R_drew)); exact Kd.R_mono HO714.out (fun _ hk => hk.2)⟩, ⟨qB BK707⟩, ⟨qS1 HB GE707⟩⟩
   ·rw [if_neg c15] at H
    (have c15b0 : (t715 != t711) = false := by simpa using c15); (try (have c15b1 : decide (t715 = t711) = true := by simpa using c15)); (try (have c15b2 : (t715 == t711) = true := by simpa using c15)); clear c15
    (first | rw [c15b0] | (simp only [i64_w, i32_w]; rw [c15b0]) | skip)
    (have H' := Aside0.mk H); clear H
    go_wp2
    go_meet
    case rel => exact ⟨_, (!t715), (by first | rfl | (simp; done) | (simp [*]; done)), H', ⟨by first | omega | exact Nat.le_refl _⟩, ⟨qR HO706⟩, ⟨by (with_reducible repeat (first | apply Kd.R_alloc | apply Kd.R_drewN | apply Kd.R_drew)); exact Kd.R_mono HO710.out (fun _ hk => hk.2)⟩, ⟨by (with_reducible repeat (first | apply Kd.R_alloc | apply Kd.R_drewN | apply Kd.R_drew)); exact Kd.R_mono HO714.out (fun _ hk => hk.2)⟩, ⟨qB BK707⟩, ⟨qS1 HB GE707⟩⟩
  case rest =>
   clear HC7; (try clear c1); (try clear c2); (try clear p2); (try clear c3); (try clear c7); (try clear c15); (try clear c15b0); (try clear c15b1); (try clear c15b2); (try clear hcz10_0); (try clear hcz10_1); (try clear hcz10_2); (try clear hcz10_3); (try clear hcz13_0); (try clear hcz13_1); (try clear hcz13_2); (try clear hcz13_3); (try clear hfz10_0); (try clear hfz10_1); (try clear hfz10_2); (try clear hfz10_3); (try clear hfz13_0); (try clear hfz13_1); (try clear hfz13_2); (try clear hfz13_3); (obtain ⟨kq, x37_6, rfl, HA, HJ6, HO_4, HO_5, HO_7, BK707, HB⟩ := hcut)
   cases kq with
   | zero => exact absurd HA.out (by simp [laws_FnIdsBook.j0])
   | succ kj6 =>
    (have H := HA.out); clear HA; (simp only [laws_FnIdsBook.j0] at H)
    by_cases c16 : x37_6 = true
    ·subst c16
     (have H1 : (some (t715 == t711)) = some r := by rw [if_pos rfl] at H; exact H); clear H; (have H := H1); clear H1; (obtain rfl := Option.some.inj H)
     go_wp2
     go_ret
     exact ⟨qE, qS1 HB GE707⟩
    ·replace c16 := Bool.eq_false_iff.mpr c16
     (subst c16); (have H1 : (laws_FnIdsBook.l0 kj6 t704 t708 t712 0 0 t700 t701 t702 t703) = some r := by rw [if_neg (show ¬ (false = true) by decide)] at H; exact H); clear H; (have H := H1); clear H1; (have H' := Aside0.mk H); clear H
     go_wp2
     go_loopg [9, 10] kj6 (fun kq v9 v10 w' => ∃ (x9_2 : Int) (x10_2 : Int), v9 = .int .i64 x9_2 ∧ v10 = .int .i64 x10_2 ∧ Aside0 (laws_FnIdsBook.l0 kq t704 t708 t712 x9_2 x10_2 t700 t701 t702 t703 = some r) ∧ Aside0 (kq ≤ kj6) ∧ Aside0 (Kd.R k32 32 w' w.heap.size (fun _ => True) (.slice Ao11 t704.length co11) t704) ∧ Aside0 (Kd.R (Kd.int .i64) 3 w' w.heap.size (fun k_ => some k_ ≠ (v713 : Value).ownBlock) v709 t708) ∧ Aside0 (Kd.R (Kd.int .i64) 3 w' w.heap.size (fun k_ => some k_ ≠ (v709 : Value).ownBlock) v713 t712) ∧ Aside0 (w'.heap[gb707]? = some (.cells #[.int .i64 t700, .int .i64 t701, .int .i64 t702, .int .i64 t703] 25 (0, 0))) ∧ Aside0 (Below w.heap.size w w'))
     case atStart => exact ⟨(0), (0), (by first | rfl | (simp; done) | (simp [*]; done)), (by first | rfl | (simp; done) | (simp [*]; done)), H', ⟨Nat.le_refl _⟩, ⟨qR HO_4⟩, ⟨qR HO_5⟩, ⟨qR HO_7⟩, ⟨qB BK707⟩, ⟨qS1 HB GE707⟩⟩
     case round =>
      clear H'; (try clear c1); (try clear c2); (try clear p2); (try clear c3); (try clear c7); (try clear c15); (try clear c15b0); (try clear c15b1); (try clear c15b2); (try clear c16); (try clear hcz10_0); (try clear hcz10_1); (try clear hcz10_2); (try clear hcz10_3); (try clear hcz13_0); (try clear hcz13_1); (try clear hcz13_2); (try clear hcz13_3); (try clear hfz10_0); (try clear hfz10_1); (try clear hfz10_2); (try clear hfz10_3); (try clear hfz13_0); (try clear hfz13_1); (try clear hfz13_2); (try clear hfz13_3); (try clear p2); (obtain ⟨x9_2, x10_2, rfl, rfl, HA, HK2, HO_4, HO_5, HO_7, BK707, HB⟩ := hrel)
      cases gk with
      | zero => exact absurd HA.out (by simp [laws_FnIdsBook.l0])
      | succ k2 =>
       (have H := HA.out); clear HA; (simp only [laws_FnIdsBook.l0] at H)
       by_cases c17 : x10_2 < (t704.length : Int)
       ·rw [if_pos c17] at H
        (have c17b0 : decide (x10_2 < (t704.length : Int)) = true := decide_eq_true c17); clear c17
        by_cases c18 : 0 ≤ x10_2
        ·rw [if_pos c18] at H
         (have c18b0 : decide (0 ≤ x10_2) = true := decide_eq_true c18); clear c18; (replace H := Option.bind_eq_some_iff.mp H); (obtain ⟨t719, A190, H⟩ := H)
         try dsimp only at H
         (have A19 := Aside0.mk A190); clear A190; (have HC20 := Aside0.mk H); clear H
         try go_wp2
         (have n0_ := Aside0.mk (Kd.R_drew HO_4.out)); (have n1_ := Aside0.mk (Kd.R_drew HO_5.out)); (have n2_ := Aside0.mk (Kd.R_drew HO_7.out)); (have n3_ := Aside0.mk (blk_drew BK707.out)); (have n4_ := Aside0.mk (below_drew1 HB.out)); clear HO_4 HO_5 HO_7 BK707 HB; (have HO_4 := n0_); (have HO_5 := n1_); (have HO_7 := n2_); (have BK707 := n3_); (have HB := n4_); clear n0_ n1_ n2_ n3_ n4_; (have p717 : 0 ≤ (x10_2 : Int) := of_decide_eq_true (by first | (with_reducible assumption) | assumption)); (have q717 : x10_2 < (t704.length : Int) := of_decide_eq_true (by first | (with_reducible assumption) | assumption)); (obtain ⟨ad717, e717, hx717_0, hx717_1, hx717_2, hx717_3, hx717_4, hx717_5, hx717_6⟩ := at_T32 (Kd.R_reads' HO_4.out).2.2 x10_2 p717 q717)
         cases e717
         (replace p717 := eq_true p717); (replace q717 := eq_true q717); (have p718 : 0 ≤ (x10_2 : Int) := of_decide_eq_true (by first | (with_reducible assumption) | assumption)); (have q718 : x10_2 < (t704.length : Int) := of_decide_eq_true (by first | (with_reducible assumption) | assumption)); (obtain ⟨ad718, e718, hx718_0, hx718_1, hx718_2, hx718_3, hx718_4, hx718_5, hx718_6⟩ := at_T32 (Kd.R_reads' HO_4.out).2.2 x10_2 p718 q718); (obtain rfl : ad717 = ad718 := (by injection e718)); (replace p718 := eq_true p718); (replace q718 := eq_true q718)
         refine start_ (n := 13) (S := fun w' => w'.cell? (ad717.add ((x10_2).toNat * 7)) = some (.int .i64 ((rd_T32 t704 x10_2).f0)) ∧ w'.cell? ⟨(ad717.add ((x10_2).toNat * 7)).block, (ad717.add ((x10_2).toNat * 7)).off + 1, none⟩ = some (.string ((rd_T32 t704 x10_2).f1)) ∧ w'.cell? ⟨(ad717.add ((x10_2).toNat * 7)).block, (ad717.add ((x10_2).toNat * 7)).off + 2, none⟩ = some (.int .i64 ((rd_T32 t704 x10_2).f2)) ∧ w'.cell? ⟨(ad717.add ((x10_2).toNat * 7)).block, (ad717.add ((x10_2).toNat * 7)).off + 3, none⟩ = some (.int .i64 ((rd_T32 t704 x10_2).f3)) ∧ w'.cell? ⟨(ad717.add ((x10_2).toNat * 7)).block, (ad717.add ((x10_2).toNat * 7)).off + 4, none⟩ = some (.int .i64 ((rd_T32 t704 x10_2).f4)) ∧ w'.cell? ⟨(ad717.add ((x10_2).toNat * 7)).block, (ad717.add ((x10_2).toNat * 7)).off + 5, none⟩ = some (.int .i64 ((rd_T32 t704 x10_2).f5)) ∧ w'.cell? ⟨(ad717.add ((x10_2).toNat * 7)).block, (ad717.add ((x10_2).toNat * 7)).off + 6, none⟩ = some (.string ((rd_T32 t704 x10_2).f6)) ∧ w'.cell? (ad717.add ((x10_2).toNat * 7)) = some (.int .i64 ((rd_T32 t704 x10_2).f0)) ∧ w'.cell? ⟨(ad717.add ((x10_2).toNat * 7)).block, (ad717.add ((x10_2).toNat * 7)).off + 1, none⟩ = some (.string ((rd_T32 t704 x10_2).f1)) ∧ w'.cell? ⟨(ad717.add ((x10_2).toNat * 7)).block, (ad717.add ((x10_2).toNat * 7)).off + 2, none⟩ = some (.int .i64 ((rd_T32 t704 x10_2).f2)) ∧ w'.cell? ⟨(ad717.add ((x10_2).toNat * 7)).block, (ad717.add ((x10_2).toNat * 7)).off + 3, none⟩ = some (.int .i64 ((rd_T32 t704 x10_2).f3)) ∧ w'.cell? ⟨(ad717.add ((x10_2).toNat * 7)).block, (ad717.add ((x10_2).toNat * 7)).off + 4, none⟩ = some (.int .i64 ((rd_T32 t704 x10_2).f4)) ∧ w'.cell? ⟨(ad717.add ((x10_2).toNat * 7)).block, (ad717.add ((x10_2).toNat * 7)).off + 5, none⟩ = some (.int .i64 ((rd_T32 t704 x10_2).f5)) ∧ w'.cell? ⟨(ad717.add ((x10_2).toNat * 7)).block, (ad717.add ((x10_2).toNat * 7)).off + 6, none⟩ = some (.string ((rd_T32 t704 x10_2).f6))) (ds := []) #[false, false, false, false, false, false, false, false, false, false, false, false, false] (by kernel_rfl) rfl rfl ⟨hx717_0, hx717_1, hx717_2, hx717_3, hx717_4, hx717_5, hx717_6, hx718_0, hx718_1, hx718_2, hx718_3, hx718_4, hx718_5, hx718_6⟩ (fun hHeld => ?_); refine with_tabW laws_FnIdsBook.tab12 laws_FnIdsBook.bits12 (fun HT_ HW_ => ?_)
         generalize wr.drew = w21 at HO_4 HO_5 HO_7 BK707 HB hx717_0 hx717_1 hx717_2 hx717_3 hx717_4 hx717_5 hx717_6 hx718_0 hx718_1 hx718_2 hx718_3 hx718_4 hx718_5 hx718_6 hHeld ⊢
         refine pure_ (i := 0) (N := some 47) (v := ?_) (a' := ?_) #[true, false, false, false, false, false, false, false, false, false, false, false, false] rfl rfl (any_of HT_.out (by kernel_rfl)) (fun _ _ _ h => h) (Or.inl ⟨by rfl, ?_⟩) ?_ ?_
         rotate_left
         ·intro w'
          go_simp
          with_reducible rfl
         rotate_left
         ·simp only [Act.put, List.setIfInBounds_toArray, List.set_cons_zero, List.set_cons_succ, i64_w, i32_w]
          rfl
         refine pure_ (i := 1) (N := some 48) (v := ?_) (a' := ?_) #[true, true, false, false, false, false, false, false, false, false, false, false, false] rfl rfl (any_of HT_.out (by kernel_rfl)) (fun _ _ _ h => h) (Or.inl ⟨by rfl, ?_⟩) ?_ ?_
         rotate_left
         ·intro w'
          go_simp
          with_reducible rfl
         rotate_left
         ·simp only [Act.put, List.setIfInBounds_toArray, List.set_cons_zero, List.set_cons_succ, i64_w, i32_w]
          rfl
         refine pure_ (i := 2) (N := some 49) (v := ?_) (a' := ?_) #[true, true, true, false, false, false, false, false, false, false, false, false, false] rfl rfl (any_of HT_.out (by kernel_rfl)) (fun _ _ _ h => h) (Or.inl ⟨by rfl, ?_⟩) ?_ ?_
         rotate_left
         ·intro w'
          go_simp
          with_reducible rfl
         rotate_left
         ·simp only [Act.put, List.setIfInBounds_toArray, List.set_cons_zero, List.set_cons_succ, i64_w, i32_w]
          rfl
         refine pure_ (i := 3) (N := some 50) (v := ?_) (a' := ?_) #[true, true, true, true, false, false, false, false, false, false, false, false, false] rfl rfl (any_of HT_.out (by kernel_rfl)) (fun _ _ _ h => h) (Or.inl ⟨by rfl, ?_⟩) ?_ ?_
         rotate_left
         ·intro w'
          go_simp
          with_reducible rfl
         rotate_left
         ·simp only [Act.put, List.setIfInBounds_toArray, List.set_cons_zero, List.set_cons_succ, i64_w, i32_w]
          rfl
         refine pure_ (i := 5) (N := some 52) (v := ?_) (a' := ?_) #[true, true, true, true, false, true, false, false, false, false, false, false, false] rfl rfl (any_of HT_.out (by kernel_rfl)) (fun _ _ _ h => h) (Or.inl ⟨by rfl, ?_⟩) ?_ ?_
         rotate_left
         ·intro w'
          go_simp
          with_reducible rfl
         rotate_left
         ·simp only [Act.put, List.setIfInBounds_toArray, List.set_cons_zero, List.set_cons_succ, i64_w, i32_w]
          rfl
         refine pure_ (i := 6) (N := some 53) (v := ?_) (a' := ?_) #[true, true, true, true, false, true, true, false, false, false, false, false, false] rfl rfl (any_of HT_.out (by kernel_rfl)) (fun _ _ _ h => h) (Or.inl ⟨by rfl, ?_⟩) ?_ ?_
         rotate_left
         ·intro w'
          go_simp
          with_reducible rfl
         rotate_left
         ·simp only [Act.put, List.setIfInBounds_toArray, List.set_cons_zero, List.set_cons_succ, i64_w, i32_w]
          rfl
         refine pure_ (i := 7) (N := some 54) (v := ?_) (a' := ?_) #[true, true, true, true, false, true, true, true, false, false, false, false, false] rfl rfl (any_of HT_.out (by kernel_rfl)) (fun _ _ _ h => h) (Or.inl ⟨by rfl, ?_⟩) ?_ ?_
         rotate_left
         ·intro w'
          go_simp
          with_reducible rfl
         rotate_left
         ·simp only [Act.put, List.setIfInBounds_toArray, List.set_cons_zero, List.set_cons_succ, i64_w, i32_w]
          rfl
         refine pure_ (i := 8) (N := some 55) (v := ?_) (a' := ?_) #[true, true, true, true, false, true, true, true, true, false, false, false, false] rfl rfl (any_of HT_.out (by kernel_rfl)) (fun _ _ _ h => h) (Or.inl ⟨by rfl, ?_⟩) ?_ ?_
         rotate_left
         ·intro w'
          go_simp
          with_reducible rfl
         rotate_left
         ·simp only [Act.put, List.setIfInBounds_toArray, List.set_cons_zero, List.set_cons_succ, i64_w, i32_w]
          rfl
         refine take_ (i := 4) (N := some 51) (v := ?_) (a' := ?_) #[true, true, true, true, true, true, true, true, true, false, false, false, false] rfl rfl (take_ofW HT_.out HW_.out (by kernel_rfl)) (fun _ _ _ h => h) (Or.inl ⟨by rfl, ?_⟩) hHeld ?_ ?_
         rotate_left
         ·rintro w' ⟨s0, s1, s2, s3, s4, s5, s6, s7, s8, s9, s10, s11, s12, s13⟩
          go_simp
          with_reducible rfl
         rotate_left
         ·simp only [Act.put, List.setIfInBounds_toArray, List.set_cons_zero, List.set_cons_succ, i64_w, i32_w]
          rfl
         refine take_ (i := 9) (N := some 56) (v := ?_) (a' := ?_) #[true, true, true, true, true, true, true, true, true, true, false, false, false] rfl rfl (take_ofW HT_.out HW_.out (by kernel_rfl)) (fun _ _ _ h => h) (Or.inl ⟨by rfl, ?_⟩) hHeld ?_ ?_
         rotate_left
         ·rintro w' ⟨s0, s1, s2, s3, s4, s5, s6, s7, s8, s9, s10, s11, s12, s13⟩
          go_simp
          with_reducible rfl
         rotate_left
         ·simp only [Act.put, List.setIfInBounds_toArray, List.set_cons_zero, List.set_cons_succ, i64_w, i32_w]
          rfl
         refine pure_ (i := 10) (N := some 57) (v := ?_) (a' := ?_) #[true, true, true, true, true, true, true, true, true, true, true, false, false] rfl rfl (any_of HT_.out (by kernel_rfl)) (fun _ _ _ h => h) (Or.inl ⟨by rfl, ?_⟩) ?_ ?_
         rotate_left
         ·intro w'
          go_simp
          with_reducible rfl
         rotate_left
         ·simp only [Act.put, List.setIfInBounds_toArray, List.set_cons_zero, List.set_cons_succ, i64_w, i32_w]
          rfl
         refine one_ (i := 11) (N := some 58) #[true, true, true, true, true, true, true, true, true, true, true, true, false] rfl rfl (one_of HT_.out (by kernel_rfl)) (by decide) (fun K hK => ?_)
         refine goes_ Tryd.func32 (by kernel_rfl) rfl #[.agg #[.int .i64 ((rd_T32 t704 x10_2).f0), .int .i64 ((rd_T32 t704 x10_2).f5)]] (by rfl) rfl rfl qL ?_
         with_reducible refine (impl_ShapeTakes.calls ((rd_T32 t704 x10_2).f0) ((rd_T32 t704 x10_2).f5) t719 _ A19.out).mono ?_
         rintro e w22 ⟨rfl, hb⟩
         (have HS0_ := (hb.cell (World.block_lt_of_cell? _ _ (hHeld.1))).trans (hHeld.1)); (have HS1_ := (hb.cell (World.block_lt_of_cell? _ _ (hHeld.2.1))).trans (hHeld.2.1)); (have HS2_ := (hb.cell (World.block_lt_of_cell? _ _ (hHeld.2.2.1))).trans (hHeld.2.2.1)); (have HS3_ := (hb.cell (World.block_lt_of_cell? _ _ (hHeld.2.2.2.1))).trans (hHeld.2.2.2.1)); (have HS4_ := (hb.cell (World.block_lt_of_cell? _ _ (hHeld.2.2.2.2.1))).trans (hHeld.2.2.2.2.1)); (have HS5_ := (hb.cell (World.block_lt_of_cell? _ _ (hHeld.2.2.2.2.2.1))).trans (hHeld.2.2.2.2.2.1)); (have HS6_ := (hb.cell (World.block_lt_of_cell? _ _ (hHeld.2.2.2.2.2.2.1))).trans (hHeld.2.2.2.2.2.2.1)); (have HS7_ := (hb.cell (World.block_lt_of_cell? _ _ (hHeld.2.2.2.2.2.2.2.1))).trans (hHeld.2.2.2.2.2.2.2.1)); (have HS8_ := (hb.cell (World.block_lt_of_cell? _ _ (hHeld.2.2.2.2.2.2.2.2.1))).trans (hHeld.2.2.2.2.2.2.2.2.1)); (have HS9_ := (hb.cell (World.block_lt_of_cell? _ _ (hHeld.2.2.2.2.2.2.2.2.2.1))).trans (hHeld.2.2.2.2.2.2.2.2.2.1)); (have HS10_ := (hb.cell (World.block_lt_of_cell? _ _ (hHeld.2.2.2.2.2.2.2.2.2.2.1))).trans (hHeld.2.2.2.2.2.2.2.2.2.2.1)); (have HS11_ := (hb.cell (World.block_lt_of_cell? _ _ (hHeld.2.2.2.2.2.2.2.2.2.2.2.1))).trans (hHeld.2.2.2.2.2.2.2.2.2.2.2.1)); (have HS12_ := (hb.cell (World.block_lt_of_cell? _ _ (hHeld.2.2.2.2.2.2.2.2.2.2.2.2.1))).trans (hHeld.2.2.2.2.2.2.2.2.2.2.2.2.1)); (have HS13_ := (hb.cell (World.block_lt_of_cell? _ _ (hHeld.2.2.2.2.2.2.2.2.2.2.2.2.2))).trans (hHeld.2.2.2.2.2.2.2.2.2.2.2.2.2))
         refine ⟨_, rfl, ?_⟩
         (have n0_ := Aside0.mk (Kd.R_below (qR HO_4) hb)); (have n1_ := Aside0.mk (Kd.R_below (qR HO_5) hb)); (have n2_ := Aside0.mk (Kd.R_below (qR HO_7) hb)); (have n3_ := qD BK707 hb); (have n4_ := Aside0.mk (below_step (qS1 HB GE707) hb)); clear HO_4 HO_5 HO_7 BK707 HB; (have HO_4 := n0_); (have HO_5 := n1_); (have HO_7 := n2_); (have BK707 := n3_); (have HB := n4_); clear n0_ n1_ n2_ n3_ n4_; (try clear hb); (try clear hb2); (try clear hk); (try clear hi)
         refine hK.out _ _ ⟨HS0_, HS1_, HS2_, HS3_, HS4_, HS5_, HS6_, HS7_, HS8_, HS9_, HS10_, HS11_, HS12_, HS13_⟩ (fun hHeld => ?_)
         clear hK K
         refine norm_ (a' := ?_) ?_ ?_
         rotate_left
         ·show Act.put _ (some 58) _ = _
          simp only [Act.put, List.setIfInBounds_toArray, List.set_cons_zero, List.set_cons_succ, i64_w, i32_w]
          rfl
         refine pure_ (i := 12) (N := some 11) (v := ?_) (a' := ?_) #[true, true, true, true, true, true, true, true, true, true, true, true, true] rfl rfl (any_of HT_.out (by kernel_rfl)) (fun _ _ _ h => h) (Or.inl ⟨by rfl, ?_⟩) ?_ ?_
         rotate_left
         ·intro w'
          go_simp
          with_reducible rfl
         rotate_left
         ·simp only [Act.put, List.setIfInBounds_toArray, List.set_cons_zero, List.set_cons_succ, i64_w, i32_w]
          rfl
         refine done_ (done_of HT_.out (by kernel_rfl)) ?_
         go_upto_region 13 with (fail)
         go_cut [68] (fun v68 wc => ∃ (kq : Nat) (x68_19 : Bool), v68 = .bool x68_19 ∧ Aside0 (laws_FnIdsBook.j2 kq t704 t708 t712 x9_2 x10_2 t719 x68_19 t700 t701 t702 t703 = some r) ∧ Aside0 (kq ≤ k2) ∧ Aside0 (Kd.R k32 32 wc w.heap.size (fun _ => True) (.slice (some ad717) t704.length co11) t704) ∧ Aside0 (Kd.R (Kd.int .i64) 3 wc w.heap.size (fun k_ => some k_ ≠ (v713 : Value).ownBlock) v709 t708) ∧ Aside0 (Kd.R (Kd.int .i64) 3 wc w.heap.size (fun k_ => some k_ ≠ (v709 : Value).ownBlock) v713 t712) ∧ Aside0 (wc.heap[gb707]? = some (.cells #[.int .i64 t700, .int .i64 t701, .int .i64 t702, .int .i64 t703] 25 (0, 0))) ∧ Aside0 (Below w.heap.size w wc))
         case first =>
          (have H := HC20.out); clear HC20
          by_cases c23 : t719 < 0
          ·rw [if_pos c23] at H
           (have c23b0 : decide (t719 < 0) = true := decide_eq_true c23); clear c23
           (first | rw [c23b0] | (simp only [i64_w, i32_w]; rw [c23b0]) | skip)
           (have H' := Aside0.mk H); clear H
           go_wp2
           go_meet
           case rel => exact ⟨_, (true), (by first | rfl | (simp; done) | (simp [*]; done)), H', ⟨by have := HJ6.out; have := HK2.out; first | omega | exact Nat.le_refl _⟩, ⟨qR HO_4⟩, ⟨qR HO_5⟩, ⟨qR HO_7⟩, ⟨qB BK707⟩, ⟨qS1 HB GE707⟩⟩
          ·rw [if_neg c23] at H
           (have c23b0 : decide (t719 < 0) = false := decide_eq_false c23); clear c23
           (first | rw [c23b0] | (simp only [i64_w, i32_w]; rw [c23b0]) | skip)
           (have H' := Aside0.mk H); clear H; (obtain ⟨Ao24, co24, eo24⟩ := Kd.R_slice HO_7.out); (subst eo24)
           go_wp2
           go_meet
           case rel => exact ⟨_, (decide ((wrap64 (x9_2 + t719)) > (t712.length : Int))), (by first | rfl | (simp; done) | (simp [*]; done)), H', ⟨by have := HJ6.out; have := HK2.out; first | omega | exact Nat.le_refl _⟩, ⟨qR HO_4⟩, ⟨qR HO_5⟩, ⟨qR HO_7⟩, ⟨qB BK707⟩, ⟨qS1 HB GE707⟩⟩
         case rest =>
          clear HC20; (try clear c1); (try clear c2); (try clear p2); (try clear c3); (try clear p6); (try clear c7); (try clear p7); (try clear q7); (try clear hx7); (try clear c15); (try clear c15b0); (try clear c15b1); (try clear c15b2); (try clear c16); (try clear c17); (try clear c17b0); (try clear c18); (try clear c18b0); (try clear c22); (try clear c23); (try clear c23b0); (try clear c24); (try clear hcz10_0); (try clear hcz10_1); (try clear hcz10_2); (try clear hcz10_3); (try clear hcz13_0); (try clear hcz13_1); (try clear hcz13_2); (try clear hcz13_3); (try clear hfz10_0); (try clear hfz10_1); (try clear hfz10_2); (try clear hfz10_3); (try clear hfz13_0); (try clear hfz13_1); (try clear hfz13_2); (try clear hfz13_3); (try clear hx717_0); (try clear hx717_1); (try clear hx717_2); (try clear hx717_3); (try clear hx717_4); (try clear hx717_5); (try clear hx717_6); (try clear hx718_0); (try clear hx718_1); (try clear hx718_2); (try clear hx718_3); (try clear hx718_4); (try clear hx718_5); (try clear hx718_6); (try clear p2); (try clear p717); (try clear p718); (try clear q717); (try clear q718); (obtain ⟨kq, x68_19, rfl, HA, HJ19, HO_4, HO_5, HO_7, BK707, HB⟩ := hcut)
          cases kq with
          | zero => exact absurd HA.out (by simp [laws_FnIdsBook.j2])
          | succ kj19 =>
           (have H := HA.out); clear HA; (simp only [laws_FnIdsBook.j2] at H)
           by_cases c25 : x68_19 = true
           ·subst c25
            (have H1 : (some false) = some r := by rw [if_pos rfl] at H; exact H); clear H; (have H := H1); clear H1; (obtain rfl := Option.some.inj H)
            go_wp2
            go_ret
            exact ⟨qE, qS1 HB GE707⟩
           ·replace c25 := Bool.eq_false_iff.mpr c25
            (subst c25); (have H1 : (if 0 ≤ x10_2 then (if x10_2 < (t704.length : Int) then (if ((rd_T32 t704 x10_2).f0) = 1 then (if 0 ≤ x9_2 then (if x9_2 < (t712.length : Int) then ((spec_Fold.f kj19 ((rd_T32 t704 x10_2).f1)).bind fun t723 => ((impl_ShelfFor.f kj19 t700 t723 t701).bind fun t724 => (if (rd t712 x9_2) = t724 then (laws_FnIdsBook.l0 kj19 t704 t708 t712 (wrap64 (x9_2 + t719)) (wrap64 (x10_2 + 1)) t700 t701 t702 t703) else (some false)))) else (none)) else (none)) else (laws_FnIdsBook.l0 kj19 t704 t708 t712 (wrap64 (x9_2 + t719)) (wrap64 (x10_2 + 1)) t700 t701 t702 t703)) else (none)) else (none)) = some r := by rw [if_neg (show ¬ (false = true) by decide)] at H; exact H); clear H; (have H := H1); clear H1
            by_cases c26 : 0 ≤ x10_2
            ·rw [if_pos c26] at H
             (have c26b0 : decide (0 ≤ x10_2) = true := decide_eq_true c26); clear c26
             by_cases c27 : x10_2 < (t704.length : Int)
             ·rw [if_pos c27] at H
              (have c27b0 : decide (x10_2 < (t704.length : Int)) = true := decide_eq_true c27); clear c27
              by_cases c28 : ((rd_T32 t704 x10_2).f0) = 1
              ·rw [if_pos c28] at H
               (have c28b0 : (((rd_T32 t704 x10_2).f0) == 1) = true := beq_iff_eq.mpr c28); (have c28b1 : (((rd_T32 t704 x10_2).f0) != 1) = false := bne_eq_false_iff_eq.mpr c28); clear c28
               by_cases c29 : 0 ≤ x9_2
               ·rw [if_pos c29] at H
                (have c29b0 : decide (0 ≤ x9_2) = true := decide_eq_true c29); clear c29
                by_cases c30 : x9_2 < (t712.length : Int)
                ·rw [if_pos c30] at H
                 (have c30b0 : decide (x9_2 < (t712.length : Int)) = true := decide_eq_true c30); clear c30; (replace H := Option.bind_eq_some_iff.mp H); (obtain ⟨t723, A310, H⟩ := H)
                 try dsimp only at H
                 (have A31 := Aside0.mk A310); clear A310; (replace H := Option.bind_eq_some_iff.mp H); (obtain ⟨t724, A320, H⟩ := H)
                 try dsimp only at H
                 (have A32 := Aside0.mk A320); clear A320
                 by_cases c33 : (rd t712 x9_2) = t724
                 ·rw [if_pos c33] at H
                  (have c33b0 : ((rd t712 x9_2) == t724) = true := beq_iff_eq.mpr c33); (have c33b1 : ((rd t712 x9_2) != t724) = false := bne_eq_false_iff_eq.mpr c33); clear c33; (have H' := Aside0.mk H); clear H
                  try go_wp2
                  (have n0_ := Aside0.mk (Kd.R_drew HO_4.out)); (have n1_ := Aside0.mk (Kd.R_drew HO_5.out)); (have n2_ := Aside0.mk (Kd.R_drew HO_7.out)); (have n3_ := Aside0.mk (blk_drew BK707.out)); (have n4_ := Aside0.mk (below_drew1 HB.out)); clear HO_4 HO_5 HO_7 BK707 HB; (have HO_4 := n0_); (have HO_5 := n1_); (have HO_7 := n2_); (have BK707 := n3_); (have HB := n4_); clear n0_ n1_ n2_ n3_ n4_; (have p720 : 0 ≤ (x10_2 : Int) := of_decide_eq_true (by first | (with_reducible assumption) | assumption)); (have q720 : x10_2 < (t704.length : Int) := of_decide_eq_true (by first | (with_reducible assumption) | assumption)); (obtain ⟨ad720, e720, hx720_0, hx720_1, hx720_2, hx720_3, hx720_4, hx720_5, hx720_6⟩ := at_T32 (Kd.R_reads' HO_4.out).2.2 x10_2 p720 q720); (obtain rfl : ad717 = ad720 := (by injection e720)); (replace p720 := eq_true p720); (replace q720 := eq_true q720); (obtain ⟨Ao35, co35, eo35⟩ := Kd.R_slice HO_7.out)
                  (first | subst eo35 | (injection eo35 with f1_ f2_ f3_; have f4_ := f1_.symm; have f5_ := f3_.symm; clear f1_ f2_ f3_; subst f4_; subst f5_))
                  (have p721 : 0 ≤ (x9_2 : Int) := of_decide_eq_true (by first | (with_reducible assumption) | assumption)); (have q721 : x9_2 < (t712.length : Int) := of_decide_eq_true (by first | (with_reducible assumption) | assumption)); (obtain ⟨ad721, e721, hx721_0⟩ := Kd.at_int (Kd.R_reads' HO_7.out).2.2 x9_2 p721 q721)
                  cases e721
                  (replace p721 := eq_true p721); (replace q721 := eq_true q721); (have p722 : 0 ≤ (x10_2 : Int) := of_decide_eq_true (by first | (with_reducible assumption) | assumption)); (have q722 : x10_2 < (t704.length : Int) := of_decide_eq_true (by first | (with_reducible assumption) | assumption)); (obtain ⟨ad722, e722, hx722_0, hx722_1, hx722_2, hx722_3, hx722_4, hx722_5, hx722_6⟩ := at_T32 (Kd.R_reads' HO_4.out).2.2 x10_2 p722 q722); (obtain rfl : ad717 = ad722 := (by injection e722)); (replace p722 := eq_true p722); (replace q722 := eq_true q722)
                  refine start_ (n := 24) (S := fun w' => w'.cell? ⟨gb707, 0, none⟩ = some (.int .i64 t700) ∧ w'.cell? ⟨gb707, 1, none⟩ = some (.int .i64 t701) ∧ w'.cell? ⟨gb707, 2, none⟩ = some (.int .i64 t702) ∧ w'.cell? ⟨gb707, 3, none⟩ = some (.int .i64 t703) ∧ w'.cell? (ad717.add ((x10_2).toNat * 7)) = some (.int .i64 ((rd_T32 t704 x10_2).f0)) ∧ w'.cell? ⟨(ad717.add ((x10_2).toNat * 7)).block, (ad717.add ((x10_2).toNat * 7)).off + 1, none⟩ = some (.string ((rd_T32 t704 x10_2).f1)) ∧ w'.cell? ⟨(ad717.add ((x10_2).toNat * 7)).block, (ad717.add ((x10_2).toNat * 7)).off + 2, none⟩ = some (.int .i64 ((rd_T32 t704 x10_2).f2)) ∧ w'.cell? ⟨(ad717.add ((x10_2).toNat * 7)).block, (ad717.add ((x10_2).toNat * 7)).off + 3, none⟩ = some (.int .i64 ((rd_T32 t704 x10_2).f3)) ∧ w'.cell? ⟨(ad717.add ((x10_2).toNat * 7)).block, (ad717.add ((x10_2).toNat * 7)).off + 4, none⟩ = some (.int .i64 ((rd_T32 t704 x10_2).f4)) ∧ w'.cell? ⟨(ad717.add ((x10_2).toNat * 7)).block, (ad717.add ((x10_2).toNat * 7)).off + 5, none⟩ = some (.int .i64 ((rd_T32 t704 x10_2).f5)) ∧ w'.cell? ⟨(ad717.add ((x10_2).toNat * 7)).block, (ad717.add ((x10_2).toNat * 7)).off + 6, none⟩ = some (.string ((rd_T32 t704 x10_2).f6)) ∧ w'.cell? (ad721.add (x9_2).toNat) = some (.int .i64 (rd t712 x9_2)) ∧ w'.cell? (ad717.add ((x10_2).toNat * 7)) = some (.int .i64 ((rd_T32 t704 x10_2).f0)) ∧ w'.cell? ⟨(ad717.add ((x10_2).toNat * 7)).block, (ad717.add ((x10_2).toNat * 7)).off + 1, none⟩ = some (.string ((rd_T32 t704 x10_2).f1)) ∧ w'.cell? ⟨(ad717.add ((x10_2).toNat * 7)).block, (ad717.add ((x10_2).toNat * 7)).off + 2, none⟩ = some (.int .i64 ((rd_T32 t704 x10_2).f2)) ∧ w'.cell? ⟨(ad717.add ((x10_2).toNat * 7)).block, (ad717.add ((x10_2).toNat * 7)).off + 3, none⟩ = some (.int .i64 ((rd_T32 t704 x10_2).f3)) ∧ w'.cell? ⟨(ad717.add ((x10_2).toNat * 7)).block, (ad717.add ((x10_2).toNat * 7)).off + 4, none⟩ = some (.int .i64 ((rd_T32 t704 x10_2).f4)) ∧ w'.cell? ⟨(ad717.add ((x10_2).toNat * 7)).block, (ad717.add ((x10_2).toNat * 7)).off + 5, none⟩ = some (.int .i64 ((rd_T32 t704 x10_2).f5)) ∧ w'.cell? ⟨(ad717.add ((x10_2).toNat * 7)).block, (ad717.add ((x10_2).toNat * 7)).off + 6, none⟩ = some (.string ((rd_T32 t704 x10_2).f6))) (ds := []) #[false, false, false, false, false, false, false, false, false, false, false, false, false, false, false, false, false, false, false, false, false, false, false, false] (by kernel_rfl) rfl rfl ⟨(blk_cell BK707.out 0).trans rfl, (blk_cell BK707.out 1).trans rfl, (blk_cell BK707.out 2).trans rfl, (blk_cell BK707.out 3).trans rfl, hx720_0, hx720_1, hx720_2, hx720_3, hx720_4, hx720_5, hx720_6, hx721_0, hx722_0, hx722_1, hx722_2, hx722_3, hx722_4, hx722_5, hx722_6⟩ (fun hHeld => ?_); refine with_tabW laws_FnIdsBook.tab15 laws_FnIdsBook.bits15 (fun HT_ HW_ => ?_)
                  generalize wc.drew = w34 at HO_4 HO_5 HO_7 BK707 HB hx720_0 hx720_1 hx720_2 hx720_3 hx720_4 hx720_5 hx720_6 hx721_0 hx722_0 hx722_1 hx722_2 hx722_3 hx722_4 hx722_5 hx722_6 hHeld ⊢
                  refine pure_ (i := 0) (N := some 69) (v := ?_) (a' := ?_) #[true, false, false, false, false, false, false, false, false, false, false, false, false, false, false, false, false, false, false, false, false, false, false, false] rfl rfl (any_of HT_.out (by kernel_rfl)) (fun _ _ _ h => h) (Or.inl ⟨by rfl, ?_⟩) ?_ ?_
                  rotate_left
                  ·intro w'
                   go_simp
                   with_reducible rfl
                  rotate_left
                  ·simp only [Act.put, List.setIfInBounds_toArray, List.set_cons_zero, List.set_cons_succ, i64_w, i32_w]
                   rfl
                  refine pure_ (i := 1) (N := some 70) (v := ?_) (a' := ?_) #[true, true, false, false, false, false, false, false, false, false, false, false, false, false, false, false, false, false, false, false, false, false, false, false] rfl rfl (any_of HT_.out (by kernel_rfl)) (fun _ _ _ h => h) (Or.inl ⟨by rfl, ?_⟩) ?_ ?_
                  rotate_left
                  ·intro w'
                   go_simp
                   with_reducible rfl
                  rotate_left
                  ·simp only [Act.put, List.setIfInBounds_toArray, List.set_cons_zero, List.set_cons_succ, i64_w, i32_w]
                   rfl
                  refine pure_ (i := 2) (N := some 71) (v := ?_) (a' := ?_) #[true, true, true, false, false, false, false, false, false, false, false, false, false, false, false, false, false, false, false, false, false, false, false, false] rfl rfl (any_of HT_.out (by kernel_rfl)) (fun _ _ _ h => h) (Or.inl ⟨by rfl, ?_⟩) ?_ ?_
                  rotate_left
                  ·intro w'
                   go_simp
                   with_reducible rfl
                  rotate_left
                  ·simp only [Act.put, List.setIfInBounds_toArray, List.set_cons_zero, List.set_cons_succ, i64_w, i32_w]
                   rfl
                  refine pure_ (i := 3) (N := some 72) (v := ?_) (a' := ?_) #[true, true, true, true, false, false, false, false, false, false, false, false, false, false, false, false, false, false, false, false, false, false, false, false] rfl rfl (any_of HT_.out (by kernel_rfl)) (fun _ _ _ h => h) (Or.inl ⟨by rfl, ?_⟩) ?_ ?_
                  rotate_left
                  ·intro w'
                   go_simp
                   with_reducible rfl
                  rotate_left
                  ·simp only [Act.put, List.setIfInBounds_toArray, List.set_cons_zero, List.set_cons_succ, i64_w, i32_w]
                   rfl
                  refine take_ (i := 4) (N := some 73) (v := ?_) (a' := ?_) #[true, true, true, true, true, false, false, false, false, false, false, false, false, false, false, false, false, false, false, false, false, false, false, false] rfl rfl (take_ofW HT_.out HW_.out (by kernel_rfl)) (fun _ _ _ h => h) (Or.inl ⟨by rfl, ?_⟩) hHeld ?_ ?_
                  rotate_left
                  ·rintro w' ⟨s0, s1, s2, s3, s4, s5, s6, s7, s8, s9, s10, s11, s12, s13, s14, s15, s16, s17, s18⟩
                   go_simp
                   with_reducible rfl
                  rotate_left
                  ·simp only [Act.put, List.setIfInBounds_toArray, List.set_cons_zero, List.set_cons_succ, i64_w, i32_w]
                   rfl
                  refine pure_ (i := 5) (N := some 74) (v := ?_) (a' := ?_) #[true, true, true, true, true, true, false, false, false, false, false, false, false, false, false, false, false, false, false, false, false, false, false, false] rfl rfl (any_of HT_.out (by kernel_rfl)) (fun _ _ _ h => h) (Or.inl ⟨by rfl, ?_⟩) ?_ ?_
                  rotate_left
                  ·intro w'
                   go_simp
                   with_reducible rfl
                  rotate_left
                  ·simp only [Act.put, List.setIfInBounds_toArray, List.set_cons_zero, List.set_cons_succ, i64_w, i32_w]
                   rfl
                  refine pure_ (i := 6) (N := some 75) (v := ?_) (a' := ?_) #[true, true, true, true, true, true, true, false, false, false, false, false, false, false, false, false, false, false, false, false, false, false, false, false] rfl rfl (any_of HT_.out (by kernel_rfl)) (fun _ _ _ h => h) (Or.inl ⟨by rfl, ?_⟩) ?_ ?_
                  rotate_left
                  ·intro w'
                   go_simp
                   with_reducible rfl
                  rotate_left
                  ·simp only [Act.put, List.setIfInBounds_toArray, List.set_cons_zero, List.set_cons_succ, i64_w, i32_w]
                   rfl
                  refine pure_ (i := 7) (N := some 76) (v := ?_) (a' := ?_) #[true, true, true, true, true, true, true, true, false, false, false, false, false, false, false, false, false, false, false, false, false, false, false, false] rfl rfl (any_of HT_.out (by kernel_rfl)) (fun _ _ _ h => h) (Or.inl ⟨by rfl, ?_⟩) ?_ ?_
                  rotate_left
                  ·intro w'
                   go_simp
                   with_reducible rfl
                  rotate_left
                  ·simp only [Act.put, List.setIfInBounds_toArray, List.set_cons_zero, List.set_cons_succ, i64_w, i32_w]
                   rfl
                  refine pure_ (i := 8) (N := some 77) (v := ?_) (a' := ?_) #[true, true, true, true, true, true, true, true, true, false, false, false, false, false, false, false, false, false, false, false, false, false, false, false] rfl rfl (any_of HT_.out (by kernel_rfl)) (fun _ _ _ h => h) (Or.inl ⟨by rfl, ?_⟩) ?_ ?_
                  rotate_left
                  ·intro w'
                   go_simp
                   with_reducible rfl
                  rotate_left
                  ·simp only [Act.put, List.setIfInBounds_toArray, List.set_cons_zero, List.set_cons_succ, i64_w, i32_w]
                   rfl
                  refine pure_ (i := 9) (N := some 78) (v := ?_) (a' := ?_) #[true, true, true, true, true, true, true, true, true, true, false, false, false, false, false, false, false, false, false, false, false, false, false, false] rfl rfl (any_of HT_.out (by kernel_rfl)) (fun _ _ _ h => h) (Or.inl ⟨by rfl, ?_⟩) ?_ ?_
                  rotate_left
                  ·intro w'
                   go_simp
                   with_reducible rfl
                  rotate_left
                  ·simp only [Act.put, List.setIfInBounds_toArray, List.set_cons_zero, List.set_cons_succ, i64_w, i32_w]
                   rfl
                  refine pure_ (i := 11) (N := some 80) (v := ?_) (a' := ?_) #[true, true, true, true, true, true, true, true, true, true, false, true, false, false, false, false, false, false, false, false, false, false, false, false] rfl rfl (any_of HT_.out (by kernel_rfl)) (fun _ _ _ h => h) (Or.inl ⟨by rfl, ?_⟩) ?_ ?_
                  rotate_left
                  ·intro w'
                   go_simp
                   with_reducible rfl
                  rotate_left
                  ·simp only [Act.put, List.setIfInBounds_toArray, List.set_cons_zero, List.set_cons_succ, i64_w, i32_w]
                   rfl
                  refine pure_ (i := 13) (N := some 82) (v := ?_) (a' := ?_) #[true, true, true, true, true, true, true, true, true, true, false, true, false, true, false, false, false, false, false, false, false, false, false, false] rfl rfl (any_of HT_.out (by kernel_rfl)) (fun _ _ _ h => h) (Or.inl ⟨by rfl, ?_⟩) ?_ ?_
                  rotate_left
                  ·intro w'
                   go_simp
                   with_reducible rfl
                  rotate_left
                  ·simp only [Act.put, List.setIfInBounds_toArray, List.set_cons_zero, List.set_cons_succ, i64_w, i32_w]
                   rfl
                  refine pure_ (i := 14) (N := some 83) (v := ?_) (a' := ?_) #[true, true, true, true, true, true, true, true, true, true, false, true, false, true, true, false, false, false, false, false, false, false, false, false] rfl rfl (any_of HT_.out (by kernel_rfl)) (fun _ _ _ h => h) (Or.inl ⟨by rfl, ?_⟩) ?_ ?_
                  rotate_left
                  ·intro w'
                   go_simp
                   with_reducible rfl
                  rotate_left
                  ·simp only [Act.put, List.setIfInBounds_toArray, List.set_cons_zero, List.set_cons_succ, i64_w, i32_w]
                   rfl
                  refine pure_ (i := 15) (N := some 84) (v := ?_) (a' := ?_) #[true, true, true, true, true, true, true, true, true, true, false, true, false, true, true, true, false, false, false, false, false, false, false, false] rfl rfl (any_of HT_.out (by kernel_rfl)) (fun _ _ _ h => h) (Or.inl ⟨by rfl, ?_⟩) ?_ ?_
                  rotate_left
                  ·intro w'
                   go_simp
                   with_reducible rfl
                  rotate_left
                  ·simp only [Act.put, List.setIfInBounds_toArray, List.set_cons_zero, List.set_cons_succ, i64_w, i32_w]
                   rfl
                  refine pure_ (i := 16) (N := some 85) (v := ?_) (a' := ?_) #[true, true, true, true, true, true, true, true, true, true, false, true, false, true, true, true, true, false, false, false, false, false, false, false] rfl rfl (any_of HT_.out (by kernel_rfl)) (fun _ _ _ h => h) (Or.inl ⟨by rfl, ?_⟩) ?_ ?_
                  rotate_left
                  ·intro w'
                   go_simp
                   with_reducible rfl
                  rotate_left
                  ·simp only [Act.put, List.setIfInBounds_toArray, List.set_cons_zero, List.set_cons_succ, i64_w, i32_w]
                   rfl
                  refine pure_ (i := 19) (N := some 88) (v := ?_) (a' := ?_) #[true, true, true, true, true, true, true, true, true, true, false, true, false, true, true, true, true, false, false, true, false, false, false, false] rfl rfl (any_of HT_.out (by kernel_rfl)) (fun _ _ _ h => h) (Or.inl ⟨by rfl, ?_⟩) ?_ ?_
                  rotate_left
                  ·intro w'
                   go_simp
                   with_reducible rfl
                  rotate_left
                  ·simp only [Act.put, List.setIfInBounds_toArray, List.set_cons_zero, List.set_cons_succ, i64_w, i32_w]
                   rfl
                  refine take_ (i := 10) (N := some 79) (v := ?_) (a' := ?_) #[true, true, true, true, true, true, true, true, true, true, true, true, false, true, true, true, true, false, false, true, false, false, false, false] rfl rfl (take_ofW HT_.out HW_.out (by kernel_rfl)) (fun _ _ _ h => h) (Or.inl ⟨by rfl, ?_⟩) hHeld ?_ ?_
                  rotate_left
                  ·rintro w' ⟨s0, s1, s2, s3, s4, s5, s6, s7, s8, s9, s10, s11, s12, s13, s14, s15, s16, s17, s18⟩
                   go_simp
                   with_reducible rfl
                  rotate_left
                  ·simp only [Act.put, List.setIfInBounds_toArray, List.set_cons_zero, List.set_cons_succ, i64_w, i32_w]
                   rfl
                  refine take_ (i := 12) (N := some 81) (v := ?_) (a' := ?_) #[true, true, true, true, true, true, true, true, true, true, true, true, true, true, true, true, true, false, false, true, false, false, false, false] rfl rfl (take_ofW HT_.out HW_.out (by kernel_rfl)) (fun _ _ _ h => h) (Or.inl ⟨by rfl, ?_⟩) hHeld ?_ ?_
                  rotate_left
                  ·rintro w' ⟨s0, s1, s2, s3, s4, s5, s6, s7, s8, s9, s10, s11, s12, s13, s14, s15, s16, s17, s18⟩
                   go_simp
                   with_reducible rfl
                  rotate_left
                  ·simp only [Act.put, List.setIfInBounds_toArray, List.set_cons_zero, List.set_cons_succ, i64_w, i32_w]
                   rfl
                  refine take_ (i := 17) (N := some 86) (v := ?_) (a' := ?_) #[true, true, true, true, true, true, true, true, true, true, true, true, true, true, true, true, true, true, false, true, false, false, false, false] rfl rfl (take_ofW HT_.out HW_.out (by kernel_rfl)) (fun _ _ _ h => h) (Or.inl ⟨by rfl, ?_⟩) hHeld ?_ ?_
                  rotate_left
                  ·rintro w' ⟨s0, s1, s2, s3, s4, s5, s6, s7, s8, s9, s10, s11, s12, s13, s14, s15, s16, s17, s18⟩
                   go_simp
                   with_reducible rfl
                  rotate_left
                  ·simp only [Act.put, List.setIfInBounds_toArray, List.set_cons_zero, List.set_cons_succ, i64_w, i32_w]
                   rfl
                  refine take_ (i := 20) (N := some 89) (v := ?_) (a' := ?_) #[true, true, true, true, true, true, true, true, true, true, true, true, true, true, true, true, true, true, false, true, true, false, false, false] rfl rfl (take_ofW HT_.out HW_.out (by kernel_rfl)) (fun _ _ _ h => h) (Or.inl ⟨by rfl, ?_⟩) hHeld ?_ ?_
                  rotate_left
                  ·rintro w' ⟨s0, s1, s2, s3, s4, s5, s6, s7, s8, s9, s10, s11, s12, s13, s14, s15, s16, s17, s18⟩
                   go_simp
                   with_reducible rfl
                  rotate_left
                  ·simp only [Act.put, List.setIfInBounds_toArray, List.set_cons_zero, List.set_cons_succ, i64_w, i32_w]
                   rfl
                  refine one_ (i := 18) (N := some 87) #[true, true, true, true, true, true, true, true, true, true, true, true, true, true, true, true, true, true, true, true, true, false, false, false] rfl rfl (one_of HT_.out (by kernel_rfl)) (by decide) (fun K hK => ?_)
                  refine goes_ Tryd.func34 (by kernel_rfl) rfl #[.string ((rd_T32 t704 x10_2).f1)] (by rfl) rfl rfl qL ?_
                  with_reducible refine (spec_Fold.calls kj19 ((rd_T32 t704 x10_2).f1) t723 _ A31.out).mono ?_
                  rintro e w36 ⟨rfl, hb⟩
                  (have HS4_ := (hb.cell (World.block_lt_of_cell? _ _ (hHeld.2.2.2.2.1))).trans (hHeld.2.2.2.2.1)); (have HS5_ := (hb.cell (World.block_lt_of_cell? _ _ (hHeld.2.2.2.2.2.1))).trans (hHeld.2.2.2.2.2.1)); (have HS6_ := (hb.cell (World.block_lt_of_cell? _ _ (hHeld.2.2.2.2.2.2.1))).trans (hHeld.2.2.2.2.2.2.1)); (have HS7_ := (hb.cell (World.block_lt_of_cell? _ _ (hHeld.2.2.2.2.2.2.2.1))).trans (hHeld.2.2.2.2.2.2.2.1)); (have HS8_ := (hb.cell (World.block_lt_of_cell? _ _ (hHeld.2.2.2.2.2.2.2.2.1))).trans (hHeld.2.2.2.2.2.2.2.2.1)); (have HS9_ := (hb.cell (World.block_lt_of_cell? _ _ (hHeld.2.2.2.2.2.2.2.2.2.1))).trans (hHeld.2.2.2.2.2.2.2.2.2.1)); (have HS10_ := (hb.cell (World.block_lt_of_cell? _ _ (hHeld.2.2.2.2.2.2.2.2.2.2.1))).trans (hHeld.2.2.2.2.2.2.2.2.2.2.1)); (have HS11_ := (hb.cell (World.block_lt_of_cell? _ _ (hHeld.2.2.2.2.2.2.2.2.2.2.2.1))).trans (hHeld.2.2.2.2.2.2.2.2.2.2.2.1)); (have HS12_ := (hb.cell (World.block_lt_of_cell? _ _ (hHeld.2.2.2.2.2.2.2.2.2.2.2.2.1))).trans (hHeld.2.2.2.2.2.2.2.2.2.2.2.2.1)); (have HS13_ := (hb.cell (World.block_lt_of_cell? _ _ (hHeld.2.2.2.2.2.2.2.2.2.2.2.2.2.1))).trans (hHeld.2.2.2.2.2.2.2.2.2.2.2.2.2.1)); (have HS14_ := (hb.cell (World.block_lt_of_cell? _ _ (hHeld.2.2.2.2.2.2.2.2.2.2.2.2.2.2.1))).trans (hHeld.2.2.2.2.2.2.2.2.2.2.2.2.2.2.1)); (have HS15_ := (hb.cell (World.block_lt_of_cell? _ _ (hHeld.2.2.2.2.2.2.2.2.2.2.2.2.2.2.2.1))).trans (hHeld.2.2.2.2.2.2.2.2.2.2.2.2.2.2.2.1)); (have HS16_ := (hb.cell (World.block_lt_of_cell? _ _ (hHeld.2.2.2.2.2.2.2.2.2.2.2.2.2.2.2.2.1))).trans (hHeld.2.2.2.2.2.2.2.2.2.2.2.2.2.2.2.2.1)); (have HS17_ := (hb.cell (World.block_lt_of_cell? _ _ (hHeld.2.2.2.2.2.2.2.2.2.2.2.2.2.2.2.2.2.1))).trans (hHeld.2.2.2.2.2.2.2.2.2.2.2.2.2.2.2.2.2.1)); (have HS18_ := (hb.cell (World.block_lt_of_cell? _ _ (hHeld.2.2.2.2.2.2.2.2.2.2.2.2.2.2.2.2.2.2))).trans (hHeld.2.2.2.2.2.2.2.2.2.2.2.2.2.2.2.2.2.2))
                  refine ⟨_, rfl, ?_⟩
                  (have n0_ := Aside0.mk (Kd.R_below (qR HO_4) hb)); (have n1_ := Aside0.mk (Kd.R_below (qR HO_5) hb)); (have n2_ := Aside0.mk (Kd.R_below (qR HO_7) hb)); (have n3_ := qD BK707 hb); (have n4_ := Aside0.mk (below_step (qS1 HB GE707) hb)); clear HO_4 HO_5 HO_7 BK707 HB; (have HO_4 := n0_); (have HO_5 := n1_); (have HO_7 := n2_); (have BK707 := n3_); (have HB := n4_); clear n0_ n1_ n2_ n3_ n4_; (try clear hb); (try clear hb2); (try clear hk); (try clear hi)
                  refine hK.out _ _ ⟨(blk_cell BK707.out 0).trans rfl, (blk_cell BK707.out 1).trans rfl, (blk_cell BK707.out 2).trans rfl, (blk_cell BK707.out 3).trans rfl, HS4_, HS5_, HS6_, HS7_, HS8_, HS9_, HS10_, HS11_, HS12_, HS13_, HS14_, HS15_, HS16_, HS17_, HS18_⟩ (fun hHeld => ?_)
                  clear hK K
                  refine norm_ (a' := ?_) ?_ ?_
                  rotate_left
                  ·show Act.put _ (some 87) _ = _
                   simp only [Act.put, List.setIfInBounds_toArray, List.set_cons_zero, List.set_cons_succ, i64_w, i32_w]
                   rfl
                  refine one_ (i := 21) (N := some 90) #[true, true, true, true, true, true, true, true, true, true, true, true, true, true, true, true, true, true, true, true, true, true, false, false] rfl rfl (one_of HT_.out (by kernel_rfl)) (by decide) (fun K hK => ?_)
                  refine goes_ Tryd.func33 (by kernel_rfl) rfl #[.int .i64 t700, .string t723, .int .i64 t701] (by rfl) rfl rfl qL ?_
                  with_reducible refine (impl_ShelfFor.calls kj19 t700 t723 t701 t724 _ A32.out).mono ?_
                  rintro e w37 ⟨rfl, hb⟩
                  (have HS4_ := (hb.cell (World.block_lt_of_cell? _ _ (hHeld.2.2.2.2.1))).trans (hHeld.2.2.2.2.1)); (have HS5_ := (hb.cell (World.block_lt_of_cell? _ _ (hHeld.2.2.2.2.2.1))).trans (hHeld.2.2.2.2.2.1)); (have HS6_ := (hb.cell (World.block_lt_of_cell? _ _ (hHeld.2.2.2.2.2.2.1))).trans (hHeld.2.2.2.2.2.2.1)); (have HS7_ := (hb.cell (World.block_lt_of_cell? _ _ (hHeld.2.2.2.2.2.2.2.1))).trans (hHeld.2.2.2.2.2.2.2.1)); (have HS8_ := (hb.cell (World.block_lt_of_cell? _ _ (hHeld.2.2.2.2.2.2.2.2.1))).trans (hHeld.2.2.2.2.2.2.2.2.1)); (have HS9_ := (hb.cell (World.block_lt_of_cell? _ _ (hHeld.2.2.2.2.2.2.2.2.2.1))).trans (hHeld.2.2.2.2.2.2.2.2.2.1)); (have HS10_ := (hb.cell (World.block_lt_of_cell? _ _ (hHeld.2.2.2.2.2.2.2.2.2.2.1))).trans (hHeld.2.2.2.2.2.2.2.2.2.2.1)); (have HS11_ := (hb.cell (World.block_lt_of_cell? _ _ (hHeld.2.2.2.2.2.2.2.2.2.2.2.1))).trans (hHeld.2.2.2.2.2.2.2.2.2.2.2.1)); (have HS12_ := (hb.cell (World.block_lt_of_cell? _ _ (hHeld.2.2.2.2.2.2.2.2.2.2.2.2.1))).trans (hHeld.2.2.2.2.2.2.2.2.2.2.2.2.1)); (have HS13_ := (hb.cell (World.block_lt_of_cell? _ _ (hHeld.2.2.2.2.2.2.2.2.2.2.2.2.2.1))).trans (hHeld.2.2.2.2.2.2.2.2.2.2.2.2.2.1)); (have HS14_ := (hb.cell (World.block_lt_of_cell? _ _ (hHeld.2.2.2.2.2.2.2.2.2.2.2.2.2.2.1))).trans (hHeld.2.2.2.2.2.2.2.2.2.2.2.2.2.2.1)); (have HS15_ := (hb.cell (World.block_lt_of_cell? _ _ (hHeld.2.2.2.2.2.2.2.2.2.2.2.2.2.2.2.1))).trans (hHeld.2.2.2.2.2.2.2.2.2.2.2.2.2.2.2.1)); (have HS16_ := (hb.cell (World.block_lt_of_cell? _ _ (hHeld.2.2.2.2.2.2.2.2.2.2.2.2.2.2.2.2.1))).trans (hHeld.2.2.2.2.2.2.2.2.2.2.2.2.2.2.2.2.1)); (have HS17_ := (hb.cell (World.block_lt_of_cell? _ _ (hHeld.2.2.2.2.2.2.2.2.2.2.2.2.2.2.2.2.2.1))).trans (hHeld.2.2.2.2.2.2.2.2.2.2.2.2.2.2.2.2.2.1)); (have HS18_ := (hb.cell (World.block_lt_of_cell? _ _ (hHeld.2.2.2.2.2.2.2.2.2.2.2.2.2.2.2.2.2.2))).trans (hHeld.2.2.2.2.2.2.2.2.2.2.2.2.2.2.2.2.2.2))
                  refine ⟨_, rfl, ?_⟩
                  (have n0_ := Aside0.mk (Kd.R_below (qR HO_4) hb)); (have n1_ := Aside0.mk (Kd.R_below (qR HO_5) hb)); (have n2_ := Aside0.mk (Kd.R_below (qR HO_7) hb)); (have n3_ := qD BK707 hb); (have n4_ := Aside0.mk (below_step (qS1 HB GE707) hb)); clear HO_4 HO_5 HO_7 BK707 HB; (have HO_4 := n0_); (have HO_5 := n1_); (have HO_7 := n2_); (have BK707 := n3_); (have HB := n4_); clear n0_ n1_ n2_ n3_ n4_; (try clear hb); (try clear hb2); (try clear hk); (try clear hi)
                  refine hK.out _ _ ⟨(blk_cell BK707.out 0).trans rfl, (blk_cell BK707.out 1).trans rfl, (blk_cell BK707.out 2).trans rfl, (blk_cell BK707.out 3).trans rfl, HS4_, HS5_, HS6_, HS7_, HS8_, HS9_, HS10_, HS11_, HS12_, HS13_, HS14_, HS15_, HS16_, HS17_, HS18_⟩ (fun hHeld => ?_)
                  clear hK K
                  refine norm_ (a' := ?_) ?_ ?_
                  rotate_left
                  ·show Act.put _ (some 90) _ = _
                   simp only [Act.put, List.setIfInBounds_toArray, List.set_cons_zero, List.set_cons_succ, i64_w, i32_w]
                   rfl
                  refine pure_ (i := 22) (N := some 91) (v := ?_) (a' := ?_) #[true, true, true, true, true, true, true, true, true, true, true, true, true, true, true, true, true, true, true, true, true, true, true, false] rfl rfl (any_of HT_.out (by kernel_rfl)) (fun _ _ _ h => h) (Or.inl ⟨by rfl, ?_⟩) ?_ ?_
                  rotate_left
                  ·intro w'
                   go_simp
                   with_reducible rfl
                  rotate_left
                  ·simp only [Act.put, List.setIfInBounds_toArray, List.set_cons_zero, List.set_cons_succ, i64_w, i32_w]
                   rfl
                  refine pure_ (i := 23) (N := some 92) (v := ?_) (a' := ?_) #[true, true, true, true, true, true, true, true, true, true, true, true, true, true, true, true, true, true, true, true, true, true, true, true] rfl rfl (any_of HT_.out (by kernel_rfl)) (fun _ _ _ h => h) (Or.inl ⟨by rfl, ?_⟩) ?_ ?_
                  rotate_left
                  ·intro w'
                   go_simp
                   with_reducible rfl
                  rotate_left
                  ·simp only [Act.put, List.setIfInBounds_toArray, List.set_cons_zero, List.set_cons_succ, i64_w, i32_w]
                   rfl
                  refine done_ (done_of HT_.out (by kernel_rfl)) ?_
                  try go_wp2
                  go_roundg kj19
                  case measure => have := HJ6.out; have := HK2.out; have := HJ19.out; omega
                  case rel => exact ⟨(wrap64 (x9_2 + t719)), (wrap64 (x10_2 + 1)), (by first | rfl | (simp; done) | (simp [*]; done)), (by first | rfl | (simp; done) | (simp [*]; done)), H', ⟨by have := HJ6.out; have := HK2.out; have := HJ19.out; omega⟩, ⟨qR HO_4⟩, ⟨qR HO_5⟩, ⟨qR HO_7⟩, ⟨qB BK707⟩, ⟨qS1 HB GE707⟩⟩
                 ·rw [if_neg c33] at H
                  (have c33b0 : ((rd t712 x9_2) == t724) = false := beq_eq_false_iff_ne.mpr c33); (have c33b1 : ((rd t712 x9_2) != t724) = true := bne_iff_ne.mpr c33); (obtain rfl := Option.some.inj H)
                  try go_wp2
                  (have n0_ := Aside0.mk (Kd.R_drew HO_4.out)); (have n1_ := Aside0.mk (Kd.R_drew HO_5.out)); (have n2_ := Aside0.mk (Kd.R_drew HO_7.out)); (have n3_ := Aside0.mk (blk_drew BK707.out)); (have n4_ := Aside0.mk (below_drew1 HB.out)); clear HO_4 HO_5 HO_7 BK707 HB; (have HO_4 := n0_); (have HO_5 := n1_); (have HO_7 := n2_); (have BK707 := n3_); (have HB := n4_); clear n0_ n1_ n2_ n3_ n4_; (have p720 : 0 ≤ (x10_2 : Int) := of_decide_eq_true (by first | (with_reducible assumption) | assumption)); (have q720 : x10_2 < (t704.length : Int) := of_decide_eq_true (by first | (with_reducible assumption) | assumption)); (obtain ⟨ad720, e720, hx720_0, hx720_1, hx720_2, hx720_3, hx720_4, hx720_5, hx720_6⟩ := at_T32 (Kd.R_reads' HO_4.out).2.2 x10_2 p720 q720); (obtain rfl : ad717 = ad720 := (by injection e720)); (replace p720 := eq_true p720); (replace q720 := eq_true q720); (obtain ⟨Ao39, co39, eo39⟩ := Kd.R_slice HO_7.out)
                  (first | subst eo39 | (injection eo39 with f1_ f2_ f3_; have f4_ := f1_.symm; have f5_ := f3_.symm; clear f1_ f2_ f3_; subst f4_; subst f5_))
                  (have p721 : 0 ≤ (x9_2 : Int) := of_decide_eq_true (by first | (with_reducible assumption) | assumption)); (have q721 : x9_2 < (t712.length : Int) := of_decide_eq_true (by first | (with_reducible assumption) | assumption)); (obtain ⟨ad721, e721, hx721_0⟩ := Kd.at_int (Kd.R_reads' HO_7.out).2.2 x9_2 p721 q721)
                  cases e721
                  (replace p721 := eq_true p721); (replace q721 := eq_true q721); (have p722 : 0 ≤ (x10_2 : Int) := of_decide_eq_true (by first | (with_reducible assumption) | assumption)); (have q722 : x10_2 < (t704.length : Int) := of_decide_eq_true (by first | (with_reducible assumption) | assumption)); (obtain ⟨ad722, e722, hx722_0, hx722_1, hx722_2, hx722_3, hx722_4, hx722_5, hx722_6⟩ := at_T32 (Kd.R_reads' HO_4.out).2.2 x10_2 p722 q722); (obtain rfl : ad717 = ad722 := (by injection e722)); (replace p722 := eq_true p722); (replace q722 := eq_true q722)
                  refine start_ (n := 24) (S := fun w' => w'.cell? ⟨gb707, 0, none⟩ = some (.int .i64 t700) ∧ w'.cell? ⟨gb707, 1, none⟩ = some (.int .i64 t701) ∧ w'.cell? ⟨gb707, 2, none⟩ = some (.int .i64 t702) ∧ w'.cell? ⟨gb707, 3, none⟩ = some (.int .i64 t703) ∧ w'.cell? (ad717.add ((x10_2).toNat * 7)) = some (.int .i64 ((rd_T32 t704 x10_2).f0)) ∧ w'.cell? ⟨(ad717.add ((x10_2).toNat * 7)).block, (ad717.add ((x10_2).toNat * 7)).off + 1, none⟩ = some (.string ((rd_T32 t704 x10_2).f1)) ∧ w'.cell? ⟨(ad717.add ((x10_2).toNat * 7)).block, (ad717.add ((x10_2).toNat * 7)).off + 2, none⟩ = some (.int .i64 ((rd_T32 t704 x10_2).f2)) ∧ w'.cell? ⟨(ad717.add ((x10_2).toNat * 7)).block, (ad717.add ((x10_2).toNat * 7)).off + 3, none⟩ = some (.int .i64 ((rd_T32 t704 x10_2).f3)) ∧ w'.cell? ⟨(ad717.add ((x10_2).toNat * 7)).block, (ad717.add ((x10_2).toNat * 7)).off + 4, none⟩ = some (.int .i64 ((rd_T32 t704 x10_2).f4)) ∧ w'.cell? ⟨(ad717.add ((x10_2).toNat * 7)).block, (ad717.add ((x10_2).toNat * 7)).off + 5, none⟩ = some (.int .i64 ((rd_T32 t704 x10_2).f5)) ∧ w'.cell? ⟨(ad717.add ((x10_2).toNat * 7)).block, (ad717.add ((x10_2).toNat * 7)).off + 6, none⟩ = some (.string ((rd_T32 t704 x10_2).f6)) ∧ w'.cell? (ad721.add (x9_2).toNat) = some (.int .i64 (rd t712 x9_2)) ∧ w'.cell? (ad717.add ((x10_2).toNat * 7)) = some (.int .i64 ((rd_T32 t704 x10_2).f0)) ∧ w'.cell? ⟨(ad717.add ((x10_2).toNat * 7)).block, (ad717.add ((x10_2).toNat * 7)).off + 1, none⟩ = some (.string ((rd_T32 t704 x10_2).f1)) ∧ w'.cell? ⟨(ad717.add ((x10_2).toNat * 7)).block, (ad717.add ((x10_2).toNat * 7)).off + 2, none⟩ = some (.int .i64 ((rd_T32 t704 x10_2).f2)) ∧ w'.cell? ⟨(ad717.add ((x10_2).toNat * 7)).block, (ad717.add ((x10_2).toNat * 7)).off + 3, none⟩ = some (.int .i64 ((rd_T32 t704 x10_2).f3)) ∧ w'.cell? ⟨(ad717.add ((x10_2).toNat * 7)).block, (ad717.add ((x10_2).toNat * 7)).off + 4, none⟩ = some (.int .i64 ((rd_T32 t704 x10_2).f4)) ∧ w'.cell? ⟨(ad717.add ((x10_2).toNat * 7)).block, (ad717.add ((x10_2).toNat * 7)).off + 5, none⟩ = some (.int .i64 ((rd_T32 t704 x10_2).f5)) ∧ w'.cell? ⟨(ad717.add ((x10_2).toNat * 7)).block, (ad717.add ((x10_2).toNat * 7)).off + 6, none⟩ = some (.string ((rd_T32 t704 x10_2).f6))) (ds := []) #[false, false, false, false, false, false, false, false, false, false, false, false, false, false, false, false, false, false, false, false, false, false, false, false] (by kernel_rfl) rfl rfl ⟨(blk_cell BK707.out 0).trans rfl, (blk_cell BK707.out 1).trans rfl, (blk_cell BK707.out 2).trans rfl, (blk_cell BK707.out 3).trans rfl, hx720_0, hx720_1, hx720_2, hx720_3, hx720_4, hx720_5, hx720_6, hx721_0, hx722_0, hx722_1, hx722_2, hx722_3, hx722_4, hx722_5, hx722_6⟩ (fun hHeld => ?_); refine with_tabW laws_FnIdsBook.tab15 laws_FnIdsBook.bits15 (fun HT_ HW_ => ?_)
                  generalize wc.drew = w38 at HO_4 HO_5 HO_7 BK707 HB hx720_0 hx720_1 hx720_2 hx720_3 hx720_4 hx720_5 hx720_6 hx721_0 hx722_0 hx722_1 hx722_2 hx722_3 hx722_4 hx722_5 hx722_6 hHeld ⊢
                  refine pure_ (i := 0) (N := some 69) (v := ?_) (a' := ?_) #[true, false, false, false, false, false, false, false, false, false, false, false, false, false, false, false, false, false, false, false, false, false, false, false] rfl rfl (any_of HT_.out (by kernel_rfl)) (fun _ _ _ h => h) (Or.inl ⟨by rfl, ?_⟩) ?_ ?_
                  rotate_left
                  ·intro w'
                   go_simp
                   with_reducible rfl
                  rotate_left
                  ·simp only [Act.put, List.setIfInBounds_toArray, List.set_cons_zero, List.set_cons_succ, i64_w, i32_w]
                   rfl
                  refine pure_ (i := 1) (N := some 70) (v := ?_) (a' := ?_) #[true, true, false, false, false, false, false, false, false, false, false, false, false, false, false, false, false, false, false, false, false, false, false, false] rfl rfl (any_of HT_.out (by kernel_rfl)) (fun _ _ _ h => h) (Or.inl ⟨by rfl, ?_⟩) ?_ ?_
                  rotate_left
                  ·intro w'
                   go_simp
                   with_reducible rfl
                  rotate_left
                  ·simp only [Act.put, List.setIfInBounds_toArray, List.set_cons_zero, List.set_cons_succ, i64_w, i32_w]
                   rfl
                  refine pure_ (i := 2) (N := some 71) (v := ?_) (a' := ?_) #[true, true, true, false, false, false, false, false, false, false, false, false, false, false, false, false, false, false, false, false, false, false, false, false] rfl rfl (any_of HT_.out (by kernel_rfl)) (fun _ _ _ h => h) (Or.inl ⟨by rfl, ?_⟩) ?_ ?_
                  rotate_left
                  ·intro w'
                   go_simp
                   with_reducible rfl
                  rotate_left
                  ·simp only [Act.put, List.setIfInBounds_toArray, List.set_cons_zero, List.set_cons_succ, i64_w, i32_w]
                   rfl
                  refine pure_ (i := 3) (N := some 72) (v := ?_) (a' := ?_) #[true, true, true, true, false, false, false, false, false, false, false, false, false, false, false, false, false, false, false, false, false, false, false, false] rfl rfl (any_of HT_.out (by kernel_rfl)) (fun _ _ _ h => h) (Or.inl ⟨by rfl, ?_⟩) ?_ ?_
                  rotate_left
                  ·intro w'
                   go_simp
                   with_reducible rfl
                  rotate_left
                  ·simp only [Act.put, List.setIfInBounds_toArray, List.set_cons_zero, List.set_cons_succ, i64_w, i32_w]
                   rfl
                  refine take_ (i := 4) (N := some 73) (v := ?_) (a' := ?_) #[true, true, true, true, true, false, false, false, false, false, false, false, false, false, false, false, false, false, false, false, false, false, false, false] rfl rfl (take_ofW HT_.out HW_.out (by kernel_rfl)) (fun _ _ _ h => h) (Or.inl ⟨by rfl, ?_⟩) hHeld ?_ ?_
                  rotate_left
                  ·rintro w' ⟨s0, s1, s2, s3, s4, s5, s6, s7, s8, s9, s10, s11, s12, s13, s14, s15, s16, s17, s18⟩
                   go_simp
                   with_reducible rfl
                  rotate_left
                  ·simp only [Act.put, List.setIfInBounds_toArray, List.set_cons_zero, List.set_cons_succ, i64_w, i32_w]
                   rfl
                  refine pure_ (i := 5) (N := some 74) (v := ?_) (a' := ?_) #[true, true, true, true, true, true, false, false, false, false, false, false, false, false, false, false, false, false, false, false, false, false, false, false] rfl rfl (any_of HT_.out (by kernel_rfl)) (fun _ _ _ h => h) (Or.inl ⟨by rfl, ?_⟩) ?_ ?_
                  rotate_left
                  ·intro w'
                   go_simp
                   with_reducible rfl
                  rotate_left
                  ·simp only [Act.put, List.setIfInBounds_toArray, List.set_cons_zero, List.set_cons_succ, i64_w, i32_w]
                   rfl
                  refine pure_ (i := 6) (N := some 75) (v := ?_) (a' := ?_) #[true, true, true, true, true, true, true, false, false, false, false, false, false, false, false, false, false, false, false, false, false, false, false, false] rfl rfl (any_of HT_.out (by kernel_rfl)) (fun _ _ _ h => h) (Or.inl ⟨by rfl, ?_⟩) ?_ ?_
                  rotate_left
                  ·intro w'
                   go_simp
                   with_reducible rfl
                  rotate_left
                  ·simp only [Act.put, List.setIfInBounds_toArray, List.set_cons_zero, List.set_cons_succ, i64_w, i32_w]
                   rfl
                  refine pure_ (i := 7) (N := some 76) (v := ?_) (a' := ?_) #[true, true, true, true, true, true, true, true, false, false, false, false, false, false, false, false, false, false, false, false, false, false, false, false] rfl rfl (any_of HT_.out (by kernel_rfl)) (fun _ _ _ h => h) (Or.inl ⟨by rfl, ?_⟩) ?_ ?_
                  rotate_left
                  ·intro w'
                   go_simp
                   with_reducible rfl
                  rotate_left
                  ·simp only [Act.put, List.setIfInBounds_toArray, List.set_cons_zero, List.set_cons_succ, i64_w, i32_w]
                   rfl
                  refine pure_ (i := 8) (N := some 77) (v := ?_) (a' := ?_) #[true, true, true, true, true, true, true, true, true, false, false, false, false, false, false, false, false, false, false, false, false, false, false, false] rfl rfl (any_of HT_.out (by kernel_rfl)) (fun _ _ _ h => h) (Or.inl ⟨by rfl, ?_⟩) ?_ ?_
                  rotate_left
                  ·intro w'
                   go_simp
                   with_reducible rfl
                  rotate_left
                  ·simp only [Act.put, List.setIfInBounds_toArray, List.set_cons_zero, List.set_cons_succ, i64_w, i32_w]
                   rfl
                  refine pure_ (i := 9) (N := some 78) (v := ?_) (a' := ?_) #[true, true, true, true, true, true, true, true, true, true, false, false, false, false, false, false, false, false, false, false, false, false, false, false] rfl rfl (any_of HT_.out (by kernel_rfl)) (fun _ _ _ h => h) (Or.inl ⟨by rfl, ?_⟩) ?_ ?_
                  rotate_left
                  ·intro w'
                   go_simp
                   with_reducible rfl
                  rotate_left
                  ·simp only [Act.put, List.setIfInBounds_toArray, List.set_cons_zero, List.set_cons_succ, i64_w, i32_w]
                   rfl
                  refine pure_ (i := 11) (N := some 80) (v := ?_) (a' := ?_) #[true, true, true, true, true, true, true, true, true, true, false, true, false, false, false, false, false, false, false, false, false, false, false, false] rfl rfl (any_of HT_.out (by kernel_rfl)) (fun _ _ _ h => h) (Or.inl ⟨by rfl, ?_⟩) ?_ ?_
                  rotate_left
                  ·intro w'
                   go_simp
                   with_reducible rfl
                  rotate_left
                  ·simp only [Act.put, List.setIfInBounds_toArray, List.set_cons_zero, List.set_cons_succ, i64_w, i32_w]
                   rfl
                  refine pure_ (i := 13) (N := some 82) (v := ?_) (a' := ?_) #[true, true, true, true, true, true, true, true, true, true, false, true, false, true, false, false, false, false, false, false, false, false, false, false] rfl rfl (any_of HT_.out (by kernel_rfl)) (fun _ _ _ h => h) (Or.inl ⟨by rfl, ?_⟩) ?_ ?_
                  rotate_left
                  ·intro w'
                   go_simp
                   with_reducible rfl
                  rotate_left
                  ·simp only [Act.put, List.setIfInBounds_toArray, List.set_cons_zero, List.set_cons_succ, i64_w, i32_w]
                   rfl
                  refine pure_ (i := 14) (N := some 83) (v := ?_) (a' := ?_) #[true, true, true, true, true, true, true, true, true, true, false, true, false, true, true, false, false, false, false, false, false, false, false, false] rfl rfl (any_of HT_.out (by kernel_rfl)) (fun _ _ _ h => h) (Or.inl ⟨by rfl, ?_⟩) ?_ ?_
                  rotate_left
                  ·intro w'
                   go_simp
                   with_reducible rfl
                  rotate_left
                  ·simp only [Act.put, List.setIfInBounds_toArray, List.set_cons_zero, List.set_cons_succ, i64_w, i32_w]
                   rfl
                  refine pure_ (i := 15) (N := some 84) (v := ?_) (a' := ?_) #[true, true, true, true, true, true, true, true, true, true, false, true, false, true, true, true, false, false, false, false, false, false, false, false] rfl rfl (any_of HT_.out (by kernel_rfl)) (fun _ _ _ h => h) (Or.inl ⟨by rfl, ?_⟩) ?_ ?_
                  rotate_left
                  ·intro w'
                   go_simp
                   with_reducible rfl
                  rotate_left
                  ·simp only [Act.put, List.setIfInBounds_toArray, List.set_cons_zero, List.set_cons_succ, i64_w, i32_w]
                   rfl
                  refine pure_ (i := 16) (N := some 85) (v := ?_) (a' := ?_) #[true, true, true, true, true, true, true, true, true, true, false, true, false, true, true, true, true, false, false, false, false, false, false, false] rfl rfl (any_of HT_.out (by kernel_rfl)) (fun _ _ _ h => h) (Or.inl ⟨by rfl, ?_⟩) ?_ ?_
                  rotate_left
                  ·intro w'
                   go_simp
                   with_reducible rfl
                  rotate_left
                  ·simp only [Act.put, List.setIfInBounds_toArray, List.set_cons_zero, List.set_cons_succ, i64_w, i32_w]
                   rfl
                  refine pure_ (i := 19) (N := some 88) (v := ?_) (a' := ?_) #[true, true, true, true, true, true, true, true, true, true, false, true, false, true, true, true, true, false, false, true, false, false, false, false] rfl rfl (any_of HT_.out (by kernel_rfl)) (fun _ _ _ h => h) (Or.inl ⟨by rfl, ?_⟩) ?_ ?_
                  rotate_left
                  ·intro w'
                   go_simp
                   with_reducible rfl
                  rotate_left
                  ·simp only [Act.put, List.setIfInBounds_toArray, List.set_cons_zero, List.set_cons_succ, i64_w, i32_w]
                   rfl
                  refine take_ (i := 10) (N := some 79) (v := ?_) (a' := ?_) #[true, true, true, true, true, true, true, true, true, true, true, true, false, true, true, true, true, false, false, true, false, false, false, false] rfl rfl (take_ofW HT_.out HW_.out (by kernel_rfl)) (fun _ _ _ h => h) (Or.inl ⟨by rfl, ?_⟩) hHeld ?_ ?_
                  rotate_left
                  ·rintro w' ⟨s0, s1, s2, s3, s4, s5, s6, s7, s8, s9, s10, s11, s12, s13, s14, s15, s16, s17, s18⟩
                   go_simp
                   with_reducible rfl
                  rotate_left
                  ·simp only [Act.put, List.setIfInBounds_toArray, List.set_cons_zero, List.set_cons_succ, i64_w, i32_w]
                   rfl
                  refine take_ (i := 12) (N := some 81) (v := ?_) (a' := ?_) #[true, true, true, true, true, true, true, true, true, true, true, true, true, true, true, true, true, false, false, true, false, false, false, false] rfl rfl (take_ofW HT_.out HW_.out (by kernel_rfl)) (fun _ _ _ h => h) (Or.inl ⟨by rfl, ?_⟩) hHeld ?_ ?_
                  rotate_left
                  ·rintro w' ⟨s0, s1, s2, s3, s4, s5, s6, s7, s8, s9, s10, s11, s12, s13, s14, s15, s16, s17, s18⟩
                   go_simp
                   with_reducible rfl
                  rotate_left
                  ·simp only [Act.put, List.setIfInBounds_toArray, List.set_cons_zero, List.set_cons_succ, i64_w, i32_w]
                   rfl
                  refine take_ (i := 17) (N := some 86) (v := ?_) (a' := ?_) #[true, true, true, true, true, true, true, true, true, true, true, true, true, true, true, true, true, true, false, true, false, false, false, false] rfl rfl (take_ofW HT_.out HW_.out (by kernel_rfl)) (fun _ _ _ h => h) (Or.inl ⟨by rfl, ?_⟩) hHeld ?_ ?_
                  rotate_left
                  ·rintro w' ⟨s0, s1, s2, s3, s4, s5, s6, s7, s8, s9, s10, s11, s12, s13, s14, s15, s16, s17, s18⟩
                   go_simp
                   with_reducible rfl
                  rotate_left
                  ·simp only [Act.put, List.setIfInBounds_toArray, List.set_cons_zero, List.set_cons_succ, i64_w, i32_w]
                   rfl
                  refine take_ (i := 20) (N := some 89) (v := ?_) (a' := ?_) #[true, true, true, true, true, true, true, true, true, true, true, true, true, true, true, true, true, true, false, true, true, false, false, false] rfl rfl (take_ofW HT_.out HW_.out (by kernel_rfl)) (fun _ _ _ h => h) (Or.inl ⟨by rfl, ?_⟩) hHeld ?_ ?_
                  rotate_left
                  ·rintro w' ⟨s0, s1, s2, s3, s4, s5, s6, s7, s8, s9, s10, s11, s12, s13, s14, s15, s16, s17, s18⟩
                   go_simp
                   with_reducible rfl
                  rotate_left
                  ·simp only [Act.put, List.setIfInBounds_toArray, List.set_cons_zero, List.set_cons_succ, i64_w, i32_w]
                   rfl
                  refine one_ (i := 18) (N := some 87) #[true, true, true, true, true, true, true, true, true, true, true, true, true, true, true, true, true, true, true, true, true, false, false, false] rfl rfl (one_of HT_.out (by kernel_rfl)) (by decide) (fun K hK => ?_)
                  refine goes_ Tryd.func34 (by kernel_rfl) rfl #[.string ((rd_T32 t704 x10_2).f1)] (by rfl) rfl rfl qL ?_
                  with_reducible refine (spec_Fold.calls kj19 ((rd_T32 t704 x10_2).f1) t723 _ A31.out).mono ?_
                  rintro e w40 ⟨rfl, hb⟩
                  (have HS4_ := (hb.cell (World.block_lt_of_cell? _ _ (hHeld.2.2.2.2.1))).trans (hHeld.2.2.2.2.1)); (have HS5_ := (hb.cell (World.block_lt_of_cell? _ _ (hHeld.2.2.2.2.2.1))).trans (hHeld.2.2.2.2.2.1)); (have HS6_ := (hb.cell (World.block_lt_of_cell? _ _ (hHeld.2.2.2.2.2.2.1))).trans (hHeld.2.2.2.2.2.2.1)); (have HS7_ := (hb.cell (World.block_lt_of_cell? _ _ (hHeld.2.2.2.2.2.2.2.1))).trans (hHeld.2.2.2.2.2.2.2.1)); (have HS8_ := (hb.cell (World.block_lt_of_cell? _ _ (hHeld.2.2.2.2.2.2.2.2.1))).trans (hHeld.2.2.2.2.2.2.2.2.1)); (have HS9_ := (hb.cell (World.block_lt_of_cell? _ _ (hHeld.2.2.2.2.2.2.2.2.2.1))).trans (hHeld.2.2.2.2.2.2.2.2.2.1)); (have HS10_ := (hb.cell (World.block_lt_of_cell? _ _ (hHeld.2.2.2.2.2.2.2.2.2.2.1))).trans (hHeld.2.2.2.2.2.2.2.2.2.2.1)); (have HS11_ := (hb.cell (World.block_lt_of_cell? _ _ (hHeld.2.2.2.2.2.2.2.2.2.2.2.1))).trans (hHeld.2.2.2.2.2.2.2.2.2.2.2.1)); (have HS12_ := (hb.cell (World.block_lt_of_cell? _ _ (hHeld.2.2.2.2.2.2.2.2.2.2.2.2.1))).trans (hHeld.2.2.2.2.2.2.2.2.2.2.2.2.1)); (have HS13_ := (hb.cell (World.block_lt_of_cell? _ _ (hHeld.2.2.2.2.2.2.2.2.2.2.2.2.2.1))).trans (hHeld.2.2.2.2.2.2.2.2.2.2.2.2.2.1)); (have HS14_ := (hb.cell (World.block_lt_of_cell? _ _ (hHeld.2.2.2.2.2.2.2.2.2.2.2.2.2.2.1))).trans (hHeld.2.2.2.2.2.2.2.2.2.2.2.2.2.2.1)); (have HS15_ := (hb.cell (World.block_lt_of_cell? _ _ (hHeld.2.2.2.2.2.2.2.2.2.2.2.2.2.2.2.1))).trans (hHeld.2.2.2.2.2.2.2.2.2.2.2.2.2.2.2.1)); (have HS16_ := (hb.cell (World.block_lt_of_cell? _ _ (hHeld.2.2.2.2.2.2.2.2.2.2.2.2.2.2.2.2.1))).trans (hHeld.2.2.2.2.2.2.2.2.2.2.2.2.2.2.2.2.1)); (have HS17_ := (hb.cell (World.block_lt_of_cell? _ _ (hHeld.2.2.2.2.2.2.2.2.2.2.2.2.2.2.2.2.2.1))).trans (hHeld.2.2.2.2.2.2.2.2.2.2.2.2.2.2.2.2.2.1)); (have HS18_ := (hb.cell (World.block_lt_of_cell? _ _ (hHeld.2.2.2.2.2.2.2.2.2.2.2.2.2.2.2.2.2.2))).trans (hHeld.2.2.2.2.2.2.2.2.2.2.2.2.2.2.2.2.2.2))
                  refine ⟨_, rfl, ?_⟩
                  (have n0_ := Aside0.mk (Kd.R_below (qR HO_4) hb)); (have n1_ := Aside0.mk (Kd.R_below (qR HO_5) hb)); (have n2_ := Aside0.mk (Kd.R_below (qR HO_7) hb)); (have n3_ := qD BK707 hb); (have n4_ := Aside0.mk (below_step (qS1 HB GE707) hb)); clear HO_4 HO_5 HO_7 BK707 HB; (have HO_4 := n0_); (have HO_5 := n1_); (have HO_7 := n2_); (have BK707 := n3_); (have HB := n4_); clear n0_ n1_ n2_ n3_ n4_; (try clear hb); (try clear hb2); (try clear hk); (try clear hi)
                  refine hK.out _ _ ⟨(blk_cell BK707.out 0).trans rfl, (blk_cell BK707.out 1).trans rfl, (blk_cell BK707.out 2).trans rfl, (blk_cell BK707.out 3).trans rfl, HS4_, HS5_, HS6_, HS7_, HS8_, HS9_, HS10_, HS11_, HS12_, HS13_, HS14_, HS15_, HS16_, HS17_, HS18_⟩ (fun hHeld => ?_)
                  clear hK K
                  refine norm_ (a' := ?_) ?_ ?_
                  rotate_left
                  ·show Act.put _ (some 87) _ = _
                   simp only [Act.put, List.setIfInBounds_toArray, List.set_cons_zero, List.set_cons_succ, i64_w, i32_w]
                   rfl
                  refine one_ (i := 21) (N := some 90) #[true, true, true, true, true, true, true, true, true, true, true, true, true, true, true, true, true, true, true, true, true, true, false, false] rfl rfl (one_of HT_.out (by kernel_rfl)) (by decide) (fun K hK => ?_)
                  refine goes_ Tryd.func33 (by kernel_rfl) rfl #[.int .i64 t700, .string t723, .int .i64 t701] (by rfl) rfl rfl qL ?_
                  with_reducible refine (impl_ShelfFor.calls kj19 t700 t723 t701 t724 _ A32.out).mono ?_
                  rintro e w41 ⟨rfl, hb⟩
                  (have HS4_ := (hb.cell (World.block_lt_of_cell? _ _ (hHeld.2.2.2.2.1))).trans (hHeld.2.2.2.2.1)); (have HS5_ := (hb.cell (World.block_lt_of_cell? _ _ (hHeld.2.2.2.2.2.1))).trans (hHeld.2.2.2.2.2.1)); (have HS6_ := (hb.cell (World.block_lt_of_cell? _ _ (hHeld.2.2.2.2.2.2.1))).trans (hHeld.2.2.2.2.2.2.1)); (have HS7_ := (hb.cell (World.block_lt_of_cell? _ _ (hHeld.2.2.2.2.2.2.2.1))).trans (hHeld.2.2.2.2.2.2.2.1)); (have HS8_ := (hb.cell (World.block_lt_of_cell? _ _ (hHeld.2.2.2.2.2.2.2.2.1))).trans (hHeld.2.2.2.2.2.2.2.2.1)); (have HS9_ := (hb.cell (World.block_lt_of_cell? _ _ (hHeld.2.2.2.2.2.2.2.2.2.1))).trans (hHeld.2.2.2.2.2.2.2.2.2.1)); (have HS10_ := (hb.cell (World.block_lt_of_cell? _ _ (hHeld.2.2.2.2.2.2.2.2.2.2.1))).trans (hHeld.2.2.2.2.2.2.2.2.2.2.1)); (have HS11_ := (hb.cell (World.block_lt_of_cell? _ _ (hHeld.2.2.2.2.2.2.2.2.2.2.2.1))).trans (hHeld.2.2.2.2.2.2.2.2.2.2.2.1)); (have HS12_ := (hb.cell (World.block_lt_of_cell? _ _ (hHeld.2.2.2.2.2.2.2.2.2.2.2.2.1))).trans (hHeld.2.2.2.2.2.2.2.2.2.2.2.2.1)); (have HS13_ := (hb.cell (World.block_lt_of_cell? _ _ (hHeld.2.2.2.2.2.2.2.2.2.2.2.2.2.1))).trans (hHeld.2.2.2.2.2.2.2.2.2.2.2.2.2.1)); (have HS14_ := (hb.cell (World.block_lt_of_cell? _ _ (hHeld.2.2.2.2.2.2.2.2.2.2.2.2.2.2.1))).trans (hHeld.2.2.2.2.2.2.2.2.2.2.2.2.2.2.1)); (have HS15_ := (hb.cell (World.block_lt_of_cell? _ _ (hHeld.2.2.2.2.2.2.2.2.2.2.2.2.2.2.2.1))).trans (hHeld.2.2.2.2.2.2.2.2.2.2.2.2.2.2.2.1)); (have HS16_ := (hb.cell (World.block_lt_of_cell? _ _ (hHeld.2.2.2.2.2.2.2.2.2.2.2.2.2.2.2.2.1))).trans (hHeld.2.2.2.2.2.2.2.2.2.2.2.2.2.2.2.2.1)); (have HS17_ := (hb.cell (World.block_lt_of_cell? _ _ (hHeld.2.2.2.2.2.2.2.2.2.2.2.2.2.2.2.2.2.1))).trans (hHeld.2.2.2.2.2.2.2.2.2.2.2.2.2.2.2.2.2.1)); (have HS18_ := (hb.cell (World.block_lt_of_cell? _ _ (hHeld.2.2.2.2.2.2.2.2.2.2.2.2.2.2.2.2.2.2))).trans (hHeld.2.2.2.2.2.2.2.2.2.2.2.2.2.2.2.2.2.2))
                  refine ⟨_, rfl, ?_⟩
                  (have n0_ := Aside0.mk (Kd.R_below (qR HO_4) hb)); (have n1_ := Aside0.mk (Kd.R_below (qR HO_5) hb)); (have n2_ := Aside0.mk (Kd.R_below (qR HO_7) hb)); (have n3_ := qD BK707 hb); (have n4_ := Aside0.mk (below_step (qS1 HB GE707) hb)); clear HO_4 HO_5 HO_7 BK707 HB; (have HO_4 := n0_); (have HO_5 := n1_); (have HO_7 := n2_); (have BK707 := n3_); (have HB := n4_); clear n0_ n1_ n2_ n3_ n4_; (try clear hb); (try clear hb2); (try clear hk); (try clear hi)
                  refine hK.out _ _ ⟨(blk_cell BK707.out 0).trans rfl, (blk_cell BK707.out 1).trans rfl, (blk_cell BK707.out 2).trans rfl, (blk_cell BK707.out 3).trans rfl, HS4_, HS5_, HS6_, HS7_, HS8_, HS9_, HS10_, HS11_, HS12_, HS13_, HS14_, HS15_, HS16_, HS17_, HS18_⟩ (fun hHeld => ?_)
                  clear hK K
                  refine norm_ (a' := ?_) ?_ ?_
                  rotate_left
                  ·show Act.put _ (some 90) _ = _
                   simp only [Act.put, List.setIfInBounds_toArray, List.set_cons_zero, List.set_cons_succ, i64_w, i32_w]
                   rfl
                  refine pure_ (i := 22) (N := some 91) (v := ?_) (a' := ?_) #[true, true, true, true, true, true, true, true, true, true, true, true, true, true, true, true, true, true, true, true, true, true, true, false] rfl rfl (any_of HT_.out (by kernel_rfl)) (fun _ _ _ h => h) (Or.inl ⟨by rfl, ?_⟩) ?_ ?_
                  rotate_left
                  ·intro w'
                   go_simp
                   with_reducible rfl
                  rotate_left
                  ·simp only [Act.put, List.setIfInBounds_toArray, List.set_cons_zero, List.set_cons_succ, i64_w, i32_w]
                   rfl
                  refine pure_ (i := 23) (N := some 92) (v := ?_) (a' := ?_) #[true, true, true, true, true, true, true, true, true, true, true, true, true, true, true, true, true, true, true, true, true, true, true, true] rfl rfl (any_of HT_.out (by kernel_rfl)) (fun _ _ _ h => h) (Or.inl ⟨by rfl, ?_⟩) ?_ ?_
                  rotate_left
                  ·intro w'
                   go_simp
                   with_reducible rfl
                  rotate_left
                  ·simp only [Act.put, List.setIfInBounds_toArray, List.set_cons_zero, List.set_cons_succ, i64_w, i32_w]
                   rfl
                  refine done_ (done_of HT_.out (by kernel_rfl)) ?_
                  try go_wp2
                  go_ret
                  exact ⟨qE, qS1 HB GE707⟩
                ·rw [if_neg c30] at H
                 exact absurd H (by simp)
               ·rw [if_neg c29] at H
                exact absurd H (by simp)
              ·rw [if_neg c28] at H
               (have c28b0 : (((rd_T32 t704 x10_2).f0) == 1) = false := beq_eq_false_iff_ne.mpr c28); (have c28b1 : (((rd_T32 t704 x10_2).f0) != 1) = true := bne_iff_ne.mpr c28); (have H' := Aside0.mk H); clear H
               try go_wp2
               (have n0_ := Aside0.mk (Kd.R_drew HO_4.out)); (have n1_ := Aside0.mk (Kd.R_drew HO_5.out)); (have n2_ := Aside0.mk (Kd.R_drew HO_7.out)); (have n3_ := Aside0.mk (blk_drew BK707.out)); (have n4_ := Aside0.mk (below_drew1 HB.out)); clear HO_4 HO_5 HO_7 BK707 HB; (have HO_4 := n0_); (have HO_5 := n1_); (have HO_7 := n2_); (have BK707 := n3_); (have HB := n4_); clear n0_ n1_ n2_ n3_ n4_; (have p720 : 0 ≤ (x10_2 : Int) := of_decide_eq_true (by first | (with_reducible assumption) | assumption)); (have q720 : x10_2 < (t704.length : Int) := of_decide_eq_true (by first | (with_reducible assumption) | assumption)); (obtain ⟨ad720, e720, hx720_0, hx720_1, hx720_2, hx720_3, hx720_4, hx720_5, hx720_6⟩ := at_T32 (Kd.R_reads' HO_4.out).2.2 x10_2 p720 q720); (obtain rfl : ad717 = ad720 := (by injection e720)); (replace p720 := eq_true p720); (replace q720 := eq_true q720)
               refine start_ (n := 24) (S := fun w' => w'.cell? (ad717.add ((x10_2).toNat * 7)) = some (.int .i64 ((rd_T32 t704 x10_2).f0)) ∧ w'.cell? ⟨(ad717.add ((x10_2).toNat * 7)).block, (ad717.add ((x10_2).toNat * 7)).off + 1, none⟩ = some (.string ((rd_T32 t704 x10_2).f1)) ∧ w'.cell? ⟨(ad717.add ((x10_2).toNat * 7)).block, (ad717.add ((x10_2).toNat * 7)).off + 2, none⟩ = some (.int .i64 ((rd_T32 t704 x10_2).f2)) ∧ w'.cell? ⟨(ad717.add ((x10_2).toNat * 7)).block, (ad717.add ((x10_2).toNat * 7)).off + 3, none⟩ = some (.int .i64 ((rd_T32 t704 x10_2).f3)) ∧ w'.cell? ⟨(ad717.add ((x10_2).toNat * 7)).block, (ad717.add ((x10_2).toNat * 7)).off + 4, none⟩ = some (.int .i64 ((rd_T32 t704 x10_2).f4)) ∧ w'.cell? ⟨(ad717.add ((x10_2).toNat * 7)).block, (ad717.add ((x10_2).toNat * 7)).off + 5, none⟩ = some (.int .i64 ((rd_T32 t704 x10_2).f5)) ∧ w'.cell? ⟨(ad717.add ((x10_2).toNat * 7)).block, (ad717.add ((x10_2).toNat * 7)).off + 6, none⟩ = some (.string ((rd_T32 t704 x10_2).f6))) (ds := []) #[false, false, false, false, false, false, false, false, false, false, false, false, false, false, false, false, false, false, false, false, false, false, false, false] (by kernel_rfl) rfl rfl ⟨hx720_0, hx720_1, hx720_2, hx720_3, hx720_4, hx720_5, hx720_6⟩ (fun hHeld => ?_); refine with_tabW laws_FnIdsBook.tab15 laws_FnIdsBook.bits15 (fun HT_ HW_ => ?_)
               generalize wc.drew = w42 at HO_4 HO_5 HO_7 BK707 HB hx720_0 hx720_1 hx720_2 hx720_3 hx720_4 hx720_5 hx720_6 hHeld ⊢
               refine pure_ (i := 0) (N := some 69) (v := ?_) (a' := ?_) #[true, false, false, false, false, false, false, false, false, false, false, false, false, false, false, false, false, false, false, false, false, false, false, false] rfl rfl (any_of HT_.out (by kernel_rfl)) (fun _ _ _ h => h) (Or.inl ⟨by rfl, ?_⟩) ?_ ?_
               rotate_left
               ·intro w'
                go_simp
                with_reducible rfl
               rotate_left
               ·simp only [Act.put, List.setIfInBounds_toArray, List.set_cons_zero, List.set_cons_succ, i64_w, i32_w]
                rfl
               refine pure_ (i := 1) (N := some 70) (v := ?_) (a' := ?_) #[true, true, false, false, false, false, false, false, false, false, false, false, false, false, false, false, false, false, false, false, false, false, false, false] rfl rfl (any_of HT_.out (by kernel_rfl)) (fun _ _ _ h => h) (Or.inl ⟨by rfl, ?_⟩) ?_ ?_
               rotate_left
               ·intro w'
                go_simp
                with_reducible rfl
               rotate_left
               ·simp only [Act.put, List.setIfInBounds_toArray, List.set_cons_zero, List.set_cons_succ, i64_w, i32_w]
                rfl
               refine pure_ (i := 2) (N := some 71) (v := ?_) (a' := ?_) #[true, true, true, false, false, false, false, false, false, false, false, false, false, false, false, false, false, false, false, false, false, false, false, false] rfl rfl (any_of HT_.out (by kernel_rfl)) (fun _ _ _ h => h) (Or.inl ⟨by rfl, ?_⟩) ?_ ?_
               rotate_left
               ·intro w'
                go_simp
                with_reducible rfl
               rotate_left
               ·simp only [Act.put, List.setIfInBounds_toArray, List.set_cons_zero, List.set_cons_succ, i64_w, i32_w]
                rfl
               refine pure_ (i := 3) (N := some 72) (v := ?_) (a' := ?_) #[true, true, true, true, false, false, false, false, false, false, false, false, false, false, false, false, false, false, false, false, false, false, false, false] rfl rfl (any_of HT_.out (by kernel_rfl)) (fun _ _ _ h => h) (Or.inl ⟨by rfl, ?_⟩) ?_ ?_
               rotate_left
               ·intro w'
                go_simp
                with_reducible rfl
               rotate_left
               ·simp only [Act.put, List.setIfInBounds_toArray, List.set_cons_zero, List.set_cons_succ, i64_w, i32_w]
                rfl
               refine take_ (i := 4) (N := some 73) (v := ?_) (a' := ?_) #[true, true, true, true, true, false, false, false, false, false, false, false, false, false, false, false, false, false, false, false, false, false, false, false] rfl rfl (take_ofW HT_.out HW_.out (by kernel_rfl)) (fun _ _ _ h => h) (Or.inl ⟨by rfl, ?_⟩) hHeld ?_ ?_
               rotate_left
               ·rintro w' ⟨s0, s1, s2, s3, s4, s5, s6⟩
                go_simp
                with_reducible rfl
               rotate_left
               ·simp only [Act.put, List.setIfInBounds_toArray, List.set_cons_zero, List.set_cons_succ, i64_w, i32_w]
                rfl
               refine pure_ (i := 5) (N := some 74) (v := ?_) (a' := ?_) #[true, true, true, true, true, true, false, false, false, false, false, false, false, false, false, false, false, false, false, false, false, false, false, false] rfl rfl (any_of HT_.out (by kernel_rfl)) (fun _ _ _ h => h) (Or.inl ⟨by rfl, ?_⟩) ?_ ?_
               rotate_left
               ·intro w'
                go_simp
                with_reducible rfl
               rotate_left
               ·simp only [Act.put, List.setIfInBounds_toArray, List.set_cons_zero, List.set_cons_succ, i64_w, i32_w]
                rfl
               refine pure_ (i := 6) (N := some 75) (v := ?_) (a' := ?_) #[true, true, true, true, true, true, true, false, false, false, false, false, false, false, false, false, false, false, false, false, false, false, false, false] rfl rfl (any_of HT_.out (by kernel_rfl)) (fun _ _ _ h => h) (Or.inl ⟨by rfl, ?_⟩) ?_ ?_
               rotate_left
               ·intro w'
                go_simp
                with_reducible rfl
               rotate_left
               ·simp only [Act.put, List.setIfInBounds_toArray, List.set_cons_zero, List.set_cons_succ, i64_w, i32_w]
                rfl
               refine pure_ (i := 7) (N := some 76) (v := undef) (a' := ?_) #[true, true, true, true, true, true, true, true, false, false, false, false, false, false, false, false, false, false, false, false, false, false, false, false] rfl rfl (any_of HT_.out (by kernel_rfl)) (fun _ _ _ h => h) (Or.inr ⟨by rfl, rfl⟩) ?_ ?_
               rotate_left
               ·simp only [Act.put, List.setIfInBounds_toArray, List.set_cons_zero, List.set_cons_succ, i64_w, i32_w]
                rfl
               refine pure_ (i := 8) (N := some 77) (v := undef) (a' := ?_) #[true, true, true, true, true, true, true, true, true, false, false, false, false, false, false, false, false, false, false, false, false, false, false, false] rfl rfl (any_of HT_.out (by kernel_rfl)) (fun _ _ _ h => h) (Or.inr ⟨by rfl, rfl⟩) ?_ ?_
               rotate_left
               ·simp only [Act.put, List.setIfInBounds_toArray, List.set_cons_zero, List.set_cons_succ, i64_w, i32_w]
                rfl
               refine pure_ (i := 9) (N := some 78) (v := undef) (a' := ?_) #[true, true, true, true, true, true, true, true, true, true, false, false, false, false, false, false, false, false, false, false, false, false, false, false] rfl rfl (any_of HT_.out (by kernel_rfl)) (fun _ _ _ h => h) (Or.inr ⟨by rfl, rfl⟩) ?_ ?_
               rotate_left
               ·simp only [Act.put, List.setIfInBounds_toArray, List.set_cons_zero, List.set_cons_succ, i64_w, i32_w]
                rfl
               refine pure_ (i := 10) (N := some 79) (v := undef) (a' := ?_) #[true, true, true, true, true, true, true, true, true, true, true, false, false, false, false, false, false, false, false, false, false, false, false, false] rfl rfl (any_of HT_.out (by kernel_rfl)) (fun _ _ _ h => h) (Or.inr ⟨by rfl, rfl⟩) ?_ ?_
               rotate_left
               ·simp only [Act.put, List.setIfInBounds_toArray, List.set_cons_zero, List.set_cons_succ, i64_w, i32_w]
                rfl
               refine pure_ (i := 11) (N := some 80) (v := undef) (a' := ?_) #[true, true, true, true, true, true, true, true, true, true, true, true, false, false, false, false, false, false, false, false, false, false, false, false] rfl rfl (any_of HT_.out (by kernel_rfl)) (fun _ _ _ h => h) (Or.inr ⟨by rfl, rfl⟩) ?_ ?_
               rotate_left
               ·simp only [Act.put, List.setIfInBounds_toArray, List.set_cons_zero, List.set_cons_succ, i64_w, i32_w]
                rfl
               refine pure_ (i := 12) (N := some 81) (v := undef) (a' := ?_) #[true, true, true, true, true, true, true, true, true, true, true, true, true, false, false, false, false, false, false, false, false, false, false, false] rfl rfl (any_of HT_.out (by kernel_rfl)) (fun _ _ _ h => h) (Or.inr ⟨by rfl, rfl⟩) ?_ ?_
               rotate_left
               ·simp only [Act.put, List.setIfInBounds_toArray, List.set_cons_zero, List.set_cons_succ, i64_w, i32_w]
                rfl
               refine pure_ (i := 13) (N := some 82) (v := undef) (a' := ?_) #[true, true, true, true, true, true, true, true, true, true, true, true, true, true, false, false, false, false, false, false, false, false, false, false] rfl rfl (any_of HT_.out (by kernel_rfl)) (fun _ _ _ h => h) (Or.inr ⟨by rfl, rfl⟩) ?_ ?_
               rotate_left
               ·simp only [Act.put, List.setIfInBounds_toArray, List.set_cons_zero, List.set_cons_succ, i64_w, i32_w]
                rfl
               refine pure_ (i := 14) (N := some 83) (v := undef) (a' := ?_) #[true, true, true, true, true, true, true, true, true, true, true, true, true, true, true, false, false, false, false, false, false, false, false, false] rfl rfl (any_of HT_.out (by kernel_rfl)) (fun _ _ _ h => h) (Or.inr ⟨by rfl, rfl⟩) ?_ ?_
               rotate_left
               ·simp only [Act.put, List.setIfInBounds_toArray, List.set_cons_zero, List.set_cons_succ, i64_w, i32_w]
                rfl
               refine pure_ (i := 15) (N := some 84) (v := undef) (a' := ?_) #[true, true, true, true, true, true, true, true, true, true, true, true, true, true, true, true, false, false, false, false, false, false, false, false] rfl rfl (any_of HT_.out (by kernel_rfl)) (fun _ _ _ h => h) (Or.inr ⟨by rfl, rfl⟩) ?_ ?_
               rotate_left
               ·simp only [Act.put, List.setIfInBounds_toArray, List.set_cons_zero, List.set_cons_succ, i64_w, i32_w]
                rfl
               refine pure_ (i := 16) (N := some 85) (v := undef) (a' := ?_) #[true, true, true, true, true, true, true, true, true, true, true, true, true, true, true, true, true, false, false, false, false, false, false, false] rfl rfl (any_of HT_.out (by kernel_rfl)) (fun _ _ _ h => h) (Or.inr ⟨by rfl, rfl⟩) ?_ ?_
               rotate_left
               ·simp only [Act.put, List.setIfInBounds_toArray, List.set_cons_zero, List.set_cons_succ, i64_w, i32_w]
                rfl
               refine pure_ (i := 17) (N := some 86) (v := undef) (a' := ?_) #[true, true, true, true, true, true, true, true, true, true, true, true, true, true, true, true, true, true, false, false, false, false, false, false] rfl rfl (any_of HT_.out (by kernel_rfl)) (fun _ _ _ h => h) (Or.inr ⟨by rfl, rfl⟩) ?_ ?_
               rotate_left
               ·simp only [Act.put, List.setIfInBounds_toArray, List.set_cons_zero, List.set_cons_succ, i64_w, i32_w]
                rfl
               refine pure_ (i := 18) (N := some 87) (v := undef) (a' := ?_) #[true, true, true, true, true, true, true, true, true, true, true, true, true, true, true, true, true, true, true, false, false, false, false, false] rfl rfl (any_of HT_.out (by kernel_rfl)) (fun _ _ _ h => h) (Or.inr ⟨by rfl, rfl⟩) ?_ ?_
               rotate_left
               ·simp only [Act.put, List.setIfInBounds_toArray, List.set_cons_zero, List.set_cons_succ, i64_w, i32_w]
                rfl
               refine pure_ (i := 19) (N := some 88) (v := undef) (a' := ?_) #[true, true, true, true, true, true, true, true, true, true, true, true, true, true, true, true, true, true, true, true, false, false, false, false] rfl rfl (any_of HT_.out (by kernel_rfl)) (fun _ _ _ h => h) (Or.inr ⟨by rfl, rfl⟩) ?_ ?_
               rotate_left
               ·simp only [Act.put, List.setIfInBounds_toArray, List.set_cons_zero, List.set_cons_succ, i64_w, i32_w]
                rfl
               refine pure_ (i := 20) (N := some 89) (v := undef) (a' := ?_) #[true, true, true, true, true, true, true, true, true, true, true, true, true, true, true, true, true, true, true, true, true, false, false, false] rfl rfl (any_of HT_.out (by kernel_rfl)) (fun _ _ _ h => h) (Or.inr ⟨by rfl, rfl⟩) ?_ ?_
               rotate_left
               ·simp only [Act.put, List.setIfInBounds_toArray, List.set_cons_zero, List.set_cons_succ, i64_w, i32_w]
                rfl
               refine pure_ (i := 21) (N := some 90) (v := undef) (a' := ?_) #[true, true, true, true, true, true, true, true, true, true, true, true, true, true, true, true, true, true, true, true, true, true, false, false] rfl rfl (any_of HT_.out (by kernel_rfl)) (fun _ _ _ h => h) (Or.inr ⟨by rfl, rfl⟩) ?_ ?_
               rotate_left
               ·simp only [Act.put, List.setIfInBounds_toArray, List.set_cons_zero, List.set_cons_succ, i64_w, i32_w]
                rfl
               refine pure_ (i := 22) (N := some 91) (v := undef) (a' := ?_) #[true, true, true, true, true, true, true, true, true, true, true, true, true, true, true, true, true, true, true, true, true, true, true, false] rfl rfl (any_of HT_.out (by kernel_rfl)) (fun _ _ _ h => h) (Or.inr ⟨by rfl, rfl⟩) ?_ ?_
               rotate_left
               ·simp only [Act.put, List.setIfInBounds_toArray, List.set_cons_zero, List.set_cons_succ, i64_w, i32_w]
                rfl
               refine pure_ (i := 23) (N := some 92) (v := ?_) (a' := ?_) #[true, true, true, true, true, true, true, true, true, true, true, true, true, true, true, true, true, true, true, true, true, true, true, true] rfl rfl (any_of HT_.out (by kernel_rfl)) (fun _ _ _ h => h) (Or.inl ⟨by rfl, ?_⟩) ?_ ?_
               rotate_left
               ·intro w'
                go_simp
                with_reducible rfl
               rotate_left
               ·simp only [Act.put, List.setIfInBounds_toArray, List.set_cons_zero, List.set_cons_succ, i64_w, i32_w]
                rfl
               refine done_ (done_of HT_.out (by kernel_rfl)) ?_
               try go_wp2
               go_roundg kj19
               case measure => have := HJ6.out; have := HK2.out; have := HJ19.out; omega
               case rel => exact ⟨(wrap64 (x9_2 + t719)), (wrap64 (x10_2 + 1)), (by first | rfl | (simp; done) | (simp [*]; done)), (by first | rfl | (simp; done) | (simp [*]; done)), H', ⟨by have := HJ6.out; have := HK2.out; have := HJ19.out; omega⟩, ⟨qR HO_4⟩, ⟨qR HO_5⟩, ⟨qR HO_7⟩, ⟨qB BK707⟩, ⟨qS1 HB GE707⟩⟩
             ·rw [if_neg c27] at H
              exact absurd H (by simp)
            ·rw [if_neg c26] at H
             exact absurd H (by simp)
        ·rw [if_neg c18] at H
         exact absurd H (by simp)
       ·rw [if_neg c17] at H
        (have c17b0 : decide (x10_2 < (t704.length : Int)) = false := decide_eq_false c17); clear c17
        by_cases c43 : x9_2 = (t712.length : Int)
        ·rw [if_pos c43] at H
         (have c43b0 : (x9_2 == (t712.length : Int)) = true := beq_iff_eq.mpr c43); (have c43b1 : (x9_2 != (t712.length : Int)) = false := bne_eq_false_iff_eq.mpr c43); clear c43; (replace H := Option.bind_eq_some_iff.mp H); (obtain ⟨t716, A440, H⟩ := H); (replace H : (some t716) = some r := H); (have A44 := Aside0.mk A440); clear A440; (obtain rfl := Option.some.inj H); (obtain ⟨Ao45, co45, eo45⟩ := Kd.R_slice HO_7.out); (subst eo45); (obtain ⟨Ao46, co46, eo46⟩ := Kd.R_slice HO_5.out); (subst eo46)
         go_wp2_with (first | (go_at_call 35; (with_reducible refine (laws_same.calls k2 _ _ t712 _ _ t708 t716 _ ?side1 ?side2 ?side3 ?side4 A44.out).mono ?_); (case side1 => repeat (first | exact (Kd.R_reads' HO_7.out).2.2 | (with_reducible refine Kd.C_alloc ?_ _) | (with_reducible refine Kd.C_drewN ?_ _) | (with_reducible refine Kd.C_drew ?_))); (case side2 => exact (Kd.R_reads' HO_7.out).2.1); (case side3 => repeat (first | exact (Kd.R_reads' HO_5.out).2.2 | (with_reducible refine Kd.C_alloc ?_ _) | (with_reducible refine Kd.C_drewN ?_ _) | (with_reducible refine Kd.C_drew ?_))); (case side4 => exact (Kd.R_reads' HO_5.out).2.1); rintro e w' ⟨rfl, ⟨nd, rfl⟩⟩))
         go_ret
         exact ⟨qE, qS1 HB GE707⟩
        ·rw [if_neg c43] at H
         (have c43b0 : (x9_2 == (t712.length : Int)) = false := beq_eq_false_iff_ne.mpr c43); (have c43b1 : (x9_2 != (t712.length : Int)) = true := bne_iff_ne.mpr c43); (obtain rfl := Option.some.inj H); (obtain ⟨Ao47, co47, eo47⟩ := Kd.R_slice HO_7.out); (subst eo47)
         go_wp2
         go_ret
         exact ⟨qE, qS1 HB GE707⟩
end Go.Proofs.YtbpffdhkeinmcaaDoor.QE
namespace Go.Proofs.YtbpffdhkeinmcaaDoor.Open
open Go.RowKit Go.Proofs.YtbpffdhkeinmcaaDoorW.PrintWords
open Go.ChangeShapes Go.WideShapes
set_option linter.unusedVariables false
def InK (k : IntKind) (n : Int) : Prop := (Lit.int k n).wf = true
def InL {α : Type} (W : α → Prop) (xs : List α) : Prop := xs.length ≤ 9223372036854775807 ∧ ∀ x, x ∈ xs → W x
structure Opens {α : Type} (P : Program) (t : TypeId) (d : Kd α) (W : α → Prop) : Prop where
 cells : P.cellsOf t = d.sz
 reads : ∀ {H : Type} (enc : TypeId × Value → H) (w : World) (base fuel : Nat) (held : Bool) (cs : List Value) (x : DataW H × List MemPlace),
  DataW.trod enc P w base (fun _ => true) held fuel t cs = some x → ∃ y, d.K w y cs ∧ W y
theorem opens_int {P : Program} {t : TypeId} {k : IntKind} (ht : P.underlying t = some (.int k)) (hc : P.cellsOf t = 1) : Opens P t (Kd.int k) (InK k) := by
 refine ⟨hc, ?_⟩
 intro H enc w base fuel held cs x h
 cases fuel with
 | zero => simp [DataW.trod] at h
 | succ n =>
  unfold DataW.trod at h
  rw [ht] at h
  split at h <;> simp_all
  rename_i h2
  obtain ⟨⟨rfl, h3⟩, _⟩ := h
  exact ⟨_, rfl, h3⟩
theorem opens_slice {α : Type} {P : Program} {t e : TypeId} {d : Kd α} {W : α → Prop} (ht : P.underlying t = some (.slice e)) (hc : P.cellsOf t = 1) (z : α) (he : Opens P e d W) : Opens P t (Kd.slice e d) (InL W) := by
 refine ⟨hc, ?_⟩
 intro H enc w base fuel held cs x h
 rcases Go.Deep.open_slice ht h with ⟨rfl, _⟩ | ⟨a, len, cap, m, n, D, Pl, rfl, hb, hl, hm, hmm, rfl, hx⟩
 ·exact ⟨[], ⟨none, 0, rfl, Nat.le_refl _, rfl, by simp, fun h0 => absurd h0 (by simp)⟩, by simp, by simp⟩
 ·simp only [if_true] at hmm
  (subst hmm); (have hm' : m ≤ 9223372036854775807 := by simpa [maxLen] using hm)
  have each : ∀ i, i < m → ∃ y : α, ∃ c : List Value, c.length = d.sz ∧ d.K w y c ∧ W y ∧ ∀ j u, c[j]? = some u → w.cell? (a.add (i * d.sz + j)) = some u := by
   intro i hi
   (obtain ⟨cs', h1, h2⟩ := hx i hi); (obtain ⟨y, hK, hW⟩ := he.reads enc w base n held cs' _ h2); (obtain ⟨_, hlen, hcell⟩ := World.cells?_some h1)
   refine ⟨y, cs', d.K_len hK, hK, hW, fun j u hu => ?_⟩
   have hj : j < P.cellsOf e := by
    rw [← hlen]
    exact (List.getElem?_eq_some_iff.1 hu).1
   (have := hcell j hj); (rw [Go.Deep.add_add, he.cells] at this); (rw [this]; exact hu)
  (haveI : Inhabited α := ⟨z⟩); (obtain ⟨f, hf⟩ := Go.Deep.choose_lt each)
  refine ⟨(List.range len).map f, ⟨some a, m, ?_, ?_, ?_⟩, ?_, ?_⟩
  ·simp
  ·simp; exact hl
  ·refine ⟨by simp, by simp; omega, fun _ => ⟨a, rfl, fun j p hj => ?_⟩⟩
   (have hj1 : j < len := by have := (List.getElem?_eq_some_iff.1 hj).1; simpa using this); (have hp : f j = p := by simpa [hj1] using hj); (obtain ⟨c, h1, h2, _, h3⟩ := hf j (by omega))
   exact ⟨c, h1, hp ▸ h2, h3⟩
  ·simp; omega
  ·intro y hy
   (obtain ⟨i, hi, rfl⟩ := List.mem_map.1 hy); (obtain ⟨c, _, _, hW, _⟩ := hf i (by have := List.mem_range.1 hi; omega))
   exact hW
theorem open_arg {α : Type} {H : Type} {enc : TypeId × Value → H} {P : Program} {w : World} {t : TypeId} {d : Kd α} {W : α → Prop} (ho : Opens P t d W) {v : Value} {dd : DataW H} {ps : List MemPlace}
  (h : DataW.Trod enc P w 0 (fun _ => true) true t v dd ps) : ∃ y, d.K w y v.cells.toList ∧ W y := by
 obtain ⟨fuel, hf⟩ := h
 exact ho.reads enc w 0 fuel true _ _ hf
end Go.Proofs.YtbpffdhkeinmcaaDoor.Open
namespace Go.Proofs.YtbpffdhkeinmcaaDoor.QE
open Go.RowKit Go.Proofs.YtbpffdhkeinmcaaDoorW.PrintWords Go.Proofs.YtbpffdhkeinmcaaDoorW.PrintLast Go.Proofs.YtbpffdhkeinmcaaDoor
def laws_FnIdsBook.Pure : Prop := ∀ (y0 : List Int), Open.InL (fun z => Open.InK .u8 z) y0 → ∃ k, laws_FnIdsBook.f k y0 = some true
end Go.Proofs.YtbpffdhkeinmcaaDoor.QE
