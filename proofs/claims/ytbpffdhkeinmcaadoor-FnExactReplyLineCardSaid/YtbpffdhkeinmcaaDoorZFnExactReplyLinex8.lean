/- Part of the proof of the law FnExactReplyLine: what it uses of the texts that this session and the kit's print wrote. -/
import Derived.Test.YtbpffdhkeinmcaaDoorZFnExactReplyLinex1
import Derived.Test.YtbpffdhkeinmcaaDoorZFnExactReplyLinex6
import Derived.Test.YtbpffdhkeinmcaaDoorZFnExactReplyLinex7
namespace Go.Proofs.YtbpffdhkeinmcaaDoor.QD
open Go.RowKit Go.Proofs.YtbpffdhkeinmcaaDoorW.PrintWords Go.Proofs.YtbpffdhkeinmcaaDoorW.PrintLast Go.Proofs.YtbpffdhkeinmcaaDoorW.PrintMore
attribute [local go_sem] max2_int min2_int max_two min_two max_three min_three max_four min_four   -- for this text's walks alone
set_option linter.unusedVariables false
set_option linter.unusedSimpArgs false
mutual
def impl_isTop.l0 : Nat → List (S78) → List (S78) → Int → Int → Option (Bool)
 | 0, _, _, _, _ => none
 | k + 1, x0, x5, x6, x7 => if x7 < x6 then (if 0 ≤ x7 then (if x7 < (x5.length : Int) then ((impl_isRec.f k ((rd_T78 x5 x7).f0) ((rd_T78 x5 x7).f1) ((rd_T78 x5 x7).f2) ((rd_T78 x5 x7).f3)).bind fun t217 => (if t217 = true then (if ((rd_T78 x5 x7).f1) > 3 then (impl_isTop.j1 k x0 x7 x5 x6 x7 true ((rd_T78 x5 x7).f0) ((rd_T78 x5 x7).f1) ((rd_T78 x5 x7).f2) ((rd_T78 x5 x7).f3)) else (if x7 > 0 then (if 0 ≤ (wrap64 (x7 - 1)) then (if (wrap64 (x7 - 1)) < (x0.length : Int) then ((impl_isAhead.f k ((rd_T78 x5 x7).f0) ((rd_T78 x5 x7).f1) ((rd_T78 x5 x7).f2) ((rd_T78 x5 x7).f3) ((rd_T78 x0 (wrap64 (x7 - 1))).f0) ((rd_T78 x0 (wrap64 (x7 - 1))).f1) ((rd_T78 x0 (wrap64 (x7 - 1))).f2) ((rd_T78 x0 (wrap64 (x7 - 1))).f3)).bind fun t219 => (impl_isTop.j1 k x0 x7 x5 x6 x7 t219 ((rd_T78 x5 x7).f0) ((rd_T78 x5 x7).f1) ((rd_T78 x5 x7).f2) ((rd_T78 x5 x7).f3))) else (none)) else (none)) else (impl_isTop.j1 k x0 x7 x5 x6 x7 false ((rd_T78 x5 x7).f0) ((rd_T78 x5 x7).f1) ((rd_T78 x5 x7).f2) ((rd_T78 x5 x7).f3)))) else (impl_isTop.j1 k x0 x7 x5 x6 x7 true ((rd_T78 x5 x7).f0) ((rd_T78 x5 x7).f1) ((rd_T78 x5 x7).f2) ((rd_T78 x5 x7).f3)))) else (none)) else (none)) else (some ((x0.length : Int) == 8))
def impl_isTop.j1 : Nat → List (S78) → Int → List (S78) → Int → Int → Bool → Bool → Int → Int → ByteArray → Option (Bool)
 | 0, _, _, _, _, _, _, _, _, _, _ => none
 | k + 1, x0, x3, x5, x6, x7, x32, x217000, x217001, x217002, x217003 => if x32 = true then (some false) else (if x217000 = true then (if 0 ≤ x3 then (if x3 ≤ (x0.length : Int) then ((impl_Rec_124.f (x0.take (x3 : Int).toNat) x217000 x217001 x217002 x217003).bind fun t224 => (if t224 = true then (some false) else (impl_isTop.l0 k x0 x5 x6 (wrap64 (x7 + 1))))) else (none)) else (none)) else (impl_isTop.l0 k x0 x5 x6 (wrap64 (x7 + 1))))
end
def impl_isTop.f (k : Nat) (l0 : List (S78)) : Option (Bool) := impl_isTop.l0 k l0 l0 (l0.length : Int) 0
def impl_isTop.T4 : Bool × List (List Nat × List Nat) := (true, [([], []), ([0], [0]), ([1], [1]), ([2, 1], [2]), ([3], [3]), ([4, 3], [3, 4]), ([5, 3], [3, 5]), ([3, 6], [3, 6]), ([7, 3], [7]), ([8], [8]), ([9, 8], [8, 9]), ([10, 8, 8], [8, 10]), ([11], [11]), ([11], [11]), ([11], [11]), ([14, 11], [11, 14]), ([13, 15, 11], [11, 13, 15]), ([16, 11], [11, 16]), ([12, 17, 11, 11], [11, 12, 17]), ([11, 18, 8], [8, 11, 18]), ([8, 19], [8, 19])])
def impl_isTop.B4 : List Nat := [0, 1, 3, 7, 15, 31, 63, 127, 255, 511, 1023, 2047, 4095, 4095, 4095, 20479, 61439, 126975, 262143, 524287, 1048575]
theorem impl_isTop.tab4 : rtab .any (opsOf Tryd.f89 4) = impl_isTop.T4 := by kernel_rfl
theorem impl_isTop.bits4 : waitsOk impl_isTop.T4.2 impl_isTop.B4 = true := by kernel_rfl
set_option maxHeartbeats 8000000 in
set_option maxRecDepth 100000 in
theorem impl_isTop.calls (k : Nat) (A0 : Option Addr) (c0 : Nat) (l0 : List (S78)) (r : Bool) (w : World) (hr0 : Kd.C k78 w A0 l0.length l0) (hc0 : l0.length ≤ c0) (h : impl_isTop.f k l0 = some r) :
  Calls Tryd.prog 89 #[.slice A0 l0.length c0] w fun e w' => e = .returned (.bool r) ∧ Below w.heap.size w w' := by
 (have hu78 := Tryd.underlying78); (have HR0 := Aside0.mk hr0); (have HC0 := Aside0.mk hc0); clear hr0 hc0; (have HB := Aside0.mk (Below.refl w.heap.size w)); (have H : (impl_isTop.l0 k l0 l0 (l0.length : Int) 0) = some r := h); clear h; (have H' := Aside0.mk H); clear H
 go_enter Tryd.func89, Tryd.ntmps89
 go_wp2
 go_loopg [7] k (fun kq v7 w' => ∃ (x7_1 : Int), v7 = .int .i64 x7_1 ∧ Aside0 (impl_isTop.l0 kq l0 l0 (l0.length : Int) x7_1 = some r) ∧ Aside0 (kq ≤ k) ∧ Aside0 (Below w.heap.size w w'))
 case atStart => exact ⟨(0), (by first | rfl | (simp; done) | (simp [*]; done)), H', ⟨Nat.le_refl _⟩, ⟨by repeat (first | (with_reducible first | exact HB.out | apply below_alloc | apply pw_below_drewN | apply below_drew1) | exact HB.out)⟩⟩
 case round =>
  clear H'; (obtain ⟨x7_1, rfl, HA, HK1, HB⟩ := hrel)
  cases gk with
  | zero => exact absurd HA.out (by simp [impl_isTop.l0])
  | succ k1 =>
   (have H := HA.out); clear HA; (simp only [impl_isTop.l0] at H)
   by_cases c2 : x7_1 < (l0.length : Int)
   ·rw [if_pos c2] at H
    (have c2b0 : decide (x7_1 < (l0.length : Int)) = true := decide_eq_true c2); clear c2
    by_cases c3 : 0 ≤ x7_1
    ·rw [if_pos c3] at H
     (have c3b0 : decide (0 ≤ x7_1) = true := decide_eq_true c3); clear c3
     by_cases c4 : x7_1 < (l0.length : Int)
     ·rw [if_pos c4] at H
      (have c4b0 : decide (x7_1 < (l0.length : Int)) = true := decide_eq_true c4); clear c4; (have HC5 := Aside0.mk H); clear H; (have p215 : 0 ≤ (x7_1 : Int) := of_decide_eq_true (by first | (with_reducible assumption) | assumption)); (have q215 : x7_1 < (l0.length : Int) := of_decide_eq_true (by first | (with_reducible assumption) | assumption)); (obtain ⟨ad215, e215, hx215_0, hx215_1, hx215_2, hx215_3⟩ := at_T78 HR0.out x7_1 p215 q215)
      cases e215
      (replace hx215_0 := (HB.out.cell (World.block_lt_of_cell? w _ hx215_0)).trans hx215_0); (replace hx215_1 := (HB.out.cell (World.block_lt_of_cell? w _ hx215_1)).trans hx215_1); (replace hx215_2 := (HB.out.cell (World.block_lt_of_cell? w _ hx215_2)).trans hx215_2); (replace hx215_3 := (HB.out.cell (World.block_lt_of_cell? w _ hx215_3)).trans hx215_3); (replace p215 := eq_true p215); (replace q215 := eq_true q215)
      go_upto_region 4 with (first | ((with_reducible refine gate_dst (N := 4) rfl ?_); refine box_event ?hg (N := 4) ?hd (cs := #[.bool false, .int .i64 0, .int .i64 0, .string (⟨#[]⟩ : ByteArray)]) (t := 78) ?hr ?_; (case hd => rfl); (case hg => rfl); (case hr => first | (go_simp; done) | (go_simp; rfl)); intro gb216 hg w6 hbox hb; have n0_ := Aside0.mk (below_step (by repeat (first | (with_reducible first | exact HB.out | apply below_alloc | apply pw_below_drewN | apply below_drew1) | exact HB.out)) hb); have n1_ := Aside0.mk (hbox); have n2_ := Aside0.mk ((by rw [hg]; exact (below_size (by repeat (first | (with_reducible first | exact HB.out | apply below_alloc | apply pw_below_drewN | apply below_drew1) | exact HB.out))) : w.heap.size ≤ gb216)); have n3_ := Aside0.mk ((by rw [hg]; exact (below_size (by repeat (first | (with_reducible first | exact HB.out | apply below_alloc | apply pw_below_drewN | apply below_drew1) | exact HB.out))) : w.heap.size ≤ gb216)); clear HB; have HB := n0_; have BK216 := n1_; have GW216 := n2_; have GE216 := n3_; clear n0_ n1_ n2_ n3_ hb hbox hg; have hcz7_0 : w6.cell? ⟨gb216, 0, none⟩ = some (.bool false) := (blk_cell BK216.out 0).trans rfl; have hcz7_1 : w6.cell? ⟨gb216, 1, none⟩ = some (.int .i64 0) := (blk_cell BK216.out 1).trans rfl; have hcz7_2 : w6.cell? ⟨gb216, 2, none⟩ = some (.int .i64 0) := (blk_cell BK216.out 2).trans rfl; have hcz7_3 : w6.cell? ⟨gb216, 3, none⟩ = some (.string (⟨#[]⟩ : ByteArray)) := (blk_cell BK216.out 3).trans rfl; have hfz7_0 := blk_frozen BK216.out 0; have hfz7_1 := blk_frozen BK216.out 1; have hfz7_2 := blk_frozen BK216.out 2; have hfz7_3 := blk_frozen BK216.out 3))
      (try simp only [Act.put, List.setIfInBounds_toArray, List.set_cons_zero, List.set_cons_succ])
      go_cut [32] (fun v32 wc => ∃ (kq : Nat) (x32_4 : Bool), v32 = .bool x32_4 ∧ Aside0 (impl_isTop.j1 kq l0 x7_1 l0 (l0.length : Int) x7_1 x32_4 ((rd_T78 l0 x7_1).f0) ((rd_T78 l0 x7_1).f1) ((rd_T78 l0 x7_1).f2) ((rd_T78 l0 x7_1).f3) = some r) ∧ Aside0 (kq ≤ k1) ∧ Aside0 (wc.heap[gb216]? = some (.cells #[.bool ((rd_T78 l0 x7_1).f0), .int .i64 ((rd_T78 l0 x7_1).f1), .int .i64 ((rd_T78 l0 x7_1).f2), .string ((rd_T78 l0 x7_1).f3)] 78 (0, 0))) ∧ Aside0 (Below w.heap.size w wc))
      case first =>
       (have H := HC5.out); clear HC5; (replace H := Option.bind_eq_some_iff.mp H); (obtain ⟨t217, A80, H⟩ := H); (replace H : (if t217 = true then (if ((rd_T78 l0 x7_1).f1) > 3 then (impl_isTop.j1 k1 l0 x7_1 l0 (l0.length : Int) x7_1 true ((rd_T78 l0 x7_1).f0) ((rd_T78 l0 x7_1).f1) ((rd_T78 l0 x7_1).f2) ((rd_T78 l0 x7_1).f3)) else (if x7_1 > 0 then (if 0 ≤ (wrap64 (x7_1 - 1)) then (if (wrap64 (x7_1 - 1)) < (l0.length : Int) then ((impl_isAhead.f k1 ((rd_T78 l0 x7_1).f0) ((rd_T78 l0 x7_1).f1) ((rd_T78 l0 x7_1).f2) ((rd_T78 l0 x7_1).f3) ((rd_T78 l0 (wrap64 (x7_1 - 1))).f0) ((rd_T78 l0 (wrap64 (x7_1 - 1))).f1) ((rd_T78 l0 (wrap64 (x7_1 - 1))).f2) ((rd_T78 l0 (wrap64 (x7_1 - 1))).f3)).bind fun t219 => (impl_isTop.j1 k1 l0 x7_1 l0 (l0.length : Int) x7_1 t219 ((rd_T78 l0 x7_1).f0) ((rd_T78 l0 x7_1).f1) ((rd_T78 l0 x7_1).f2) ((rd_T78 l0 x7_1).f3))) else (none)) else (none)) else (impl_isTop.j1 k1 l0 x7_1 l0 (l0.length : Int) x7_1 false ((rd_T78 l0 x7_1).f0) ((rd_T78 l0 x7_1).f1) ((rd_T78 l0 x7_1).f2) ((rd_T78 l0 x7_1).f3)))) else (impl_isTop.j1 k1 l0 x7_1 l0 (l0.length : Int) x7_1 true ((rd_T78 l0 x7_1).f0) ((rd_T78 l0 x7_1).f1) ((rd_T78 l0 x7_1).f2) ((rd_T78 l0 x7_1).f3))) = some r := H); (have A8 := Aside0.mk A80); clear A80
       by_cases c9 : t217 = true
       ·subst c9
        (have H1 : (if ((rd_T78 l0 x7_1).f1) > 3 then (impl_isTop.j1 k1 l0 x7_1 l0 (l0.length : Int) x7_1 true ((rd_T78 l0 x7_1).f0) ((rd_T78 l0 x7_1).f1) ((rd_T78 l0 x7_1).f2) ((rd_T78 l0 x7_1).f3)) else (if x7_1 > 0 then (if 0 ≤ (wrap64 (x7_1 - 1)) then (if (wrap64 (x7_1 - 1)) < (l0.length : Int) then ((impl_isAhead.f k1 ((rd_T78 l0 x7_1).f0) ((rd_T78 l0 x7_1).f1) ((rd_T78 l0 x7_1).f2) ((rd_T78 l0 x7_1).f3) ((rd_T78 l0 (wrap64 (x7_1 - 1))).f0) ((rd_T78 l0 (wrap64 (x7_1 - 1))).f1) ((rd_T78 l0 (wrap64 (x7_1 - 1))).f2) ((rd_T78 l0 (wrap64 (x7_1 - 1))).f3)).bind fun t219 => (impl_isTop.j1 k1 l0 x7_1 l0 (l0.length : Int) x7_1 t219 ((rd_T78 l0 x7_1).f0) ((rd_T78 l0 x7_1).f1) ((rd_T78 l0 x7_1).f2) ((rd_T78 l0 x7_1).f3))) else (none)) else (none)) else (impl_isTop.j1 k1 l0 x7_1 l0 (l0.length : Int) x7_1 false ((rd_T78 l0 x7_1).f0) ((rd_T78 l0 x7_1).f1) ((rd_T78 l0 x7_1).f2) ((rd_T78 l0 x7_1).f3)))) = some r := by rw [if_pos rfl] at H; exact H); clear H; (have H := H1); clear H1
        by_cases c10 : ((rd_T78 l0 x7_1).f1) > 3
        ·rw [if_pos c10] at H
         (have c10b0 : decide (3 < ((rd_T78 l0 x7_1).f1)) = true := decide_eq_true c10); clear c10
         (first | rw [c10b0] | (simp only [i64_w, i32_w]; rw [c10b0]) | skip)
         (have H' := Aside0.mk H); clear H
         try go_wp2
         (have n0_ : Aside0 (((((w6.setCell ⟨gb216, 0, none⟩ (.bool ((rd_T78 l0 x7_1).f0))).setCell ⟨gb216, 1, none⟩ (.int .i64 ((rd_T78 l0 x7_1).f1))).setCell ⟨gb216, 2, none⟩ (.int .i64 ((rd_T78 l0 x7_1).f2))).setCell ⟨gb216, 3, none⟩ (.string ((rd_T78 l0 x7_1).f3))).heap[gb216]? = some (.cells #[.bool ((rd_T78 l0 x7_1).f0), .int .i64 ((rd_T78 l0 x7_1).f1), .int .i64 ((rd_T78 l0 x7_1).f2), .string ((rd_T78 l0 x7_1).f3)] 78 (0, 0))) := ⟨by (with_reducible repeat (first | refine blk_drewN ?_ _ | refine blk_drew ?_ | refine blk_alloc ?_ _)); refine blk_put (cs := #[.bool ((rd_T78 l0 x7_1).f0), .int .i64 ((rd_T78 l0 x7_1).f1), .int .i64 ((rd_T78 l0 x7_1).f2), .string (⟨#[]⟩ : ByteArray)]) ?_ 3 _ rfl; (with_reducible repeat (first | refine blk_drewN ?_ _ | refine blk_drew ?_ | refine blk_alloc ?_ _)); refine blk_put (cs := #[.bool ((rd_T78 l0 x7_1).f0), .int .i64 ((rd_T78 l0 x7_1).f1), .int .i64 0, .string (⟨#[]⟩ : ByteArray)]) ?_ 2 _ rfl; (with_reducible repeat (first | refine blk_drewN ?_ _ | refine blk_drew ?_ | refine blk_alloc ?_ _)); refine blk_put (cs := #[.bool ((rd_T78 l0 x7_1).f0), .int .i64 0, .int .i64 0, .string (⟨#[]⟩ : ByteArray)]) ?_ 1 _ rfl; (with_reducible repeat (first | refine blk_drewN ?_ _ | refine blk_drew ?_ | refine blk_alloc ?_ _)); refine blk_put (cs := #[.bool false, .int .i64 0, .int .i64 0, .string (⟨#[]⟩ : ByteArray)]) ?_ 0 _ rfl; (with_reducible repeat (first | refine blk_drewN ?_ _ | refine blk_drew ?_ | refine blk_alloc ?_ _)); exact BK216.out⟩); (have n1_ : Aside0 (Below w.heap.size w ((((w6.setCell ⟨gb216, 0, none⟩ (.bool ((rd_T78 l0 x7_1).f0))).setCell ⟨gb216, 1, none⟩ (.int .i64 ((rd_T78 l0 x7_1).f1))).setCell ⟨gb216, 2, none⟩ (.int .i64 ((rd_T78 l0 x7_1).f2))).setCell ⟨gb216, 3, none⟩ (.string ((rd_T78 l0 x7_1).f3)))) := ⟨by repeat (first | (with_reducible first | exact HB.out | apply below_alloc | apply pw_below_drewN | apply below_drew1 | refine below_set ?_ GE216.out) | exact HB.out)⟩); (try clear BK216); (try clear HB)
         generalize ((((w6.setCell ⟨gb216, 0, none⟩ (.bool ((rd_T78 l0 x7_1).f0))).setCell ⟨gb216, 1, none⟩ (.int .i64 ((rd_T78 l0 x7_1).f1))).setCell ⟨gb216, 2, none⟩ (.int .i64 ((rd_T78 l0 x7_1).f2))).setCell ⟨gb216, 3, none⟩ (.string ((rd_T78 l0 x7_1).f3))) = w11 at n0_ n1_ ⊢
         (have BK216 := n0_); (have HB := n1_); clear n0_ n1_; (have n0_ := Aside0.mk (blk_drew BK216.out)); (have n1_ := Aside0.mk (below_drew1 HB.out)); clear BK216 HB; (have BK216 := n0_); (have HB := n1_); clear n0_ n1_
         refine start_ (n := 21) (S := fun w' => w'.cell? ⟨gb216, 0, none⟩ = some (.bool ((rd_T78 l0 x7_1).f0)) ∧ w'.cell? ⟨gb216, 1, none⟩ = some (.int .i64 ((rd_T78 l0 x7_1).f1)) ∧ w'.cell? ⟨gb216, 2, none⟩ = some (.int .i64 ((rd_T78 l0 x7_1).f2)) ∧ w'.cell? ⟨gb216, 3, none⟩ = some (.string ((rd_T78 l0 x7_1).f3))) (ds := []) #[false, false, false, false, false, false, false, false, false, false, false, false, false, false, false, false, false, false, false, false, false] (by kernel_rfl) rfl rfl ⟨(blk_cell BK216.out 0).trans rfl, (blk_cell BK216.out 1).trans rfl, (blk_cell BK216.out 2).trans rfl, (blk_cell BK216.out 3).trans rfl⟩ (fun hHeld => ?_); refine with_tabW impl_isTop.tab4 impl_isTop.bits4 (fun HT_ HW_ => ?_)
         generalize w11.drew = w12 at BK216 HB hHeld ⊢
         refine take_ (i := 0) (N := some 12) (v := ?_) (a' := ?_) #[true, false, false, false, false, false, false, false, false, false, false, false, false, false, false, false, false, false, false, false, false] rfl rfl (take_ofW HT_.out HW_.out (by kernel_rfl)) (fun _ _ _ h => h) (Or.inl ⟨by rfl, ?_⟩) hHeld ?_ ?_
         rotate_left
         ·rintro w' ⟨s0, s1, s2, s3⟩
          go_simp
          with_reducible rfl
         rotate_left
         ·simp only [Act.put, List.setIfInBounds_toArray, List.set_cons_zero, List.set_cons_succ, i64_w, i32_w]
          rfl
         refine one_ (i := 1) (N := some 13) #[true, true, false, false, false, false, false, false, false, false, false, false, false, false, false, false, false, false, false, false, false] rfl rfl (one_of HT_.out (by kernel_rfl)) (by decide) (fun K hK => ?_)
         refine goes_ Tryd.func122 (by kernel_rfl) rfl #[.agg #[.bool ((rd_T78 l0 x7_1).f0), .int .i64 ((rd_T78 l0 x7_1).f1), .int .i64 ((rd_T78 l0 x7_1).f2), .string ((rd_T78 l0 x7_1).f3)]] (by rfl) rfl rfl (by (try simp only [List.map_toArray, List.map_cons, List.map_nil]); first | done | rfl | (simp only [List.length_drop, List.length_take]; rfl)) ?_
         with_reducible refine (impl_isRec.calls k1 ((rd_T78 l0 x7_1).f0) ((rd_T78 l0 x7_1).f1) ((rd_T78 l0 x7_1).f2) ((rd_T78 l0 x7_1).f3) true _ A8.out).mono ?_
         rintro e w13 ⟨rfl, hb⟩
         refine ⟨_, rfl, ?_⟩
         (have n0_ := Aside0.mk (blk_below (g := gb216) (o := .cells #[.bool ((rd_T78 l0 x7_1).f0), .int .i64 ((rd_T78 l0 x7_1).f1), .int .i64 ((rd_T78 l0 x7_1).f2), .string ((rd_T78 l0 x7_1).f3)] 78 (0, 0)) (by (with_reducible repeat (first | refine blk_drewN ?_ _ | refine blk_drew ?_ | refine blk_alloc ?_ _)); exact BK216.out) hb)); (have n1_ := Aside0.mk (below_step (by repeat (first | (with_reducible first | exact HB.out | apply below_alloc | apply pw_below_drewN | apply below_drew1 | refine below_set ?_ GE216.out) | exact HB.out)) hb)); clear BK216 HB; (have BK216 := n0_); (have HB := n1_); clear n0_ n1_; (try clear hb); (try clear hb2); (try clear hk); (try clear hi)
         refine hK.out _ _ ⟨(blk_cell BK216.out 0).trans rfl, (blk_cell BK216.out 1).trans rfl, (blk_cell BK216.out 2).trans rfl, (blk_cell BK216.out 3).trans rfl⟩ (fun hHeld => ?_)
         clear hK K
         refine norm_ (a' := ?_) ?_ ?_
         rotate_left
         ·show Act.put _ (some 13) _ = _
          simp only [Act.put, List.setIfInBounds_toArray, List.set_cons_zero, List.set_cons_succ, i64_w, i32_w]
          rfl
         refine pure_ (i := 2) (N := some 14) (v := ?_) (a' := ?_) #[true, true, true, false, false, false, false, false, false, false, false, false, false, false, false, false, false, false, false, false, false] rfl rfl (any_of HT_.out (by kernel_rfl)) (fun _ _ _ h => h) (Or.inl ⟨by rfl, ?_⟩) ?_ ?_
         rotate_left
         ·intro w'
          go_simp
          with_reducible rfl
         rotate_left
         ·simp only [Act.put, List.setIfInBounds_toArray, List.set_cons_zero, List.set_cons_succ, i64_w, i32_w]
          rfl
         refine pure_ (i := 3) (N := some 15) (v := ?_) (a' := ?_) #[true, true, true, true, false, false, false, false, false, false, false, false, false, false, false, false, false, false, false, false, false] rfl rfl (any_of HT_.out (by kernel_rfl)) (fun _ _ _ h => h) (Or.inl ⟨by rfl, ?_⟩) ?_ ?_
         rotate_left
         ·intro w'
          go_simp
          with_reducible rfl
         rotate_left
         ·simp only [Act.put, List.setIfInBounds_toArray, List.set_cons_zero, List.set_cons_succ, i64_w, i32_w]
          rfl
         refine pure_ (i := 4) (N := some 16) (v := ?_) (a' := ?_) #[true, true, true, true, true, false, false, false, false, false, false, false, false, false, false, false, false, false, false, false, false] rfl rfl (any_of HT_.out (by kernel_rfl)) (fun _ _ _ h => h) (Or.inl ⟨by rfl, ?_⟩) ?_ ?_
         rotate_left
         ·intro w'
          go_simp
          with_reducible rfl
         rotate_left
         ·simp only [Act.put, List.setIfInBounds_toArray, List.set_cons_zero, List.set_cons_succ, i64_w, i32_w]
          rfl
         refine take_ (i := 5) (N := some 17) (v := ?_) (a' := ?_) #[true, true, true, true, true, true, false, false, false, false, false, false, false, false, false, false, false, false, false, false, false] rfl rfl (take_ofW HT_.out HW_.out (by kernel_rfl)) (fun _ _ _ h => h) (Or.inl ⟨by rfl, ?_⟩) hHeld ?_ ?_
         rotate_left
         ·rintro w' ⟨s0, s1, s2, s3⟩
          go_simp
          with_reducible rfl
         rotate_left
         ·simp only [Act.put, List.setIfInBounds_toArray, List.set_cons_zero, List.set_cons_succ, i64_w, i32_w]
          rfl
         refine pure_ (i := 6) (N := some 18) (v := ?_) (a' := ?_) #[true, true, true, true, true, true, true, false, false, false, false, false, false, false, false, false, false, false, false, false, false] rfl rfl (any_of HT_.out (by kernel_rfl)) (fun _ _ _ h => h) (Or.inl ⟨by rfl, ?_⟩) ?_ ?_
         rotate_left
         ·intro w'
          go_simp
          with_reducible rfl
         rotate_left
         ·simp only [Act.put, List.setIfInBounds_toArray, List.set_cons_zero, List.set_cons_succ, i64_w, i32_w]
          rfl
         refine pure_ (i := 7) (N := some 19) (v := ?_) (a' := ?_) #[true, true, true, true, true, true, true, true, false, false, false, false, false, false, false, false, false, false, false, false, false] rfl rfl (any_of HT_.out (by kernel_rfl)) (fun _ _ _ h => h) (Or.inl ⟨by rfl, ?_⟩) ?_ ?_
         rotate_left
         ·intro w'
          go_simp
          with_reducible rfl
         rotate_left
         ·simp only [Act.put, List.setIfInBounds_toArray, List.set_cons_zero, List.set_cons_succ, i64_w, i32_w]
          rfl
         refine pure_ (i := 8) (N := some 20) (v := ?_) (a' := ?_) #[true, true, true, true, true, true, true, true, true, false, false, false, false, false, false, false, false, false, false, false, false] rfl rfl (any_of HT_.out (by kernel_rfl)) (fun _ _ _ h => h) (Or.inl ⟨by rfl, ?_⟩) ?_ ?_
         rotate_left
         ·intro w'
          go_simp
          with_reducible rfl
         rotate_left
         ·simp only [Act.put, List.setIfInBounds_toArray, List.set_cons_zero, List.set_cons_succ, i64_w, i32_w]
          rfl
         refine pure_ (i := 9) (N := some 21) (v := undef) (a' := ?_) #[true, true, true, true, true, true, true, true, true, true, false, false, false, false, false, false, false, false, false, false, false] rfl rfl (any_of HT_.out (by kernel_rfl)) (fun _ _ _ h => h) (Or.inr ⟨by rfl, rfl⟩) ?_ ?_
         rotate_left
         ·simp only [Act.put, List.setIfInBounds_toArray, List.set_cons_zero, List.set_cons_succ, i64_w, i32_w]
          rfl
         refine pure_ (i := 10) (N := some 22) (v := undef) (a' := ?_) #[true, true, true, true, true, true, true, true, true, true, true, false, false, false, false, false, false, false, false, false, false] rfl rfl (any_of HT_.out (by kernel_rfl)) (fun _ _ _ h => h) (Or.inr ⟨by rfl, rfl⟩) ?_ ?_
         rotate_left
         ·simp only [Act.put, List.setIfInBounds_toArray, List.set_cons_zero, List.set_cons_succ, i64_w, i32_w]
          rfl
         refine pure_ (i := 11) (N := some 23) (v := undef) (a' := ?_) #[true, true, true, true, true, true, true, true, true, true, true, true, false, false, false, false, false, false, false, false, false] rfl rfl (any_of HT_.out (by kernel_rfl)) (fun _ _ _ h => h) (Or.inr ⟨by rfl, rfl⟩) ?_ ?_
         rotate_left
         ·simp only [Act.put, List.setIfInBounds_toArray, List.set_cons_zero, List.set_cons_succ, i64_w, i32_w]
          rfl
         refine pure_ (i := 12) (N := some 24) (v := undef) (a' := ?_) #[true, true, true, true, true, true, true, true, true, true, true, true, true, false, false, false, false, false, false, false, false] rfl rfl (any_of HT_.out (by kernel_rfl)) (fun _ _ _ h => h) (Or.inr ⟨by rfl, rfl⟩) ?_ ?_
         rotate_left
         ·simp only [Act.put, List.setIfInBounds_toArray, List.set_cons_zero, List.set_cons_succ, i64_w, i32_w]
          rfl
         refine pure_ (i := 13) (N := some 25) (v := undef) (a' := ?_) #[true, true, true, true, true, true, true, true, true, true, true, true, true, true, false, false, false, false, false, false, false] rfl rfl (any_of HT_.out (by kernel_rfl)) (fun _ _ _ h => h) (Or.inr ⟨by rfl, rfl⟩) ?_ ?_
         rotate_left
         ·simp only [Act.put, List.setIfInBounds_toArray, List.set_cons_zero, List.set_cons_succ, i64_w, i32_w]
          rfl
         refine pure_ (i := 14) (N := some 26) (v := undef) (a' := ?_) #[true, true, true, true, true, true, true, true, true, true, true, true, true, true, true, false, false, false, false, false, false] rfl rfl (any_of HT_.out (by kernel_rfl)) (fun _ _ _ h => h) (Or.inr ⟨by rfl, rfl⟩) ?_ ?_
         rotate_left
         ·simp only [Act.put, List.setIfInBounds_toArray, List.set_cons_zero, List.set_cons_succ, i64_w, i32_w]
          rfl
         refine pure_ (i := 15) (N := some 27) (v := undef) (a' := ?_) #[true, true, true, true, true, true, true, true, true, true, true, true, true, true, true, true, false, false, false, false, false] rfl rfl (any_of HT_.out (by kernel_rfl)) (fun _ _ _ h => h) (Or.inr ⟨by rfl, rfl⟩) ?_ ?_
         rotate_left
         ·simp only [Act.put, List.setIfInBounds_toArray, List.set_cons_zero, List.set_cons_succ, i64_w, i32_w]
          rfl
         refine pure_ (i := 16) (N := some 28) (v := undef) (a' := ?_) #[true, true, true, true, true, true, true, true, true, true, true, true, true, true, true, true, true, false, false, false, false] rfl rfl (any_of HT_.out (by kernel_rfl)) (fun _ _ _ h => h) (Or.inr ⟨by rfl, rfl⟩) ?_ ?_
         rotate_left
         ·simp only [Act.put, List.setIfInBounds_toArray, List.set_cons_zero, List.set_cons_succ, i64_w, i32_w]
          rfl
         refine pure_ (i := 17) (N := some 29) (v := undef) (a' := ?_) #[true, true, true, true, true, true, true, true, true, true, true, true, true, true, true, true, true, true, false, false, false] rfl rfl (any_of HT_.out (by kernel_rfl)) (fun _ _ _ h => h) (Or.inr ⟨by rfl, rfl⟩) ?_ ?_
         rotate_left
         ·simp only [Act.put, List.setIfInBounds_toArray, List.set_cons_zero, List.set_cons_succ, i64_w, i32_w]
          rfl
         refine pure_ (i := 18) (N := some 30) (v := undef) (a' := ?_) #[true, true, true, true, true, true, true, true, true, true, true, true, true, true, true, true, true, true, true, false, false] rfl rfl (any_of HT_.out (by kernel_rfl)) (fun _ _ _ h => h) (Or.inr ⟨by rfl, rfl⟩) ?_ ?_
         rotate_left
         ·simp only [Act.put, List.setIfInBounds_toArray, List.set_cons_zero, List.set_cons_succ, i64_w, i32_w]
          rfl
         refine pure_ (i := 19) (N := some 31) (v := undef) (a' := ?_) #[true, true, true, true, true, true, true, true, true, true, true, true, true, true, true, true, true, true, true, true, false] rfl rfl (any_of HT_.out (by kernel_rfl)) (fun _ _ _ h => h) (Or.inr ⟨by rfl, rfl⟩) ?_ ?_
         rotate_left
         ·simp only [Act.put, List.setIfInBounds_toArray, List.set_cons_zero, List.set_cons_succ, i64_w, i32_w]
          rfl
         refine pure_ (i := 20) (N := some 32) (v := ?_) (a' := ?_) #[true, true, true, true, true, true, true, true, true, true, true, true, true, true, true, true, true, true, true, true, true] rfl rfl (any_of HT_.out (by kernel_rfl)) (fun _ _ _ h => h) (Or.inl ⟨by rfl, ?_⟩) ?_ ?_
         rotate_left
         ·intro w'
          go_simp
          with_reducible rfl
         rotate_left
         ·simp only [Act.put, List.setIfInBounds_toArray, List.set_cons_zero, List.set_cons_succ, i64_w, i32_w]
          rfl
         refine done_ (done_of HT_.out (by kernel_rfl)) ?_
         try go_wp2
         go_meet
         case rel => exact ⟨_, (true), (by first | rfl | (simp; done) | (simp [*]; done)), H', ⟨by have := HK1.out; first | omega | exact Nat.le_refl _⟩, ⟨by (with_reducible repeat (first | refine blk_drewN ?_ _ | refine blk_drew ?_ | refine blk_alloc ?_ _)); exact BK216.out⟩, ⟨by repeat (first | (with_reducible first | exact HB.out | apply below_alloc | apply pw_below_drewN | apply below_drew1 | refine below_set ?_ GE216.out) | exact HB.out)⟩⟩
        ·rw [if_neg c10] at H
         (have c10b0 : decide (3 < ((rd_T78 l0 x7_1).f1)) = false := decide_eq_false c10); clear c10
         (first | rw [c10b0] | (simp only [i64_w, i32_w]; rw [c10b0]) | skip)
         by_cases c14 : x7_1 > 0
         ·rw [if_pos c14] at H
          (have c14b0 : decide (0 < x7_1) = true := decide_eq_true c14); clear c14; (obtain ⟨ji15, hji15⟩ : ∃ j_ : Int, (wrap64 (x7_1 - 1)) = j_ := ⟨_, rfl⟩); (replace H : (if 0 ≤ (ji15) then (if (ji15) < (l0.length : Int) then ((impl_isAhead.f k1 ((rd_T78 l0 x7_1).f0) ((rd_T78 l0 x7_1).f1) ((rd_T78 l0 x7_1).f2) ((rd_T78 l0 x7_1).f3) ((rd_T78 l0 (ji15)).f0) ((rd_T78 l0 (ji15)).f1) ((rd_T78 l0 (ji15)).f2) ((rd_T78 l0 (ji15)).f3)).bind fun t219 => (impl_isTop.j1 k1 l0 x7_1 l0 (l0.length : Int) x7_1 t219 ((rd_T78 l0 x7_1).f0) ((rd_T78 l0 x7_1).f1) ((rd_T78 l0 x7_1).f2) ((rd_T78 l0 x7_1).f3))) else (none)) else (none)) = some r := by first | (rw [hji15] at H; exact H) | (simp only [hji15] at H ⊢; exact H)); (try rw [hji15] at A8); (have hji15w : (IntKind.i64.wrap (x7_1 - 1)) = ji15 := (i64_w _).trans hji15)
          by_cases c16 : 0 ≤ (ji15)
          ·rw [if_pos c16] at H
           (have c16b0 : decide (0 ≤ (ji15)) = true := decide_eq_true c16); clear c16
           by_cases c17 : (ji15) < (l0.length : Int)
           ·rw [if_pos c17] at H
            (have c17b0 : decide ((ji15) < (l0.length : Int)) = true := decide_eq_true c17); clear c17; (replace H := Option.bind_eq_some_iff.mp H); (obtain ⟨t219, A180, H⟩ := H); (replace H : (impl_isTop.j1 k1 l0 x7_1 l0 (l0.length : Int) x7_1 t219 ((rd_T78 l0 x7_1).f0) ((rd_T78 l0 x7_1).f1) ((rd_T78 l0 x7_1).f2) ((rd_T78 l0 x7_1).f3)) = some r := H); (have A18 := Aside0.mk A180); clear A180; (have H' := Aside0.mk H); clear H
            try go_wp2
            (have n0_ : Aside0 (((((w6.setCell ⟨gb216, 0, none⟩ (.bool ((rd_T78 l0 x7_1).f0))).setCell ⟨gb216, 1, none⟩ (.int .i64 ((rd_T78 l0 x7_1).f1))).setCell ⟨gb216, 2, none⟩ (.int .i64 ((rd_T78 l0 x7_1).f2))).setCell ⟨gb216, 3, none⟩ (.string ((rd_T78 l0 x7_1).f3))).heap[gb216]? = some (.cells #[.bool ((rd_T78 l0 x7_1).f0), .int .i64 ((rd_T78 l0 x7_1).f1), .int .i64 ((rd_T78 l0 x7_1).f2), .string ((rd_T78 l0 x7_1).f3)] 78 (0, 0))) := ⟨by (with_reducible repeat (first | refine blk_drewN ?_ _ | refine blk_drew ?_ | refine blk_alloc ?_ _)); refine blk_put (cs := #[.bool ((rd_T78 l0 x7_1).f0), .int .i64 ((rd_T78 l0 x7_1).f1), .int .i64 ((rd_T78 l0 x7_1).f2), .string (⟨#[]⟩ : ByteArray)]) ?_ 3 _ rfl; (with_reducible repeat (first | refine blk_drewN ?_ _ | refine blk_drew ?_ | refine blk_alloc ?_ _)); refine blk_put (cs := #[.bool ((rd_T78 l0 x7_1).f0), .int .i64 ((rd_T78 l0 x7_1).f1), .int .i64 0, .string (⟨#[]⟩ : ByteArray)]) ?_ 2 _ rfl; (with_reducible repeat (first | refine blk_drewN ?_ _ | refine blk_drew ?_ | refine blk_alloc ?_ _)); refine blk_put (cs := #[.bool ((rd_T78 l0 x7_1).f0), .int .i64 0, .int .i64 0, .string (⟨#[]⟩ : ByteArray)]) ?_ 1 _ rfl; (with_reducible repeat (first | refine blk_drewN ?_ _ | refine blk_drew ?_ | refine blk_alloc ?_ _)); refine blk_put (cs := #[.bool false, .int .i64 0, .int .i64 0, .string (⟨#[]⟩ : ByteArray)]) ?_ 0 _ rfl; (with_reducible repeat (first | refine blk_drewN ?_ _ | refine blk_drew ?_ | refine blk_alloc ?_ _)); exact BK216.out⟩); (have n1_ : Aside0 (Below w.heap.size w ((((w6.setCell ⟨gb216, 0, none⟩ (.bool ((rd_T78 l0 x7_1).f0))).setCell ⟨gb216, 1, none⟩ (.int .i64 ((rd_T78 l0 x7_1).f1))).setCell ⟨gb216, 2, none⟩ (.int .i64 ((rd_T78 l0 x7_1).f2))).setCell ⟨gb216, 3, none⟩ (.string ((rd_T78 l0 x7_1).f3)))) := ⟨by repeat (first | (with_reducible first | exact HB.out | apply below_alloc | apply pw_below_drewN | apply below_drew1 | refine below_set ?_ GE216.out) | exact HB.out)⟩); (try clear BK216); (try clear HB)
            generalize ((((w6.setCell ⟨gb216, 0, none⟩ (.bool ((rd_T78 l0 x7_1).f0))).setCell ⟨gb216, 1, none⟩ (.int .i64 ((rd_T78 l0 x7_1).f1))).setCell ⟨gb216, 2, none⟩ (.int .i64 ((rd_T78 l0 x7_1).f2))).setCell ⟨gb216, 3, none⟩ (.string ((rd_T78 l0 x7_1).f3))) = w19 at n0_ n1_ ⊢
            (have BK216 := n0_); (have HB := n1_); clear n0_ n1_; (have n0_ := Aside0.mk (blk_drew BK216.out)); (have n1_ := Aside0.mk (below_drew1 HB.out)); clear BK216 HB; (have BK216 := n0_); (have HB := n1_); clear n0_ n1_; (have p218 : 0 ≤ ((ji15) : Int) := of_decide_eq_true (by first | (with_reducible assumption) | assumption)); (have q218 : (ji15) < (l0.length : Int) := of_decide_eq_true (by first | (with_reducible assumption) | assumption)); (obtain ⟨ad218, e218, hx218_0, hx218_1, hx218_2, hx218_3⟩ := at_T78 HR0.out (ji15) p218 q218); (have hw218_3 := hx218_3); (have hw218_2 := hx218_2); (have hw218_1 := hx218_1); (have hw218_0 := hx218_0); (obtain rfl : ad215 = ad218 := (by injection e218)); (replace hx218_0 := (HB.out.cell (World.block_lt_of_cell? w _ hx218_0)).trans hx218_0); (replace hx218_1 := (HB.out.cell (World.block_lt_of_cell? w _ hx218_1)).trans hx218_1); (replace hx218_2 := (HB.out.cell (World.block_lt_of_cell? w _ hx218_2)).trans hx218_2); (replace hx218_3 := (HB.out.cell (World.block_lt_of_cell? w _ hx218_3)).trans hx218_3); (replace p218 := eq_true p218); (replace q218 := eq_true q218)
            refine start_ (n := 21) (S := fun w' => w'.cell? ⟨gb216, 0, none⟩ = some (.bool ((rd_T78 l0 x7_1).f0)) ∧ w'.cell? ⟨gb216, 1, none⟩ = some (.int .i64 ((rd_T78 l0 x7_1).f1)) ∧ w'.cell? ⟨gb216, 2, none⟩ = some (.int .i64 ((rd_T78 l0 x7_1).f2)) ∧ w'.cell? ⟨gb216, 3, none⟩ = some (.string ((rd_T78 l0 x7_1).f3)) ∧ w'.cell? (ad215.add (((ji15)).toNat * 4)) = some (.bool ((rd_T78 l0 (ji15)).f0)) ∧ w'.cell? ⟨(ad215.add (((ji15)).toNat * 4)).block, (ad215.add (((ji15)).toNat * 4)).off + 1, none⟩ = some (.int .i64 ((rd_T78 l0 (ji15)).f1)) ∧ w'.cell? ⟨(ad215.add (((ji15)).toNat * 4)).block, (ad215.add (((ji15)).toNat * 4)).off + 2, none⟩ = some (.int .i64 ((rd_T78 l0 (ji15)).f2)) ∧ w'.cell? ⟨(ad215.add (((ji15)).toNat * 4)).block, (ad215.add (((ji15)).toNat * 4)).off + 3, none⟩ = some (.string ((rd_T78 l0 (ji15)).f3))) (ds := []) #[false, false, false, false, false, false, false, false, false, false, false, false, false, false, false, false, false, false, false, false, false] (by kernel_rfl) rfl rfl ⟨(blk_cell BK216.out 0).trans rfl, (blk_cell BK216.out 1).trans rfl, (blk_cell BK216.out 2).trans rfl, (blk_cell BK216.out 3).trans rfl, ((HB.out.cell (World.block_lt_of_cell? w _ hw218_0)).trans hw218_0), ((HB.out.cell (World.block_lt_of_cell? w _ hw218_1)).trans hw218_1), ((HB.out.cell (World.block_lt_of_cell? w _ hw218_2)).trans hw218_2), ((HB.out.cell (World.block_lt_of_cell? w _ hw218_3)).trans hw218_3)⟩ (fun hHeld => ?_); refine with_tabW impl_isTop.tab4 impl_isTop.bits4 (fun HT_ HW_ => ?_)
            generalize w19.drew = w20 at BK216 HB hx218_0 hx218_1 hx218_2 hx218_3 hHeld ⊢
            refine take_ (i := 0) (N := some 12) (v := ?_) (a' := ?_) #[true, false, false, false, false, false, false, false, false, false, false, false, false, false, false, false, false, false, false, false, false] rfl rfl (take_ofW HT_.out HW_.out (by kernel_rfl)) (fun _ _ _ h => h) (Or.inl ⟨by rfl, ?_⟩) hHeld ?_ ?_
            rotate_left
            ·rintro w' ⟨s0, s1, s2, s3, s4, s5, s6, s7⟩
             go_simp
             with_reducible rfl
            rotate_left
            ·simp only [Act.put, List.setIfInBounds_toArray, List.set_cons_zero, List.set_cons_succ, i64_w, i32_w]
             rfl
            refine one_ (i := 1) (N := some 13) #[true, true, false, false, false, false, false, false, false, false, false, false, false, false, false, false, false, false, false, false, false] rfl rfl (one_of HT_.out (by kernel_rfl)) (by decide) (fun K hK => ?_)
            refine goes_ Tryd.func122 (by kernel_rfl) rfl #[.agg #[.bool ((rd_T78 l0 x7_1).f0), .int .i64 ((rd_T78 l0 x7_1).f1), .int .i64 ((rd_T78 l0 x7_1).f2), .string ((rd_T78 l0 x7_1).f3)]] (by rfl) rfl rfl (by (try simp only [List.map_toArray, List.map_cons, List.map_nil]); first | done | rfl | (simp only [List.length_drop, List.length_take]; rfl)) ?_
            with_reducible refine (impl_isRec.calls k1 ((rd_T78 l0 x7_1).f0) ((rd_T78 l0 x7_1).f1) ((rd_T78 l0 x7_1).f2) ((rd_T78 l0 x7_1).f3) true _ A8.out).mono ?_
            rintro e w21 ⟨rfl, hb⟩
            refine ⟨_, rfl, ?_⟩
            (have n0_ := Aside0.mk (blk_below (g := gb216) (o := .cells #[.bool ((rd_T78 l0 x7_1).f0), .int .i64 ((rd_T78 l0 x7_1).f1), .int .i64 ((rd_T78 l0 x7_1).f2), .string ((rd_T78 l0 x7_1).f3)] 78 (0, 0)) (by (with_reducible repeat (first | refine blk_drewN ?_ _ | refine blk_drew ?_ | refine blk_alloc ?_ _)); exact BK216.out) hb)); (have n1_ := Aside0.mk (below_step (by repeat (first | (with_reducible first | exact HB.out | apply below_alloc | apply pw_below_drewN | apply below_drew1 | refine below_set ?_ GE216.out) | exact HB.out)) hb)); clear BK216 HB; (have BK216 := n0_); (have HB := n1_); clear n0_ n1_; (try clear hb); (try clear hb2); (try clear hk); (try clear hi)
            refine hK.out _ _ ⟨(blk_cell BK216.out 0).trans rfl, (blk_cell BK216.out 1).trans rfl, (blk_cell BK216.out 2).trans rfl, (blk_cell BK216.out 3).trans rfl, ((HB.out.cell (World.block_lt_of_cell? w _ hw218_0)).trans hw218_0), ((HB.out.cell (World.block_lt_of_cell? w _ hw218_1)).trans hw218_1), ((HB.out.cell (World.block_lt_of_cell? w _ hw218_2)).trans hw218_2), ((HB.out.cell (World.block_lt_of_cell? w _ hw218_3)).trans hw218_3)⟩ (fun hHeld => ?_)
            clear hK K
            refine norm_ (a' := ?_) ?_ ?_
            rotate_left
            ·show Act.put _ (some 13) _ = _
             simp only [Act.put, List.setIfInBounds_toArray, List.set_cons_zero, List.set_cons_succ, i64_w, i32_w]
             rfl
            refine pure_ (i := 2) (N := some 14) (v := ?_) (a' := ?_) #[true, true, true, false, false, false, false, false, false, false, false, false, false, false, false, false, false, false, false, false, false] rfl rfl (any_of HT_.out (by kernel_rfl)) (fun _ _ _ h => h) (Or.inl ⟨by rfl, ?_⟩) ?_ ?_
            rotate_left
            ·intro w'
             go_simp
             with_reducible rfl
            rotate_left
            ·simp only [Act.put, List.setIfInBounds_toArray, List.set_cons_zero, List.set_cons_succ, i64_w, i32_w]
             rfl
            refine pure_ (i := 3) (N := some 15) (v := ?_) (a' := ?_) #[true, true, true, true, false, false, false, false, false, false, false, false, false, false, false, false, false, false, false, false, false] rfl rfl (any_of HT_.out (by kernel_rfl)) (fun _ _ _ h => h) (Or.inl ⟨by rfl, ?_⟩) ?_ ?_
            rotate_left
            ·intro w'
             go_simp
             with_reducible rfl
            rotate_left
            ·simp only [Act.put, List.setIfInBounds_toArray, List.set_cons_zero, List.set_cons_succ, i64_w, i32_w]
             rfl
            refine pure_ (i := 4) (N := some 16) (v := ?_) (a' := ?_) #[true, true, true, true, true, false, false, false, false, false, false, false, false, false, false, false, false, false, false, false, false] rfl rfl (any_of HT_.out (by kernel_rfl)) (fun _ _ _ h => h) (Or.inl ⟨by rfl, ?_⟩) ?_ ?_
            rotate_left
            ·intro w'
             go_simp
             with_reducible rfl
            rotate_left
            ·simp only [Act.put, List.setIfInBounds_toArray, List.set_cons_zero, List.set_cons_succ, i64_w, i32_w]
             rfl
            refine take_ (i := 5) (N := some 17) (v := ?_) (a' := ?_) #[true, true, true, true, true, true, false, false, false, false, false, false, false, false, false, false, false, false, false, false, false] rfl rfl (take_ofW HT_.out HW_.out (by kernel_rfl)) (fun _ _ _ h => h) (Or.inl ⟨by rfl, ?_⟩) hHeld ?_ ?_
            rotate_left
            ·rintro w' ⟨s0, s1, s2, s3, s4, s5, s6, s7⟩
             go_simp
             with_reducible rfl
            rotate_left
            ·simp only [Act.put, List.setIfInBounds_toArray, List.set_cons_zero, List.set_cons_succ, i64_w, i32_w]
             rfl
            refine pure_ (i := 6) (N := some 18) (v := ?_) (a' := ?_) #[true, true, true, true, true, true, true, false, false, false, false, false, false, false, false, false, false, false, false, false, false] rfl rfl (any_of HT_.out (by kernel_rfl)) (fun _ _ _ h => h) (Or.inl ⟨by rfl, ?_⟩) ?_ ?_
            rotate_left
            ·intro w'
             go_simp
             with_reducible rfl
            rotate_left
            ·simp only [Act.put, List.setIfInBounds_toArray, List.set_cons_zero, List.set_cons_succ, i64_w, i32_w]
             rfl
            refine pure_ (i := 7) (N := some 19) (v := ?_) (a' := ?_) #[true, true, true, true, true, true, true, true, false, false, false, false, false, false, false, false, false, false, false, false, false] rfl rfl (any_of HT_.out (by kernel_rfl)) (fun _ _ _ h => h) (Or.inl ⟨by rfl, ?_⟩) ?_ ?_
            rotate_left
            ·intro w'
             go_simp
             with_reducible rfl
            rotate_left
            ·simp only [Act.put, List.setIfInBounds_toArray, List.set_cons_zero, List.set_cons_succ, i64_w, i32_w]
             rfl
            refine pure_ (i := 8) (N := some 20) (v := ?_) (a' := ?_) #[true, true, true, true, true, true, true, true, true, false, false, false, false, false, false, false, false, false, false, false, false] rfl rfl (any_of HT_.out (by kernel_rfl)) (fun _ _ _ h => h) (Or.inl ⟨by rfl, ?_⟩) ?_ ?_
            rotate_left
            ·intro w'
             go_simp
             with_reducible rfl
            rotate_left
            ·simp only [Act.put, List.setIfInBounds_toArray, List.set_cons_zero, List.set_cons_succ, i64_w, i32_w]
             rfl
            refine pure_ (i := 9) (N := some 21) (v := ?_) (a' := ?_) #[true, true, true, true, true, true, true, true, true, true, false, false, false, false, false, false, false, false, false, false, false] rfl rfl (any_of HT_.out (by kernel_rfl)) (fun _ _ _ h => h) (Or.inl ⟨by rfl, ?_⟩) ?_ ?_
            rotate_left
            ·intro w'
             go_simp
             with_reducible rfl
            rotate_left
            ·simp only [Act.put, List.setIfInBounds_toArray, List.set_cons_zero, List.set_cons_succ, i64_w, i32_w]
             rfl
            refine pure_ (i := 10) (N := some 22) (v := ?_) (a' := ?_) #[true, true, true, true, true, true, true, true, true, true, true, false, false, false, false, false, false, false, false, false, false] rfl rfl (any_of HT_.out (by kernel_rfl)) (fun _ _ _ h => h) (Or.inl ⟨by rfl, ?_⟩) ?_ ?_
            rotate_left
            ·intro w'
             go_simp
             with_reducible rfl
            rotate_left
            ·simp only [Act.put, List.setIfInBounds_toArray, List.set_cons_zero, List.set_cons_succ, i64_w, i32_w]
             rfl
            refine pure_ (i := 11) (N := some 23) (v := ?_) (a' := ?_) #[true, true, true, true, true, true, true, true, true, true, true, true, false, false, false, false, false, false, false, false, false] rfl rfl (any_of HT_.out (by kernel_rfl)) (fun _ _ _ h => h) (Or.inl ⟨by rfl, ?_⟩) ?_ ?_
            rotate_left
            ·intro w'
             go_simp
             with_reducible rfl
            rotate_left
            ·simp only [Act.put, List.setIfInBounds_toArray, List.set_cons_zero, List.set_cons_succ, i64_w, i32_w]
             rfl
            refine pure_ (i := 13) (N := some 25) (v := ?_) (a' := ?_) #[true, true, true, true, true, true, true, true, true, true, true, true, false, true, false, false, false, false, false, false, false] rfl rfl (any_of HT_.out (by kernel_rfl)) (fun _ _ _ h => h) (Or.inl ⟨by rfl, ?_⟩) ?_ ?_
            rotate_left
            ·intro w'
             go_simp
             with_reducible rfl
            rotate_left
            ·simp only [Act.put, List.setIfInBounds_toArray, List.set_cons_zero, List.set_cons_succ, i64_w, i32_w]
             rfl
            refine pure_ (i := 14) (N := some 26) (v := ?_) (a' := ?_) #[true, true, true, true, true, true, true, true, true, true, true, true, false, true, true, false, false, false, false, false, false] rfl rfl (any_of HT_.out (by kernel_rfl)) (fun _ _ _ h => h) (Or.inl ⟨by rfl, ?_⟩) ?_ ?_
            rotate_left
            ·intro w'
             go_simp
             with_reducible rfl
            rotate_left
            ·simp only [Act.put, List.setIfInBounds_toArray, List.set_cons_zero, List.set_cons_succ, i64_w, i32_w]
             rfl
            refine pure_ (i := 15) (N := some 27) (v := ?_) (a' := ?_) #[true, true, true, true, true, true, true, true, true, true, true, true, false, true, true, true, false, false, false, false, false] rfl rfl (any_of HT_.out (by kernel_rfl)) (fun _ _ _ h => h) (Or.inl ⟨by rfl, ?_⟩) ?_ ?_
            rotate_left
            ·intro w'
             go_simp
             with_reducible rfl
            rotate_left
            ·simp only [Act.put, List.setIfInBounds_toArray, List.set_cons_zero, List.set_cons_succ, i64_w, i32_w]
             rfl
            refine pure_ (i := 16) (N := some 28) (v := ?_) (a' := ?_) #[true, true, true, true, true, true, true, true, true, true, true, true, false, true, true, true, true, false, false, false, false] rfl rfl (any_of HT_.out (by kernel_rfl)) (fun _ _ _ h => h) (Or.inl ⟨by rfl, ?_⟩) ?_ ?_
            rotate_left
            ·intro w'
             go_simp
             with_reducible rfl
            rotate_left
            ·simp only [Act.put, List.setIfInBounds_toArray, List.set_cons_zero, List.set_cons_succ, i64_w, i32_w]
             rfl
            refine take_ (i := 12) (N := some 24) (v := ?_) (a' := ?_) #[true, true, true, true, true, true, true, true, true, true, true, true, true, true, true, true, true, false, false, false, false] rfl rfl (take_ofW HT_.out HW_.out (by kernel_rfl)) (fun _ _ _ h => h) (Or.inl ⟨by rfl, ?_⟩) hHeld ?_ ?_
            rotate_left
            ·rintro w' ⟨s0, s1, s2, s3, s4, s5, s6, s7⟩
             go_simp
             with_reducible rfl
            rotate_left
            ·simp only [Act.put, List.setIfInBounds_toArray, List.set_cons_zero, List.set_cons_succ, i64_w, i32_w]
             rfl
            refine take_ (i := 17) (N := some 29) (v := ?_) (a' := ?_) #[true, true, true, true, true, true, true, true, true, true, true, true, true, true, true, true, true, true, false, false, false] rfl rfl (take_ofW HT_.out HW_.out (by kernel_rfl)) (fun _ _ _ h => h) (Or.inl ⟨by rfl, ?_⟩) hHeld ?_ ?_
            rotate_left
            ·rintro w' ⟨s0, s1, s2, s3, s4, s5, s6, s7⟩
             go_simp
             with_reducible rfl
            rotate_left
            ·simp only [Act.put, List.setIfInBounds_toArray, List.set_cons_zero, List.set_cons_succ, i64_w, i32_w]
             rfl
            refine one_ (i := 18) (N := some 30) #[true, true, true, true, true, true, true, true, true, true, true, true, true, true, true, true, true, true, true, false, false] rfl rfl (one_of HT_.out (by kernel_rfl)) (by decide) (fun K hK => ?_)
            refine goes_ Tryd.func123 (by kernel_rfl) rfl #[.agg #[.bool ((rd_T78 l0 x7_1).f0), .int .i64 ((rd_T78 l0 x7_1).f1), .int .i64 ((rd_T78 l0 x7_1).f2), .string ((rd_T78 l0 x7_1).f3)], .agg #[.bool ((rd_T78 l0 (ji15)).f0), .int .i64 ((rd_T78 l0 (ji15)).f1), .int .i64 ((rd_T78 l0 (ji15)).f2), .string ((rd_T78 l0 (ji15)).f3)]] (by rfl) rfl rfl (by (try simp only [List.map_toArray, List.map_cons, List.map_nil]); first | done | (simp only [hji15]; rfl) | rfl | (simp only [List.length_drop, List.length_take]; rfl)) ?_
            with_reducible refine (impl_isAhead.calls k1 ((rd_T78 l0 x7_1).f0) ((rd_T78 l0 x7_1).f1) ((rd_T78 l0 x7_1).f2) ((rd_T78 l0 x7_1).f3) ((rd_T78 l0 (ji15)).f0) ((rd_T78 l0 (ji15)).f1) ((rd_T78 l0 (ji15)).f2) ((rd_T78 l0 (ji15)).f3) t219 _ A18.out).mono ?_
            rintro e w22 ⟨rfl, hb⟩
            refine ⟨_, rfl, ?_⟩
            (have n0_ := Aside0.mk (blk_below (g := gb216) (o := .cells #[.bool ((rd_T78 l0 x7_1).f0), .int .i64 ((rd_T78 l0 x7_1).f1), .int .i64 ((rd_T78 l0 x7_1).f2), .string ((rd_T78 l0 x7_1).f3)] 78 (0, 0)) (by (with_reducible repeat (first | refine blk_drewN ?_ _ | refine blk_drew ?_ | refine blk_alloc ?_ _)); exact BK216.out) hb)); (have n1_ := Aside0.mk (below_step (by repeat (first | (with_reducible first | exact HB.out | apply below_alloc | apply pw_below_drewN | apply below_drew1 | refine below_set ?_ GE216.out) | exact HB.out)) hb)); clear BK216 HB; (have BK216 := n0_); (have HB := n1_); clear n0_ n1_; (try clear hb); (try clear hb2); (try clear hk); (try clear hi)
            refine hK.out _ _ ⟨(blk_cell BK216.out 0).trans rfl, (blk_cell BK216.out 1).trans rfl, (blk_cell BK216.out 2).trans rfl, (blk_cell BK216.out 3).trans rfl, ((HB.out.cell (World.block_lt_of_cell? w _ hw218_0)).trans hw218_0), ((HB.out.cell (World.block_lt_of_cell? w _ hw218_1)).trans hw218_1), ((HB.out.cell (World.block_lt_of_cell? w _ hw218_2)).trans hw218_2), ((HB.out.cell (World.block_lt_of_cell? w _ hw218_3)).trans hw218_3)⟩ (fun hHeld => ?_)
            clear hK K
            refine norm_ (a' := ?_) ?_ ?_
            rotate_left
            ·show Act.put _ (some 30) _ = _
             simp only [Act.put, List.setIfInBounds_toArray, List.set_cons_zero, List.set_cons_succ, i64_w, i32_w]
             rfl
            refine pure_ (i := 19) (N := some 31) (v := ?_) (a' := ?_) #[true, true, true, true, true, true, true, true, true, true, true, true, true, true, true, true, true, true, true, true, false] rfl rfl (any_of HT_.out (by kernel_rfl)) (fun _ _ _ h => h) (Or.inl ⟨by rfl, ?_⟩) ?_ ?_
            rotate_left
            ·intro w'
             go_simp
             with_reducible rfl
            rotate_left
            ·simp only [Act.put, List.setIfInBounds_toArray, List.set_cons_zero, List.set_cons_succ, i64_w, i32_w]
             rfl
            refine pure_ (i := 20) (N := some 32) (v := ?_) (a' := ?_) #[true, true, true, true, true, true, true, true, true, true, true, true, true, true, true, true, true, true, true, true, true] rfl rfl (any_of HT_.out (by kernel_rfl)) (fun _ _ _ h => h) (Or.inl ⟨by rfl, ?_⟩) ?_ ?_
            rotate_left
            ·intro w'
             go_simp
             with_reducible rfl
            rotate_left
            ·simp only [Act.put, List.setIfInBounds_toArray, List.set_cons_zero, List.set_cons_succ, i64_w, i32_w]
             rfl
            refine done_ (done_of HT_.out (by kernel_rfl)) ?_
            try go_wp2
            go_meet
            case rel => exact ⟨_, (t219), (by first | rfl | (simp; done) | (simp [*]; done)), H', ⟨by have := HK1.out; first | omega | exact Nat.le_refl _⟩, ⟨by (with_reducible repeat (first | refine blk_drewN ?_ _ | refine blk_drew ?_ | refine blk_alloc ?_ _)); exact BK216.out⟩, ⟨by repeat (first | (with_reducible first | exact HB.out | apply below_alloc | apply pw_below_drewN | apply below_drew1 | refine below_set ?_ GE216.out) | exact HB.out)⟩⟩
           ·rw [if_neg c17] at H
            exact absurd H (by simp)
          ·rw [if_neg c16] at H
           exact absurd H (by simp)
         ·rw [if_neg c14] at H
          (have c14b0 : decide (0 < x7_1) = false := decide_eq_false c14); clear c14; (have H' := Aside0.mk H); clear H
          try go_wp2
          (have n0_ : Aside0 (((((w6.setCell ⟨gb216, 0, none⟩ (.bool ((rd_T78 l0 x7_1).f0))).setCell ⟨gb216, 1, none⟩ (.int .i64 ((rd_T78 l0 x7_1).f1))).setCell ⟨gb216, 2, none⟩ (.int .i64 ((rd_T78 l0 x7_1).f2))).setCell ⟨gb216, 3, none⟩ (.string ((rd_T78 l0 x7_1).f3))).heap[gb216]? = some (.cells #[.bool ((rd_T78 l0 x7_1).f0), .int .i64 ((rd_T78 l0 x7_1).f1), .int .i64 ((rd_T78 l0 x7_1).f2), .string ((rd_T78 l0 x7_1).f3)] 78 (0, 0))) := ⟨by (with_reducible repeat (first | refine blk_drewN ?_ _ | refine blk_drew ?_ | refine blk_alloc ?_ _)); refine blk_put (cs := #[.bool ((rd_T78 l0 x7_1).f0), .int .i64 ((rd_T78 l0 x7_1).f1), .int .i64 ((rd_T78 l0 x7_1).f2), .string (⟨#[]⟩ : ByteArray)]) ?_ 3 _ rfl; (with_reducible repeat (first | refine blk_drewN ?_ _ | refine blk_drew ?_ | refine blk_alloc ?_ _)); refine blk_put (cs := #[.bool ((rd_T78 l0 x7_1).f0), .int .i64 ((rd_T78 l0 x7_1).f1), .int .i64 0, .string (⟨#[]⟩ : ByteArray)]) ?_ 2 _ rfl; (with_reducible repeat (first | refine blk_drewN ?_ _ | refine blk_drew ?_ | refine blk_alloc ?_ _)); refine blk_put (cs := #[.bool ((rd_T78 l0 x7_1).f0), .int .i64 0, .int .i64 0, .string (⟨#[]⟩ : ByteArray)]) ?_ 1 _ rfl; (with_reducible repeat (first | refine blk_drewN ?_ _ | refine blk_drew ?_ | refine blk_alloc ?_ _)); refine blk_put (cs := #[.bool false, .int .i64 0, .int .i64 0, .string (⟨#[]⟩ : ByteArray)]) ?_ 0 _ rfl; (with_reducible repeat (first | refine blk_drewN ?_ _ | refine blk_drew ?_ | refine blk_alloc ?_ _)); exact BK216.out⟩); (have n1_ : Aside0 (Below w.heap.size w ((((w6.setCell ⟨gb216, 0, none⟩ (.bool ((rd_T78 l0 x7_1).f0))).setCell ⟨gb216, 1, none⟩ (.int .i64 ((rd_T78 l0 x7_1).f1))).setCell ⟨gb216, 2, none⟩ (.int .i64 ((rd_T78 l0 x7_1).f2))).setCell ⟨gb216, 3, none⟩ (.string ((rd_T78 l0 x7_1).f3)))) := ⟨by repeat (first | (with_reducible first | exact HB.out | apply below_alloc | apply pw_below_drewN | apply below_drew1 | refine below_set ?_ GE216.out) | exact HB.out)⟩); (try clear BK216); (try clear HB)
          generalize ((((w6.setCell ⟨gb216, 0, none⟩ (.bool ((rd_T78 l0 x7_1).f0))).setCell ⟨gb216, 1, none⟩ (.int .i64 ((rd_T78 l0 x7_1).f1))).setCell ⟨gb216, 2, none⟩ (.int .i64 ((rd_T78 l0 x7_1).f2))).setCell ⟨gb216, 3, none⟩ (.string ((rd_T78 l0 x7_1).f3))) = w23 at n0_ n1_ ⊢
          (have BK216 := n0_); (have HB := n1_); clear n0_ n1_; (have n0_ := Aside0.mk (blk_drew BK216.out)); (have n1_ := Aside0.mk (below_drew1 HB.out)); clear BK216 HB; (have BK216 := n0_); (have HB := n1_); clear n0_ n1_
          refine start_ (n := 21) (S := fun w' => w'.cell? ⟨gb216, 0, none⟩ = some (.bool ((rd_T78 l0 x7_1).f0)) ∧ w'.cell? ⟨gb216, 1, none⟩ = some (.int .i64 ((rd_T78 l0 x7_1).f1)) ∧ w'.cell? ⟨gb216, 2, none⟩ = some (.int .i64 ((rd_T78 l0 x7_1).f2)) ∧ w'.cell? ⟨gb216, 3, none⟩ = some (.string ((rd_T78 l0 x7_1).f3))) (ds := []) #[false, false, false, false, false, false, false, false, false, false, false, false, false, false, false, false, false, false, false, false, false] (by kernel_rfl) rfl rfl ⟨(blk_cell BK216.out 0).trans rfl, (blk_cell BK216.out 1).trans rfl, (blk_cell BK216.out 2).trans rfl, (blk_cell BK216.out 3).trans rfl⟩ (fun hHeld => ?_); refine with_tabW impl_isTop.tab4 impl_isTop.bits4 (fun HT_ HW_ => ?_)
          generalize w23.drew = w24 at BK216 HB hHeld ⊢
          refine take_ (i := 0) (N := some 12) (v := ?_) (a' := ?_) #[true, false, false, false, false, false, false, false, false, false, false, false, false, false, false, false, false, false, false, false, false] rfl rfl (take_ofW HT_.out HW_.out (by kernel_rfl)) (fun _ _ _ h => h) (Or.inl ⟨by rfl, ?_⟩) hHeld ?_ ?_
          rotate_left
          ·rintro w' ⟨s0, s1, s2, s3⟩
           go_simp
           with_reducible rfl
          rotate_left
          ·simp only [Act.put, List.setIfInBounds_toArray, List.set_cons_zero, List.set_cons_succ, i64_w, i32_w]
           rfl
          refine one_ (i := 1) (N := some 13) #[true, true, false, false, false, false, false, false, false, false, false, false, false, false, false, false, false, false, false, false, false] rfl rfl (one_of HT_.out (by kernel_rfl)) (by decide) (fun K hK => ?_)
          refine goes_ Tryd.func122 (by kernel_rfl) rfl #[.agg #[.bool ((rd_T78 l0 x7_1).f0), .int .i64 ((rd_T78 l0 x7_1).f1), .int .i64 ((rd_T78 l0 x7_1).f2), .string ((rd_T78 l0 x7_1).f3)]] (by rfl) rfl rfl (by (try simp only [List.map_toArray, List.map_cons, List.map_nil]); first | done | rfl | (simp only [List.length_drop, List.length_take]; rfl)) ?_
          with_reducible refine (impl_isRec.calls k1 ((rd_T78 l0 x7_1).f0) ((rd_T78 l0 x7_1).f1) ((rd_T78 l0 x7_1).f2) ((rd_T78 l0 x7_1).f3) true _ A8.out).mono ?_
          rintro e w25 ⟨rfl, hb⟩
          refine ⟨_, rfl, ?_⟩
          (have n0_ := Aside0.mk (blk_below (g := gb216) (o := .cells #[.bool ((rd_T78 l0 x7_1).f0), .int .i64 ((rd_T78 l0 x7_1).f1), .int .i64 ((rd_T78 l0 x7_1).f2), .string ((rd_T78 l0 x7_1).f3)] 78 (0, 0)) (by (with_reducible repeat (first | refine blk_drewN ?_ _ | refine blk_drew ?_ | refine blk_alloc ?_ _)); exact BK216.out) hb)); (have n1_ := Aside0.mk (below_step (by repeat (first | (with_reducible first | exact HB.out | apply below_alloc | apply pw_below_drewN | apply below_drew1 | refine below_set ?_ GE216.out) | exact HB.out)) hb)); clear BK216 HB; (have BK216 := n0_); (have HB := n1_); clear n0_ n1_; (try clear hb); (try clear hb2); (try clear hk); (try clear hi)
          refine hK.out _ _ ⟨(blk_cell BK216.out 0).trans rfl, (blk_cell BK216.out 1).trans rfl, (blk_cell BK216.out 2).trans rfl, (blk_cell BK216.out 3).trans rfl⟩ (fun hHeld => ?_)
          clear hK K
          refine norm_ (a' := ?_) ?_ ?_
          rotate_left
          ·show Act.put _ (some 13) _ = _
           simp only [Act.put, List.setIfInBounds_toArray, List.set_cons_zero, List.set_cons_succ, i64_w, i32_w]
           rfl
          refine pure_ (i := 2) (N := some 14) (v := ?_) (a' := ?_) #[true, true, true, false, false, false, false, false, false, false, false, false, false, false, false, false, false, false, false, false, false] rfl rfl (any_of HT_.out (by kernel_rfl)) (fun _ _ _ h => h) (Or.inl ⟨by rfl, ?_⟩) ?_ ?_
          rotate_left
          ·intro w'
           go_simp
           with_reducible rfl
          rotate_left
          ·simp only [Act.put, List.setIfInBounds_toArray, List.set_cons_zero, List.set_cons_succ, i64_w, i32_w]
           rfl
          refine pure_ (i := 3) (N := some 15) (v := ?_) (a' := ?_) #[true, true, true, true, false, false, false, false, false, false, false, false, false, false, false, false, false, false, false, false, false] rfl rfl (any_of HT_.out (by kernel_rfl)) (fun _ _ _ h => h) (Or.inl ⟨by rfl, ?_⟩) ?_ ?_
          rotate_left
          ·intro w'
           go_simp
           with_reducible rfl
          rotate_left
          ·simp only [Act.put, List.setIfInBounds_toArray, List.set_cons_zero, List.set_cons_succ, i64_w, i32_w]
           rfl
          refine pure_ (i := 4) (N := some 16) (v := ?_) (a' := ?_) #[true, true, true, true, true, false, false, false, false, false, false, false, false, false, false, false, false, false, false, false, false] rfl rfl (any_of HT_.out (by kernel_rfl)) (fun _ _ _ h => h) (Or.inl ⟨by rfl, ?_⟩) ?_ ?_
          rotate_left
          ·intro w'
           go_simp
           with_reducible rfl
          rotate_left
          ·simp only [Act.put, List.setIfInBounds_toArray, List.set_cons_zero, List.set_cons_succ, i64_w, i32_w]
           rfl
          refine take_ (i := 5) (N := some 17) (v := ?_) (a' := ?_) #[true, true, true, true, true, true, false, false, false, false, false, false, false, false, false, false, false, false, false, false, false] rfl rfl (take_ofW HT_.out HW_.out (by kernel_rfl)) (fun _ _ _ h => h) (Or.inl ⟨by rfl, ?_⟩) hHeld ?_ ?_
          rotate_left
          ·rintro w' ⟨s0, s1, s2, s3⟩
           go_simp
           with_reducible rfl
          rotate_left
          ·simp only [Act.put, List.setIfInBounds_toArray, List.set_cons_zero, List.set_cons_succ, i64_w, i32_w]
           rfl
          refine pure_ (i := 6) (N := some 18) (v := ?_) (a' := ?_) #[true, true, true, true, true, true, true, false, false, false, false, false, false, false, false, false, false, false, false, false, false] rfl rfl (any_of HT_.out (by kernel_rfl)) (fun _ _ _ h => h) (Or.inl ⟨by rfl, ?_⟩) ?_ ?_
          rotate_left
          ·intro w'
           go_simp
           with_reducible rfl
          rotate_left
          ·simp only [Act.put, List.setIfInBounds_toArray, List.set_cons_zero, List.set_cons_succ, i64_w, i32_w]
           rfl
          refine pure_ (i := 7) (N := some 19) (v := ?_) (a' := ?_) #[true, true, true, true, true, true, true, true, false, false, false, false, false, false, false, false, false, false, false, false, false] rfl rfl (any_of HT_.out (by kernel_rfl)) (fun _ _ _ h => h) (Or.inl ⟨by rfl, ?_⟩) ?_ ?_
          rotate_left
          ·intro w'
           go_simp
           with_reducible rfl
          rotate_left
          ·simp only [Act.put, List.setIfInBounds_toArray, List.set_cons_zero, List.set_cons_succ, i64_w, i32_w]
           rfl
          refine pure_ (i := 8) (N := some 20) (v := ?_) (a' := ?_) #[true, true, true, true, true, true, true, true, true, false, false, false, false, false, false, false, false, false, false, false, false] rfl rfl (any_of HT_.out (by kernel_rfl)) (fun _ _ _ h => h) (Or.inl ⟨by rfl, ?_⟩) ?_ ?_
          rotate_left
          ·intro w'
           go_simp
           with_reducible rfl
          rotate_left
          ·simp only [Act.put, List.setIfInBounds_toArray, List.set_cons_zero, List.set_cons_succ, i64_w, i32_w]
           rfl
          refine pure_ (i := 9) (N := some 21) (v := ?_) (a' := ?_) #[true, true, true, true, true, true, true, true, true, true, false, false, false, false, false, false, false, false, false, false, false] rfl rfl (any_of HT_.out (by kernel_rfl)) (fun _ _ _ h => h) (Or.inl ⟨by rfl, ?_⟩) ?_ ?_
          rotate_left
          ·intro w'
           go_simp
           with_reducible rfl
          rotate_left
          ·simp only [Act.put, List.setIfInBounds_toArray, List.set_cons_zero, List.set_cons_succ, i64_w, i32_w]
           rfl
          refine pure_ (i := 10) (N := some 22) (v := ?_) (a' := ?_) #[true, true, true, true, true, true, true, true, true, true, true, false, false, false, false, false, false, false, false, false, false] rfl rfl (any_of HT_.out (by kernel_rfl)) (fun _ _ _ h => h) (Or.inl ⟨by rfl, ?_⟩) ?_ ?_
          rotate_left
          ·intro w'
           go_simp
           with_reducible rfl
          rotate_left
          ·simp only [Act.put, List.setIfInBounds_toArray, List.set_cons_zero, List.set_cons_succ, i64_w, i32_w]
           rfl
          refine pure_ (i := 11) (N := some 23) (v := ?_) (a' := ?_) #[true, true, true, true, true, true, true, true, true, true, true, true, false, false, false, false, false, false, false, false, false] rfl rfl (any_of HT_.out (by kernel_rfl)) (fun _ _ _ h => h) (Or.inl ⟨by rfl, ?_⟩) ?_ ?_
          rotate_left
          ·intro w'
           go_simp
           with_reducible rfl
          rotate_left
          ·simp only [Act.put, List.setIfInBounds_toArray, List.set_cons_zero, List.set_cons_succ, i64_w, i32_w]
           rfl
          refine pure_ (i := 12) (N := some 24) (v := undef) (a' := ?_) #[true, true, true, true, true, true, true, true, true, true, true, true, true, false, false, false, false, false, false, false, false] rfl rfl (any_of HT_.out (by kernel_rfl)) (fun _ _ _ h => h) (Or.inr ⟨by rfl, rfl⟩) ?_ ?_
          rotate_left
          ·simp only [Act.put, List.setIfInBounds_toArray, List.set_cons_zero, List.set_cons_succ, i64_w, i32_w]
           rfl
          refine pure_ (i := 13) (N := some 25) (v := undef) (a' := ?_) #[true, true, true, true, true, true, true, true, true, true, true, true, true, true, false, false, false, false, false, false, false] rfl rfl (any_of HT_.out (by kernel_rfl)) (fun _ _ _ h => h) (Or.inr ⟨by rfl, rfl⟩) ?_ ?_
          rotate_left
          ·simp only [Act.put, List.setIfInBounds_toArray, List.set_cons_zero, List.set_cons_succ, i64_w, i32_w]
           rfl
          refine pure_ (i := 14) (N := some 26) (v := undef) (a' := ?_) #[true, true, true, true, true, true, true, true, true, true, true, true, true, true, true, false, false, false, false, false, false] rfl rfl (any_of HT_.out (by kernel_rfl)) (fun _ _ _ h => h) (Or.inr ⟨by rfl, rfl⟩) ?_ ?_
          rotate_left
          ·simp only [Act.put, List.setIfInBounds_toArray, List.set_cons_zero, List.set_cons_succ, i64_w, i32_w]
           rfl
          refine pure_ (i := 15) (N := some 27) (v := undef) (a' := ?_) #[true, true, true, true, true, true, true, true, true, true, true, true, true, true, true, true, false, false, false, false, false] rfl rfl (any_of HT_.out (by kernel_rfl)) (fun _ _ _ h => h) (Or.inr ⟨by rfl, rfl⟩) ?_ ?_
          rotate_left
          ·simp only [Act.put, List.setIfInBounds_toArray, List.set_cons_zero, List.set_cons_succ, i64_w, i32_w]
           rfl
          refine pure_ (i := 16) (N := some 28) (v := undef) (a' := ?_) #[true, true, true, true, true, true, true, true, true, true, true, true, true, true, true, true, true, false, false, false, false] rfl rfl (any_of HT_.out (by kernel_rfl)) (fun _ _ _ h => h) (Or.inr ⟨by rfl, rfl⟩) ?_ ?_
          rotate_left
          ·simp only [Act.put, List.setIfInBounds_toArray, List.set_cons_zero, List.set_cons_succ, i64_w, i32_w]
           rfl
          refine pure_ (i := 17) (N := some 29) (v := undef) (a' := ?_) #[true, true, true, true, true, true, true, true, true, true, true, true, true, true, true, true, true, true, false, false, false] rfl rfl (any_of HT_.out (by kernel_rfl)) (fun _ _ _ h => h) (Or.inr ⟨by rfl, rfl⟩) ?_ ?_
          rotate_left
          ·simp only [Act.put, List.setIfInBounds_toArray, List.set_cons_zero, List.set_cons_succ, i64_w, i32_w]
           rfl
          refine pure_ (i := 18) (N := some 30) (v := undef) (a' := ?_) #[true, true, true, true, true, true, true, true, true, true, true, true, true, true, true, true, true, true, true, false, false] rfl rfl (any_of HT_.out (by kernel_rfl)) (fun _ _ _ h => h) (Or.inr ⟨by rfl, rfl⟩) ?_ ?_
          rotate_left
          ·simp only [Act.put, List.setIfInBounds_toArray, List.set_cons_zero, List.set_cons_succ, i64_w, i32_w]
           rfl
          refine pure_ (i := 19) (N := some 31) (v := ?_) (a' := ?_) #[true, true, true, true, true, true, true, true, true, true, true, true, true, true, true, true, true, true, true, true, false] rfl rfl (any_of HT_.out (by kernel_rfl)) (fun _ _ _ h => h) (Or.inl ⟨by rfl, ?_⟩) ?_ ?_
          rotate_left
          ·intro w'
           go_simp
           with_reducible rfl
          rotate_left
          ·simp only [Act.put, List.setIfInBounds_toArray, List.set_cons_zero, List.set_cons_succ, i64_w, i32_w]
           rfl
          refine pure_ (i := 20) (N := some 32) (v := ?_) (a' := ?_) #[true, true, true, true, true, true, true, true, true, true, true, true, true, true, true, true, true, true, true, true, true] rfl rfl (any_of HT_.out (by kernel_rfl)) (fun _ _ _ h => h) (Or.inl ⟨by rfl, ?_⟩) ?_ ?_
          rotate_left
          ·intro w'
           go_simp
           with_reducible rfl
          rotate_left
          ·simp only [Act.put, List.setIfInBounds_toArray, List.set_cons_zero, List.set_cons_succ, i64_w, i32_w]
           rfl
          refine done_ (done_of HT_.out (by kernel_rfl)) ?_
          try go_wp2
          go_meet
          case rel => exact ⟨_, (false), (by first | rfl | (simp; done) | (simp [*]; done)), H', ⟨by have := HK1.out; first | omega | exact Nat.le_refl _⟩, ⟨by (with_reducible repeat (first | refine blk_drewN ?_ _ | refine blk_drew ?_ | refine blk_alloc ?_ _)); exact BK216.out⟩, ⟨by repeat (first | (with_reducible first | exact HB.out | apply below_alloc | apply pw_below_drewN | apply below_drew1 | refine below_set ?_ GE216.out) | exact HB.out)⟩⟩
       ·replace c9 := Bool.eq_false_iff.mpr c9
        (subst c9); (have H1 : (impl_isTop.j1 k1 l0 x7_1 l0 (l0.length : Int) x7_1 true ((rd_T78 l0 x7_1).f0) ((rd_T78 l0 x7_1).f1) ((rd_T78 l0 x7_1).f2) ((rd_T78 l0 x7_1).f3)) = some r := by rw [if_neg (show ¬ (false = true) by decide)] at H; exact H); clear H; (have H := H1); clear H1; (have H' := Aside0.mk H); clear H
        try go_wp2
        (have n0_ : Aside0 (((((w6.setCell ⟨gb216, 0, none⟩ (.bool ((rd_T78 l0 x7_1).f0))).setCell ⟨gb216, 1, none⟩ (.int .i64 ((rd_T78 l0 x7_1).f1))).setCell ⟨gb216, 2, none⟩ (.int .i64 ((rd_T78 l0 x7_1).f2))).setCell ⟨gb216, 3, none⟩ (.string ((rd_T78 l0 x7_1).f3))).heap[gb216]? = some (.cells #[.bool ((rd_T78 l0 x7_1).f0), .int .i64 ((rd_T78 l0 x7_1).f1), .int .i64 ((rd_T78 l0 x7_1).f2), .string ((rd_T78 l0 x7_1).f3)] 78 (0, 0))) := ⟨by (with_reducible repeat (first | refine blk_drewN ?_ _ | refine blk_drew ?_ | refine blk_alloc ?_ _)); refine blk_put (cs := #[.bool ((rd_T78 l0 x7_1).f0), .int .i64 ((rd_T78 l0 x7_1).f1), .int .i64 ((rd_T78 l0 x7_1).f2), .string (⟨#[]⟩ : ByteArray)]) ?_ 3 _ rfl; (with_reducible repeat (first | refine blk_drewN ?_ _ | refine blk_drew ?_ | refine blk_alloc ?_ _)); refine blk_put (cs := #[.bool ((rd_T78 l0 x7_1).f0), .int .i64 ((rd_T78 l0 x7_1).f1), .int .i64 0, .string (⟨#[]⟩ : ByteArray)]) ?_ 2 _ rfl; (with_reducible repeat (first | refine blk_drewN ?_ _ | refine blk_drew ?_ | refine blk_alloc ?_ _)); refine blk_put (cs := #[.bool ((rd_T78 l0 x7_1).f0), .int .i64 0, .int .i64 0, .string (⟨#[]⟩ : ByteArray)]) ?_ 1 _ rfl; (with_reducible repeat (first | refine blk_drewN ?_ _ | refine blk_drew ?_ | refine blk_alloc ?_ _)); refine blk_put (cs := #[.bool false, .int .i64 0, .int .i64 0, .string (⟨#[]⟩ : ByteArray)]) ?_ 0 _ rfl; (with_reducible repeat (first | refine blk_drewN ?_ _ | refine blk_drew ?_ | refine blk_alloc ?_ _)); exact BK216.out⟩); (have n1_ : Aside0 (Below w.heap.size w ((((w6.setCell ⟨gb216, 0, none⟩ (.bool ((rd_T78 l0 x7_1).f0))).setCell ⟨gb216, 1, none⟩ (.int .i64 ((rd_T78 l0 x7_1).f1))).setCell ⟨gb216, 2, none⟩ (.int .i64 ((rd_T78 l0 x7_1).f2))).setCell ⟨gb216, 3, none⟩ (.string ((rd_T78 l0 x7_1).f3)))) := ⟨by repeat (first | (with_reducible first | exact HB.out | apply below_alloc | apply pw_below_drewN | apply below_drew1 | refine below_set ?_ GE216.out) | exact HB.out)⟩); (try clear BK216); (try clear HB)
        generalize ((((w6.setCell ⟨gb216, 0, none⟩ (.bool ((rd_T78 l0 x7_1).f0))).setCell ⟨gb216, 1, none⟩ (.int .i64 ((rd_T78 l0 x7_1).f1))).setCell ⟨gb216, 2, none⟩ (.int .i64 ((rd_T78 l0 x7_1).f2))).setCell ⟨gb216, 3, none⟩ (.string ((rd_T78 l0 x7_1).f3))) = w26 at n0_ n1_ ⊢
        (have BK216 := n0_); (have HB := n1_); clear n0_ n1_; (have n0_ := Aside0.mk (blk_drew BK216.out)); (have n1_ := Aside0.mk (below_drew1 HB.out)); clear BK216 HB; (have BK216 := n0_); (have HB := n1_); clear n0_ n1_
        refine start_ (n := 21) (S := fun w' => w'.cell? ⟨gb216, 0, none⟩ = some (.bool ((rd_T78 l0 x7_1).f0)) ∧ w'.cell? ⟨gb216, 1, none⟩ = some (.int .i64 ((rd_T78 l0 x7_1).f1)) ∧ w'.cell? ⟨gb216, 2, none⟩ = some (.int .i64 ((rd_T78 l0 x7_1).f2)) ∧ w'.cell? ⟨gb216, 3, none⟩ = some (.string ((rd_T78 l0 x7_1).f3))) (ds := []) #[false, false, false, false, false, false, false, false, false, false, false, false, false, false, false, false, false, false, false, false, false] (by kernel_rfl) rfl rfl ⟨(blk_cell BK216.out 0).trans rfl, (blk_cell BK216.out 1).trans rfl, (blk_cell BK216.out 2).trans rfl, (blk_cell BK216.out 3).trans rfl⟩ (fun hHeld => ?_); refine with_tabW impl_isTop.tab4 impl_isTop.bits4 (fun HT_ HW_ => ?_)
        generalize w26.drew = w27 at BK216 HB hHeld ⊢
        refine take_ (i := 0) (N := some 12) (v := ?_) (a' := ?_) #[true, false, false, false, false, false, false, false, false, false, false, false, false, false, false, false, false, false, false, false, false] rfl rfl (take_ofW HT_.out HW_.out (by kernel_rfl)) (fun _ _ _ h => h) (Or.inl ⟨by rfl, ?_⟩) hHeld ?_ ?_
        rotate_left
        ·rintro w' ⟨s0, s1, s2, s3⟩
         go_simp
         with_reducible rfl
        rotate_left
        ·simp only [Act.put, List.setIfInBounds_toArray, List.set_cons_zero, List.set_cons_succ, i64_w, i32_w]
         rfl
        refine one_ (i := 1) (N := some 13) #[true, true, false, false, false, false, false, false, false, false, false, false, false, false, false, false, false, false, false, false, false] rfl rfl (one_of HT_.out (by kernel_rfl)) (by decide) (fun K hK => ?_)
        refine goes_ Tryd.func122 (by kernel_rfl) rfl #[.agg #[.bool ((rd_T78 l0 x7_1).f0), .int .i64 ((rd_T78 l0 x7_1).f1), .int .i64 ((rd_T78 l0 x7_1).f2), .string ((rd_T78 l0 x7_1).f3)]] (by rfl) rfl rfl (by (try simp only [List.map_toArray, List.map_cons, List.map_nil]); first | done | rfl | (simp only [List.length_drop, List.length_take]; rfl)) ?_
        with_reducible refine (impl_isRec.calls k1 ((rd_T78 l0 x7_1).f0) ((rd_T78 l0 x7_1).f1) ((rd_T78 l0 x7_1).f2) ((rd_T78 l0 x7_1).f3) false _ A8.out).mono ?_
        rintro e w28 ⟨rfl, hb⟩
        refine ⟨_, rfl, ?_⟩
        (have n0_ := Aside0.mk (blk_below (g := gb216) (o := .cells #[.bool ((rd_T78 l0 x7_1).f0), .int .i64 ((rd_T78 l0 x7_1).f1), .int .i64 ((rd_T78 l0 x7_1).f2), .string ((rd_T78 l0 x7_1).f3)] 78 (0, 0)) (by (with_reducible repeat (first | refine blk_drewN ?_ _ | refine blk_drew ?_ | refine blk_alloc ?_ _)); exact BK216.out) hb)); (have n1_ := Aside0.mk (below_step (by repeat (first | (with_reducible first | exact HB.out | apply below_alloc | apply pw_below_drewN | apply below_drew1 | refine below_set ?_ GE216.out) | exact HB.out)) hb)); clear BK216 HB; (have BK216 := n0_); (have HB := n1_); clear n0_ n1_; (try clear hb); (try clear hb2); (try clear hk); (try clear hi)
        refine hK.out _ _ ⟨(blk_cell BK216.out 0).trans rfl, (blk_cell BK216.out 1).trans rfl, (blk_cell BK216.out 2).trans rfl, (blk_cell BK216.out 3).trans rfl⟩ (fun hHeld => ?_)
        clear hK K
        refine norm_ (a' := ?_) ?_ ?_
        rotate_left
        ·show Act.put _ (some 13) _ = _
         simp only [Act.put, List.setIfInBounds_toArray, List.set_cons_zero, List.set_cons_succ, i64_w, i32_w]
         rfl
        refine pure_ (i := 2) (N := some 14) (v := ?_) (a' := ?_) #[true, true, true, false, false, false, false, false, false, false, false, false, false, false, false, false, false, false, false, false, false] rfl rfl (any_of HT_.out (by kernel_rfl)) (fun _ _ _ h => h) (Or.inl ⟨by rfl, ?_⟩) ?_ ?_
        rotate_left
        ·intro w'
         go_simp
         with_reducible rfl
        rotate_left
        ·simp only [Act.put, List.setIfInBounds_toArray, List.set_cons_zero, List.set_cons_succ, i64_w, i32_w]
         rfl
        refine pure_ (i := 3) (N := some 15) (v := ?_) (a' := ?_) #[true, true, true, true, false, false, false, false, false, false, false, false, false, false, false, false, false, false, false, false, false] rfl rfl (any_of HT_.out (by kernel_rfl)) (fun _ _ _ h => h) (Or.inl ⟨by rfl, ?_⟩) ?_ ?_
        rotate_left
        ·intro w'
         go_simp
         with_reducible rfl
        rotate_left
        ·simp only [Act.put, List.setIfInBounds_toArray, List.set_cons_zero, List.set_cons_succ, i64_w, i32_w]
         rfl
        refine pure_ (i := 4) (N := some 16) (v := undef) (a' := ?_) #[true, true, true, true, true, false, false, false, false, false, false, false, false, false, false, false, false, false, false, false, false] rfl rfl (any_of HT_.out (by kernel_rfl)) (fun _ _ _ h => h) (Or.inr ⟨by rfl, rfl⟩) ?_ ?_
        rotate_left
        ·simp only [Act.put, List.setIfInBounds_toArray, List.set_cons_zero, List.set_cons_succ, i64_w, i32_w]
         rfl
        refine pure_ (i := 5) (N := some 17) (v := undef) (a' := ?_) #[true, true, true, true, true, true, false, false, false, false, false, false, false, false, false, false, false, false, false, false, false] rfl rfl (any_of HT_.out (by kernel_rfl)) (fun _ _ _ h => h) (Or.inr ⟨by rfl, rfl⟩) ?_ ?_
        rotate_left
        ·simp only [Act.put, List.setIfInBounds_toArray, List.set_cons_zero, List.set_cons_succ, i64_w, i32_w]
         rfl
        refine pure_ (i := 6) (N := some 18) (v := undef) (a' := ?_) #[true, true, true, true, true, true, true, false, false, false, false, false, false, false, false, false, false, false, false, false, false] rfl rfl (any_of HT_.out (by kernel_rfl)) (fun _ _ _ h => h) (Or.inr ⟨by rfl, rfl⟩) ?_ ?_
        rotate_left
        ·simp only [Act.put, List.setIfInBounds_toArray, List.set_cons_zero, List.set_cons_succ, i64_w, i32_w]
         rfl
        refine pure_ (i := 7) (N := some 19) (v := ?_) (a' := ?_) #[true, true, true, true, true, true, true, true, false, false, false, false, false, false, false, false, false, false, false, false, false] rfl rfl (any_of HT_.out (by kernel_rfl)) (fun _ _ _ h => h) (Or.inl ⟨by rfl, ?_⟩) ?_ ?_
        rotate_left
        ·intro w'
         go_simp
         with_reducible rfl
        rotate_left
        ·simp only [Act.put, List.setIfInBounds_toArray, List.set_cons_zero, List.set_cons_succ, i64_w, i32_w]
         rfl
        refine pure_ (i := 8) (N := some 20) (v := ?_) (a' := ?_) #[true, true, true, true, true, true, true, true, true, false, false, false, false, false, false, false, false, false, false, false, false] rfl rfl (any_of HT_.out (by kernel_rfl)) (fun _ _ _ h => h) (Or.inl ⟨by rfl, ?_⟩) ?_ ?_
        rotate_left
        ·intro w'
         go_simp
         with_reducible rfl
        rotate_left
        ·simp only [Act.put, List.setIfInBounds_toArray, List.set_cons_zero, List.set_cons_succ, i64_w, i32_w]
         rfl
        refine pure_ (i := 9) (N := some 21) (v := undef) (a' := ?_) #[true, true, true, true, true, true, true, true, true, true, false, false, false, false, false, false, false, false, false, false, false] rfl rfl (any_of HT_.out (by kernel_rfl)) (fun _ _ _ h => h) (Or.inr ⟨by rfl, rfl⟩) ?_ ?_
        rotate_left
        ·simp only [Act.put, List.setIfInBounds_toArray, List.set_cons_zero, List.set_cons_succ, i64_w, i32_w]
         rfl
        refine pure_ (i := 10) (N := some 22) (v := undef) (a' := ?_) #[true, true, true, true, true, true, true, true, true, true, true, false, false, false, false, false, false, false, false, false, false] rfl rfl (any_of HT_.out (by kernel_rfl)) (fun _ _ _ h => h) (Or.inr ⟨by rfl, rfl⟩) ?_ ?_
        rotate_left
        ·simp only [Act.put, List.setIfInBounds_toArray, List.set_cons_zero, List.set_cons_succ, i64_w, i32_w]
         rfl
        refine pure_ (i := 11) (N := some 23) (v := undef) (a' := ?_) #[true, true, true, true, true, true, true, true, true, true, true, true, false, false, false, false, false, false, false, false, false] rfl rfl (any_of HT_.out (by kernel_rfl)) (fun _ _ _ h => h) (Or.inr ⟨by rfl, rfl⟩) ?_ ?_
        rotate_left
        ·simp only [Act.put, List.setIfInBounds_toArray, List.set_cons_zero, List.set_cons_succ, i64_w, i32_w]
         rfl
        refine pure_ (i := 12) (N := some 24) (v := undef) (a' := ?_) #[true, true, true, true, true, true, true, true, true, true, true, true, true, false, false, false, false, false, false, false, false] rfl rfl (any_of HT_.out (by kernel_rfl)) (fun _ _ _ h => h) (Or.inr ⟨by rfl, rfl⟩) ?_ ?_
        rotate_left
        ·simp only [Act.put, List.setIfInBounds_toArray, List.set_cons_zero, List.set_cons_succ, i64_w, i32_w]
         rfl
        refine pure_ (i := 13) (N := some 25) (v := undef) (a' := ?_) #[true, true, true, true, true, true, true, true, true, true, true, true, true, true, false, false, false, false, false, false, false] rfl rfl (any_of HT_.out (by kernel_rfl)) (fun _ _ _ h => h) (Or.inr ⟨by rfl, rfl⟩) ?_ ?_
        rotate_left
        ·simp only [Act.put, List.setIfInBounds_toArray, List.set_cons_zero, List.set_cons_succ, i64_w, i32_w]
         rfl
        refine pure_ (i := 14) (N := some 26) (v := undef) (a' := ?_) #[true, true, true, true, true, true, true, true, true, true, true, true, true, true, true, false, false, false, false, false, false] rfl rfl (any_of HT_.out (by kernel_rfl)) (fun _ _ _ h => h) (Or.inr ⟨by rfl, rfl⟩) ?_ ?_
        rotate_left
        ·simp only [Act.put, List.setIfInBounds_toArray, List.set_cons_zero, List.set_cons_succ, i64_w, i32_w]
         rfl
        refine pure_ (i := 15) (N := some 27) (v := undef) (a' := ?_) #[true, true, true, true, true, true, true, true, true, true, true, true, true, true, true, true, false, false, false, false, false] rfl rfl (any_of HT_.out (by kernel_rfl)) (fun _ _ _ h => h) (Or.inr ⟨by rfl, rfl⟩) ?_ ?_
        rotate_left
        ·simp only [Act.put, List.setIfInBounds_toArray, List.set_cons_zero, List.set_cons_succ, i64_w, i32_w]
         rfl
        refine pure_ (i := 16) (N := some 28) (v := undef) (a' := ?_) #[true, true, true, true, true, true, true, true, true, true, true, true, true, true, true, true, true, false, false, false, false] rfl rfl (any_of HT_.out (by kernel_rfl)) (fun _ _ _ h => h) (Or.inr ⟨by rfl, rfl⟩) ?_ ?_
        rotate_left
        ·simp only [Act.put, List.setIfInBounds_toArray, List.set_cons_zero, List.set_cons_succ, i64_w, i32_w]
         rfl
        refine pure_ (i := 17) (N := some 29) (v := undef) (a' := ?_) #[true, true, true, true, true, true, true, true, true, true, true, true, true, true, true, true, true, true, false, false, false] rfl rfl (any_of HT_.out (by kernel_rfl)) (fun _ _ _ h => h) (Or.inr ⟨by rfl, rfl⟩) ?_ ?_
        rotate_left
        ·simp only [Act.put, List.setIfInBounds_toArray, List.set_cons_zero, List.set_cons_succ, i64_w, i32_w]
         rfl
        refine pure_ (i := 18) (N := some 30) (v := undef) (a' := ?_) #[true, true, true, true, true, true, true, true, true, true, true, true, true, true, true, true, true, true, true, false, false] rfl rfl (any_of HT_.out (by kernel_rfl)) (fun _ _ _ h => h) (Or.inr ⟨by rfl, rfl⟩) ?_ ?_
        rotate_left
        ·simp only [Act.put, List.setIfInBounds_toArray, List.set_cons_zero, List.set_cons_succ, i64_w, i32_w]
         rfl
        refine pure_ (i := 19) (N := some 31) (v := undef) (a' := ?_) #[true, true, true, true, true, true, true, true, true, true, true, true, true, true, true, true, true, true, true, true, false] rfl rfl (any_of HT_.out (by kernel_rfl)) (fun _ _ _ h => h) (Or.inr ⟨by rfl, rfl⟩) ?_ ?_
        rotate_left
        ·simp only [Act.put, List.setIfInBounds_toArray, List.set_cons_zero, List.set_cons_succ, i64_w, i32_w]
         rfl
        refine pure_ (i := 20) (N := some 32) (v := ?_) (a' := ?_) #[true, true, true, true, true, true, true, true, true, true, true, true, true, true, true, true, true, true, true, true, true] rfl rfl (any_of HT_.out (by kernel_rfl)) (fun _ _ _ h => h) (Or.inl ⟨by rfl, ?_⟩) ?_ ?_
        rotate_left
        ·intro w'
         go_simp
         with_reducible rfl
        rotate_left
        ·simp only [Act.put, List.setIfInBounds_toArray, List.set_cons_zero, List.set_cons_succ, i64_w, i32_w]
         rfl
        refine done_ (done_of HT_.out (by kernel_rfl)) ?_
        try go_wp2
        go_meet
        case rel => exact ⟨_, (true), (by first | rfl | (simp; done) | (simp [*]; done)), H', ⟨by have := HK1.out; first | omega | exact Nat.le_refl _⟩, ⟨by (with_reducible repeat (first | refine blk_drewN ?_ _ | refine blk_drew ?_ | refine blk_alloc ?_ _)); exact BK216.out⟩, ⟨by repeat (first | (with_reducible first | exact HB.out | apply below_alloc | apply pw_below_drewN | apply below_drew1 | refine below_set ?_ GE216.out) | exact HB.out)⟩⟩
      case rest =>
       clear HC5; (try clear c1); (try clear p2); (try clear q2); (try clear hx2); (try clear p6); (try clear c9); (try clear c12); (try clear c14); (try clear c14b0); (try clear c16); (try clear c16b0); (try clear c17); (try clear c17b0); (try clear p21); (try clear q21); (try clear hx21); (try clear hx218_0); (try clear hx218_1); (try clear hx218_2); (try clear hx218_3); (try clear p218); (try clear q218); (obtain ⟨kq, x32_4, rfl, HA, HJ4, BK216, HB⟩ := hcut)
       cases kq with
       | zero => exact absurd HA.out (by simp [impl_isTop.j1])
       | succ kj4 =>
        (have H := HA.out); clear HA; (simp only [impl_isTop.j1] at H)
        by_cases c29 : x32_4 = true
        ·subst c29
         (have H1 : (some false) = some r := by rw [if_pos rfl] at H; exact H); clear H; (have H := H1); clear H1; (obtain rfl := Option.some.inj H)
         go_wp2
         go_ret
         exact ⟨by first | rfl | (simp [errW_none, errW_some] <;> rfl) | (simp [*, errW_none, errW_some] <;> rfl), by repeat (first | (with_reducible first | exact HB.out | apply below_alloc | apply pw_below_drewN | apply below_drew1 | refine below_set ?_ GE216.out) | exact HB.out)⟩
        ·replace c29 := Bool.eq_false_iff.mpr c29
         (subst c29); (have H1 : (if ((rd_T78 l0 x7_1).f0) = true then (if 0 ≤ x7_1 then (if x7_1 ≤ (l0.length : Int) then ((impl_Rec_124.f (l0.take (x7_1 : Int).toNat) ((rd_T78 l0 x7_1).f0) ((rd_T78 l0 x7_1).f1) ((rd_T78 l0 x7_1).f2) ((rd_T78 l0 x7_1).f3)).bind fun t224 => (if t224 = true then (some false) else (impl_isTop.l0 kj4 l0 l0 (l0.length : Int) (wrap64 (x7_1 + 1))))) else (none)) else (none)) else (impl_isTop.l0 kj4 l0 l0 (l0.length : Int) (wrap64 (x7_1 + 1)))) = some r := by rw [if_neg (show ¬ (false = true) by decide)] at H; exact H); clear H; (have H := H1); clear H1
         by_cases c30 : ((rd_T78 l0 x7_1).f0) = true
         ·rw [if_pos c30] at H
          (have c30b0 : ((rd_T78 l0 x7_1).f0) = true := c30); clear c30
          by_cases c31 : 0 ≤ x7_1
          ·rw [if_pos c31] at H
           (have c31b0 := eq_true c31); (have c31b1 : decide (0 ≤ x7_1) = true := decide_eq_true c31); clear c31
           by_cases c32 : x7_1 ≤ (l0.length : Int)
           ·rw [if_pos c32] at H
            (have c32b0 := eq_true c32); (have c32b1 : decide (x7_1 ≤ (l0.length : Int)) = true := decide_eq_true c32); clear c32; (obtain ⟨y220, hy220⟩ : ∃ y_ : List (S78), y_ = (l0.take (x7_1 : Int).toNat) := ⟨_, rfl⟩); (replace H : ((impl_Rec_124.f y220 ((rd_T78 l0 x7_1).f0) ((rd_T78 l0 x7_1).f1) ((rd_T78 l0 x7_1).f2) ((rd_T78 l0 x7_1).f3)).bind fun t224 => (if t224 = true then (some false) else (impl_isTop.l0 kj4 l0 l0 (l0.length : Int) (wrap64 (x7_1 + 1))))) = some r := by first | (rw [hy220]; with_reducible exact H) | (have H2_ := (Option.bind_some _ _).symm.trans H; rw [hy220]; with_reducible exact H2_) | (have H2_ := (Option.bind_some _ _).symm.trans H; with_reducible exact H2_) | with_reducible exact H | (rw [hy220]; exact H) | exact H); (have Ny220 := Aside0.mk hy220); clear hy220; (replace H := Option.bind_eq_some_iff.mp H); (obtain ⟨t224, A330, H⟩ := H); (replace H : (if t224 = true then (some false) else (impl_isTop.l0 kj4 l0 l0 (l0.length : Int) (wrap64 (x7_1 + 1)))) = some r := H); (have A33 := Aside0.mk A330); clear A330
            by_cases c34 : t224 = true
            ·subst c34
             (have H1 : (some false) = some r := by rw [if_pos rfl] at H; exact H); clear H; (have H := H1); clear H1; (obtain rfl := Option.some.inj H); (have hcz35_0 : wc.cell? ⟨gb216, 0, none⟩ = some (.bool ((rd_T78 l0 x7_1).f0)) := (blk_cell BK216.out 0).trans rfl); (have hcz35_1 : wc.cell? ⟨gb216, 1, none⟩ = some (.int .i64 ((rd_T78 l0 x7_1).f1)) := (blk_cell BK216.out 1).trans rfl); (have hcz35_2 : wc.cell? ⟨gb216, 2, none⟩ = some (.int .i64 ((rd_T78 l0 x7_1).f2)) := (blk_cell BK216.out 2).trans rfl); (have hcz35_3 : wc.cell? ⟨gb216, 3, none⟩ = some (.string ((rd_T78 l0 x7_1).f3)) := (blk_cell BK216.out 3).trans rfl); (have hfz35_0 := blk_frozen BK216.out 0); (have hfz35_1 := blk_frozen BK216.out 1); (have hfz35_2 := blk_frozen BK216.out 2); (have hfz35_3 := blk_frozen BK216.out 3); (have q36 : (x7_1 : Int) ≤ ((l0.length : Int) : Int) := of_decide_eq_true (by first | (with_reducible assumption) | assumption)); (obtain ⟨i036, hi036, _, hsz36, _⟩ := info_parts info78); (have hroom36 : l0.length ≤ c0 := HC0.out); (have hC36 : Kd.C k78 _ (some ad215) l0.length l0 := HR0.out); (have hcut36 := cut_to (P := Tryd.prog) 41 78 .i64 Tryd.underlying41 hi036 (some ad215) l0.length c0 x7_1 (of_decide_eq_true (by first | (with_reducible assumption) | assumption)) q36 hroom36); (have hr36 := Kd.C_take (m := (x7_1 : Int).toNat) hC36 (by omega)); (have hy36 : y220.length = (x7_1 : Int).toNat := (by rw [Ny220.out, List.length_take]; omega)); (rw [← Ny220.out] at hr36); (rw [← hy36] at hcut36); (have HR223 := Aside0.mk hr36); (have HC223 := Aside0.mk (show y220.length ≤ c0 from by omega)); clear hr36 hC36 hroom36 hi036 hsz36; (have KY36 := Aside0.mk hy36); clear hy36; (replace q36 := eq_true q36)
             go_wp2_with (first | (go_at_call 124; (with_reducible refine (impl_Rec_124.calls _ _ y220 ((rd_T78 l0 x7_1).f0) ((rd_T78 l0 x7_1).f1) ((rd_T78 l0 x7_1).f2) ((rd_T78 l0 x7_1).f3) true _ ?side1 ?side2 A33.out (by (with_reducible repeat (first | refine blk_drewN ?_ _ | refine blk_drew ?_ | refine blk_alloc ?_ _)); exact BK216.out)).mono ?_); (case side1 => repeat (first | exact (Kd.C_below HR223.out HB.out) | (with_reducible refine Kd.C_alloc ?_ _) | (with_reducible refine Kd.C_drewN ?_ _) | (with_reducible refine Kd.C_drew ?_))); (case side2 => exact HC223.out); rintro e w37 ⟨rfl, hb⟩; have n0_ := Aside0.mk (blk_below (g := gb216) (o := .cells #[.bool ((rd_T78 l0 x7_1).f0), .int .i64 ((rd_T78 l0 x7_1).f1), .int .i64 ((rd_T78 l0 x7_1).f2), .string ((rd_T78 l0 x7_1).f3)] 78 (0, 0)) (by (with_reducible repeat (first | refine blk_drewN ?_ _ | refine blk_drew ?_ | refine blk_alloc ?_ _)); exact BK216.out) hb); have n1_ := Aside0.mk (below_step (by repeat (first | (with_reducible first | exact HB.out | apply below_alloc | apply pw_below_drewN | apply below_drew1 | refine below_set ?_ GE216.out) | exact HB.out)) hb); clear BK216 HB; have BK216 := n0_; have HB := n1_; clear n0_ n1_; (try clear hb); (try clear hb2); (try clear hk); (try clear hi)))
             go_ret
             exact ⟨by first | rfl | (simp [errW_none, errW_some] <;> rfl) | (simp [*, errW_none, errW_some] <;> rfl), by repeat (first | (with_reducible first | exact HB.out | apply below_alloc | apply pw_below_drewN | apply below_drew1 | refine below_set ?_ GE216.out) | exact HB.out)⟩
            ·replace c34 := Bool.eq_false_iff.mpr c34
             (subst c34); (have H1 : (impl_isTop.l0 kj4 l0 l0 (l0.length : Int) (wrap64 (x7_1 + 1))) = some r := by rw [if_neg (show ¬ (false = true) by decide)] at H; exact H); clear H; (have H := H1); clear H1; (have H' := Aside0.mk H); clear H; (have hcz38_0 : wc.cell? ⟨gb216, 0, none⟩ = some (.bool ((rd_T78 l0 x7_1).f0)) := (blk_cell BK216.out 0).trans rfl); (have hcz38_1 : wc.cell? ⟨gb216, 1, none⟩ = some (.int .i64 ((rd_T78 l0 x7_1).f1)) := (blk_cell BK216.out 1).trans rfl); (have hcz38_2 : wc.cell? ⟨gb216, 2, none⟩ = some (.int .i64 ((rd_T78 l0 x7_1).f2)) := (blk_cell BK216.out 2).trans rfl); (have hcz38_3 : wc.cell? ⟨gb216, 3, none⟩ = some (.string ((rd_T78 l0 x7_1).f3)) := (blk_cell BK216.out 3).trans rfl); (have hfz38_0 := blk_frozen BK216.out 0); (have hfz38_1 := blk_frozen BK216.out 1); (have hfz38_2 := blk_frozen BK216.out 2); (have hfz38_3 := blk_frozen BK216.out 3); (have q39 : (x7_1 : Int) ≤ ((l0.length : Int) : Int) := of_decide_eq_true (by first | (with_reducible assumption) | assumption)); (obtain ⟨i039, hi039, _, hsz39, _⟩ := info_parts info78); (have hroom39 : l0.length ≤ c0 := HC0.out); (have hC39 : Kd.C k78 _ (some ad215) l0.length l0 := HR0.out); (have hcut39 := cut_to (P := Tryd.prog) 41 78 .i64 Tryd.underlying41 hi039 (some ad215) l0.length c0 x7_1 (of_decide_eq_true (by first | (with_reducible assumption) | assumption)) q39 hroom39); (have hr39 := Kd.C_take (m := (x7_1 : Int).toNat) hC39 (by omega)); (have hy39 : y220.length = (x7_1 : Int).toNat := (by rw [Ny220.out, List.length_take]; omega)); (rw [← Ny220.out] at hr39); (rw [← hy39] at hcut39); (have HR223 := Aside0.mk hr39); (have HC223 := Aside0.mk (show y220.length ≤ c0 from by omega)); clear hr39 hC39 hroom39 hi039 hsz39; (have KY39 := Aside0.mk hy39); clear hy39; (replace q39 := eq_true q39)
             go_wp2_with (first | (go_at_call 124; (with_reducible refine (impl_Rec_124.calls _ _ y220 ((rd_T78 l0 x7_1).f0) ((rd_T78 l0 x7_1).f1) ((rd_T78 l0 x7_1).f2) ((rd_T78 l0 x7_1).f3) false _ ?side1 ?side2 A33.out (by (with_reducible repeat (first | refine blk_drewN ?_ _ | refine blk_drew ?_ | refine blk_alloc ?_ _)); exact BK216.out)).mono ?_); (case side1 => repeat (first | exact (Kd.C_below HR223.out HB.out) | (with_reducible refine Kd.C_alloc ?_ _) | (with_reducible refine Kd.C_drewN ?_ _) | (with_reducible refine Kd.C_drew ?_))); (case side2 => exact HC223.out); rintro e w40 ⟨rfl, hb⟩; have n0_ := Aside0.mk (blk_below (g := gb216) (o := .cells #[.bool ((rd_T78 l0 x7_1).f0), .int .i64 ((rd_T78 l0 x7_1).f1), .int .i64 ((rd_T78 l0 x7_1).f2), .string ((rd_T78 l0 x7_1).f3)] 78 (0, 0)) (by (with_reducible repeat (first | refine blk_drewN ?_ _ | refine blk_drew ?_ | refine blk_alloc ?_ _)); exact BK216.out) hb); have n1_ := Aside0.mk (below_step (by repeat (first | (with_reducible first | exact HB.out | apply below_alloc | apply pw_below_drewN | apply below_drew1 | refine below_set ?_ GE216.out) | exact HB.out)) hb); clear BK216 HB; have BK216 := n0_; have HB := n1_; clear n0_ n1_; (try clear hb); (try clear hb2); (try clear hk); (try clear hi)))
             go_roundg kj4
             case measure => have := HK1.out; have := HJ4.out; omega
             case rel => exact ⟨(wrap64 (x7_1 + 1)), (by first | rfl | (simp; done) | (simp [*]; done)), H', ⟨by have := HK1.out; have := HJ4.out; omega⟩, ⟨by repeat (first | (with_reducible first | exact HB.out | apply below_alloc | apply pw_below_drewN | apply below_drew1 | refine below_set ?_ GE216.out) | exact HB.out)⟩⟩
           ·rw [if_neg c32] at H
            exact absurd H (by simp)
          ·rw [if_neg c31] at H
           exact absurd H (by simp)
         ·rw [if_neg c30] at H
          (have c30b0 : ((rd_T78 l0 x7_1).f0) = false := by simpa using c30); clear c30; (have H' := Aside0.mk H); clear H; (have hcz41_0 : wc.cell? ⟨gb216, 0, none⟩ = some (.bool ((rd_T78 l0 x7_1).f0)) := (blk_cell BK216.out 0).trans rfl); (have hcz41_1 : wc.cell? ⟨gb216, 1, none⟩ = some (.int .i64 ((rd_T78 l0 x7_1).f1)) := (blk_cell BK216.out 1).trans rfl); (have hcz41_2 : wc.cell? ⟨gb216, 2, none⟩ = some (.int .i64 ((rd_T78 l0 x7_1).f2)) := (blk_cell BK216.out 2).trans rfl); (have hcz41_3 : wc.cell? ⟨gb216, 3, none⟩ = some (.string ((rd_T78 l0 x7_1).f3)) := (blk_cell BK216.out 3).trans rfl); (have hfz41_0 := blk_frozen BK216.out 0); (have hfz41_1 := blk_frozen BK216.out 1); (have hfz41_2 := blk_frozen BK216.out 2); (have hfz41_3 := blk_frozen BK216.out 3)
          go_wp2
          go_roundg kj4
          case measure => have := HK1.out; have := HJ4.out; omega
          case rel => exact ⟨(wrap64 (x7_1 + 1)), (by first | rfl | (simp; done) | (simp [*]; done)), H', ⟨by have := HK1.out; have := HJ4.out; omega⟩, ⟨by repeat (first | (with_reducible first | exact HB.out | apply below_alloc | apply pw_below_drewN | apply below_drew1 | refine below_set ?_ GE216.out) | exact HB.out)⟩⟩
     ·rw [if_neg c4] at H
      exact absurd H (by simp)
    ·rw [if_neg c3] at H
     exact absurd H (by simp)
   ·rw [if_neg c2] at H
    (have c2b0 : decide (x7_1 < (l0.length : Int)) = false := decide_eq_false c2); clear c2; (obtain rfl := Option.some.inj H)
    go_wp2
    go_ret
    exact ⟨by first | rfl | (simp [errW_none, errW_some] <;> rfl) | (simp [*, errW_none, errW_some] <;> rfl), by repeat (first | (with_reducible first | exact HB.out | apply below_alloc | apply pw_below_drewN | apply below_drew1) | exact HB.out)⟩
end Go.Proofs.YtbpffdhkeinmcaaDoor.QD
namespace Go.Proofs.YtbpffdhkeinmcaaDoor.QD
open Go.RowKit Go.Proofs.YtbpffdhkeinmcaaDoorW.PrintWords Go.Proofs.YtbpffdhkeinmcaaDoorW.PrintLast Go.Proofs.YtbpffdhkeinmcaaDoorW.PrintMore
attribute [local go_sem] max2_int min2_int max_two min_two max_three min_three max_four min_four   -- for this text's walks alone
set_option linter.unusedVariables false
set_option linter.unusedSimpArgs false
set_option maxHeartbeats 8000000 in
set_option maxRecDepth 100000 in
theorem idx_3 (p : Int → Option Bool) (g : Nat) (lb : Array Value) (eg : ∀ args w, (callFunc g args).run Tryd.prog w = .ok (.enter g args) w) (A0 : Option Addr) (c0 : Nat) (l0 : List Int) (r : Int) (w : World) (hr0 : Kd.C (Kd.int .i64) w A0 l0.length l0)
  (hp : ∀ (W : World) (x : Int) (b : Bool), Below w.heap.size w W → x ∈ l0 → p x = some b → Calls Tryd.prog g (#[.int .i64 x] ++ lb) W fun e w' => e = .returned (.bool b) ∧ Below W.heap.size W w')
  (h : idxF p l0 0 = some r) :
  Calls Tryd.prog 126 #[.slice A0 l0.length c0, .func (.func g) #[] lb] w fun e w' => e = .returned (.int .i64 r) ∧ Below w.heap.size w w' := by
 (have hu := Tryd.underlying3); (have HR0 := Aside0.mk hr0); (have HP := Aside0.mk hp); (have hlen : l0.length ≤ 9223372036854775807 := hr0.2.1); clear hr0 hp; (have H' := Aside0.mk h); clear h
 go_enter Tryd.func126, Tryd.ntmps126
 go_wp2
 go_loopg [5, 8] l0.length (fun gg _ s8 wr => ∃ kk : Nat, kk ≤ l0.length ∧ l0.length - kk ≤ gg ∧ s8 = .int .i64 kk ∧ Aside0 (Below w.heap.size w wr) ∧ Aside0 (idxF p (l0.drop kk) kk = some r))
 case atStart => exact ⟨0, Nat.zero_le _, by omega, rfl, ⟨Below.refl _ w⟩, by simpa using H'⟩
 case round =>
  clear H'; (obtain ⟨kk, hkk, hg, rfl, BW, A⟩ := hrel)
  by_cases hlt : kk < l0.length
  ·have hltz : decide ((kk : Int) < (l0.length : Int)) = true := decide_eq_true (by omega)
   (have A1 := A.out); (rw [idxF_at p l0 kk kk hlt] at A1); clear A; (obtain ⟨b, hb, A2⟩ := Option.bind_eq_some_iff.mp A1); clear A1; (have hmem : l0[kk] ∈ l0 := List.getElem_mem hlt); (have hcall := HP.out wr l0[kk] b BW.out hmem hb); (obtain ⟨ad1, cs1, e1, hl1, hK1, hcell1⟩ := Kd.C_get HR0.out l0[kk] (kk : Int) (by omega) (by omega)); (have hget : l0.getD ((kk : Int)).toNat l0[kk] = l0[kk] := by simp [List.getD, hlt]); (rw [hget] at hK1); clear hget; (obtain rfl : cs1 = [.int .i64 (l0[kk])] := hK1); (have hx0 := hcell1 0 _ rfl); (simp only [show ((Kd.int .i64)).sz = 1 from rfl, Nat.mul_one, Nat.add_zero, Int.toNat_natCast] at hx0)
   cases e1
   (try clear hK1); clear hl1 hcell1; (replace hx0 := (BW.out.cell (World.block_lt_of_cell? w _ hx0)).trans hx0); clear hmem hb
   generalize l0[kk] = y at hcall hx0
   cases b with
   | true =>
    (obtain rfl : (kk : Int) = r := by simpa using A2); clear A2
    go_wp2_with (go_at_fn g; refine hcall.mono ?_; rintro e w' ⟨rfl, hb'⟩)
    go_ret
    exact ⟨rfl, below_then BW.out BW.out.size hb'⟩
   | false =>
    (have A3 : Aside0 (idxF p (l0.drop (kk + 1)) (kk + 1) = some r) := ⟨by simpa using A2⟩); clear A2
    go_wp2_with (go_at_fn g; refine hcall.mono ?_; rintro e w' ⟨rfl, hb'⟩)
    go_roundg (l0.length - (kk + 1))
    case measure => omega
    case rel => exact ⟨kk + 1, by omega, by omega, by go_num, ⟨below_then BW.out BW.out.size hb'⟩, A3⟩
  ·have hltz : decide ((kk : Int) < (l0.length : Int)) = false := decide_eq_false (by omega)
   obtain rfl : -1 = r := by
    (have A1 := A.out); (rw [show kk = l0.length by omega] at A1)
    simpa [idxF] using A1
   clear A
   go_wp2
   go_ret
   exact ⟨rfl, BW.out⟩
end Go.Proofs.YtbpffdhkeinmcaaDoor.QD
namespace Go.Proofs.YtbpffdhkeinmcaaDoor.QD
open Go.RowKit Go.Proofs.YtbpffdhkeinmcaaDoorW.PrintWords Go.Proofs.YtbpffdhkeinmcaaDoorW.PrintLast Go.Proofs.YtbpffdhkeinmcaaDoorW.PrintMore
attribute [local go_sem] max2_int min2_int max_two min_two max_three min_three max_four min_four   -- for this text's walks alone
set_option linter.unusedVariables false
set_option linter.unusedSimpArgs false
def impl_isReply_1.f (a0 : Int) : Option (Bool) := (impl_within.f a0 0 3).bind fun t225 => (some (!t225))
set_option maxHeartbeats 8000000 in
set_option maxRecDepth 100000 in
theorem impl_isReply_1.calls (a0 : Int) (r : Bool) (w : World) (h : impl_isReply_1.f a0 = some r) :
  Calls Tryd.prog 91 #[.int .i64 a0] w fun e w' => e = .returned (.bool r) ∧ Drawn0 w w' := by
 (have H : ((impl_within.f a0 0 3).bind fun t225 => (some (!t225))) = some r := h); clear h; (replace H := Option.bind_eq_some_iff.mp H); (obtain ⟨t225, A20, H⟩ := H); (replace H : (some (!t225)) = some r := H); (have A2 := Aside0.mk A20); clear A20; (obtain rfl := Option.some.inj H)
 go_enter Tryd.func91, Tryd.ntmps91
 go_wp2_with (first | ((with_reducible refine gate_callee (f := 69) rfl ?_); refine goesL_ (some 4) rfl rfl Tryd.func69 (by kernel_rfl) rfl #[.int .i64 a0, .int .i64 0, .int .i64 3] rfl (by (try simp only [List.map_toArray, List.map_cons, List.map_nil]); first | done | rfl | (simp only [List.length_drop, List.length_take]; rfl)) ?_; (with_reducible refine (impl_within.calls a0 0 3 t225 _ A2.out).mono ?_); rintro e w' ⟨rfl, ⟨nd, rfl⟩⟩; refine ⟨_, rfl, ?_⟩))
 go_ret
 exact ⟨by first | rfl | (simp; done) | (simp [*]; done), by repeat (first | exact Drawn0.refl _ | apply Drawn0.step)⟩
end Go.Proofs.YtbpffdhkeinmcaaDoor.QD
namespace Go.Proofs.YtbpffdhkeinmcaaDoor.QD
open Go.RowKit Go.Proofs.YtbpffdhkeinmcaaDoorW.PrintWords Go.Proofs.YtbpffdhkeinmcaaDoorW.PrintLast Go.Proofs.YtbpffdhkeinmcaaDoorW.PrintMore
attribute [local go_sem] max2_int min2_int max_two min_two max_three min_three max_four min_four   -- for this text's walks alone
set_option linter.unusedVariables false
set_option linter.unusedSimpArgs false
set_option maxHeartbeats 8000000 in
set_option maxRecDepth 100000 in
theorem cont_3 (p : Int → Option Bool) (g : Nat) (lb : Array Value) (eg : ∀ args w, (callFunc g args).run Tryd.prog w = .ok (.enter g args) w) (A0 : Option Addr) (c0 : Nat) (l0 : List Int) (r : Bool) (w : World) (hr0 : Kd.C (Kd.int .i64) w A0 l0.length l0)
  (hp : ∀ (W : World) (x : Int) (b : Bool), Below w.heap.size w W → x ∈ l0 → p x = some b → Calls Tryd.prog g (#[.int .i64 x] ++ lb) W fun e w' => e = .returned (.bool b) ∧ Below W.heap.size W w')
  (h : contF p l0 = some r) :
  Calls Tryd.prog 90 #[.slice A0 l0.length c0, .func (.func g) #[] lb] w fun e w' => e = .returned (.bool r) ∧ Below w.heap.size w w' := by
 (obtain ⟨i, hi, h2⟩ := Option.bind_eq_some_iff.mp h); (obtain rfl : decide (0 ≤ i) = r := by simpa using h2); clear h h2; (have HI := idx_3 p g lb eg A0 c0 l0 i w hr0 hp hi); clear hi hr0 hp
 go_enter Tryd.func90, Tryd.ntmps90
 go_wp2_with (go_at_call 126; refine HI.mono ?_; rintro e w' ⟨rfl, hb'⟩)
 go_ret
 exact ⟨rfl, hb'⟩
theorem slices_ContainsFunc_int_int.enters : ∀ args w, (callFunc 91 args).run Tryd.prog w = .ok (.enter 91 args) w := enters_of Tryd.func91 (by kernel_rfl) rfl
def slices_ContainsFunc_int_int.f (l0 : List Int) : Option Bool := contF (fun x => impl_isReply_1.f x) l0
theorem slices_ContainsFunc_int_int.calls (A0 : Option Addr) (c0 : Nat) (l0 : List Int) (r : Bool) (w : World) (hr0 : Kd.C (Kd.int .i64) w A0 l0.length l0) (hc0 : l0.length ≤ c0) (h : slices_ContainsFunc_int_int.f l0 = some r) :
  Calls Tryd.prog 90 #[.slice A0 l0.length c0, .func (.func 91) #[] #[]] w fun e w' => e = .returned (.bool r) ∧ Below w.heap.size w w' := by
 unfold slices_ContainsFunc_int_int.f at h
 exact cont_3 (fun x => impl_isReply_1.f x) 91 #[] slices_ContainsFunc_int_int.enters A0 c0 l0 r w hr0 (fun W x b hW hx h => (impl_isReply_1.calls x _ _ h).mono fun e w' ⟨he, hd⟩ => ⟨he, hd.below⟩) h
end Go.Proofs.YtbpffdhkeinmcaaDoor.QD
