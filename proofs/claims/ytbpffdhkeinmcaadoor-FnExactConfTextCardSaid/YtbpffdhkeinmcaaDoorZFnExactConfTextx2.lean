/- Part of the proof of the law FnExactConfText: what it uses of the texts that this session and the kit's print wrote. -/
import Derived.Test.YtbpffdhkeinmcaaDoorZFnExactConfTextx0
import Derived.Test.YtbpffdhkeinmcaaDoorZFnExactConfTextx1
import Derived.Deep.Slices
import Derived.WideShapes
import Derived.ProofKit
import Derived.KernelRfl
import Derived.Lib.ItoaNum
import Derived.Lib.ItoaLen
import Derived.Laws.Strings
namespace Go.Proofs.YtbpffdhkeinmcaaDoor.QA
open Go.RowKit Go.Proofs.YtbpffdhkeinmcaaDoorW.PrintWords Go.Proofs.YtbpffdhkeinmcaaDoorW.PrintLast Go.Proofs.YtbpffdhkeinmcaaDoorW.PrintMore
attribute [local go_sem] max2_int min2_int max_two min_two max_three min_three max_four min_four   -- for this text's walks alone
set_option linter.unusedVariables false
set_option linter.unusedSimpArgs false
def impl_confText.j0 : Nat → Bool → Int → Int → Int → Int → Option (ByteArray)
  | 0, _, _, _, _, _ => none
  | k + 1, x10, x160000, x160001, x160002, x160003 => if x10 = true then (some (⟨#[]⟩ : ByteArray)) else ((strconv_Itoa_79.f x160000).bind fun t161 => (if 4 + t161.size ≤ 9223372036854775807 then (if ((⟨#[107, 101, 121, 32]⟩ : ByteArray) ++ t161).size + 5 ≤ 9223372036854775807 then ((strconv_Itoa_79.f x160001).bind fun t162 => (if (((⟨#[107, 101, 121, 32]⟩ : ByteArray) ++ t161) ++ (⟨#[32, 108, 111, 103, 32]⟩ : ByteArray)).size + t162.size ≤ 9223372036854775807 then (if ((((⟨#[107, 101, 121, 32]⟩ : ByteArray) ++ t161) ++ (⟨#[32, 108, 111, 103, 32]⟩ : ByteArray)) ++ t162).size + 7 ≤ 9223372036854775807 then ((strconv_Itoa_79.f x160002).bind fun t163 => (if (((((⟨#[107, 101, 121, 32]⟩ : ByteArray) ++ t161) ++ (⟨#[32, 108, 111, 103, 32]⟩ : ByteArray)) ++ t162) ++ (⟨#[32, 98, 111, 117, 110, 100, 32]⟩ : ByteArray)).size + t163.size ≤ 9223372036854775807 then (if ((((((⟨#[107, 101, 121, 32]⟩ : ByteArray) ++ t161) ++ (⟨#[32, 108, 111, 103, 32]⟩ : ByteArray)) ++ t162) ++ (⟨#[32, 98, 111, 117, 110, 100, 32]⟩ : ByteArray)) ++ t163).size + 5 ≤ 9223372036854775807 then ((strconv_Itoa_79.f x160003).bind fun t164 => (if (((((((⟨#[107, 101, 121, 32]⟩ : ByteArray) ++ t161) ++ (⟨#[32, 108, 111, 103, 32]⟩ : ByteArray)) ++ t162) ++ (⟨#[32, 98, 111, 117, 110, 100, 32]⟩ : ByteArray)) ++ t163) ++ (⟨#[32, 99, 97, 112, 32]⟩ : ByteArray)).size + t164.size ≤ 9223372036854775807 then (some ((((((((⟨#[107, 101, 121, 32]⟩ : ByteArray) ++ t161) ++ (⟨#[32, 108, 111, 103, 32]⟩ : ByteArray)) ++ t162) ++ (⟨#[32, 98, 111, 117, 110, 100, 32]⟩ : ByteArray)) ++ t163) ++ (⟨#[32, 99, 97, 112, 32]⟩ : ByteArray)) ++ t164)) else (none))) else (none)) else (none))) else (none)) else (none))) else (none)) else (none)))
def impl_confText.f (k : Nat) (a0_0 : Int) (a0_1 : Int) (a0_2 : Int) (a0_3 : Int) : Option (ByteArray) := (impl_isConf.f a0_0 a0_1 a0_2 a0_3).bind fun t160 => (if t160 = true then (impl_confText.j0 k (decide (a0_0 > 999999999)) a0_0 a0_1 a0_2 a0_3) else (impl_confText.j0 k true a0_0 a0_1 a0_2 a0_3))
def impl_confText.T3 : Bool × List (List Nat × List Nat) := (true, [([], []), ([0], [0]), ([1], [1]), ([2], [2]), ([3], [3]), ([], []), ([5], [5]), ([6, 2], [6]), ([4, 7], [4, 7]), ([8], [8]), ([], []), ([10], [10]), ([11, 7], [11]), ([9, 12], [9, 12]), ([13], [13]), ([], []), ([15], [15]), ([16, 12], [16]), ([14, 17], [14, 17]), ([18, 17, 0, 1, 2, 3, 4, 5, 6, 7, 8, 9, 10, 11, 12, 13, 14, 15, 16, 17, 18], [18])])
def impl_confText.B3 : List Nat := [0, 1, 3, 7, 15, 0, 32, 103, 255, 511, 0, 1024, 3303, 8191, 16383, 0, 32768, 105703, 262143, 524287]
theorem impl_confText.tab3 : rtab .any (opsOf Tryd.f42 3) = impl_confText.T3 := by kernel_rfl
theorem impl_confText.bits3 : waitsOk impl_confText.T3.2 impl_confText.B3 = true := by kernel_rfl
set_option maxHeartbeats 8000000 in
set_option maxRecDepth 100000 in
theorem impl_confText.calls (k : Nat) (a0_0 : Int) (a0_1 : Int) (a0_2 : Int) (a0_3 : Int) (r : ByteArray) (w : World) (h : impl_confText.f k a0_0 a0_1 a0_2 a0_3 = some r) (hG : TabG w) :
    Calls Tryd.prog 42 #[.agg #[.int .i64 a0_0, .int .i64 a0_1, .int .i64 a0_2, .int .i64 a0_3]] w fun e w' => e = .returned (.string r) ∧ Below w.heap.size w w' := by
  have hu25 := Tryd.underlying25
  have HB := Aside0.mk (Below.refl w.heap.size w)
  have H : ((impl_isConf.f a0_0 a0_1 a0_2 a0_3).bind fun t160 => (if t160 = true then (impl_confText.j0 k (decide (a0_0 > 999999999)) a0_0 a0_1 a0_2 a0_3) else (impl_confText.j0 k true a0_0 a0_1 a0_2 a0_3))) = some r := h
  clear h
  have HC2 := Aside0.mk H
  clear H
  go_enter Tryd.func42, Tryd.ntmps42
  go_upto_region 1 with (first | ((with_reducible refine gate_dst (N := 1) rfl ?_); refine box_event ?hg (N := 1) ?hd (cs := #[.int .i64 a0_0, .int .i64 a0_1, .int .i64 a0_2, .int .i64 a0_3]) (t := 25) ?hr ?_; (case hd => rfl); (case hg => rfl); (case hr => first | (go_simp; done) | (go_simp; rfl)); intro gb159 hg w3 hbox hb; have n0_ := Aside0.mk (below_step (by repeat (first | (with_reducible first | exact HB.out | apply below_alloc | apply pw_below_drewN | apply below_drew1) | exact HB.out)) hb); have n1_ := Aside0.mk (hbox); have n2_ := Aside0.mk ((by rw [hg]; exact (below_size (by repeat (first | (with_reducible first | exact HB.out | apply below_alloc | apply pw_below_drewN | apply below_drew1) | exact HB.out))) : w.heap.size ≤ gb159)); have n3_ := Aside0.mk ((by rw [hg]; exact (below_size (by repeat (first | (with_reducible first | exact HB.out | apply below_alloc | apply pw_below_drewN | apply below_drew1) | exact HB.out))) : w.heap.size ≤ gb159)); clear HB; have HB := n0_; have BK159 := n1_; have GW159 := n2_; have GE159 := n3_; clear n0_ n1_ n2_ n3_; clear hb hbox hg))
  (try simp only [Act.put, List.setIfInBounds_toArray, List.set_cons_zero, List.set_cons_succ])
  go_cut [10] (fun v10 wc => ∃ (kq : Nat) (x10_1 : Bool), v10 = .bool x10_1 ∧ Aside0 (impl_confText.j0 kq x10_1 a0_0 a0_1 a0_2 a0_3 = some r) ∧ Aside0 (kq ≤ k) ∧ Aside0 (wc.heap[gb159]? = some (.cells #[.int .i64 a0_0, .int .i64 a0_1, .int .i64 a0_2, .int .i64 a0_3] 25 (0, 0))) ∧ Aside0 (Below w.heap.size w wc))
  case first =>
    have H := HC2.out
    clear HC2
    replace H := Option.bind_eq_some_iff.mp H
    obtain ⟨t160, A40, H⟩ := H
    replace H : (if t160 = true then (impl_confText.j0 k (decide (a0_0 > 999999999)) a0_0 a0_1 a0_2 a0_3) else (impl_confText.j0 k true a0_0 a0_1 a0_2 a0_3)) = some r := H
    have A4 := Aside0.mk A40
    clear A40
    by_cases c5 : t160 = true
    · subst c5
      have H1 : (impl_confText.j0 k (decide (a0_0 > 999999999)) a0_0 a0_1 a0_2 a0_3) = some r := by rw [if_pos rfl] at H; exact H
      clear H
      have H := H1
      clear H1
      have H' := Aside0.mk H
      clear H
      have hcz6_0 : w3.cell? ⟨gb159, 0, none⟩ = some (.int .i64 a0_0) := (blk_cell BK159.out 0).trans rfl
      have hcz6_1 : w3.cell? ⟨gb159, 1, none⟩ = some (.int .i64 a0_1) := (blk_cell BK159.out 1).trans rfl
      have hcz6_2 : w3.cell? ⟨gb159, 2, none⟩ = some (.int .i64 a0_2) := (blk_cell BK159.out 2).trans rfl
      have hcz6_3 : w3.cell? ⟨gb159, 3, none⟩ = some (.int .i64 a0_3) := (blk_cell BK159.out 3).trans rfl
      have hfz6_0 := blk_frozen BK159.out 0
      have hfz6_1 := blk_frozen BK159.out 1
      have hfz6_2 := blk_frozen BK159.out 2
      have hfz6_3 := blk_frozen BK159.out 3
      go_wp2_with (first | ((with_reducible refine gate_callee (f := 57) rfl ?_); refine goesL_ (some 4) rfl rfl Tryd.func57 (by kernel_rfl) rfl #[.agg #[.int .i64 a0_0, .int .i64 a0_1, .int .i64 a0_2, .int .i64 a0_3]] rfl (by (try simp only [List.map_toArray, List.map_cons, List.map_nil]); first | done | rfl | (simp only [List.length_drop, List.length_take]; rfl)) ?_; (with_reducible refine (impl_isConf.calls a0_0 a0_1 a0_2 a0_3 true _ A4.out).mono ?_); rintro e w7 ⟨rfl, hb⟩; refine ⟨_, rfl, ?_⟩; have n0_ := Aside0.mk (blk_below (g := gb159) (o := .cells #[.int .i64 a0_0, .int .i64 a0_1, .int .i64 a0_2, .int .i64 a0_3] 25 (0, 0)) (by (with_reducible repeat (first | refine blk_drewN ?_ _ | refine blk_drew ?_ | refine blk_alloc ?_ _)); exact BK159.out) hb); have n1_ := Aside0.mk (below_step (by repeat (first | (with_reducible first | exact HB.out | apply below_alloc | apply pw_below_drewN | apply below_drew1 | refine below_set ?_ GE159.out) | exact HB.out)) hb); clear BK159; clear HB; have BK159 := n0_; have HB := n1_; clear n0_ n1_; (try clear hb); (try clear hb2); (try clear hk); (try clear hi); have hcz8_0 : w7.cell? ⟨gb159, 0, none⟩ = some (.int .i64 a0_0) := (blk_cell BK159.out 0).trans rfl; have hcz8_1 : w7.cell? ⟨gb159, 1, none⟩ = some (.int .i64 a0_1) := (blk_cell BK159.out 1).trans rfl; have hcz8_2 : w7.cell? ⟨gb159, 2, none⟩ = some (.int .i64 a0_2) := (blk_cell BK159.out 2).trans rfl; have hcz8_3 : w7.cell? ⟨gb159, 3, none⟩ = some (.int .i64 a0_3) := (blk_cell BK159.out 3).trans rfl; have hfz8_0 := blk_frozen BK159.out 0; have hfz8_1 := blk_frozen BK159.out 1; have hfz8_2 := blk_frozen BK159.out 2; have hfz8_3 := blk_frozen BK159.out 3))
      go_meet
      case rel => exact ⟨_, (decide (a0_0 > 999999999)), (by first | rfl | (simp; done) | (simp [*]; done)), H', ⟨by first | omega | exact Nat.le_refl _⟩, ⟨by (with_reducible repeat (first | refine blk_drewN ?_ _ | refine blk_drew ?_ | refine blk_alloc ?_ _)); exact BK159.out⟩, ⟨by repeat (first | (with_reducible first | exact HB.out | apply below_alloc | apply pw_below_drewN | apply below_drew1 | refine below_set ?_ GE159.out) | exact HB.out)⟩⟩
    · replace c5 := Bool.eq_false_iff.mpr c5
      subst c5
      have H1 : (impl_confText.j0 k true a0_0 a0_1 a0_2 a0_3) = some r := by rw [if_neg (show ¬ (false = true) by decide)] at H; exact H
      clear H
      have H := H1
      clear H1
      have H' := Aside0.mk H
      clear H
      have hcz9_0 : w3.cell? ⟨gb159, 0, none⟩ = some (.int .i64 a0_0) := (blk_cell BK159.out 0).trans rfl
      have hcz9_1 : w3.cell? ⟨gb159, 1, none⟩ = some (.int .i64 a0_1) := (blk_cell BK159.out 1).trans rfl
      have hcz9_2 : w3.cell? ⟨gb159, 2, none⟩ = some (.int .i64 a0_2) := (blk_cell BK159.out 2).trans rfl
      have hcz9_3 : w3.cell? ⟨gb159, 3, none⟩ = some (.int .i64 a0_3) := (blk_cell BK159.out 3).trans rfl
      have hfz9_0 := blk_frozen BK159.out 0
      have hfz9_1 := blk_frozen BK159.out 1
      have hfz9_2 := blk_frozen BK159.out 2
      have hfz9_3 := blk_frozen BK159.out 3
      go_wp2_with (first | ((with_reducible refine gate_callee (f := 57) rfl ?_); refine goesL_ (some 4) rfl rfl Tryd.func57 (by kernel_rfl) rfl #[.agg #[.int .i64 a0_0, .int .i64 a0_1, .int .i64 a0_2, .int .i64 a0_3]] rfl (by (try simp only [List.map_toArray, List.map_cons, List.map_nil]); first | done | rfl | (simp only [List.length_drop, List.length_take]; rfl)) ?_; (with_reducible refine (impl_isConf.calls a0_0 a0_1 a0_2 a0_3 false _ A4.out).mono ?_); rintro e w10 ⟨rfl, hb⟩; refine ⟨_, rfl, ?_⟩; have n0_ := Aside0.mk (blk_below (g := gb159) (o := .cells #[.int .i64 a0_0, .int .i64 a0_1, .int .i64 a0_2, .int .i64 a0_3] 25 (0, 0)) (by (with_reducible repeat (first | refine blk_drewN ?_ _ | refine blk_drew ?_ | refine blk_alloc ?_ _)); exact BK159.out) hb); have n1_ := Aside0.mk (below_step (by repeat (first | (with_reducible first | exact HB.out | apply below_alloc | apply pw_below_drewN | apply below_drew1 | refine below_set ?_ GE159.out) | exact HB.out)) hb); clear BK159; clear HB; have BK159 := n0_; have HB := n1_; clear n0_ n1_; (try clear hb); (try clear hb2); (try clear hk); (try clear hi)))
      go_meet
      case rel => exact ⟨_, (true), (by first | rfl | (simp; done) | (simp [*]; done)), H', ⟨by first | omega | exact Nat.le_refl _⟩, ⟨by (with_reducible repeat (first | refine blk_drewN ?_ _ | refine blk_drew ?_ | refine blk_alloc ?_ _)); exact BK159.out⟩, ⟨by repeat (first | (with_reducible first | exact HB.out | apply below_alloc | apply pw_below_drewN | apply below_drew1 | refine below_set ?_ GE159.out) | exact HB.out)⟩⟩
  case rest =>
    clear HC2
    try clear p2
    try clear c4
    try clear c5
    try clear hcz6_0
    try clear hcz6_1
    try clear hcz6_2
    try clear hcz6_3
    try clear hcz8_0
    try clear hcz8_1
    try clear hcz8_2
    try clear hcz8_3
    try clear hcz9_0
    try clear hcz9_1
    try clear hcz9_2
    try clear hcz9_3
    try clear hfz6_0
    try clear hfz6_1
    try clear hfz6_2
    try clear hfz6_3
    try clear hfz8_0
    try clear hfz8_1
    try clear hfz8_2
    try clear hfz8_3
    try clear hfz9_0
    try clear hfz9_1
    try clear hfz9_2
    try clear hfz9_3
    obtain ⟨kq, x10_1, rfl, HA, HJ1, BK159, HB⟩ := hcut
    cases kq with
    | zero => exact absurd HA.out (by simp [impl_confText.j0])
    | succ kj1 =>
      have H := HA.out
      clear HA
      simp only [impl_confText.j0] at H
      by_cases c11 : x10_1 = true
      · subst c11
        have H1 : (some (⟨#[]⟩ : ByteArray)) = some r := by rw [if_pos rfl] at H; exact H
        clear H
        have H := H1
        clear H1
        obtain rfl := Option.some.inj H
        go_wp2
        go_ret
        exact ⟨by first | rfl | (simp [errW_none, errW_some] <;> rfl) | (simp [*, errW_none, errW_some] <;> rfl), by repeat (first | (with_reducible first | exact HB.out | apply below_alloc | apply pw_below_drewN | apply below_drew1 | refine below_set ?_ GE159.out) | exact HB.out)⟩
      · replace c11 := Bool.eq_false_iff.mpr c11
        subst c11
        have H1 : ((strconv_Itoa_79.f a0_0).bind fun t161 => (if 4 + t161.size ≤ 9223372036854775807 then (if ((⟨#[107, 101, 121, 32]⟩ : ByteArray) ++ t161).size + 5 ≤ 9223372036854775807 then ((strconv_Itoa_79.f a0_1).bind fun t162 => (if (((⟨#[107, 101, 121, 32]⟩ : ByteArray) ++ t161) ++ (⟨#[32, 108, 111, 103, 32]⟩ : ByteArray)).size + t162.size ≤ 9223372036854775807 then (if ((((⟨#[107, 101, 121, 32]⟩ : ByteArray) ++ t161) ++ (⟨#[32, 108, 111, 103, 32]⟩ : ByteArray)) ++ t162).size + 7 ≤ 9223372036854775807 then ((strconv_Itoa_79.f a0_2).bind fun t163 => (if (((((⟨#[107, 101, 121, 32]⟩ : ByteArray) ++ t161) ++ (⟨#[32, 108, 111, 103, 32]⟩ : ByteArray)) ++ t162) ++ (⟨#[32, 98, 111, 117, 110, 100, 32]⟩ : ByteArray)).size + t163.size ≤ 9223372036854775807 then (if ((((((⟨#[107, 101, 121, 32]⟩ : ByteArray) ++ t161) ++ (⟨#[32, 108, 111, 103, 32]⟩ : ByteArray)) ++ t162) ++ (⟨#[32, 98, 111, 117, 110, 100, 32]⟩ : ByteArray)) ++ t163).size + 5 ≤ 9223372036854775807 then ((strconv_Itoa_79.f a0_3).bind fun t164 => (if (((((((⟨#[107, 101, 121, 32]⟩ : ByteArray) ++ t161) ++ (⟨#[32, 108, 111, 103, 32]⟩ : ByteArray)) ++ t162) ++ (⟨#[32, 98, 111, 117, 110, 100, 32]⟩ : ByteArray)) ++ t163) ++ (⟨#[32, 99, 97, 112, 32]⟩ : ByteArray)).size + t164.size ≤ 9223372036854775807 then (some ((((((((⟨#[107, 101, 121, 32]⟩ : ByteArray) ++ t161) ++ (⟨#[32, 108, 111, 103, 32]⟩ : ByteArray)) ++ t162) ++ (⟨#[32, 98, 111, 117, 110, 100, 32]⟩ : ByteArray)) ++ t163) ++ (⟨#[32, 99, 97, 112, 32]⟩ : ByteArray)) ++ t164)) else (none))) else (none)) else (none))) else (none)) else (none))) else (none)) else (none))) = some r := by rw [if_neg (show ¬ (false = true) by decide)] at H; exact H
        clear H
        have H := H1
        clear H1
        replace H := Option.bind_eq_some_iff.mp H
        obtain ⟨t161, A120, H⟩ := H
        replace H : (if 4 + t161.size ≤ 9223372036854775807 then (if ((⟨#[107, 101, 121, 32]⟩ : ByteArray) ++ t161).size + 5 ≤ 9223372036854775807 then ((strconv_Itoa_79.f a0_1).bind fun t162 => (if (((⟨#[107, 101, 121, 32]⟩ : ByteArray) ++ t161) ++ (⟨#[32, 108, 111, 103, 32]⟩ : ByteArray)).size + t162.size ≤ 9223372036854775807 then (if ((((⟨#[107, 101, 121, 32]⟩ : ByteArray) ++ t161) ++ (⟨#[32, 108, 111, 103, 32]⟩ : ByteArray)) ++ t162).size + 7 ≤ 9223372036854775807 then ((strconv_Itoa_79.f a0_2).bind fun t163 => (if (((((⟨#[107, 101, 121, 32]⟩ : ByteArray) ++ t161) ++ (⟨#[32, 108, 111, 103, 32]⟩ : ByteArray)) ++ t162) ++ (⟨#[32, 98, 111, 117, 110, 100, 32]⟩ : ByteArray)).size + t163.size ≤ 9223372036854775807 then (if ((((((⟨#[107, 101, 121, 32]⟩ : ByteArray) ++ t161) ++ (⟨#[32, 108, 111, 103, 32]⟩ : ByteArray)) ++ t162) ++ (⟨#[32, 98, 111, 117, 110, 100, 32]⟩ : ByteArray)) ++ t163).size + 5 ≤ 9223372036854775807 then ((strconv_Itoa_79.f a0_3).bind fun t164 => (if (((((((⟨#[107, 101, 121, 32]⟩ : ByteArray) ++ t161) ++ (⟨#[32, 108, 111, 103, 32]⟩ : ByteArray)) ++ t162) ++ (⟨#[32, 98, 111, 117, 110, 100, 32]⟩ : ByteArray)) ++ t163) ++ (⟨#[32, 99, 97, 112, 32]⟩ : ByteArray)).size + t164.size ≤ 9223372036854775807 then (some ((((((((⟨#[107, 101, 121, 32]⟩ : ByteArray) ++ t161) ++ (⟨#[32, 108, 111, 103, 32]⟩ : ByteArray)) ++ t162) ++ (⟨#[32, 98, 111, 117, 110, 100, 32]⟩ : ByteArray)) ++ t163) ++ (⟨#[32, 99, 97, 112, 32]⟩ : ByteArray)) ++ t164)) else (none))) else (none)) else (none))) else (none)) else (none))) else (none)) else (none)) = some r := H
        have A12 := Aside0.mk A120
        clear A120
        by_cases c13 : 4 + t161.size ≤ 9223372036854775807
        · rw [if_pos c13] at H
          have c13b0 := eq_true c13
          have c13b1 : decide (4 + t161.size ≤ 9223372036854775807) = true := decide_eq_true c13
          try have c13b2 : (9223372036854775807 < 4 + t161.size) = False := eq_false (Nat.not_lt.2 c13)
          by_cases c14 : ((⟨#[107, 101, 121, 32]⟩ : ByteArray) ++ t161).size + 5 ≤ 9223372036854775807
          · rw [if_pos c14] at H
            have c14b0 := eq_true c14
            have c14b1 : decide (((⟨#[107, 101, 121, 32]⟩ : ByteArray) ++ t161).size + 5 ≤ 9223372036854775807) = true := decide_eq_true c14
            try have c14b2 : (9223372036854775807 < ((⟨#[107, 101, 121, 32]⟩ : ByteArray) ++ t161).size + 5) = False := eq_false (Nat.not_lt.2 c14)
            try have c14b3 := c14b2
            try simp only [ByteArray.size_append, show (⟨#[107, 101, 121, 32]⟩ : ByteArray).size = 4 from rfl] at c14b3
            replace H := Option.bind_eq_some_iff.mp H
            obtain ⟨t162, A150, H⟩ := H
            replace H : (if (((⟨#[107, 101, 121, 32]⟩ : ByteArray) ++ t161) ++ (⟨#[32, 108, 111, 103, 32]⟩ : ByteArray)).size + t162.size ≤ 9223372036854775807 then (if ((((⟨#[107, 101, 121, 32]⟩ : ByteArray) ++ t161) ++ (⟨#[32, 108, 111, 103, 32]⟩ : ByteArray)) ++ t162).size + 7 ≤ 9223372036854775807 then ((strconv_Itoa_79.f a0_2).bind fun t163 => (if (((((⟨#[107, 101, 121, 32]⟩ : ByteArray) ++ t161) ++ (⟨#[32, 108, 111, 103, 32]⟩ : ByteArray)) ++ t162) ++ (⟨#[32, 98, 111, 117, 110, 100, 32]⟩ : ByteArray)).size + t163.size ≤ 9223372036854775807 then (if ((((((⟨#[107, 101, 121, 32]⟩ : ByteArray) ++ t161) ++ (⟨#[32, 108, 111, 103, 32]⟩ : ByteArray)) ++ t162) ++ (⟨#[32, 98, 111, 117, 110, 100, 32]⟩ : ByteArray)) ++ t163).size + 5 ≤ 9223372036854775807 then ((strconv_Itoa_79.f a0_3).bind fun t164 => (if (((((((⟨#[107, 101, 121, 32]⟩ : ByteArray) ++ t161) ++ (⟨#[32, 108, 111, 103, 32]⟩ : ByteArray)) ++ t162) ++ (⟨#[32, 98, 111, 117, 110, 100, 32]⟩ : ByteArray)) ++ t163) ++ (⟨#[32, 99, 97, 112, 32]⟩ : ByteArray)).size + t164.size ≤ 9223372036854775807 then (some ((((((((⟨#[107, 101, 121, 32]⟩ : ByteArray) ++ t161) ++ (⟨#[32, 108, 111, 103, 32]⟩ : ByteArray)) ++ t162) ++ (⟨#[32, 98, 111, 117, 110, 100, 32]⟩ : ByteArray)) ++ t163) ++ (⟨#[32, 99, 97, 112, 32]⟩ : ByteArray)) ++ t164)) else (none))) else (none)) else (none))) else (none)) else (none)) = some r := H
            have A15 := Aside0.mk A150
            clear A150
            by_cases c16 : (((⟨#[107, 101, 121, 32]⟩ : ByteArray) ++ t161) ++ (⟨#[32, 108, 111, 103, 32]⟩ : ByteArray)).size + t162.size ≤ 9223372036854775807
            · rw [if_pos c16] at H
              have c16b0 := eq_true c16
              have c16b1 : decide ((((⟨#[107, 101, 121, 32]⟩ : ByteArray) ++ t161) ++ (⟨#[32, 108, 111, 103, 32]⟩ : ByteArray)).size + t162.size ≤ 9223372036854775807) = true := decide_eq_true c16
              try have c16b2 : (9223372036854775807 < (((⟨#[107, 101, 121, 32]⟩ : ByteArray) ++ t161) ++ (⟨#[32, 108, 111, 103, 32]⟩ : ByteArray)).size + t162.size) = False := eq_false (Nat.not_lt.2 c16)
              try have c16b3 := c16b2
              try simp only [ByteArray.size_append, show (⟨#[107, 101, 121, 32]⟩ : ByteArray).size = 4 from rfl, show (⟨#[32, 108, 111, 103, 32]⟩ : ByteArray).size = 5 from rfl] at c16b3
              by_cases c17 : ((((⟨#[107, 101, 121, 32]⟩ : ByteArray) ++ t161) ++ (⟨#[32, 108, 111, 103, 32]⟩ : ByteArray)) ++ t162).size + 7 ≤ 9223372036854775807
              · rw [if_pos c17] at H
                have c17b0 := eq_true c17
                have c17b1 : decide (((((⟨#[107, 101, 121, 32]⟩ : ByteArray) ++ t161) ++ (⟨#[32, 108, 111, 103, 32]⟩ : ByteArray)) ++ t162).size + 7 ≤ 9223372036854775807) = true := decide_eq_true c17
                try have c17b2 : (9223372036854775807 < ((((⟨#[107, 101, 121, 32]⟩ : ByteArray) ++ t161) ++ (⟨#[32, 108, 111, 103, 32]⟩ : ByteArray)) ++ t162).size + 7) = False := eq_false (Nat.not_lt.2 c17)
                try have c17b3 := c17b2
                try simp only [ByteArray.size_append, show (⟨#[107, 101, 121, 32]⟩ : ByteArray).size = 4 from rfl, show (⟨#[32, 108, 111, 103, 32]⟩ : ByteArray).size = 5 from rfl] at c17b3
                replace H := Option.bind_eq_some_iff.mp H
                obtain ⟨t163, A180, H⟩ := H
                replace H : (if (((((⟨#[107, 101, 121, 32]⟩ : ByteArray) ++ t161) ++ (⟨#[32, 108, 111, 103, 32]⟩ : ByteArray)) ++ t162) ++ (⟨#[32, 98, 111, 117, 110, 100, 32]⟩ : ByteArray)).size + t163.size ≤ 9223372036854775807 then (if ((((((⟨#[107, 101, 121, 32]⟩ : ByteArray) ++ t161) ++ (⟨#[32, 108, 111, 103, 32]⟩ : ByteArray)) ++ t162) ++ (⟨#[32, 98, 111, 117, 110, 100, 32]⟩ : ByteArray)) ++ t163).size + 5 ≤ 9223372036854775807 then ((strconv_Itoa_79.f a0_3).bind fun t164 => (if (((((((⟨#[107, 101, 121, 32]⟩ : ByteArray) ++ t161) ++ (⟨#[32, 108, 111, 103, 32]⟩ : ByteArray)) ++ t162) ++ (⟨#[32, 98, 111, 117, 110, 100, 32]⟩ : ByteArray)) ++ t163) ++ (⟨#[32, 99, 97, 112, 32]⟩ : ByteArray)).size + t164.size ≤ 9223372036854775807 then (some ((((((((⟨#[107, 101, 121, 32]⟩ : ByteArray) ++ t161) ++ (⟨#[32, 108, 111, 103, 32]⟩ : ByteArray)) ++ t162) ++ (⟨#[32, 98, 111, 117, 110, 100, 32]⟩ : ByteArray)) ++ t163) ++ (⟨#[32, 99, 97, 112, 32]⟩ : ByteArray)) ++ t164)) else (none))) else (none)) else (none)) = some r := H
                have A18 := Aside0.mk A180
                clear A180
                by_cases c19 : (((((⟨#[107, 101, 121, 32]⟩ : ByteArray) ++ t161) ++ (⟨#[32, 108, 111, 103, 32]⟩ : ByteArray)) ++ t162) ++ (⟨#[32, 98, 111, 117, 110, 100, 32]⟩ : ByteArray)).size + t163.size ≤ 9223372036854775807
                · rw [if_pos c19] at H
                  have c19b0 := eq_true c19
                  have c19b1 : decide ((((((⟨#[107, 101, 121, 32]⟩ : ByteArray) ++ t161) ++ (⟨#[32, 108, 111, 103, 32]⟩ : ByteArray)) ++ t162) ++ (⟨#[32, 98, 111, 117, 110, 100, 32]⟩ : ByteArray)).size + t163.size ≤ 9223372036854775807) = true := decide_eq_true c19
                  try have c19b2 : (9223372036854775807 < (((((⟨#[107, 101, 121, 32]⟩ : ByteArray) ++ t161) ++ (⟨#[32, 108, 111, 103, 32]⟩ : ByteArray)) ++ t162) ++ (⟨#[32, 98, 111, 117, 110, 100, 32]⟩ : ByteArray)).size + t163.size) = False := eq_false (Nat.not_lt.2 c19)
                  try have c19b3 := c19b2
                  try simp only [ByteArray.size_append, show (⟨#[107, 101, 121, 32]⟩ : ByteArray).size = 4 from rfl, show (⟨#[32, 108, 111, 103, 32]⟩ : ByteArray).size = 5 from rfl, show (⟨#[32, 98, 111, 117, 110, 100, 32]⟩ : ByteArray).size = 7 from rfl] at c19b3
                  by_cases c20 : ((((((⟨#[107, 101, 121, 32]⟩ : ByteArray) ++ t161) ++ (⟨#[32, 108, 111, 103, 32]⟩ : ByteArray)) ++ t162) ++ (⟨#[32, 98, 111, 117, 110, 100, 32]⟩ : ByteArray)) ++ t163).size + 5 ≤ 9223372036854775807
                  · rw [if_pos c20] at H
                    have c20b0 := eq_true c20
                    have c20b1 : decide (((((((⟨#[107, 101, 121, 32]⟩ : ByteArray) ++ t161) ++ (⟨#[32, 108, 111, 103, 32]⟩ : ByteArray)) ++ t162) ++ (⟨#[32, 98, 111, 117, 110, 100, 32]⟩ : ByteArray)) ++ t163).size + 5 ≤ 9223372036854775807) = true := decide_eq_true c20
                    try have c20b2 : (9223372036854775807 < ((((((⟨#[107, 101, 121, 32]⟩ : ByteArray) ++ t161) ++ (⟨#[32, 108, 111, 103, 32]⟩ : ByteArray)) ++ t162) ++ (⟨#[32, 98, 111, 117, 110, 100, 32]⟩ : ByteArray)) ++ t163).size + 5) = False := eq_false (Nat.not_lt.2 c20)
                    try have c20b3 := c20b2
                    try simp only [ByteArray.size_append, show (⟨#[107, 101, 121, 32]⟩ : ByteArray).size = 4 from rfl, show (⟨#[32, 108, 111, 103, 32]⟩ : ByteArray).size = 5 from rfl, show (⟨#[32, 98, 111, 117, 110, 100, 32]⟩ : ByteArray).size = 7 from rfl] at c20b3
                    replace H := Option.bind_eq_some_iff.mp H
                    obtain ⟨t164, A210, H⟩ := H
                    replace H : (if (((((((⟨#[107, 101, 121, 32]⟩ : ByteArray) ++ t161) ++ (⟨#[32, 108, 111, 103, 32]⟩ : ByteArray)) ++ t162) ++ (⟨#[32, 98, 111, 117, 110, 100, 32]⟩ : ByteArray)) ++ t163) ++ (⟨#[32, 99, 97, 112, 32]⟩ : ByteArray)).size + t164.size ≤ 9223372036854775807 then (some ((((((((⟨#[107, 101, 121, 32]⟩ : ByteArray) ++ t161) ++ (⟨#[32, 108, 111, 103, 32]⟩ : ByteArray)) ++ t162) ++ (⟨#[32, 98, 111, 117, 110, 100, 32]⟩ : ByteArray)) ++ t163) ++ (⟨#[32, 99, 97, 112, 32]⟩ : ByteArray)) ++ t164)) else (none)) = some r := H
                    have A21 := Aside0.mk A210
                    clear A210
                    by_cases c22 : (((((((⟨#[107, 101, 121, 32]⟩ : ByteArray) ++ t161) ++ (⟨#[32, 108, 111, 103, 32]⟩ : ByteArray)) ++ t162) ++ (⟨#[32, 98, 111, 117, 110, 100, 32]⟩ : ByteArray)) ++ t163) ++ (⟨#[32, 99, 97, 112, 32]⟩ : ByteArray)).size + t164.size ≤ 9223372036854775807
                    · rw [if_pos c22] at H
                      have c22b0 := eq_true c22
                      have c22b1 : decide ((((((((⟨#[107, 101, 121, 32]⟩ : ByteArray) ++ t161) ++ (⟨#[32, 108, 111, 103, 32]⟩ : ByteArray)) ++ t162) ++ (⟨#[32, 98, 111, 117, 110, 100, 32]⟩ : ByteArray)) ++ t163) ++ (⟨#[32, 99, 97, 112, 32]⟩ : ByteArray)).size + t164.size ≤ 9223372036854775807) = true := decide_eq_true c22
                      try have c22b2 : (9223372036854775807 < (((((((⟨#[107, 101, 121, 32]⟩ : ByteArray) ++ t161) ++ (⟨#[32, 108, 111, 103, 32]⟩ : ByteArray)) ++ t162) ++ (⟨#[32, 98, 111, 117, 110, 100, 32]⟩ : ByteArray)) ++ t163) ++ (⟨#[32, 99, 97, 112, 32]⟩ : ByteArray)).size + t164.size) = False := eq_false (Nat.not_lt.2 c22)
                      try have c22b3 := c22b2
                      try simp only [ByteArray.size_append, show (⟨#[107, 101, 121, 32]⟩ : ByteArray).size = 4 from rfl, show (⟨#[32, 108, 111, 103, 32]⟩ : ByteArray).size = 5 from rfl, show (⟨#[32, 98, 111, 117, 110, 100, 32]⟩ : ByteArray).size = 7 from rfl, show (⟨#[32, 99, 97, 112, 32]⟩ : ByteArray).size = 5 from rfl] at c22b3
                      obtain rfl := Option.some.inj H
                      try go_wp2
                      have n0_ := Aside0.mk (blk_drew BK159.out)
                      have n1_ := Aside0.mk (below_drew1 HB.out)
                      clear BK159
                      clear HB
                      have BK159 := n0_
                      have HB := n1_
                      clear n0_ n1_
                      refine start_ (n := 20) (S := fun w' => w'.cell? ⟨gb159, 0, none⟩ = some (.int .i64 a0_0) ∧ w'.cell? ⟨gb159, 1, none⟩ = some (.int .i64 a0_1) ∧ w'.cell? ⟨gb159, 2, none⟩ = some (.int .i64 a0_2) ∧ w'.cell? ⟨gb159, 3, none⟩ = some (.int .i64 a0_3)) (ds := []) #[false, false, false, false, false, false, false, false, false, false, false, false, false, false, false, false, false, false, false, false] (by kernel_rfl) rfl rfl ⟨(blk_cell BK159.out 0).trans rfl, (blk_cell BK159.out 1).trans rfl, (blk_cell BK159.out 2).trans rfl, (blk_cell BK159.out 3).trans rfl⟩ (fun hHeld => ?_); refine with_tabW impl_confText.tab3 impl_confText.bits3 (fun HT_ HW_ => ?_)
                      generalize wc.drew = w23 at BK159 HB hHeld ⊢
                      refine pure_ (i := 0) (N := some 11) (v := ?_) (a' := ?_) #[true, false, false, false, false, false, false, false, false, false, false, false, false, false, false, false, false, false, false, false] rfl rfl (any_of HT_.out (by kernel_rfl)) (fun _ _ _ h => h) (Or.inl ⟨by rfl, ?_⟩) ?_ ?_
                      rotate_left
                      · intro w'
                        go_simp
                        with_reducible rfl
                      rotate_left
                      · simp only [Act.put, List.setIfInBounds_toArray, List.set_cons_zero, List.set_cons_succ, i64_w, i32_w]
                        rfl
                      refine pure_ (i := 5) (N := some 16) (v := ?_) (a' := ?_) #[true, false, false, false, false, true, false, false, false, false, false, false, false, false, false, false, false, false, false, false] rfl rfl (any_of HT_.out (by kernel_rfl)) (fun _ _ _ h => h) (Or.inl ⟨by rfl, ?_⟩) ?_ ?_
                      rotate_left
                      · intro w'
                        go_simp
                        with_reducible rfl
                      rotate_left
                      · simp only [Act.put, List.setIfInBounds_toArray, List.set_cons_zero, List.set_cons_succ, i64_w, i32_w]
                        rfl
                      refine pure_ (i := 10) (N := some 21) (v := ?_) (a' := ?_) #[true, false, false, false, false, true, false, false, false, false, true, false, false, false, false, false, false, false, false, false] rfl rfl (any_of HT_.out (by kernel_rfl)) (fun _ _ _ h => h) (Or.inl ⟨by rfl, ?_⟩) ?_ ?_
                      rotate_left
                      · intro w'
                        go_simp
                        with_reducible rfl
                      rotate_left
                      · simp only [Act.put, List.setIfInBounds_toArray, List.set_cons_zero, List.set_cons_succ, i64_w, i32_w]
                        rfl
                      refine pure_ (i := 15) (N := some 26) (v := ?_) (a' := ?_) #[true, false, false, false, false, true, false, false, false, false, true, false, false, false, false, true, false, false, false, false] rfl rfl (any_of HT_.out (by kernel_rfl)) (fun _ _ _ h => h) (Or.inl ⟨by rfl, ?_⟩) ?_ ?_
                      rotate_left
                      · intro w'
                        go_simp
                        with_reducible rfl
                      rotate_left
                      · simp only [Act.put, List.setIfInBounds_toArray, List.set_cons_zero, List.set_cons_succ, i64_w, i32_w]
                        rfl
                      refine take_ (i := 1) (N := some 12) (v := ?_) (a' := ?_) #[true, true, false, false, false, true, false, false, false, false, true, false, false, false, false, true, false, false, false, false] rfl rfl (take_ofW HT_.out HW_.out (by kernel_rfl)) (fun _ _ _ h => h) (Or.inl ⟨by rfl, ?_⟩) hHeld ?_ ?_
                      rotate_left
                      · rintro w' ⟨s0, s1, s2, s3⟩
                        go_simp
                        with_reducible rfl
                      rotate_left
                      · simp only [Act.put, List.setIfInBounds_toArray, List.set_cons_zero, List.set_cons_succ, i64_w, i32_w]
                        rfl
                      refine take_ (i := 6) (N := some 17) (v := ?_) (a' := ?_) #[true, true, false, false, false, true, true, false, false, false, true, false, false, false, false, true, false, false, false, false] rfl rfl (take_ofW HT_.out HW_.out (by kernel_rfl)) (fun _ _ _ h => h) (Or.inl ⟨by rfl, ?_⟩) hHeld ?_ ?_
                      rotate_left
                      · rintro w' ⟨s0, s1, s2, s3⟩
                        go_simp
                        with_reducible rfl
                      rotate_left
                      · simp only [Act.put, List.setIfInBounds_toArray, List.set_cons_zero, List.set_cons_succ, i64_w, i32_w]
                        rfl
                      refine take_ (i := 11) (N := some 22) (v := ?_) (a' := ?_) #[true, true, false, false, false, true, true, false, false, false, true, true, false, false, false, true, false, false, false, false] rfl rfl (take_ofW HT_.out HW_.out (by kernel_rfl)) (fun _ _ _ h => h) (Or.inl ⟨by rfl, ?_⟩) hHeld ?_ ?_
                      rotate_left
                      · rintro w' ⟨s0, s1, s2, s3⟩
                        go_simp
                        with_reducible rfl
                      rotate_left
                      · simp only [Act.put, List.setIfInBounds_toArray, List.set_cons_zero, List.set_cons_succ, i64_w, i32_w]
                        rfl
                      refine take_ (i := 16) (N := some 27) (v := ?_) (a' := ?_) #[true, true, false, false, false, true, true, false, false, false, true, true, false, false, false, true, true, false, false, false] rfl rfl (take_ofW HT_.out HW_.out (by kernel_rfl)) (fun _ _ _ h => h) (Or.inl ⟨by rfl, ?_⟩) hHeld ?_ ?_
                      rotate_left
                      · rintro w' ⟨s0, s1, s2, s3⟩
                        go_simp
                        with_reducible rfl
                      rotate_left
                      · simp only [Act.put, List.setIfInBounds_toArray, List.set_cons_zero, List.set_cons_succ, i64_w, i32_w]
                        rfl
                      refine one_ (i := 2) (N := some 13) #[true, true, true, false, false, true, true, false, false, false, true, true, false, false, false, true, true, false, false, false] rfl rfl (one_of HT_.out (by kernel_rfl)) (by decide) (fun K hK => ?_)
                      refine goes_ Tryd.func79 (by kernel_rfl) rfl #[.int .i64 a0_0] (by rfl) rfl rfl (by (try simp only [List.map_toArray, List.map_cons, List.map_nil]); first | done | rfl | (simp only [List.length_drop, List.length_take]; rfl)) ?_
                      with_reducible refine (strconv_Itoa_79.calls a0_0 t161 _ A12.out (G_below (by repeat (first | (with_reducible first | exact HB.out | apply below_alloc | apply pw_below_drewN | apply below_drew1) | exact HB.out)) hG)).mono ?_
                      rintro e w24 ⟨rfl, hb⟩
                      refine ⟨_, rfl, ?_⟩
                      have n0_ := Aside0.mk (blk_below (g := gb159) (o := .cells #[.int .i64 a0_0, .int .i64 a0_1, .int .i64 a0_2, .int .i64 a0_3] 25 (0, 0)) (by (with_reducible repeat (first | refine blk_drewN ?_ _ | refine blk_drew ?_ | refine blk_alloc ?_ _)); exact BK159.out) hb)
                      have n1_ := Aside0.mk (below_step (by repeat (first | (with_reducible first | exact HB.out | apply below_alloc | apply pw_below_drewN | apply below_drew1 | refine below_set ?_ GE159.out) | exact HB.out)) hb)
                      clear BK159
                      clear HB
                      have BK159 := n0_
                      have HB := n1_
                      clear n0_ n1_
                      (try clear hb)
                      (try clear hb2)
                      (try clear hk)
                      (try clear hi)
                      refine hK.out _ _ ⟨(blk_cell BK159.out 0).trans rfl, (blk_cell BK159.out 1).trans rfl, (blk_cell BK159.out 2).trans rfl, (blk_cell BK159.out 3).trans rfl⟩ (fun hHeld => ?_)
                      clear hK K
                      refine norm_ (a' := ?_) ?_ ?_
                      rotate_left
                      · show Act.put _ (some 13) _ = _
                        simp only [Act.put, List.setIfInBounds_toArray, List.set_cons_zero, List.set_cons_succ, i64_w, i32_w]
                        rfl
                      refine pure_ (i := 3) (N := some 14) (v := ?_) (a' := ?_) #[true, true, true, true, false, true, true, false, false, false, true, true, false, false, false, true, true, false, false, false] rfl rfl (any_of HT_.out (by kernel_rfl)) (fun _ _ _ h => h) (Or.inl ⟨by rfl, ?_⟩) ?_ ?_
                      rotate_left
                      · intro w'
                        go_simp
                        with_reducible rfl
                      rotate_left
                      · simp only [Act.put, List.setIfInBounds_toArray, List.set_cons_zero, List.set_cons_succ, i64_w, i32_w]
                        rfl
                      refine pure_ (i := 4) (N := some 15) (v := ?_) (a' := ?_) #[true, true, true, true, true, true, true, false, false, false, true, true, false, false, false, true, true, false, false, false] rfl rfl (any_of HT_.out (by kernel_rfl)) (fun _ _ _ h => h) (Or.inl ⟨by rfl, ?_⟩) ?_ ?_
                      rotate_left
                      · intro w'
                        go_simp
                        with_reducible rfl
                      rotate_left
                      · simp only [Act.put, List.setIfInBounds_toArray, List.set_cons_zero, List.set_cons_succ, i64_w, i32_w]
                        rfl
                      refine one_ (i := 7) (N := some 18) #[true, true, true, true, true, true, true, true, false, false, true, true, false, false, false, true, true, false, false, false] rfl rfl (one_of HT_.out (by kernel_rfl)) (by decide) (fun K hK => ?_)
                      refine goes_ Tryd.func79 (by kernel_rfl) rfl #[.int .i64 a0_1] (by rfl) rfl rfl (by (try simp only [List.map_toArray, List.map_cons, List.map_nil]); first | done | rfl | (simp only [List.length_drop, List.length_take]; rfl)) ?_
                      with_reducible refine (strconv_Itoa_79.calls a0_1 t162 _ A15.out (G_below (by repeat (first | (with_reducible first | exact HB.out | apply below_alloc | apply pw_below_drewN | apply below_drew1) | exact HB.out)) hG)).mono ?_
                      rintro e w25 ⟨rfl, hb⟩
                      refine ⟨_, rfl, ?_⟩
                      have n0_ := Aside0.mk (blk_below (g := gb159) (o := .cells #[.int .i64 a0_0, .int .i64 a0_1, .int .i64 a0_2, .int .i64 a0_3] 25 (0, 0)) (by (with_reducible repeat (first | refine blk_drewN ?_ _ | refine blk_drew ?_ | refine blk_alloc ?_ _)); exact BK159.out) hb)
                      have n1_ := Aside0.mk (below_step (by repeat (first | (with_reducible first | exact HB.out | apply below_alloc | apply pw_below_drewN | apply below_drew1 | refine below_set ?_ GE159.out) | exact HB.out)) hb)
                      clear BK159
                      clear HB
                      have BK159 := n0_
                      have HB := n1_
                      clear n0_ n1_
                      (try clear hb)
                      (try clear hb2)
                      (try clear hk)
                      (try clear hi)
                      refine hK.out _ _ ⟨(blk_cell BK159.out 0).trans rfl, (blk_cell BK159.out 1).trans rfl, (blk_cell BK159.out 2).trans rfl, (blk_cell BK159.out 3).trans rfl⟩ (fun hHeld => ?_)
                      clear hK K
                      refine norm_ (a' := ?_) ?_ ?_
                      rotate_left
                      · show Act.put _ (some 18) _ = _
                        simp only [Act.put, List.setIfInBounds_toArray, List.set_cons_zero, List.set_cons_succ, i64_w, i32_w]
                        rfl
                      refine pure_ (i := 8) (N := some 19) (v := ?_) (a' := ?_) #[true, true, true, true, true, true, true, true, true, false, true, true, false, false, false, true, true, false, false, false] rfl rfl (any_of HT_.out (by kernel_rfl)) (fun _ _ _ h => h) (Or.inl ⟨by rfl, ?_⟩) ?_ ?_
                      rotate_left
                      · intro w'
                        go_simp
                        with_reducible rfl
                      rotate_left
                      · simp only [Act.put, List.setIfInBounds_toArray, List.set_cons_zero, List.set_cons_succ, i64_w, i32_w]
                        rfl
                      refine pure_ (i := 9) (N := some 20) (v := ?_) (a' := ?_) #[true, true, true, true, true, true, true, true, true, true, true, true, false, false, false, true, true, false, false, false] rfl rfl (any_of HT_.out (by kernel_rfl)) (fun _ _ _ h => h) (Or.inl ⟨by rfl, ?_⟩) ?_ ?_
                      rotate_left
                      · intro w'
                        go_simp
                        with_reducible rfl
                      rotate_left
                      · simp only [Act.put, List.setIfInBounds_toArray, List.set_cons_zero, List.set_cons_succ, i64_w, i32_w]
                        rfl
                      refine one_ (i := 12) (N := some 23) #[true, true, true, true, true, true, true, true, true, true, true, true, true, false, false, true, true, false, false, false] rfl rfl (one_of HT_.out (by kernel_rfl)) (by decide) (fun K hK => ?_)
                      refine goes_ Tryd.func79 (by kernel_rfl) rfl #[.int .i64 a0_2] (by rfl) rfl rfl (by (try simp only [List.map_toArray, List.map_cons, List.map_nil]); first | done | rfl | (simp only [List.length_drop, List.length_take]; rfl)) ?_
                      with_reducible refine (strconv_Itoa_79.calls a0_2 t163 _ A18.out (G_below (by repeat (first | (with_reducible first | exact HB.out | apply below_alloc | apply pw_below_drewN | apply below_drew1) | exact HB.out)) hG)).mono ?_
                      rintro e w26 ⟨rfl, hb⟩
                      refine ⟨_, rfl, ?_⟩
                      have n0_ := Aside0.mk (blk_below (g := gb159) (o := .cells #[.int .i64 a0_0, .int .i64 a0_1, .int .i64 a0_2, .int .i64 a0_3] 25 (0, 0)) (by (with_reducible repeat (first | refine blk_drewN ?_ _ | refine blk_drew ?_ | refine blk_alloc ?_ _)); exact BK159.out) hb)
                      have n1_ := Aside0.mk (below_step (by repeat (first | (with_reducible first | exact HB.out | apply below_alloc | apply pw_below_drewN | apply below_drew1 | refine below_set ?_ GE159.out) | exact HB.out)) hb)
                      clear BK159
                      clear HB
                      have BK159 := n0_
                      have HB := n1_
                      clear n0_ n1_
                      (try clear hb)
                      (try clear hb2)
                      (try clear hk)
                      (try clear hi)
                      refine hK.out _ _ ⟨(blk_cell BK159.out 0).trans rfl, (blk_cell BK159.out 1).trans rfl, (blk_cell BK159.out 2).trans rfl, (blk_cell BK159.out 3).trans rfl⟩ (fun hHeld => ?_)
                      clear hK K
                      refine norm_ (a' := ?_) ?_ ?_
                      rotate_left
                      · show Act.put _ (some 23) _ = _
                        simp only [Act.put, List.setIfInBounds_toArray, List.set_cons_zero, List.set_cons_succ, i64_w, i32_w]
                        rfl
                      refine pure_ (i := 13) (N := some 24) (v := ?_) (a' := ?_) #[true, true, true, true, true, true, true, true, true, true, true, true, true, true, false, true, true, false, false, false] rfl rfl (any_of HT_.out (by kernel_rfl)) (fun _ _ _ h => h) (Or.inl ⟨by rfl, ?_⟩) ?_ ?_
                      rotate_left
                      · intro w'
                        go_simp
                        with_reducible rfl
                      rotate_left
                      · simp only [Act.put, List.setIfInBounds_toArray, List.set_cons_zero, List.set_cons_succ, i64_w, i32_w]
                        rfl
                      refine pure_ (i := 14) (N := some 25) (v := ?_) (a' := ?_) #[true, true, true, true, true, true, true, true, true, true, true, true, true, true, true, true, true, false, false, false] rfl rfl (any_of HT_.out (by kernel_rfl)) (fun _ _ _ h => h) (Or.inl ⟨by rfl, ?_⟩) ?_ ?_
                      rotate_left
                      · intro w'
                        go_simp
                        with_reducible rfl
                      rotate_left
                      · simp only [Act.put, List.setIfInBounds_toArray, List.set_cons_zero, List.set_cons_succ, i64_w, i32_w]
                        rfl
                      refine one_ (i := 17) (N := some 28) #[true, true, true, true, true, true, true, true, true, true, true, true, true, true, true, true, true, true, false, false] rfl rfl (one_of HT_.out (by kernel_rfl)) (by decide) (fun K hK => ?_)
                      refine goes_ Tryd.func79 (by kernel_rfl) rfl #[.int .i64 a0_3] (by rfl) rfl rfl (by (try simp only [List.map_toArray, List.map_cons, List.map_nil]); first | done | rfl | (simp only [List.length_drop, List.length_take]; rfl)) ?_
                      with_reducible refine (strconv_Itoa_79.calls a0_3 t164 _ A21.out (G_below (by repeat (first | (with_reducible first | exact HB.out | apply below_alloc | apply pw_below_drewN | apply below_drew1) | exact HB.out)) hG)).mono ?_
                      rintro e w27 ⟨rfl, hb⟩
                      refine ⟨_, rfl, ?_⟩
                      have n0_ := Aside0.mk (blk_below (g := gb159) (o := .cells #[.int .i64 a0_0, .int .i64 a0_1, .int .i64 a0_2, .int .i64 a0_3] 25 (0, 0)) (by (with_reducible repeat (first | refine blk_drewN ?_ _ | refine blk_drew ?_ | refine blk_alloc ?_ _)); exact BK159.out) hb)
                      have n1_ := Aside0.mk (below_step (by repeat (first | (with_reducible first | exact HB.out | apply below_alloc | apply pw_below_drewN | apply below_drew1 | refine below_set ?_ GE159.out) | exact HB.out)) hb)
                      clear BK159
                      clear HB
                      have BK159 := n0_
                      have HB := n1_
                      clear n0_ n1_
                      (try clear hb)
                      (try clear hb2)
                      (try clear hk)
                      (try clear hi)
                      refine hK.out _ _ ⟨(blk_cell BK159.out 0).trans rfl, (blk_cell BK159.out 1).trans rfl, (blk_cell BK159.out 2).trans rfl, (blk_cell BK159.out 3).trans rfl⟩ (fun hHeld => ?_)
                      clear hK K
                      refine norm_ (a' := ?_) ?_ ?_
                      rotate_left
                      · show Act.put _ (some 28) _ = _
                        simp only [Act.put, List.setIfInBounds_toArray, List.set_cons_zero, List.set_cons_succ, i64_w, i32_w]
                        rfl
                      refine pure_ (i := 18) (N := some 29) (v := ?_) (a' := ?_) #[true, true, true, true, true, true, true, true, true, true, true, true, true, true, true, true, true, true, true, false] rfl rfl (any_of HT_.out (by kernel_rfl)) (fun _ _ _ h => h) (Or.inl ⟨by rfl, ?_⟩) ?_ ?_
                      rotate_left
                      · intro w'
                        go_simp
                        with_reducible rfl
                      rotate_left
                      · simp only [Act.put, List.setIfInBounds_toArray, List.set_cons_zero, List.set_cons_succ, i64_w, i32_w]
                        rfl
                      refine pure_ (i := 19) (N := some 2) (v := ?_) (a' := ?_) #[true, true, true, true, true, true, true, true, true, true, true, true, true, true, true, true, true, true, true, true] rfl rfl (any_of HT_.out (by kernel_rfl)) (fun _ _ _ h => h) (Or.inl ⟨by rfl, ?_⟩) ?_ ?_
                      rotate_left
                      · intro w'
                        go_simp
                        with_reducible rfl
                      rotate_left
                      · simp only [Act.put, List.setIfInBounds_toArray, List.set_cons_zero, List.set_cons_succ, i64_w, i32_w]
                        rfl
                      refine done_ (done_of HT_.out (by kernel_rfl)) ?_
                      try go_wp2
                      go_ret
                      exact ⟨by first | rfl | (simp [errW_none, errW_some] <;> rfl) | (simp [*, errW_none, errW_some] <;> rfl), by repeat (first | (with_reducible first | exact HB.out | apply below_alloc | apply pw_below_drewN | apply below_drew1 | refine below_set ?_ GE159.out) | exact HB.out)⟩
                    · rw [if_neg c22] at H
                      exact absurd H (by simp)
                  · rw [if_neg c20] at H
                    exact absurd H (by simp)
                · rw [if_neg c19] at H
                  exact absurd H (by simp)
              · rw [if_neg c17] at H
                exact absurd H (by simp)
            · rw [if_neg c16] at H
              exact absurd H (by simp)
          · rw [if_neg c14] at H
            exact absurd H (by simp)
        · rw [if_neg c13] at H
          exact absurd H (by simp)
end Go.Proofs.YtbpffdhkeinmcaaDoor.QA
namespace Go.Proofs.YtbpffdhkeinmcaaDoor.QA
open Go.RowKit Go.Proofs.YtbpffdhkeinmcaaDoorW.PrintWords Go.Proofs.YtbpffdhkeinmcaaDoorW.PrintLast Go.Proofs.YtbpffdhkeinmcaaDoorW.PrintMore
attribute [local go_sem] max2_int min2_int max_two min_two max_three min_three max_four min_four   -- for this text's walks alone
set_option linter.unusedVariables false
set_option linter.unusedSimpArgs false
def impl_ConfText.f (k : Nat) (a0_0 : Int) (a0_1 : Int) (a0_2 : Int) (a0_3 : Int) : Option (ByteArray) := (impl_confText.f k a0_0 a0_1 a0_2 a0_3).bind fun t166 => (some t166)
set_option maxHeartbeats 8000000 in
set_option maxRecDepth 100000 in
theorem impl_ConfText.calls (k : Nat) (a0_0 : Int) (a0_1 : Int) (a0_2 : Int) (a0_3 : Int) (r : ByteArray) (w : World) (h : impl_ConfText.f k a0_0 a0_1 a0_2 a0_3 = some r) (hG : TabG w) :
    Calls Tryd.prog 11 #[.agg #[.int .i64 a0_0, .int .i64 a0_1, .int .i64 a0_2, .int .i64 a0_3]] w fun e w' => e = .returned (.string r) ∧ Below w.heap.size w w' := by
  have hu25 := Tryd.underlying25
  have HB := Aside0.mk (Below.refl w.heap.size w)
  have H : ((impl_confText.f k a0_0 a0_1 a0_2 a0_3).bind fun t166 => (some t166)) = some r := h
  clear h
  replace H := Option.bind_eq_some_iff.mp H
  obtain ⟨t166, A20, H⟩ := H
  replace H : (some t166) = some r := H
  have A2 := Aside0.mk A20
  clear A20
  obtain rfl := Option.some.inj H
  go_enter Tryd.func11, Tryd.ntmps11
  go_wp2_with (first | ((with_reducible refine gate_dst (N := 1) rfl ?_); refine box_event ?hg (N := 1) ?hd (cs := #[.int .i64 a0_0, .int .i64 a0_1, .int .i64 a0_2, .int .i64 a0_3]) (t := 25) ?hr ?_; (case hd => rfl); (case hg => rfl); (case hr => first | (go_simp; done) | (go_simp; rfl)); intro gb165 hg w3 hbox hb; have n0_ := Aside0.mk (below_step (by repeat (first | (with_reducible first | exact HB.out | apply below_alloc | apply pw_below_drewN | apply below_drew1) | exact HB.out)) hb); have n1_ := Aside0.mk (hbox); have n2_ := Aside0.mk ((by rw [hg]; exact (below_size (by repeat (first | (with_reducible first | exact HB.out | apply below_alloc | apply pw_below_drewN | apply below_drew1) | exact HB.out))) : w.heap.size ≤ gb165)); have n3_ := Aside0.mk ((by rw [hg]; exact (below_size (by repeat (first | (with_reducible first | exact HB.out | apply below_alloc | apply pw_below_drewN | apply below_drew1) | exact HB.out))) : w.heap.size ≤ gb165)); clear HB; have HB := n0_; have BK165 := n1_; have GW165 := n2_; have GE165 := n3_; clear n0_ n1_ n2_ n3_; clear hb hbox hg; have hcz4_0 : w3.cell? ⟨gb165, 0, none⟩ = some (.int .i64 a0_0) := (blk_cell BK165.out 0).trans rfl; have hcz4_1 : w3.cell? ⟨gb165, 1, none⟩ = some (.int .i64 a0_1) := (blk_cell BK165.out 1).trans rfl; have hcz4_2 : w3.cell? ⟨gb165, 2, none⟩ = some (.int .i64 a0_2) := (blk_cell BK165.out 2).trans rfl; have hcz4_3 : w3.cell? ⟨gb165, 3, none⟩ = some (.int .i64 a0_3) := (blk_cell BK165.out 3).trans rfl; have hfz4_0 := blk_frozen BK165.out 0; have hfz4_1 := blk_frozen BK165.out 1; have hfz4_2 := blk_frozen BK165.out 2; have hfz4_3 := blk_frozen BK165.out 3) | ((with_reducible refine gate_callee (f := 42) rfl ?_); refine goesL_ (some 4) rfl rfl Tryd.func42 (by kernel_rfl) rfl #[.agg #[.int .i64 a0_0, .int .i64 a0_1, .int .i64 a0_2, .int .i64 a0_3]] rfl (by (try simp only [List.map_toArray, List.map_cons, List.map_nil]); first | done | rfl | (simp only [List.length_drop, List.length_take]; rfl)) ?_; (with_reducible refine (impl_confText.calls k a0_0 a0_1 a0_2 a0_3 t166 _ A2.out (G_below (by repeat (first | (with_reducible first | exact HB.out | apply below_alloc | apply pw_below_drewN | apply below_drew1 | refine below_set ?_ GE165.out) | exact HB.out)) hG)).mono ?_); rintro e w5 ⟨rfl, hb⟩; refine ⟨_, rfl, ?_⟩; have n0_ := Aside0.mk (blk_below (g := gb165) (o := .cells #[.int .i64 a0_0, .int .i64 a0_1, .int .i64 a0_2, .int .i64 a0_3] 25 (0, 0)) (by (with_reducible repeat (first | refine blk_drewN ?_ _ | refine blk_drew ?_ | refine blk_alloc ?_ _)); exact BK165.out) hb); have n1_ := Aside0.mk (below_step (by repeat (first | (with_reducible first | exact HB.out | apply below_alloc | apply pw_below_drewN | apply below_drew1 | refine below_set ?_ GE165.out) | exact HB.out)) hb); clear BK165; clear HB; have BK165 := n0_; have HB := n1_; clear n0_ n1_; (try clear hb); (try clear hb2); (try clear hk); (try clear hi)))
  go_ret
  exact ⟨by first | rfl | (simp [errW_none, errW_some] <;> rfl) | (simp [*, errW_none, errW_some] <;> rfl), by repeat (first | (with_reducible first | exact HB.out | apply below_alloc | apply pw_below_drewN | apply below_drew1 | refine below_set ?_ GE165.out) | exact HB.out)⟩
end Go.Proofs.YtbpffdhkeinmcaaDoor.QA
namespace Go.Proofs.YtbpffdhkeinmcaaDoor.QA
open Go.RowKit Go.Proofs.YtbpffdhkeinmcaaDoorW.PrintWords Go.Proofs.YtbpffdhkeinmcaaDoorW.PrintLast Go.Proofs.YtbpffdhkeinmcaaDoorW.PrintMore
attribute [local go_sem] max2_int min2_int max_two min_two max_three min_three max_four min_four   -- for this text's walks alone
set_option linter.unusedVariables false
set_option linter.unusedSimpArgs false
def laws_FnExactConfText.f (k : Nat) (a0_0 : Int) (a0_1 : Int) (a0_2 : Int) (a0_3 : Int) : Option (Bool) := (laws_toConf.f a0_0 a0_1 a0_2 a0_3).bind fun bt168 => ((spec_ConfText.f k bt168.1 bt168.2.1 bt168.2.2.1 bt168.2.2.2).bind fun t172 => ((laws_toConf.f a0_0 a0_1 a0_2 a0_3).bind fun bt173 => ((impl_ConfText.f k bt173.1 bt173.2.1 bt173.2.2.1 bt173.2.2.2).bind fun t177 => (if t177.toList = t172.toList then (some true) else (some false)))))
set_option maxHeartbeats 8000000 in
set_option maxRecDepth 100000 in
theorem laws_FnExactConfText.calls (k : Nat) (a0_0 : Int) (a0_1 : Int) (a0_2 : Int) (a0_3 : Int) (r : Bool) (w : World) (h : laws_FnExactConfText.f k a0_0 a0_1 a0_2 a0_3 = some r) (hG : TabG w) :
    Calls Tryd.prog 3 #[.agg #[.int .i64 a0_0, .int .i64 a0_1, .int .i64 a0_2, .int .i64 a0_3]] w fun e w' => e = .returned (.bool r) ∧ Below w.heap.size w w' := by
  have hu23 := Tryd.underlying23
  have HB := Aside0.mk (Below.refl w.heap.size w)
  have H : ((laws_toConf.f a0_0 a0_1 a0_2 a0_3).bind fun bt168 => ((spec_ConfText.f k bt168.1 bt168.2.1 bt168.2.2.1 bt168.2.2.2).bind fun t172 => ((laws_toConf.f a0_0 a0_1 a0_2 a0_3).bind fun bt173 => ((impl_ConfText.f k bt173.1 bt173.2.1 bt173.2.2.1 bt173.2.2.2).bind fun t177 => (if t177.toList = t172.toList then (some true) else (some false)))))) = some r := h
  clear h
  replace H := Option.bind_eq_some_iff.mp H
  obtain ⟨⟨t168, t169, t170, t171⟩, A20, H⟩ := H
  replace H : ((spec_ConfText.f k t168 t169 t170 t171).bind fun t172 => ((laws_toConf.f a0_0 a0_1 a0_2 a0_3).bind fun bt173 => ((impl_ConfText.f k bt173.1 bt173.2.1 bt173.2.2.1 bt173.2.2.2).bind fun t177 => (if t177.toList = t172.toList then (some true) else (some false))))) = some r := H
  have A2 := Aside0.mk A20
  clear A20
  replace H := Option.bind_eq_some_iff.mp H
  obtain ⟨t172, A30, H⟩ := H
  replace H : ((laws_toConf.f a0_0 a0_1 a0_2 a0_3).bind fun bt173 => ((impl_ConfText.f k bt173.1 bt173.2.1 bt173.2.2.1 bt173.2.2.2).bind fun t177 => (if t177.toList = t172.toList then (some true) else (some false)))) = some r := H
  have A3 := Aside0.mk A30
  clear A30
  replace H := Option.bind_eq_some_iff.mp H
  obtain ⟨⟨t173, t174, t175, t176⟩, A40, H⟩ := H
  replace H : ((impl_ConfText.f k t173 t174 t175 t176).bind fun t177 => (if t177.toList = t172.toList then (some true) else (some false))) = some r := H
  have A4 := Aside0.mk A40
  clear A40
  replace H := Option.bind_eq_some_iff.mp H
  obtain ⟨t177, A50, H⟩ := H
  replace H : (if t177.toList = t172.toList then (some true) else (some false)) = some r := H
  have A5 := Aside0.mk A50
  clear A50
  by_cases c6 : t177.toList = t172.toList
  · rw [if_pos c6] at H
    have c6b0 : (t177.toList == t172.toList) = true := beq_iff_eq.mpr c6
    have c6b1 : (t177.toList != t172.toList) = false := bne_eq_false_iff_eq.mpr c6
    clear c6
    obtain rfl := Option.some.inj H
    go_enter Tryd.func3, Tryd.ntmps3
    go_wp2_with (first | ((with_reducible refine gate_dst (N := 1) rfl ?_); refine box_event ?hg (N := 1) ?hd (cs := #[.int .i64 a0_0, .int .i64 a0_1, .int .i64 a0_2, .int .i64 a0_3]) (t := 23) ?hr ?_; (case hd => rfl); (case hg => rfl); (case hr => first | (go_simp; done) | (go_simp; rfl)); intro gb167 hg w7 hbox hb; have n0_ := Aside0.mk (below_step (by repeat (first | (with_reducible first | exact HB.out | apply below_alloc | apply pw_below_drewN | apply below_drew1) | exact HB.out)) hb); have n1_ := Aside0.mk (hbox); have n2_ := Aside0.mk ((by rw [hg]; exact (below_size (by repeat (first | (with_reducible first | exact HB.out | apply below_alloc | apply pw_below_drewN | apply below_drew1) | exact HB.out))) : w.heap.size ≤ gb167)); have n3_ := Aside0.mk ((by rw [hg]; exact (below_size (by repeat (first | (with_reducible first | exact HB.out | apply below_alloc | apply pw_below_drewN | apply below_drew1) | exact HB.out))) : w.heap.size ≤ gb167)); clear HB; have HB := n0_; have BK167 := n1_; have GW167 := n2_; have GE167 := n3_; clear n0_ n1_ n2_ n3_; clear hb hbox hg; have hcz8_0 : w7.cell? ⟨gb167, 0, none⟩ = some (.int .i64 a0_0) := (blk_cell BK167.out 0).trans rfl; have hcz8_1 : w7.cell? ⟨gb167, 1, none⟩ = some (.int .i64 a0_1) := (blk_cell BK167.out 1).trans rfl; have hcz8_2 : w7.cell? ⟨gb167, 2, none⟩ = some (.int .i64 a0_2) := (blk_cell BK167.out 2).trans rfl; have hcz8_3 : w7.cell? ⟨gb167, 3, none⟩ = some (.int .i64 a0_3) := (blk_cell BK167.out 3).trans rfl; have hfz8_0 := blk_frozen BK167.out 0; have hfz8_1 := blk_frozen BK167.out 1; have hfz8_2 := blk_frozen BK167.out 2; have hfz8_3 := blk_frozen BK167.out 3) | ((with_reducible refine gate_callee (f := 10) rfl ?_); refine goesL_ (some 6) rfl rfl Tryd.func10 (by kernel_rfl) rfl #[.agg #[.int .i64 a0_0, .int .i64 a0_1, .int .i64 a0_2, .int .i64 a0_3]] rfl (by (try simp only [List.map_toArray, List.map_cons, List.map_nil]); first | done | rfl | (simp only [List.length_drop, List.length_take]; rfl)) ?_; (with_reducible refine (laws_toConf.calls a0_0 a0_1 a0_2 a0_3 t168 t169 t170 t171 _ A2.out).mono ?_); rintro e w9 ⟨rfl, hb⟩; refine ⟨_, rfl, ?_⟩; have n0_ := Aside0.mk (blk_below (g := gb167) (o := .cells #[.int .i64 a0_0, .int .i64 a0_1, .int .i64 a0_2, .int .i64 a0_3] 23 (0, 0)) (by (with_reducible repeat (first | refine blk_drewN ?_ _ | refine blk_drew ?_ | refine blk_alloc ?_ _)); exact BK167.out) hb); have n1_ := Aside0.mk (below_step (by repeat (first | (with_reducible first | exact HB.out | apply below_alloc | apply pw_below_drewN | apply below_drew1 | refine below_set ?_ GE167.out) | exact HB.out)) hb); clear BK167; clear HB; have BK167 := n0_; have HB := n1_; clear n0_ n1_; (try clear hb); (try clear hb2); (try clear hk); (try clear hi)) | ((with_reducible refine gate_callee (f := 9) rfl ?_); refine goesL_ (some 7) rfl rfl Tryd.func9 (by kernel_rfl) rfl #[.agg #[.int .i64 t168, .int .i64 t169, .int .i64 t170, .int .i64 t171]] rfl (by (try simp only [List.map_toArray, List.map_cons, List.map_nil]); first | done | rfl | (simp only [List.length_drop, List.length_take]; rfl)) ?_; (with_reducible refine (spec_ConfText.calls k t168 t169 t170 t171 t172 _ A3.out).mono ?_); rintro e w10 ⟨rfl, hb⟩; refine ⟨_, rfl, ?_⟩; have n0_ := Aside0.mk (blk_below (g := gb167) (o := .cells #[.int .i64 a0_0, .int .i64 a0_1, .int .i64 a0_2, .int .i64 a0_3] 23 (0, 0)) (by (with_reducible repeat (first | refine blk_drewN ?_ _ | refine blk_drew ?_ | refine blk_alloc ?_ _)); exact BK167.out) hb); have n1_ := Aside0.mk (below_step (by repeat (first | (with_reducible first | exact HB.out | apply below_alloc | apply pw_below_drewN | apply below_drew1 | refine below_set ?_ GE167.out) | exact HB.out)) hb); clear BK167; clear HB; have BK167 := n0_; have HB := n1_; clear n0_ n1_; (try clear hb); (try clear hb2); (try clear hk); (try clear hi); have hcz11_0 : w10.cell? ⟨gb167, 0, none⟩ = some (.int .i64 a0_0) := (blk_cell BK167.out 0).trans rfl; have hcz11_1 : w10.cell? ⟨gb167, 1, none⟩ = some (.int .i64 a0_1) := (blk_cell BK167.out 1).trans rfl; have hcz11_2 : w10.cell? ⟨gb167, 2, none⟩ = some (.int .i64 a0_2) := (blk_cell BK167.out 2).trans rfl; have hcz11_3 : w10.cell? ⟨gb167, 3, none⟩ = some (.int .i64 a0_3) := (blk_cell BK167.out 3).trans rfl; have hfz11_0 := blk_frozen BK167.out 0; have hfz11_1 := blk_frozen BK167.out 1; have hfz11_2 := blk_frozen BK167.out 2; have hfz11_3 := blk_frozen BK167.out 3) | ((with_reducible refine gate_callee (f := 10) rfl ?_); refine goesL_ (some 9) rfl rfl Tryd.func10 (by kernel_rfl) rfl #[.agg #[.int .i64 a0_0, .int .i64 a0_1, .int .i64 a0_2, .int .i64 a0_3]] rfl (by (try simp only [List.map_toArray, List.map_cons, List.map_nil]); first | done | rfl | (simp only [List.length_drop, List.length_take]; rfl)) ?_; (with_reducible refine (laws_toConf.calls a0_0 a0_1 a0_2 a0_3 t173 t174 t175 t176 _ A4.out).mono ?_); rintro e w12 ⟨rfl, hb⟩; refine ⟨_, rfl, ?_⟩; have n0_ := Aside0.mk (blk_below (g := gb167) (o := .cells #[.int .i64 a0_0, .int .i64 a0_1, .int .i64 a0_2, .int .i64 a0_3] 23 (0, 0)) (by (with_reducible repeat (first | refine blk_drewN ?_ _ | refine blk_drew ?_ | refine blk_alloc ?_ _)); exact BK167.out) hb); have n1_ := Aside0.mk (below_step (by repeat (first | (with_reducible first | exact HB.out | apply below_alloc | apply pw_below_drewN | apply below_drew1 | refine below_set ?_ GE167.out) | exact HB.out)) hb); clear BK167; clear HB; have BK167 := n0_; have HB := n1_; clear n0_ n1_; (try clear hb); (try clear hb2); (try clear hk); (try clear hi)) | ((with_reducible refine gate_callee (f := 11) rfl ?_); refine goesL_ (some 10) rfl rfl Tryd.func11 (by kernel_rfl) rfl #[.agg #[.int .i64 t173, .int .i64 t174, .int .i64 t175, .int .i64 t176]] rfl (by (try simp only [List.map_toArray, List.map_cons, List.map_nil]); first | done | rfl | (simp only [List.length_drop, List.length_take]; rfl)) ?_; (with_reducible refine (impl_ConfText.calls k t173 t174 t175 t176 t177 _ A5.out (G_below (by repeat (first | (with_reducible first | exact HB.out | apply below_alloc | apply pw_below_drewN | apply below_drew1 | refine below_set ?_ GE167.out) | exact HB.out)) hG)).mono ?_); rintro e w13 ⟨rfl, hb⟩; refine ⟨_, rfl, ?_⟩; have n0_ := Aside0.mk (blk_below (g := gb167) (o := .cells #[.int .i64 a0_0, .int .i64 a0_1, .int .i64 a0_2, .int .i64 a0_3] 23 (0, 0)) (by (with_reducible repeat (first | refine blk_drewN ?_ _ | refine blk_drew ?_ | refine blk_alloc ?_ _)); exact BK167.out) hb); have n1_ := Aside0.mk (below_step (by repeat (first | (with_reducible first | exact HB.out | apply below_alloc | apply pw_below_drewN | apply below_drew1 | refine below_set ?_ GE167.out) | exact HB.out)) hb); clear BK167; clear HB; have BK167 := n0_; have HB := n1_; clear n0_ n1_; (try clear hb); (try clear hb2); (try clear hk); (try clear hi)))
    go_ret
    exact ⟨by first | rfl | (simp [errW_none, errW_some] <;> rfl) | (simp [*, errW_none, errW_some] <;> rfl), by repeat (first | (with_reducible first | exact HB.out | apply below_alloc | apply pw_below_drewN | apply below_drew1 | refine below_set ?_ GE167.out) | exact HB.out)⟩
  · rw [if_neg c6] at H
    have c6b0 : (t177.toList == t172.toList) = false := beq_eq_false_iff_ne.mpr c6
    have c6b1 : (t177.toList != t172.toList) = true := bne_iff_ne.mpr c6
    obtain rfl := Option.some.inj H
    go_enter Tryd.func3, Tryd.ntmps3
    go_wp2_with (first | ((with_reducible refine gate_dst (N := 1) rfl ?_); refine box_event ?hg (N := 1) ?hd (cs := #[.int .i64 a0_0, .int .i64 a0_1, .int .i64 a0_2, .int .i64 a0_3]) (t := 23) ?hr ?_; (case hd => rfl); (case hg => rfl); (case hr => first | (go_simp; done) | (go_simp; rfl)); intro gb167 hg w14 hbox hb; have n0_ := Aside0.mk (below_step (by repeat (first | (with_reducible first | exact HB.out | apply below_alloc | apply pw_below_drewN | apply below_drew1) | exact HB.out)) hb); have n1_ := Aside0.mk (hbox); have n2_ := Aside0.mk ((by rw [hg]; exact (below_size (by repeat (first | (with_reducible first | exact HB.out | apply below_alloc | apply pw_below_drewN | apply below_drew1) | exact HB.out))) : w.heap.size ≤ gb167)); have n3_ := Aside0.mk ((by rw [hg]; exact (below_size (by repeat (first | (with_reducible first | exact HB.out | apply below_alloc | apply pw_below_drewN | apply below_drew1) | exact HB.out))) : w.heap.size ≤ gb167)); clear HB; have HB := n0_; have BK167 := n1_; have GW167 := n2_; have GE167 := n3_; clear n0_ n1_ n2_ n3_; clear hb hbox hg; have hcz15_0 : w14.cell? ⟨gb167, 0, none⟩ = some (.int .i64 a0_0) := (blk_cell BK167.out 0).trans rfl; have hcz15_1 : w14.cell? ⟨gb167, 1, none⟩ = some (.int .i64 a0_1) := (blk_cell BK167.out 1).trans rfl; have hcz15_2 : w14.cell? ⟨gb167, 2, none⟩ = some (.int .i64 a0_2) := (blk_cell BK167.out 2).trans rfl; have hcz15_3 : w14.cell? ⟨gb167, 3, none⟩ = some (.int .i64 a0_3) := (blk_cell BK167.out 3).trans rfl; have hfz15_0 := blk_frozen BK167.out 0; have hfz15_1 := blk_frozen BK167.out 1; have hfz15_2 := blk_frozen BK167.out 2; have hfz15_3 := blk_frozen BK167.out 3) | ((with_reducible refine gate_callee (f := 10) rfl ?_); refine goesL_ (some 6) rfl rfl Tryd.func10 (by kernel_rfl) rfl #[.agg #[.int .i64 a0_0, .int .i64 a0_1, .int .i64 a0_2, .int .i64 a0_3]] rfl (by (try simp only [List.map_toArray, List.map_cons, List.map_nil]); first | done | rfl | (simp only [List.length_drop, List.length_take]; rfl)) ?_; (with_reducible refine (laws_toConf.calls a0_0 a0_1 a0_2 a0_3 t168 t169 t170 t171 _ A2.out).mono ?_); rintro e w16 ⟨rfl, hb⟩; refine ⟨_, rfl, ?_⟩; have n0_ := Aside0.mk (blk_below (g := gb167) (o := .cells #[.int .i64 a0_0, .int .i64 a0_1, .int .i64 a0_2, .int .i64 a0_3] 23 (0, 0)) (by (with_reducible repeat (first | refine blk_drewN ?_ _ | refine blk_drew ?_ | refine blk_alloc ?_ _)); exact BK167.out) hb); have n1_ := Aside0.mk (below_step (by repeat (first | (with_reducible first | exact HB.out | apply below_alloc | apply pw_below_drewN | apply below_drew1 | refine below_set ?_ GE167.out) | exact HB.out)) hb); clear BK167; clear HB; have BK167 := n0_; have HB := n1_; clear n0_ n1_; (try clear hb); (try clear hb2); (try clear hk); (try clear hi)) | ((with_reducible refine gate_callee (f := 9) rfl ?_); refine goesL_ (some 7) rfl rfl Tryd.func9 (by kernel_rfl) rfl #[.agg #[.int .i64 t168, .int .i64 t169, .int .i64 t170, .int .i64 t171]] rfl (by (try simp only [List.map_toArray, List.map_cons, List.map_nil]); first | done | rfl | (simp only [List.length_drop, List.length_take]; rfl)) ?_; (with_reducible refine (spec_ConfText.calls k t168 t169 t170 t171 t172 _ A3.out).mono ?_); rintro e w17 ⟨rfl, hb⟩; refine ⟨_, rfl, ?_⟩; have n0_ := Aside0.mk (blk_below (g := gb167) (o := .cells #[.int .i64 a0_0, .int .i64 a0_1, .int .i64 a0_2, .int .i64 a0_3] 23 (0, 0)) (by (with_reducible repeat (first | refine blk_drewN ?_ _ | refine blk_drew ?_ | refine blk_alloc ?_ _)); exact BK167.out) hb); have n1_ := Aside0.mk (below_step (by repeat (first | (with_reducible first | exact HB.out | apply below_alloc | apply pw_below_drewN | apply below_drew1 | refine below_set ?_ GE167.out) | exact HB.out)) hb); clear BK167; clear HB; have BK167 := n0_; have HB := n1_; clear n0_ n1_; (try clear hb); (try clear hb2); (try clear hk); (try clear hi); have hcz18_0 : w17.cell? ⟨gb167, 0, none⟩ = some (.int .i64 a0_0) := (blk_cell BK167.out 0).trans rfl; have hcz18_1 : w17.cell? ⟨gb167, 1, none⟩ = some (.int .i64 a0_1) := (blk_cell BK167.out 1).trans rfl; have hcz18_2 : w17.cell? ⟨gb167, 2, none⟩ = some (.int .i64 a0_2) := (blk_cell BK167.out 2).trans rfl; have hcz18_3 : w17.cell? ⟨gb167, 3, none⟩ = some (.int .i64 a0_3) := (blk_cell BK167.out 3).trans rfl; have hfz18_0 := blk_frozen BK167.out 0; have hfz18_1 := blk_frozen BK167.out 1; have hfz18_2 := blk_frozen BK167.out 2; have hfz18_3 := blk_frozen BK167.out 3) | ((with_reducible refine gate_callee (f := 10) rfl ?_); refine goesL_ (some 9) rfl rfl Tryd.func10 (by kernel_rfl) rfl #[.agg #[.int .i64 a0_0, .int .i64 a0_1, .int .i64 a0_2, .int .i64 a0_3]] rfl (by (try simp only [List.map_toArray, List.map_cons, List.map_nil]); first | done | rfl | (simp only [List.length_drop, List.length_take]; rfl)) ?_; (with_reducible refine (laws_toConf.calls a0_0 a0_1 a0_2 a0_3 t173 t174 t175 t176 _ A4.out).mono ?_); rintro e w19 ⟨rfl, hb⟩; refine ⟨_, rfl, ?_⟩; have n0_ := Aside0.mk (blk_below (g := gb167) (o := .cells #[.int .i64 a0_0, .int .i64 a0_1, .int .i64 a0_2, .int .i64 a0_3] 23 (0, 0)) (by (with_reducible repeat (first | refine blk_drewN ?_ _ | refine blk_drew ?_ | refine blk_alloc ?_ _)); exact BK167.out) hb); have n1_ := Aside0.mk (below_step (by repeat (first | (with_reducible first | exact HB.out | apply below_alloc | apply pw_below_drewN | apply below_drew1 | refine below_set ?_ GE167.out) | exact HB.out)) hb); clear BK167; clear HB; have BK167 := n0_; have HB := n1_; clear n0_ n1_; (try clear hb); (try clear hb2); (try clear hk); (try clear hi)) | ((with_reducible refine gate_callee (f := 11) rfl ?_); refine goesL_ (some 10) rfl rfl Tryd.func11 (by kernel_rfl) rfl #[.agg #[.int .i64 t173, .int .i64 t174, .int .i64 t175, .int .i64 t176]] rfl (by (try simp only [List.map_toArray, List.map_cons, List.map_nil]); first | done | rfl | (simp only [List.length_drop, List.length_take]; rfl)) ?_; (with_reducible refine (impl_ConfText.calls k t173 t174 t175 t176 t177 _ A5.out (G_below (by repeat (first | (with_reducible first | exact HB.out | apply below_alloc | apply pw_below_drewN | apply below_drew1 | refine below_set ?_ GE167.out) | exact HB.out)) hG)).mono ?_); rintro e w20 ⟨rfl, hb⟩; refine ⟨_, rfl, ?_⟩; have n0_ := Aside0.mk (blk_below (g := gb167) (o := .cells #[.int .i64 a0_0, .int .i64 a0_1, .int .i64 a0_2, .int .i64 a0_3] 23 (0, 0)) (by (with_reducible repeat (first | refine blk_drewN ?_ _ | refine blk_drew ?_ | refine blk_alloc ?_ _)); exact BK167.out) hb); have n1_ := Aside0.mk (below_step (by repeat (first | (with_reducible first | exact HB.out | apply below_alloc | apply pw_below_drewN | apply below_drew1 | refine below_set ?_ GE167.out) | exact HB.out)) hb); clear BK167; clear HB; have BK167 := n0_; have HB := n1_; clear n0_ n1_; (try clear hb); (try clear hb2); (try clear hk); (try clear hi)))
    go_ret
    exact ⟨by first | rfl | (simp [errW_none, errW_some] <;> rfl) | (simp [*, errW_none, errW_some] <;> rfl), by repeat (first | (with_reducible first | exact HB.out | apply below_alloc | apply pw_below_drewN | apply below_drew1 | refine below_set ?_ GE167.out) | exact HB.out)⟩
end Go.Proofs.YtbpffdhkeinmcaaDoor.QA
namespace Go.Proofs.YtbpffdhkeinmcaaDoor.Open
open Go.RowKit Go.Proofs.YtbpffdhkeinmcaaDoorW.PrintWords
open Go.ChangeShapes Go.WideShapes
set_option linter.unusedVariables false
def InK (k : IntKind) (n : Int) : Prop := (Lit.int k n).wf = true
structure Opens {α : Type} (P : Program) (t : TypeId) (d : Kd α) (W : α → Prop) : Prop where
  cells : P.cellsOf t = d.sz
  reads : ∀ {H : Type} (enc : TypeId × Value → H) (w : World) (base fuel : Nat) (held : Bool) (cs : List Value) (x : DataW H × List MemPlace),
    DataW.trod enc P w base (fun _ => true) held fuel t cs = some x → ∃ y, d.K w y cs ∧ W y
theorem opens_int {P : Program} {t : TypeId} {k : IntKind} (ht : P.underlying t = some (.int k)) (hc : P.cellsOf t = 1) : Opens P t (Kd.int k) (InK k) := by
  refine ⟨hc, ?_⟩
  intro H enc w base fuel held cs x h
  cases fuel with
  | zero => simp [DataW.trod] at h
  | succ n =>
    unfold DataW.trod at h
    rw [ht] at h
    split at h <;> simp_all
    rename_i h2
    obtain ⟨⟨rfl, h3⟩, _⟩ := h
    exact ⟨_, rfl, h3⟩
structure FieldsOpen {α : Type} (P : Program) (fs : List Field) (off : Nat) (d : Kd α) (W : α → Prop) : Prop where
  reads : ∀ {H : Type} (enc : TypeId × Value → H) (w : World) (base fuel : Nat) (held : Bool) (cs : List Value) (xs : List (DataW H × List MemPlace)),
    cs.length = off + d.sz → (fs.mapM fun f => DataW.trod enc P w base (fun _ => true) held fuel f.type ((cs.drop f.offset).take (P.cellsOf f.type))) = some xs → ∃ y, d.K w y (cs.drop off) ∧ W y
theorem fields_one {α : Type} {P : Program} {f : Field} {off : Nat} {d : Kd α} {W : α → Prop} (ho : f.offset = off) (h : Opens P f.type d W) : FieldsOpen P [f] off d W := by
  refine ⟨?_⟩
  intro H enc w base fuel held cs xs hl hm
  have h1 := mapM_some_get hm 0 f rfl
  have h2 := mapM_some_length hm
  simp only [List.length_singleton] at h2
  rw [List.getElem?_eq_getElem (by omega)] at h1
  obtain ⟨y, hK, hW⟩ := h.reads enc w base fuel held _ _ h1
  refine ⟨y, ?_, hW⟩
  rw [ho, h.cells, List.take_of_length_le (by rw [List.length_drop]; omega)] at hK
  exact hK
theorem fields_cons {α β : Type} {P : Program} {f : Field} {fs : List Field} {off : Nat} {a : Kd α} {b : Kd β} {Wa : α → Prop} {Wb : β → Prop} (ho : f.offset = off) (h : Opens P f.type a Wa) (hs : FieldsOpen P fs (off + a.sz) b Wb) :
    FieldsOpen P (f :: fs) off (Kd.pair a b) (fun x => Wa x.1 ∧ Wb x.2) := by
  refine ⟨?_⟩
  intro H enc w base fuel held cs xs hl hm
  have hsz : (Kd.pair a b).sz = a.sz + b.sz := rfl
  rw [hsz] at hl
  rw [List.mapM_cons] at hm
  obtain ⟨x0, h0, hm⟩ := Option.bind_eq_some_iff.1 hm
  obtain ⟨xs', hm', hm⟩ := Option.bind_eq_some_iff.1 hm
  obtain ⟨y, hK, hW⟩ := h.reads enc w base fuel held _ _ h0
  obtain ⟨y', hK', hW'⟩ := hs.reads enc w base fuel held cs xs' (by omega) hm'
  refine ⟨(y, y'), ⟨(cs.drop off).take a.sz, cs.drop (off + a.sz), ?_, ?_, hK'⟩, hW, hW'⟩
  · rw [← List.drop_drop, List.take_append_drop]
  · rw [ho, h.cells] at hK
    exact hK
theorem opens_struct {α : Type} {P : Program} {t : TypeId} {fs : Array Field} {d : Kd α} {W : α → Prop} (ht : P.underlying t = some (.struct fs)) (hc : P.cellsOf t = d.sz) (h : FieldsOpen P fs.toList 0 d W) : Opens P t d W := by
  refine ⟨hc, ?_⟩
  intro H enc w base fuel held cs x hx
  cases fuel with
  | zero => simp [DataW.trod] at hx
  | succ n =>
    have hx' : (if cs.length = P.cellsOf t then (fs.toList.mapM fun f => DataW.trod enc P w base (fun _ => true) held n f.type ((cs.drop f.offset).take (P.cellsOf f.type))).map fun xs => (DataW.agg (xs.map (·.1)), xs.flatMap (·.2)) else none) = some x := by
      unfold DataW.trod at hx
      rw [ht] at hx
      split at hx <;> first | exact hx | simp_all
    split at hx'
    · rename_i hlen
      obtain ⟨xs, hm, _⟩ := Option.map_eq_some_iff.1 hx'
      obtain ⟨y, hK, hW⟩ := h.reads enc w base n held cs xs (by omega) hm
      rw [List.drop_zero] at hK
      exact ⟨y, hK, hW⟩
    · cases hx'
theorem opens_iso {α β : Type} {P : Program} {t : TypeId} {d : Kd α} {W : α → Prop} {f : β → α} (g : α → β) (hg : ∀ x, f (g x) = x) (h : Opens P t d W) : Opens P t (Kd.iso d f) (fun y => W (f y)) := by
  refine ⟨h.cells, ?_⟩
  intro H enc w base fuel held cs x hx
  obtain ⟨y, hK, hW⟩ := h.reads enc w base fuel held cs x hx
  refine ⟨g y, ?_, by rw [hg]; exact hW⟩
  show d.K w (f (g y)) cs
  rw [hg]; exact hK
theorem opens_mono {α : Type} {P : Program} {t : TypeId} {d : Kd α} {W W' : α → Prop} (h : Opens P t d W) (hw : ∀ x, W x → W' x) : Opens P t d W' :=
  ⟨h.cells, fun enc w base fuel held cs x hx => let ⟨y, hK, hW⟩ := h.reads enc w base fuel held cs x hx; ⟨y, hK, hw y hW⟩⟩
theorem open_arg {α : Type} {H : Type} {enc : TypeId × Value → H} {P : Program} {w : World} {t : TypeId} {d : Kd α} {W : α → Prop} (ho : Opens P t d W) {v : Value} {dd : DataW H} {ps : List MemPlace}
    (h : DataW.Trod enc P w 0 (fun _ => true) true t v dd ps) : ∃ y, d.K w y v.cells.toList ∧ W y := by
  obtain ⟨fuel, hf⟩ := h
  exact ho.reads enc w 0 fuel true _ _ hf
theorem okWide_agg {P : Program} {w : World} {r : Reach} {base : Nat} {t : TypeId} {fs : Array Field} {v : Value} (ht : P.underlying t = some (.struct fs)) (h : Value.okWide P w r base t v) : ∃ cs, v = .agg cs := by
  unfold Value.okWide at h
  rw [ht] at h
  obtain ⟨cs, rfl, _⟩ := h
  exact ⟨cs, rfl⟩
end Go.Proofs.YtbpffdhkeinmcaaDoor.Open
namespace Go.Proofs.YtbpffdhkeinmcaaDoor.QA
open Go.RowKit Go.Proofs.YtbpffdhkeinmcaaDoorW.PrintWords Go.Proofs.YtbpffdhkeinmcaaDoorW.PrintLast Go.Proofs.YtbpffdhkeinmcaaDoor
def W23 (x : S23) : Prop := Open.InK .i64 x.f0 ∧ Open.InK .i64 x.f1 ∧ Open.InK .i64 x.f2 ∧ Open.InK .i64 x.f3
theorem opens23 : Open.Opens Tryd.prog 23 k23 W23 :=
  Open.opens_mono (Open.opens_iso (fun x => (⟨x.1, x.2.1, x.2.2.1, x.2.2.2⟩ : S23)) (fun _ => rfl) (Open.opens_struct Tryd.underlying23 (by kernel_rfl) (by exact (Open.fields_cons rfl (Open.opens_int (k := .i64) Tryd.underlying3 (by kernel_rfl)) (Open.fields_cons rfl (Open.opens_int (k := .i64) Tryd.underlying3 (by kernel_rfl)) (Open.fields_cons rfl (Open.opens_int (k := .i64) Tryd.underlying3 (by kernel_rfl)) (Open.fields_one rfl (Open.opens_int (k := .i64) Tryd.underlying3 (by kernel_rfl))))))))) (fun _ h => h)
end Go.Proofs.YtbpffdhkeinmcaaDoor.QA
namespace Go.Proofs.YtbpffdhkeinmcaaDoor.QA
open Go.RowKit Go.Proofs.YtbpffdhkeinmcaaDoorW.PrintWords Go.Proofs.YtbpffdhkeinmcaaDoorW.PrintLast Go.Proofs.YtbpffdhkeinmcaaDoor
def laws_FnExactConfText.Pure : Prop := ∀ (y0 : S23), W23 y0 → ∃ k, laws_FnExactConfText.f k y0.f0 y0.f1 y0.f2 y0.f3 = some true
end Go.Proofs.YtbpffdhkeinmcaaDoor.QA
namespace Go.Proofs.YtbpffdhkeinmcaaDoor.L
open Go.RowKit Go.Proofs.YtbpffdhkeinmcaaDoorW.PrintWords Go.Proofs.YtbpffdhkeinmcaaDoorW.PrintMore
set_option linter.unusedVariables false
set_option linter.unusedSimpArgs false
theorem wrap_id {x : Int} (h0 : -9223372036854775808 ≤ x) (h1 : x ≤ 9223372036854775807) : wrap64 x = x := by unfold wrap64; omega
theorem evVal {α : Type} {g : Nat → Option α} {r r' : α} (h : Ev g r) (e : r = r') : Ev g r' := e ▸ h
theorem evConst {α : Type} {o : Option α} {r : α} (h : o = some r) : Ev (fun _ => o) r := ⟨0, fun _ _ => h⟩
end Go.Proofs.YtbpffdhkeinmcaaDoor.L
namespace Go.Proofs.YtbpffdhkeinmcaaDoor.L
open Go.RowKit Go.Proofs.YtbpffdhkeinmcaaDoor.QA Go.Proofs.YtbpffdhkeinmcaaDoorW.PrintWords Go.Proofs.YtbpffdhkeinmcaaDoorW.PrintLast
set_option linter.unusedVariables false
set_option linter.unusedSimpArgs false
theorem within_eq (n lo hi : Int) : impl_within.f n lo hi = some (decide (lo ≤ n ∧ n ≤ hi)) := by
  unfold impl_within.f
  by_cases h : n ≥ lo
  · rw [if_pos h]
    by_cases h2 : n ≤ hi <;> simp [h2] <;> omega
  · rw [if_neg h]
    simp
    omega
end Go.Proofs.YtbpffdhkeinmcaaDoor.L
namespace Go.Proofs.YtbpffdhkeinmcaaDoor.L
open Go.RowKit Go.Proofs.YtbpffdhkeinmcaaDoor.QA Go.Proofs.YtbpffdhkeinmcaaDoorW.PrintWords Go.Proofs.YtbpffdhkeinmcaaDoorW.PrintLast Go.Proofs.YtbpffdhkeinmcaaDoorW.PrintMore
set_option linter.unusedVariables false
set_option linter.unusedSimpArgs false
def confB (a b c d : Int) : Bool := decide (0 ≤ a ∧ a ≤ 4294967295) && (decide (2 ≤ b ∧ b ≤ 6) && (decide (0 ≤ c ∧ c ≤ 64) && decide (1 ≤ d ∧ d ≤ 64)))
theorem isConf_eq (a b c d : Int) : impl_isConf.f a b c d = some (confB a b c d) := by
  unfold impl_isConf.f impl_isDeepLog.f confB
  simp only [within_eq, Option.bind_some]
  by_cases h1 : 0 ≤ a ∧ a ≤ 4294967295 <;> by_cases h2 : 2 ≤ b ∧ b ≤ 6 <;> by_cases h3 : 0 ≤ c ∧ c ≤ 64 <;> simp [h1, h2, h3]
theorem confOk_eq (a b c d : Int) : spec_ConfOk.f a b c d = some (confB a b c d) := by
  unfold spec_ConfOk.f spec_l16Log.f confB
  by_cases h1 : 0 ≤ a <;> by_cases h1' : a ≤ 4294967295 <;> by_cases h2 : 2 ≤ b <;> by_cases h2' : b ≤ 6 <;> by_cases h3 : 0 ≤ c <;> by_cases h3' : c ≤ 64 <;> by_cases h4 : 1 ≤ d <;> by_cases h4' : d ≤ 64 <;>
    simp [h1, h1', h2, h2', h3, h3', h4, h4']
theorem confB_log {a b c d : Int} (h : confB a b c d = true) : 0 ≤ a ∧ a ≤ 4294967295 ∧ 2 ≤ b ∧ b ≤ 6 ∧ 0 ≤ c ∧ c ≤ 64 ∧ 1 ≤ d ∧ d ≤ 64 := by
  unfold confB at h
  simp only [Bool.and_eq_true, decide_eq_true_eq] at h
  omega
end Go.Proofs.YtbpffdhkeinmcaaDoor.L
namespace Go.Proofs.YtbpffdhkeinmcaaDoor.L
open Go.RowKit Go.Proofs.YtbpffdhkeinmcaaDoor.QA Go.Proofs.YtbpffdhkeinmcaaDoorW.PrintWords Go.Proofs.YtbpffdhkeinmcaaDoorW.PrintLast Go.Proofs.YtbpffdhkeinmcaaDoorW.PrintMore
set_option linter.unusedVariables false
set_option linter.unusedSimpArgs false
theorem evIf {α : Type} {p : Prop} [Decidable p] {g h : Nat → Option α} {r : α} (hp : p) (hg : Ev g r) : Ev (fun k => if p then g k else h k) r := by simp only [if_pos hp]; exact hg
theorem strOf_nums (l : List UInt8) : strOfNums (l.map fun b => (b.toNat : Int)) = ⟨l.toArray⟩ := by
  unfold strOfNums
  congr 1
  rw [List.map_map]
  have : (fun n : Int => UInt8.ofNat n.toNat) ∘ (fun b : UInt8 => (b.toNat : Int)) = id := by
    funext b
    simp
  rw [this]
  simp
def digI (u : Nat) : List Int := (Lib.decDigits u).map fun b => (b.toNat : Int)
theorem digI_small {u : Nat} (h : u < 10) : digI u = [((48 + u : Nat) : Int)] := by
  unfold digI
  rw [Lib.decDigits, dif_pos h, List.map_cons, List.map_nil, UInt8.toNat_ofNat']
  congr 2
  omega
theorem digI_big {u : Nat} (h : ¬ u < 10) : digI u = digI (u / 10) ++ [((48 + u % 10 : Nat) : Int)] := by
  unfold digI
  rw [Lib.decDigits, dif_neg h, List.map_append, List.map_cons, List.map_nil, UInt8.toNat_ofNat']
  congr 3
  omega
def numS (n : Int) : ByteArray := ⟨(Lib.itoa n).toArray⟩
theorem numS_pos {n : Int} (h : 0 ≤ n) : numS n = strOfNums (digI n.toNat) := by
  unfold numS Lib.itoa digI
  rw [if_neg (by omega), strOf_nums]
theorem numLoop_ev (n : Int) (hn : 0 ≤ n) : ∀ (u : Nat) (acc : List Int), 0 < u → u < 1000000000000000000 → acc.length + u < 140737488355320 → Ev (fun k => spec_l04Num.l0 k n acc (u : Int)) (strOfNums (digI u ++ acc)) := by
  intro u
  induction u using Nat.strongRecOn with
  | _ u ih =>
    intro acc h0 hu hl
    refine Ev.step (fun k => rfl) ?_
    have e1 : Int.tmod (u : Int) 10 = ((u % 10 : Nat) : Int) := by rw [Int.tmod_eq_emod_of_nonneg (by omega)]; omega
    have e2 : wrap64 (Int.tdiv (u : Int) 10) = ((u / 10 : Nat) : Int) := by rw [Int.tdiv_eq_ediv_of_nonneg (by omega), wrap_id (by omega) (by omega)]; omega
    have e3 : (wrap64 (48 + ((u % 10 : Nat) : Int))) % 256 = ((48 + u % 10 : Nat) : Int) := by rw [wrap_id (by omega) (by omega)]; omega
    simp only [spec_l04Num.l0, if_neg (show ¬ (u : Int) = 0 by omega), e1, e2, e3, if_neg (show ¬ ((u % 10 : Nat) : Int) < 0 by omega), Option.bind_some, List.length_cons, List.length_nil, if_pos (show 0 + 1 + acc.length < 140737488355328 by omega)]
    by_cases hs : u < 10
    · rw [digI_small hs, show u / 10 = 0 by omega, show u % 10 = u by omega]
      refine Ev.step (fun k => rfl) ?_
      simp only [spec_l04Num.l0, show ((0 : Nat) : Int) = 0 from rfl, if_true, if_neg (show ¬ n < 0 by omega)]
      exact Ev.now _
    · have := ih (u / 10) (by omega) ([((48 + u % 10 : Nat) : Int)] ++ acc) (by omega) (by omega) (by simp only [List.length_append, List.length_cons, List.length_nil]; omega)
      rw [digI_big hs, List.append_assoc]
      exact this
theorem specNum_ev (n : Int) (h0 : 0 ≤ n) (h1 : n ≤ 100000000000000) : Ev (fun k => spec_l04Num.f k n) (numS n) := by
  unfold spec_l04Num.f
  by_cases h : n = 0
  · subst h
    simp only [if_true]
    exact evVal (Ev.now _) (by rw [numS_pos (by omega), show (0 : Int).toNat = 0 from rfl, digI_small (by omega)]; rfl)
  · simp only [if_neg h]
    have := numLoop_ev n h0 n.toNat [] (by omega) (by omega) (by simp only [List.length_nil]; omega)
    rw [Int.toNat_of_nonneg h0] at this
    rw [numS_pos h0]
    simpa using this
theorem itoa_eq (n : Int) (h0 : 0 ≤ n) (h1 : n ≤ 100000000000000) : strconv_Itoa_79.f n = some (numS n) := by
  unfold strconv_Itoa_79.f numS
  rw [if_pos (by omega)]
end Go.Proofs.YtbpffdhkeinmcaaDoor.L
namespace Go.Proofs.YtbpffdhkeinmcaaDoor.Pure
open Go.RowKit Go.Proofs.YtbpffdhkeinmcaaDoor.QA Go.Proofs.YtbpffdhkeinmcaaDoorW.PrintWords Go.Proofs.YtbpffdhkeinmcaaDoorW.PrintLast Go.Proofs.YtbpffdhkeinmcaaDoor.L
set_option linter.unusedVariables false
set_option linter.unusedSimpArgs false
theorem numS_size (n : Int) (h0 : 0 ≤ n) (h1 : n ≤ 100000000000000) : (numS n).size ≤ 21 := by
  have := Lib.itoa_length_le n (by omega) (by omega)
  unfold numS
  simpa [ByteArray.size] using this
def confTextS (a b c d : Int) : ByteArray := if confB a b c d && decide (a ≤ 999999999) then ((((((((⟨#[107, 101, 121, 32]⟩ : ByteArray) ++ numS a) ++ (⟨#[32, 108, 111, 103, 32]⟩ : ByteArray)) ++ numS b) ++ (⟨#[32, 98, 111, 117, 110, 100, 32]⟩ : ByteArray)) ++ numS c) ++ (⟨#[32, 99, 97, 112, 32]⟩ : ByteArray)) ++ numS d) else ⟨#[]⟩
theorem l4 : (⟨#[107, 101, 121, 32]⟩ : ByteArray).size = 4 := rfl
theorem l5 : (⟨#[32, 108, 111, 103, 32]⟩ : ByteArray).size = 5 := rfl
theorem l7 : (⟨#[32, 98, 111, 117, 110, 100, 32]⟩ : ByteArray).size = 7 := rfl
theorem l5' : (⟨#[32, 99, 97, 112, 32]⟩ : ByteArray).size = 5 := rfl
theorem specText_ev (a b c d : Int) : Ev (fun k => spec_ConfText.f k a b c d) (confTextS a b c d) := by
  unfold spec_ConfText.f
  simp only [confOk_eq, Option.bind_some]
  have hno : ∀ r, r = (⟨#[]⟩ : ByteArray) → Ev (fun k => spec_ConfText.j0 k true a b c d) r := by
    rintro r rfl
    refine Ev.step (fun k => rfl) ?_
    simp only [spec_ConfText.j0, if_true]
    exact Ev.now _
  cases hc : confB a b c d with
  | false =>
    simp only [Bool.false_eq_true, if_false]
    exact hno _ (by unfold confTextS; rw [hc, Bool.false_and, if_neg (by decide)])
  | true =>
    have h := confB_log hc
    have e : spec_l26Num.f a = some (decide (a ≤ 999999999)) := by unfold spec_l26Num.f; rw [if_pos (by omega)]
    simp only [if_true, e, Option.bind_some]
    by_cases h9 : a ≤ 999999999
    · simp only [h9, decide_true, Bool.not_true]
      have ha := numS_size a (by omega) (by omega)
      have hb := numS_size b (by omega) (by omega)
      have hcc := numS_size c (by omega) (by omega)
      have hd := numS_size d (by omega) (by omega)
      have hr : confTextS a b c d = ((((((((⟨#[107, 101, 121, 32]⟩ : ByteArray) ++ numS a) ++ (⟨#[32, 108, 111, 103, 32]⟩ : ByteArray)) ++ numS b) ++ (⟨#[32, 98, 111, 117, 110, 100, 32]⟩ : ByteArray)) ++ numS c) ++ (⟨#[32, 99, 97, 112, 32]⟩ : ByteArray)) ++ numS d) := by unfold confTextS; rw [hc, decide_eq_true h9, if_pos (by decide)]
      rw [hr]
      refine Ev.step (fun k => rfl) ?_
      simp only [spec_ConfText.j0, Bool.false_eq_true, if_false]
      refine Ev.bind (specNum_ev a (by omega) (by omega)) ?_
      refine evIf (by omega) (evIf (by simp only [ByteArray.size_append, l4]; omega) ?_)
      refine Ev.bind (specNum_ev b (by omega) (by omega)) ?_
      refine evIf (by simp only [ByteArray.size_append, l4, l5]; omega) (evIf (by simp only [ByteArray.size_append, l4, l5]; omega) ?_)
      refine Ev.bind (specNum_ev c (by omega) (by omega)) ?_
      refine evIf (by simp only [ByteArray.size_append, l4, l5, l7]; omega) (evIf (by simp only [ByteArray.size_append, l4, l5, l7]; omega) ?_)
      refine Ev.bind (specNum_ev d (by omega) (by omega)) ?_
      refine evIf (by simp only [ByteArray.size_append, l4, l5, l7, l5']; omega) ?_
      exact Ev.now _
    · simp only [h9, decide_false, Bool.not_false]
      exact hno _ (by unfold confTextS; rw [decide_eq_false h9, Bool.and_false, if_neg (by decide)])
theorem implText_ev (a b c d : Int) : Ev (fun k => impl_ConfText.f k a b c d) (confTextS a b c d) := by
  unfold impl_ConfText.f
  refine Ev.bind (a := confTextS a b c d) ?_ (Ev.now _)
  unfold impl_confText.f
  simp only [isConf_eq, Option.bind_some]
  have hno : ∀ r, r = (⟨#[]⟩ : ByteArray) → Ev (fun k => impl_confText.j0 k true a b c d) r := by
    rintro r rfl
    refine Ev.step (fun k => rfl) ?_
    simp only [impl_confText.j0, if_true]
    exact Ev.now _
  cases hc : confB a b c d with
  | false =>
    simp only [Bool.false_eq_true, if_false]
    exact hno _ (by unfold confTextS; rw [hc, Bool.false_and, if_neg (by decide)])
  | true =>
    have h := confB_log hc
    simp only [if_true]
    by_cases h9 : a ≤ 999999999
    · simp only [show ¬ a > 999999999 by omega, decide_false]
      have ha := numS_size a (by omega) (by omega)
      have hb := numS_size b (by omega) (by omega)
      have hcc := numS_size c (by omega) (by omega)
      have hd := numS_size d (by omega) (by omega)
      have hr : confTextS a b c d = ((((((((⟨#[107, 101, 121, 32]⟩ : ByteArray) ++ numS a) ++ (⟨#[32, 108, 111, 103, 32]⟩ : ByteArray)) ++ numS b) ++ (⟨#[32, 98, 111, 117, 110, 100, 32]⟩ : ByteArray)) ++ numS c) ++ (⟨#[32, 99, 97, 112, 32]⟩ : ByteArray)) ++ numS d) := by unfold confTextS; rw [hc, decide_eq_true h9, if_pos (by decide)]
      rw [hr]
      refine Ev.step (fun k => rfl) ?_
      simp only [impl_confText.j0, Bool.false_eq_true, if_false]
      refine Ev.bind (evConst (itoa_eq a (by omega) (by omega))) ?_
      refine evIf (by omega) (evIf (by simp only [ByteArray.size_append, l4]; omega) ?_)
      refine Ev.bind (evConst (itoa_eq b (by omega) (by omega))) ?_
      refine evIf (by simp only [ByteArray.size_append, l4, l5]; omega) (evIf (by simp only [ByteArray.size_append, l4, l5]; omega) ?_)
      refine Ev.bind (evConst (itoa_eq c (by omega) (by omega))) ?_
      refine evIf (by simp only [ByteArray.size_append, l4, l5, l7]; omega) (evIf (by simp only [ByteArray.size_append, l4, l5, l7]; omega) ?_)
      refine Ev.bind (evConst (itoa_eq d (by omega) (by omega))) ?_
      refine evIf (by simp only [ByteArray.size_append, l4, l5, l7, l5']; omega) ?_
      exact Ev.now _
    · simp only [show a > 999999999 by omega, decide_true]
      exact hno _ (by unfold confTextS; rw [decide_eq_false h9, Bool.and_false, if_neg (by decide)])
theorem FnExactConfText : laws_FnExactConfText.Pure := by
  intro y _
  apply Ev.rounds
  unfold laws_FnExactConfText.f laws_toConf.f
  refine Ev.bind (evConst rfl) (Ev.bind (specText_ev _ _ _ _) (Ev.bind (evConst rfl) (Ev.bind (implText_ev _ _ _ _) ?_)))
  simp only [if_true]
  exact Ev.now _
end Go.Proofs.YtbpffdhkeinmcaaDoor.Pure
