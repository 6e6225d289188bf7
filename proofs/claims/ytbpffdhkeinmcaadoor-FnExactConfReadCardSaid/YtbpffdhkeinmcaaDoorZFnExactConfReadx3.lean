/- Part of the proof of the law FnExactConfRead: what it uses of the texts that this session and the kit's print wrote. -/
import Derived.Test.YtbpffdhkeinmcaaDoorZFnExactConfReadx1
import Derived.Test.YtbpffdhkeinmcaaDoorZFnExactConfReadx2
namespace Go.Proofs.YtbpffdhkeinmcaaDoor.QF
open Go.RowKit Go.Proofs.YtbpffdhkeinmcaaDoorW.PrintWords Go.Proofs.YtbpffdhkeinmcaaDoorW.PrintLast Go.Proofs.YtbpffdhkeinmcaaDoorW.PrintMore
attribute [local go_sem] max2_int min2_int max_two min_two max_three min_three max_four min_four   -- for this text's walks alone
set_option linter.unusedVariables false
set_option linter.unusedSimpArgs false
def impl_confText.j0 : Nat → Bool → Int → Int → Int → Int → Option (ByteArray)
  | 0, _, _, _, _, _ => none
  | k + 1, x10, x186000, x186001, x186002, x186003 => if x10 = true then (some (⟨#[]⟩ : ByteArray)) else ((strconv_Itoa_79.f x186000).bind fun t187 => (if 4 + t187.size ≤ 9223372036854775807 then (if ((⟨#[107, 101, 121, 32]⟩ : ByteArray) ++ t187).size + 5 ≤ 9223372036854775807 then ((strconv_Itoa_79.f x186001).bind fun t188 => (if (((⟨#[107, 101, 121, 32]⟩ : ByteArray) ++ t187) ++ (⟨#[32, 108, 111, 103, 32]⟩ : ByteArray)).size + t188.size ≤ 9223372036854775807 then (if ((((⟨#[107, 101, 121, 32]⟩ : ByteArray) ++ t187) ++ (⟨#[32, 108, 111, 103, 32]⟩ : ByteArray)) ++ t188).size + 7 ≤ 9223372036854775807 then ((strconv_Itoa_79.f x186002).bind fun t189 => (if (((((⟨#[107, 101, 121, 32]⟩ : ByteArray) ++ t187) ++ (⟨#[32, 108, 111, 103, 32]⟩ : ByteArray)) ++ t188) ++ (⟨#[32, 98, 111, 117, 110, 100, 32]⟩ : ByteArray)).size + t189.size ≤ 9223372036854775807 then (if ((((((⟨#[107, 101, 121, 32]⟩ : ByteArray) ++ t187) ++ (⟨#[32, 108, 111, 103, 32]⟩ : ByteArray)) ++ t188) ++ (⟨#[32, 98, 111, 117, 110, 100, 32]⟩ : ByteArray)) ++ t189).size + 5 ≤ 9223372036854775807 then ((strconv_Itoa_79.f x186003).bind fun t190 => (if (((((((⟨#[107, 101, 121, 32]⟩ : ByteArray) ++ t187) ++ (⟨#[32, 108, 111, 103, 32]⟩ : ByteArray)) ++ t188) ++ (⟨#[32, 98, 111, 117, 110, 100, 32]⟩ : ByteArray)) ++ t189) ++ (⟨#[32, 99, 97, 112, 32]⟩ : ByteArray)).size + t190.size ≤ 9223372036854775807 then (some ((((((((⟨#[107, 101, 121, 32]⟩ : ByteArray) ++ t187) ++ (⟨#[32, 108, 111, 103, 32]⟩ : ByteArray)) ++ t188) ++ (⟨#[32, 98, 111, 117, 110, 100, 32]⟩ : ByteArray)) ++ t189) ++ (⟨#[32, 99, 97, 112, 32]⟩ : ByteArray)) ++ t190)) else (none))) else (none)) else (none))) else (none)) else (none))) else (none)) else (none)))
def impl_confText.f (k : Nat) (a0_0 : Int) (a0_1 : Int) (a0_2 : Int) (a0_3 : Int) : Option (ByteArray) := (impl_isConf.f a0_0 a0_1 a0_2 a0_3).bind fun t186 => (if t186 = true then (impl_confText.j0 k (decide (a0_0 > 999999999)) a0_0 a0_1 a0_2 a0_3) else (impl_confText.j0 k true a0_0 a0_1 a0_2 a0_3))
def impl_confText.T3 : Bool × List (List Nat × List Nat) := (true, [([], []), ([0], [0]), ([1], [1]), ([2], [2]), ([3], [3]), ([], []), ([5], [5]), ([6, 2], [6]), ([4, 7], [4, 7]), ([8], [8]), ([], []), ([10], [10]), ([11, 7], [11]), ([9, 12], [9, 12]), ([13], [13]), ([], []), ([15], [15]), ([16, 12], [16]), ([14, 17], [14, 17]), ([18, 17, 0, 1, 2, 3, 4, 5, 6, 7, 8, 9, 10, 11, 12, 13, 14, 15, 16, 17, 18], [18])])
def impl_confText.B3 : List Nat := [0, 1, 3, 7, 15, 0, 32, 103, 255, 511, 0, 1024, 3303, 8191, 16383, 0, 32768, 105703, 262143, 524287]
theorem impl_confText.tab3 : rtab .any (opsOf Tryd.f42 3) = impl_confText.T3 := by kernel_rfl
theorem impl_confText.bits3 : waitsOk impl_confText.T3.2 impl_confText.B3 = true := by kernel_rfl
set_option maxHeartbeats 8000000 in
set_option maxRecDepth 100000 in
theorem impl_confText.calls (k : Nat) (a0_0 : Int) (a0_1 : Int) (a0_2 : Int) (a0_3 : Int) (r : ByteArray) (w : World) (h : impl_confText.f k a0_0 a0_1 a0_2 a0_3 = some r) (hG : TabG w) :
    Calls Tryd.prog 42 #[.agg #[.int .i64 a0_0, .int .i64 a0_1, .int .i64 a0_2, .int .i64 a0_3]] w fun e w' => e = .returned (.string r) ∧ Below w.heap.size w w' := by
  have hu25 := Tryd.underlying25
  have HB := Aside0.mk (Below.refl w.heap.size w)
  have H : ((impl_isConf.f a0_0 a0_1 a0_2 a0_3).bind fun t186 => (if t186 = true then (impl_confText.j0 k (decide (a0_0 > 999999999)) a0_0 a0_1 a0_2 a0_3) else (impl_confText.j0 k true a0_0 a0_1 a0_2 a0_3))) = some r := h
  clear h
  have HC2 := Aside0.mk H
  clear H
  go_enter Tryd.func42, Tryd.ntmps42
  go_upto_region 1 with (first | ((with_reducible refine gate_dst (N := 1) rfl ?_); refine box_event ?hg (N := 1) ?hd (cs := #[.int .i64 a0_0, .int .i64 a0_1, .int .i64 a0_2, .int .i64 a0_3]) (t := 25) ?hr ?_; (case hd => rfl); (case hg => rfl); (case hr => first | (go_simp; done) | (go_simp; rfl)); intro gb185 hg w3 hbox hb; have n0_ := Aside0.mk (below_step (by repeat (first | (with_reducible first | exact HB.out | apply below_alloc | apply pw_below_drewN | apply below_drew1) | exact HB.out)) hb); have n1_ := Aside0.mk (hbox); have n2_ := Aside0.mk ((by rw [hg]; exact (below_size (by repeat (first | (with_reducible first | exact HB.out | apply below_alloc | apply pw_below_drewN | apply below_drew1) | exact HB.out))) : w.heap.size ≤ gb185)); have n3_ := Aside0.mk ((by rw [hg]; exact (below_size (by repeat (first | (with_reducible first | exact HB.out | apply below_alloc | apply pw_below_drewN | apply below_drew1) | exact HB.out))) : w.heap.size ≤ gb185)); clear HB; have HB := n0_; have BK185 := n1_; have GW185 := n2_; have GE185 := n3_; clear n0_ n1_ n2_ n3_; clear hb hbox hg))
  (try simp only [Act.put, List.setIfInBounds_toArray, List.set_cons_zero, List.set_cons_succ])
  go_cut [10] (fun v10 wc => ∃ (kq : Nat) (x10_1 : Bool), v10 = .bool x10_1 ∧ Aside0 (impl_confText.j0 kq x10_1 a0_0 a0_1 a0_2 a0_3 = some r) ∧ Aside0 (kq ≤ k) ∧ Aside0 (wc.heap[gb185]? = some (.cells #[.int .i64 a0_0, .int .i64 a0_1, .int .i64 a0_2, .int .i64 a0_3] 25 (0, 0))) ∧ Aside0 (Below w.heap.size w wc))
  case first =>
    have H := HC2.out
    clear HC2
    replace H := Option.bind_eq_some_iff.mp H
    obtain ⟨t186, A40, H⟩ := H
    replace H : (if t186 = true then (impl_confText.j0 k (decide (a0_0 > 999999999)) a0_0 a0_1 a0_2 a0_3) else (impl_confText.j0 k true a0_0 a0_1 a0_2 a0_3)) = some r := H
    have A4 := Aside0.mk A40
    clear A40
    by_cases c5 : t186 = true
    · subst c5
      have H1 : (impl_confText.j0 k (decide (a0_0 > 999999999)) a0_0 a0_1 a0_2 a0_3) = some r := by rw [if_pos rfl] at H; exact H
      clear H
      have H := H1
      clear H1
      have H' := Aside0.mk H
      clear H
      have hcz6_0 : w3.cell? ⟨gb185, 0, none⟩ = some (.int .i64 a0_0) := (blk_cell BK185.out 0).trans rfl
      have hcz6_1 : w3.cell? ⟨gb185, 1, none⟩ = some (.int .i64 a0_1) := (blk_cell BK185.out 1).trans rfl
      have hcz6_2 : w3.cell? ⟨gb185, 2, none⟩ = some (.int .i64 a0_2) := (blk_cell BK185.out 2).trans rfl
      have hcz6_3 : w3.cell? ⟨gb185, 3, none⟩ = some (.int .i64 a0_3) := (blk_cell BK185.out 3).trans rfl
      have hfz6_0 := blk_frozen BK185.out 0
      have hfz6_1 := blk_frozen BK185.out 1
      have hfz6_2 := blk_frozen BK185.out 2
      have hfz6_3 := blk_frozen BK185.out 3
      go_wp2_with (first | ((with_reducible refine gate_callee (f := 57) rfl ?_); refine goesL_ (some 4) rfl rfl Tryd.func57 (by kernel_rfl) rfl #[.agg #[.int .i64 a0_0, .int .i64 a0_1, .int .i64 a0_2, .int .i64 a0_3]] rfl (by (try simp only [List.map_toArray, List.map_cons, List.map_nil]); first | done | rfl | (simp only [List.length_drop, List.length_take]; rfl)) ?_; (with_reducible refine (impl_isConf.calls a0_0 a0_1 a0_2 a0_3 true _ A4.out).mono ?_); rintro e w7 ⟨rfl, hb⟩; refine ⟨_, rfl, ?_⟩; have n0_ := Aside0.mk (blk_below (g := gb185) (o := .cells #[.int .i64 a0_0, .int .i64 a0_1, .int .i64 a0_2, .int .i64 a0_3] 25 (0, 0)) (by (with_reducible repeat (first | refine blk_drewN ?_ _ | refine blk_drew ?_ | refine blk_alloc ?_ _)); exact BK185.out) hb); have n1_ := Aside0.mk (below_step (by repeat (first | (with_reducible first | exact HB.out | apply below_alloc | apply pw_below_drewN | apply below_drew1 | refine below_set ?_ GE185.out) | exact HB.out)) hb); clear BK185; clear HB; have BK185 := n0_; have HB := n1_; clear n0_ n1_; (try clear hb); (try clear hb2); (try clear hk); (try clear hi); have hcz8_0 : w7.cell? ⟨gb185, 0, none⟩ = some (.int .i64 a0_0) := (blk_cell BK185.out 0).trans rfl; have hcz8_1 : w7.cell? ⟨gb185, 1, none⟩ = some (.int .i64 a0_1) := (blk_cell BK185.out 1).trans rfl; have hcz8_2 : w7.cell? ⟨gb185, 2, none⟩ = some (.int .i64 a0_2) := (blk_cell BK185.out 2).trans rfl; have hcz8_3 : w7.cell? ⟨gb185, 3, none⟩ = some (.int .i64 a0_3) := (blk_cell BK185.out 3).trans rfl; have hfz8_0 := blk_frozen BK185.out 0; have hfz8_1 := blk_frozen BK185.out 1; have hfz8_2 := blk_frozen BK185.out 2; have hfz8_3 := blk_frozen BK185.out 3))
      go_meet
      case rel => exact ⟨_, (decide (a0_0 > 999999999)), (by first | rfl | (simp; done) | (simp [*]; done)), H', ⟨by first | omega | exact Nat.le_refl _⟩, ⟨by (with_reducible repeat (first | refine blk_drewN ?_ _ | refine blk_drew ?_ | refine blk_alloc ?_ _)); exact BK185.out⟩, ⟨by repeat (first | (with_reducible first | exact HB.out | apply below_alloc | apply pw_below_drewN | apply below_drew1 | refine below_set ?_ GE185.out) | exact HB.out)⟩⟩
    · replace c5 := Bool.eq_false_iff.mpr c5
      subst c5
      have H1 : (impl_confText.j0 k true a0_0 a0_1 a0_2 a0_3) = some r := by rw [if_neg (show ¬ (false = true) by decide)] at H; exact H
      clear H
      have H := H1
      clear H1
      have H' := Aside0.mk H
      clear H
      have hcz9_0 : w3.cell? ⟨gb185, 0, none⟩ = some (.int .i64 a0_0) := (blk_cell BK185.out 0).trans rfl
      have hcz9_1 : w3.cell? ⟨gb185, 1, none⟩ = some (.int .i64 a0_1) := (blk_cell BK185.out 1).trans rfl
      have hcz9_2 : w3.cell? ⟨gb185, 2, none⟩ = some (.int .i64 a0_2) := (blk_cell BK185.out 2).trans rfl
      have hcz9_3 : w3.cell? ⟨gb185, 3, none⟩ = some (.int .i64 a0_3) := (blk_cell BK185.out 3).trans rfl
      have hfz9_0 := blk_frozen BK185.out 0
      have hfz9_1 := blk_frozen BK185.out 1
      have hfz9_2 := blk_frozen BK185.out 2
      have hfz9_3 := blk_frozen BK185.out 3
      go_wp2_with (first | ((with_reducible refine gate_callee (f := 57) rfl ?_); refine goesL_ (some 4) rfl rfl Tryd.func57 (by kernel_rfl) rfl #[.agg #[.int .i64 a0_0, .int .i64 a0_1, .int .i64 a0_2, .int .i64 a0_3]] rfl (by (try simp only [List.map_toArray, List.map_cons, List.map_nil]); first | done | rfl | (simp only [List.length_drop, List.length_take]; rfl)) ?_; (with_reducible refine (impl_isConf.calls a0_0 a0_1 a0_2 a0_3 false _ A4.out).mono ?_); rintro e w10 ⟨rfl, hb⟩; refine ⟨_, rfl, ?_⟩; have n0_ := Aside0.mk (blk_below (g := gb185) (o := .cells #[.int .i64 a0_0, .int .i64 a0_1, .int .i64 a0_2, .int .i64 a0_3] 25 (0, 0)) (by (with_reducible repeat (first | refine blk_drewN ?_ _ | refine blk_drew ?_ | refine blk_alloc ?_ _)); exact BK185.out) hb); have n1_ := Aside0.mk (below_step (by repeat (first | (with_reducible first | exact HB.out | apply below_alloc | apply pw_below_drewN | apply below_drew1 | refine below_set ?_ GE185.out) | exact HB.out)) hb); clear BK185; clear HB; have BK185 := n0_; have HB := n1_; clear n0_ n1_; (try clear hb); (try clear hb2); (try clear hk); (try clear hi)))
      go_meet
      case rel => exact ⟨_, (true), (by first | rfl | (simp; done) | (simp [*]; done)), H', ⟨by first | omega | exact Nat.le_refl _⟩, ⟨by (with_reducible repeat (first | refine blk_drewN ?_ _ | refine blk_drew ?_ | refine blk_alloc ?_ _)); exact BK185.out⟩, ⟨by repeat (first | (with_reducible first | exact HB.out | apply below_alloc | apply pw_below_drewN | apply below_drew1 | refine below_set ?_ GE185.out) | exact HB.out)⟩⟩
  case rest =>
    clear HC2
    try clear p2
    try clear c4
    try clear c5
    try clear hcz6_0
    try clear hcz6_1
    try clear hcz6_2
    try clear hcz6_3
    try clear hcz8_0
    try clear hcz8_1
    try clear hcz8_2
    try clear hcz8_3
    try clear hcz9_0
    try clear hcz9_1
    try clear hcz9_2
    try clear hcz9_3
    try clear hfz6_0
    try clear hfz6_1
    try clear hfz6_2
    try clear hfz6_3
    try clear hfz8_0
    try clear hfz8_1
    try clear hfz8_2
    try clear hfz8_3
    try clear hfz9_0
    try clear hfz9_1
    try clear hfz9_2
    try clear hfz9_3
    obtain ⟨kq, x10_1, rfl, HA, HJ1, BK185, HB⟩ := hcut
    cases kq with
    | zero => exact absurd HA.out (by simp [impl_confText.j0])
    | succ kj1 =>
      have H := HA.out
      clear HA
      simp only [impl_confText.j0] at H
      by_cases c11 : x10_1 = true
      · subst c11
        have H1 : (some (⟨#[]⟩ : ByteArray)) = some r := by rw [if_pos rfl] at H; exact H
        clear H
        have H := H1
        clear H1
        obtain rfl := Option.some.inj H
        go_wp2
        go_ret
        exact ⟨by first | rfl | (simp [errW_none, errW_some] <;> rfl) | (simp [*, errW_none, errW_some] <;> rfl), by repeat (first | (with_reducible first | exact HB.out | apply below_alloc | apply pw_below_drewN | apply below_drew1 | refine below_set ?_ GE185.out) | exact HB.out)⟩
      · replace c11 := Bool.eq_false_iff.mpr c11
        subst c11
        have H1 : ((strconv_Itoa_79.f a0_0).bind fun t187 => (if 4 + t187.size ≤ 9223372036854775807 then (if ((⟨#[107, 101, 121, 32]⟩ : ByteArray) ++ t187).size + 5 ≤ 9223372036854775807 then ((strconv_Itoa_79.f a0_1).bind fun t188 => (if (((⟨#[107, 101, 121, 32]⟩ : ByteArray) ++ t187) ++ (⟨#[32, 108, 111, 103, 32]⟩ : ByteArray)).size + t188.size ≤ 9223372036854775807 then (if ((((⟨#[107, 101, 121, 32]⟩ : ByteArray) ++ t187) ++ (⟨#[32, 108, 111, 103, 32]⟩ : ByteArray)) ++ t188).size + 7 ≤ 9223372036854775807 then ((strconv_Itoa_79.f a0_2).bind fun t189 => (if (((((⟨#[107, 101, 121, 32]⟩ : ByteArray) ++ t187) ++ (⟨#[32, 108, 111, 103, 32]⟩ : ByteArray)) ++ t188) ++ (⟨#[32, 98, 111, 117, 110, 100, 32]⟩ : ByteArray)).size + t189.size ≤ 9223372036854775807 then (if ((((((⟨#[107, 101, 121, 32]⟩ : ByteArray) ++ t187) ++ (⟨#[32, 108, 111, 103, 32]⟩ : ByteArray)) ++ t188) ++ (⟨#[32, 98, 111, 117, 110, 100, 32]⟩ : ByteArray)) ++ t189).size + 5 ≤ 9223372036854775807 then ((strconv_Itoa_79.f a0_3).bind fun t190 => (if (((((((⟨#[107, 101, 121, 32]⟩ : ByteArray) ++ t187) ++ (⟨#[32, 108, 111, 103, 32]⟩ : ByteArray)) ++ t188) ++ (⟨#[32, 98, 111, 117, 110, 100, 32]⟩ : ByteArray)) ++ t189) ++ (⟨#[32, 99, 97, 112, 32]⟩ : ByteArray)).size + t190.size ≤ 9223372036854775807 then (some ((((((((⟨#[107, 101, 121, 32]⟩ : ByteArray) ++ t187) ++ (⟨#[32, 108, 111, 103, 32]⟩ : ByteArray)) ++ t188) ++ (⟨#[32, 98, 111, 117, 110, 100, 32]⟩ : ByteArray)) ++ t189) ++ (⟨#[32, 99, 97, 112, 32]⟩ : ByteArray)) ++ t190)) else (none))) else (none)) else (none))) else (none)) else (none))) else (none)) else (none))) = some r := by rw [if_neg (show ¬ (false = true) by decide)] at H; exact H
        clear H
        have H := H1
        clear H1
        replace H := Option.bind_eq_some_iff.mp H
        obtain ⟨t187, A120, H⟩ := H
        replace H : (if 4 + t187.size ≤ 9223372036854775807 then (if ((⟨#[107, 101, 121, 32]⟩ : ByteArray) ++ t187).size + 5 ≤ 9223372036854775807 then ((strconv_Itoa_79.f a0_1).bind fun t188 => (if (((⟨#[107, 101, 121, 32]⟩ : ByteArray) ++ t187) ++ (⟨#[32, 108, 111, 103, 32]⟩ : ByteArray)).size + t188.size ≤ 9223372036854775807 then (if ((((⟨#[107, 101, 121, 32]⟩ : ByteArray) ++ t187) ++ (⟨#[32, 108, 111, 103, 32]⟩ : ByteArray)) ++ t188).size + 7 ≤ 9223372036854775807 then ((strconv_Itoa_79.f a0_2).bind fun t189 => (if (((((⟨#[107, 101, 121, 32]⟩ : ByteArray) ++ t187) ++ (⟨#[32, 108, 111, 103, 32]⟩ : ByteArray)) ++ t188) ++ (⟨#[32, 98, 111, 117, 110, 100, 32]⟩ : ByteArray)).size + t189.size ≤ 9223372036854775807 then (if ((((((⟨#[107, 101, 121, 32]⟩ : ByteArray) ++ t187) ++ (⟨#[32, 108, 111, 103, 32]⟩ : ByteArray)) ++ t188) ++ (⟨#[32, 98, 111, 117, 110, 100, 32]⟩ : ByteArray)) ++ t189).size + 5 ≤ 9223372036854775807 then ((strconv_Itoa_79.f a0_3).bind fun t190 => (if (((((((⟨#[107, 101, 121, 32]⟩ : ByteArray) ++ t187) ++ (⟨#[32, 108, 111, 103, 32]⟩ : ByteArray)) ++ t188) ++ (⟨#[32, 98, 111, 117, 110, 100, 32]⟩ : ByteArray)) ++ t189) ++ (⟨#[32, 99, 97, 112, 32]⟩ : ByteArray)).size + t190.size ≤ 9223372036854775807 then (some ((((((((⟨#[107, 101, 121, 32]⟩ : ByteArray) ++ t187) ++ (⟨#[32, 108, 111, 103, 32]⟩ : ByteArray)) ++ t188) ++ (⟨#[32, 98, 111, 117, 110, 100, 32]⟩ : ByteArray)) ++ t189) ++ (⟨#[32, 99, 97, 112, 32]⟩ : ByteArray)) ++ t190)) else (none))) else (none)) else (none))) else (none)) else (none))) else (none)) else (none)) = some r := H
        have A12 := Aside0.mk A120
        clear A120
        by_cases c13 : 4 + t187.size ≤ 9223372036854775807
        · rw [if_pos c13] at H
          have c13b0 := eq_true c13
          have c13b1 : decide (4 + t187.size ≤ 9223372036854775807) = true := decide_eq_true c13
          try have c13b2 : (9223372036854775807 < 4 + t187.size) = False := eq_false (Nat.not_lt.2 c13)
          by_cases c14 : ((⟨#[107, 101, 121, 32]⟩ : ByteArray) ++ t187).size + 5 ≤ 9223372036854775807
          · rw [if_pos c14] at H
            have c14b0 := eq_true c14
            have c14b1 : decide (((⟨#[107, 101, 121, 32]⟩ : ByteArray) ++ t187).size + 5 ≤ 9223372036854775807) = true := decide_eq_true c14
            try have c14b2 : (9223372036854775807 < ((⟨#[107, 101, 121, 32]⟩ : ByteArray) ++ t187).size + 5) = False := eq_false (Nat.not_lt.2 c14)
            try have c14b3 := c14b2
            try simp only [ByteArray.size_append, show (⟨#[107, 101, 121, 32]⟩ : ByteArray).size = 4 from rfl] at c14b3
            replace H := Option.bind_eq_some_iff.mp H
            obtain ⟨t188, A150, H⟩ := H
            replace H : (if (((⟨#[107, 101, 121, 32]⟩ : ByteArray) ++ t187) ++ (⟨#[32, 108, 111, 103, 32]⟩ : ByteArray)).size + t188.size ≤ 9223372036854775807 then (if ((((⟨#[107, 101, 121, 32]⟩ : ByteArray) ++ t187) ++ (⟨#[32, 108, 111, 103, 32]⟩ : ByteArray)) ++ t188).size + 7 ≤ 9223372036854775807 then ((strconv_Itoa_79.f a0_2).bind fun t189 => (if (((((⟨#[107, 101, 121, 32]⟩ : ByteArray) ++ t187) ++ (⟨#[32, 108, 111, 103, 32]⟩ : ByteArray)) ++ t188) ++ (⟨#[32, 98, 111, 117, 110, 100, 32]⟩ : ByteArray)).size + t189.size ≤ 9223372036854775807 then (if ((((((⟨#[107, 101, 121, 32]⟩ : ByteArray) ++ t187) ++ (⟨#[32, 108, 111, 103, 32]⟩ : ByteArray)) ++ t188) ++ (⟨#[32, 98, 111, 117, 110, 100, 32]⟩ : ByteArray)) ++ t189).size + 5 ≤ 9223372036854775807 then ((strconv_Itoa_79.f a0_3).bind fun t190 => (if (((((((⟨#[107, 101, 121, 32]⟩ : ByteArray) ++ t187) ++ (⟨#[32, 108, 111, 103, 32]⟩ : ByteArray)) ++ t188) ++ (⟨#[32, 98, 111, 117, 110, 100, 32]⟩ : ByteArray)) ++ t189) ++ (⟨#[32, 99, 97, 112, 32]⟩ : ByteArray)).size + t190.size ≤ 9223372036854775807 then (some ((((((((⟨#[107, 101, 121, 32]⟩ : ByteArray) ++ t187) ++ (⟨#[32, 108, 111, 103, 32]⟩ : ByteArray)) ++ t188) ++ (⟨#[32, 98, 111, 117, 110, 100, 32]⟩ : ByteArray)) ++ t189) ++ (⟨#[32, 99, 97, 112, 32]⟩ : ByteArray)) ++ t190)) else (none))) else (none)) else (none))) else (none)) else (none)) = some r := H
            have A15 := Aside0.mk A150
            clear A150
            by_cases c16 : (((⟨#[107, 101, 121, 32]⟩ : ByteArray) ++ t187) ++ (⟨#[32, 108, 111, 103, 32]⟩ : ByteArray)).size + t188.size ≤ 9223372036854775807
            · rw [if_pos c16] at H
              have c16b0 := eq_true c16
              have c16b1 : decide ((((⟨#[107, 101, 121, 32]⟩ : ByteArray) ++ t187) ++ (⟨#[32, 108, 111, 103, 32]⟩ : ByteArray)).size + t188.size ≤ 9223372036854775807) = true := decide_eq_true c16
              try have c16b2 : (9223372036854775807 < (((⟨#[107, 101, 121, 32]⟩ : ByteArray) ++ t187) ++ (⟨#[32, 108, 111, 103, 32]⟩ : ByteArray)).size + t188.size) = False := eq_false (Nat.not_lt.2 c16)
              try have c16b3 := c16b2
              try simp only [ByteArray.size_append, show (⟨#[107, 101, 121, 32]⟩ : ByteArray).size = 4 from rfl, show (⟨#[32, 108, 111, 103, 32]⟩ : ByteArray).size = 5 from rfl] at c16b3
              by_cases c17 : ((((⟨#[107, 101, 121, 32]⟩ : ByteArray) ++ t187) ++ (⟨#[32, 108, 111, 103, 32]⟩ : ByteArray)) ++ t188).size + 7 ≤ 9223372036854775807
              · rw [if_pos c17] at H
                have c17b0 := eq_true c17
                have c17b1 : decide (((((⟨#[107, 101, 121, 32]⟩ : ByteArray) ++ t187) ++ (⟨#[32, 108, 111, 103, 32]⟩ : ByteArray)) ++ t188).size + 7 ≤ 9223372036854775807) = true := decide_eq_true c17
                try have c17b2 : (9223372036854775807 < ((((⟨#[107, 101, 121, 32]⟩ : ByteArray) ++ t187) ++ (⟨#[32, 108, 111, 103, 32]⟩ : ByteArray)) ++ t188).size + 7) = False := eq_false (Nat.not_lt.2 c17)
                try have c17b3 := c17b2
                try simp only [ByteArray.size_append, show (⟨#[107, 101, 121, 32]⟩ : ByteArray).size = 4 from rfl, show (⟨#[32, 108, 111, 103, 32]⟩ : ByteArray).size = 5 from rfl] at c17b3
                replace H := Option.bind_eq_some_iff.mp H
                obtain ⟨t189, A180, H⟩ := H
                replace H : (if (((((⟨#[107, 101, 121, 32]⟩ : ByteArray) ++ t187) ++ (⟨#[32, 108, 111, 103, 32]⟩ : ByteArray)) ++ t188) ++ (⟨#[32, 98, 111, 117, 110, 100, 32]⟩ : ByteArray)).size + t189.size ≤ 9223372036854775807 then (if ((((((⟨#[107, 101, 121, 32]⟩ : ByteArray) ++ t187) ++ (⟨#[32, 108, 111, 103, 32]⟩ : ByteArray)) ++ t188) ++ (⟨#[32, 98, 111, 117, 110, 100, 32]⟩ : ByteArray)) ++ t189).size + 5 ≤ 9223372036854775807 then ((strconv_Itoa_79.f a0_3).bind fun t190 => (if (((((((⟨#[107, 101, 121, 32]⟩ : ByteArray) ++ t187) ++ (⟨#[32, 108, 111, 103, 32]⟩ : ByteArray)) ++ t188) ++ (⟨#[32, 98, 111, 117, 110, 100, 32]⟩ : ByteArray)) ++ t189) ++ (⟨#[32, 99, 97, 112, 32]⟩ : ByteArray)).size + t190.size ≤ 9223372036854775807 then (some ((((((((⟨#[107, 101, 121, 32]⟩ : ByteArray) ++ t187) ++ (⟨#[32, 108, 111, 103, 32]⟩ : ByteArray)) ++ t188) ++ (⟨#[32, 98, 111, 117, 110, 100, 32]⟩ : ByteArray)) ++ t189) ++ (⟨#[32, 99, 97, 112, 32]⟩ : ByteArray)) ++ t190)) else (none))) else (none)) else (none)) = some r := H
                have A18 := Aside0.mk A180
                clear A180
                by_cases c19 : (((((⟨#[107, 101, 121, 32]⟩ : ByteArray) ++ t187) ++ (⟨#[32, 108, 111, 103, 32]⟩ : ByteArray)) ++ t188) ++ (⟨#[32, 98, 111, 117, 110, 100, 32]⟩ : ByteArray)).size + t189.size ≤ 9223372036854775807
                · rw [if_pos c19] at H
                  have c19b0 := eq_true c19
                  have c19b1 : decide ((((((⟨#[107, 101, 121, 32]⟩ : ByteArray) ++ t187) ++ (⟨#[32, 108, 111, 103, 32]⟩ : ByteArray)) ++ t188) ++ (⟨#[32, 98, 111, 117, 110, 100, 32]⟩ : ByteArray)).size + t189.size ≤ 9223372036854775807) = true := decide_eq_true c19
                  try have c19b2 : (9223372036854775807 < (((((⟨#[107, 101, 121, 32]⟩ : ByteArray) ++ t187) ++ (⟨#[32, 108, 111, 103, 32]⟩ : ByteArray)) ++ t188) ++ (⟨#[32, 98, 111, 117, 110, 100, 32]⟩ : ByteArray)).size + t189.size) = False := eq_false (Nat.not_lt.2 c19)
                  try have c19b3 := c19b2
                  try simp only [ByteArray.size_append, show (⟨#[107, 101, 121, 32]⟩ : ByteArray).size = 4 from rfl, show (⟨#[32, 108, 111, 103, 32]⟩ : ByteArray).size = 5 from rfl, show (⟨#[32, 98, 111, 117, 110, 100, 32]⟩ : ByteArray).size = 7 from rfl] at c19b3
                  by_cases c20 : ((((((⟨#[107, 101, 121, 32]⟩ : ByteArray) ++ t187) ++ (⟨#[32, 108, 111, 103, 32]⟩ : ByteArray)) ++ t188) ++ (⟨#[32, 98, 111, 117, 110, 100, 32]⟩ : ByteArray)) ++ t189).size + 5 ≤ 9223372036854775807
                  · rw [if_pos c20] at H
                    have c20b0 := eq_true c20
                    have c20b1 : decide (((((((⟨#[107, 101, 121, 32]⟩ : ByteArray) ++ t187) ++ (⟨#[32, 108, 111, 103, 32]⟩ : ByteArray)) ++ t188) ++ (⟨#[32, 98, 111, 117, 110, 100, 32]⟩ : ByteArray)) ++ t189).size + 5 ≤ 9223372036854775807) = true := decide_eq_true c20
                    try have c20b2 : (9223372036854775807 < ((((((⟨#[107, 101, 121, 32]⟩ : ByteArray) ++ t187) ++ (⟨#[32, 108, 111, 103, 32]⟩ : ByteArray)) ++ t188) ++ (⟨#[32, 98, 111, 117, 110, 100, 32]⟩ : ByteArray)) ++ t189).size + 5) = False := eq_false (Nat.not_lt.2 c20)
                    try have c20b3 := c20b2
                    try simp only [ByteArray.size_append, show (⟨#[107, 101, 121, 32]⟩ : ByteArray).size = 4 from rfl, show (⟨#[32, 108, 111, 103, 32]⟩ : ByteArray).size = 5 from rfl, show (⟨#[32, 98, 111, 117, 110, 100, 32]⟩ : ByteArray).size = 7 from rfl] at c20b3
                    replace H := Option.bind_eq_some_iff.mp H
                    obtain ⟨t190, A210, H⟩ := H
                    replace H : (if (((((((⟨#[107, 101, 121, 32]⟩ : ByteArray) ++ t187) ++ (⟨#[32, 108, 111, 103, 32]⟩ : ByteArray)) ++ t188) ++ (⟨#[32, 98, 111, 117, 110, 100, 32]⟩ : ByteArray)) ++ t189) ++ (⟨#[32, 99, 97, 112, 32]⟩ : ByteArray)).size + t190.size ≤ 9223372036854775807 then (some ((((((((⟨#[107, 101, 121, 32]⟩ : ByteArray) ++ t187) ++ (⟨#[32, 108, 111, 103, 32]⟩ : ByteArray)) ++ t188) ++ (⟨#[32, 98, 111, 117, 110, 100, 32]⟩ : ByteArray)) ++ t189) ++ (⟨#[32, 99, 97, 112, 32]⟩ : ByteArray)) ++ t190)) else (none)) = some r := H
                    have A21 := Aside0.mk A210
                    clear A210
                    by_cases c22 : (((((((⟨#[107, 101, 121, 32]⟩ : ByteArray) ++ t187) ++ (⟨#[32, 108, 111, 103, 32]⟩ : ByteArray)) ++ t188) ++ (⟨#[32, 98, 111, 117, 110, 100, 32]⟩ : ByteArray)) ++ t189) ++ (⟨#[32, 99, 97, 112, 32]⟩ : ByteArray)).size + t190.size ≤ 9223372036854775807
                    · rw [if_pos c22] at H
                      have c22b0 := eq_true c22
                      have c22b1 : decide ((((((((⟨#[107, 101, 121, 32]⟩ : ByteArray) ++ t187) ++ (⟨#[32, 108, 111, 103, 32]⟩ : ByteArray)) ++ t188) ++ (⟨#[32, 98, 111, 117, 110, 100, 32]⟩ : ByteArray)) ++ t189) ++ (⟨#[32, 99, 97, 112, 32]⟩ : ByteArray)).size + t190.size ≤ 9223372036854775807) = true := decide_eq_true c22
                      try have c22b2 : (9223372036854775807 < (((((((⟨#[107, 101, 121, 32]⟩ : ByteArray) ++ t187) ++ (⟨#[32, 108, 111, 103, 32]⟩ : ByteArray)) ++ t188) ++ (⟨#[32, 98, 111, 117, 110, 100, 32]⟩ : ByteArray)) ++ t189) ++ (⟨#[32, 99, 97, 112, 32]⟩ : ByteArray)).size + t190.size) = False := eq_false (Nat.not_lt.2 c22)
                      try have c22b3 := c22b2
                      try simp only [ByteArray.size_append, show (⟨#[107, 101, 121, 32]⟩ : ByteArray).size = 4 from rfl, show (⟨#[32, 108, 111, 103, 32]⟩ : ByteArray).size = 5 from rfl, show (⟨#[32, 98, 111, 117, 110, 100, 32]⟩ : ByteArray).size = 7 from rfl, show (⟨#[32, 99, 97, 112, 32]⟩ : ByteArray).size = 5 from rfl] at c22b3
                      obtain rfl := Option.some.inj H
                      try go_wp2
                      have n0_ := Aside0.mk (blk_drew BK185.out)
                      have n1_ := Aside0.mk (below_drew1 HB.out)
                      clear BK185
                      clear HB
                      have BK185 := n0_
                      have HB := n1_
                      clear n0_ n1_
                      refine start_ (n := 20) (S := fun w' => w'.cell? ⟨gb185, 0, none⟩ = some (.int .i64 a0_0) ∧ w'.cell? ⟨gb185, 1, none⟩ = some (.int .i64 a0_1) ∧ w'.cell? ⟨gb185, 2, none⟩ = some (.int .i64 a0_2) ∧ w'.cell? ⟨gb185, 3, none⟩ = some (.int .i64 a0_3)) (ds := []) #[false, false, false, false, false, false, false, false, false, false, false, false, false, false, false, false, false, false, false, false] (by kernel_rfl) rfl rfl ⟨(blk_cell BK185.out 0).trans rfl, (blk_cell BK185.out 1).trans rfl, (blk_cell BK185.out 2).trans rfl, (blk_cell BK185.out 3).trans rfl⟩ (fun hHeld => ?_); refine with_tabW impl_confText.tab3 impl_confText.bits3 (fun HT_ HW_ => ?_)
                      generalize wc.drew = w23 at BK185 HB hHeld ⊢
                      refine pure_ (i := 0) (N := some 11) (v := ?_) (a' := ?_) #[true, false, false, false, false, false, false, false, false, false, false, false, false, false, false, false, false, false, false, false] rfl rfl (any_of HT_.out (by kernel_rfl)) (fun _ _ _ h => h) (Or.inl ⟨by rfl, ?_⟩) ?_ ?_
                      rotate_left
                      · intro w'
                        go_simp
                        with_reducible rfl
                      rotate_left
                      · simp only [Act.put, List.setIfInBounds_toArray, List.set_cons_zero, List.set_cons_succ, i64_w, i32_w]
                        rfl
                      refine pure_ (i := 5) (N := some 16) (v := ?_) (a' := ?_) #[true, false, false, false, false, true, false, false, false, false, false, false, false, false, false, false, false, false, false, false] rfl rfl (any_of HT_.out (by kernel_rfl)) (fun _ _ _ h => h) (Or.inl ⟨by rfl, ?_⟩) ?_ ?_
                      rotate_left
                      · intro w'
                        go_simp
                        with_reducible rfl
                      rotate_left
                      · simp only [Act.put, List.setIfInBounds_toArray, List.set_cons_zero, List.set_cons_succ, i64_w, i32_w]
                        rfl
                      refine pure_ (i := 10) (N := some 21) (v := ?_) (a' := ?_) #[true, false, false, false, false, true, false, false, false, false, true, false, false, false, false, false, false, false, false, false] rfl rfl (any_of HT_.out (by kernel_rfl)) (fun _ _ _ h => h) (Or.inl ⟨by rfl, ?_⟩) ?_ ?_
                      rotate_left
                      · intro w'
                        go_simp
                        with_reducible rfl
                      rotate_left
                      · simp only [Act.put, List.setIfInBounds_toArray, List.set_cons_zero, List.set_cons_succ, i64_w, i32_w]
                        rfl
                      refine pure_ (i := 15) (N := some 26) (v := ?_) (a' := ?_) #[true, false, false, false, false, true, false, false, false, false, true, false, false, false, false, true, false, false, false, false] rfl rfl (any_of HT_.out (by kernel_rfl)) (fun _ _ _ h => h) (Or.inl ⟨by rfl, ?_⟩) ?_ ?_
                      rotate_left
                      · intro w'
                        go_simp
                        with_reducible rfl
                      rotate_left
                      · simp only [Act.put, List.setIfInBounds_toArray, List.set_cons_zero, List.set_cons_succ, i64_w, i32_w]
                        rfl
                      refine take_ (i := 1) (N := some 12) (v := ?_) (a' := ?_) #[true, true, false, false, false, true, false, false, false, false, true, false, false, false, false, true, false, false, false, false] rfl rfl (take_ofW HT_.out HW_.out (by kernel_rfl)) (fun _ _ _ h => h) (Or.inl ⟨by rfl, ?_⟩) hHeld ?_ ?_
                      rotate_left
                      · rintro w' ⟨s0, s1, s2, s3⟩
                        go_simp
                        with_reducible rfl
                      rotate_left
                      · simp only [Act.put, List.setIfInBounds_toArray, List.set_cons_zero, List.set_cons_succ, i64_w, i32_w]
                        rfl
                      refine take_ (i := 6) (N := some 17) (v := ?_) (a' := ?_) #[true, true, false, false, false, true, true, false, false, false, true, false, false, false, false, true, false, false, false, false] rfl rfl (take_ofW HT_.out HW_.out (by kernel_rfl)) (fun _ _ _ h => h) (Or.inl ⟨by rfl, ?_⟩) hHeld ?_ ?_
                      rotate_left
                      · rintro w' ⟨s0, s1, s2, s3⟩
                        go_simp
                        with_reducible rfl
                      rotate_left
                      · simp only [Act.put, List.setIfInBounds_toArray, List.set_cons_zero, List.set_cons_succ, i64_w, i32_w]
                        rfl
                      refine take_ (i := 11) (N := some 22) (v := ?_) (a' := ?_) #[true, true, false, false, false, true, true, false, false, false, true, true, false, false, false, true, false, false, false, false] rfl rfl (take_ofW HT_.out HW_.out (by kernel_rfl)) (fun _ _ _ h => h) (Or.inl ⟨by rfl, ?_⟩) hHeld ?_ ?_
                      rotate_left
                      · rintro w' ⟨s0, s1, s2, s3⟩
                        go_simp
                        with_reducible rfl
                      rotate_left
                      · simp only [Act.put, List.setIfInBounds_toArray, List.set_cons_zero, List.set_cons_succ, i64_w, i32_w]
                        rfl
                      refine take_ (i := 16) (N := some 27) (v := ?_) (a' := ?_) #[true, true, false, false, false, true, true, false, false, false, true, true, false, false, false, true, true, false, false, false] rfl rfl (take_ofW HT_.out HW_.out (by kernel_rfl)) (fun _ _ _ h => h) (Or.inl ⟨by rfl, ?_⟩) hHeld ?_ ?_
                      rotate_left
                      · rintro w' ⟨s0, s1, s2, s3⟩
                        go_simp
                        with_reducible rfl
                      rotate_left
                      · simp only [Act.put, List.setIfInBounds_toArray, List.set_cons_zero, List.set_cons_succ, i64_w, i32_w]
                        rfl
                      refine one_ (i := 2) (N := some 13) #[true, true, true, false, false, true, true, false, false, false, true, true, false, false, false, true, true, false, false, false] rfl rfl (one_of HT_.out (by kernel_rfl)) (by decide) (fun K hK => ?_)
                      refine goes_ Tryd.func79 (by kernel_rfl) rfl #[.int .i64 a0_0] (by rfl) rfl rfl (by (try simp only [List.map_toArray, List.map_cons, List.map_nil]); first | done | rfl | (simp only [List.length_drop, List.length_take]; rfl)) ?_
                      with_reducible refine (strconv_Itoa_79.calls a0_0 t187 _ A12.out (G_below (by repeat (first | (with_reducible first | exact HB.out | apply below_alloc | apply pw_below_drewN | apply below_drew1) | exact HB.out)) hG)).mono ?_
                      rintro e w24 ⟨rfl, hb⟩
                      refine ⟨_, rfl, ?_⟩
                      have n0_ := Aside0.mk (blk_below (g := gb185) (o := .cells #[.int .i64 a0_0, .int .i64 a0_1, .int .i64 a0_2, .int .i64 a0_3] 25 (0, 0)) (by (with_reducible repeat (first | refine blk_drewN ?_ _ | refine blk_drew ?_ | refine blk_alloc ?_ _)); exact BK185.out) hb)
                      have n1_ := Aside0.mk (below_step (by repeat (first | (with_reducible first | exact HB.out | apply below_alloc | apply pw_below_drewN | apply below_drew1 | refine below_set ?_ GE185.out) | exact HB.out)) hb)
                      clear BK185
                      clear HB
                      have BK185 := n0_
                      have HB := n1_
                      clear n0_ n1_
                      (try clear hb)
                      (try clear hb2)
                      (try clear hk)
                      (try clear hi)
                      refine hK.out _ _ ⟨(blk_cell BK185.out 0).trans rfl, (blk_cell BK185.out 1).trans rfl, (blk_cell BK185.out 2).trans rfl, (blk_cell BK185.out 3).trans rfl⟩ (fun hHeld => ?_)
                      clear hK K
                      refine norm_ (a' := ?_) ?_ ?_
                      rotate_left
                      · show Act.put _ (some 13) _ = _
                        simp only [Act.put, List.setIfInBounds_toArray, List.set_cons_zero, List.set_cons_succ, i64_w, i32_w]
                        rfl
                      refine pure_ (i := 3) (N := some 14) (v := ?_) (a' := ?_) #[true, true, true, true, false, true, true, false, false, false, true, true, false, false, false, true, true, false, false, false] rfl rfl (any_of HT_.out (by kernel_rfl)) (fun _ _ _ h => h) (Or.inl ⟨by rfl, ?_⟩) ?_ ?_
                      rotate_left
                      · intro w'
                        go_simp
                        with_reducible rfl
                      rotate_left
                      · simp only [Act.put, List.setIfInBounds_toArray, List.set_cons_zero, List.set_cons_succ, i64_w, i32_w]
                        rfl
                      refine pure_ (i := 4) (N := some 15) (v := ?_) (a' := ?_) #[true, true, true, true, true, true, true, false, false, false, true, true, false, false, false, true, true, false, false, false] rfl rfl (any_of HT_.out (by kernel_rfl)) (fun _ _ _ h => h) (Or.inl ⟨by rfl, ?_⟩) ?_ ?_
                      rotate_left
                      · intro w'
                        go_simp
                        with_reducible rfl
                      rotate_left
                      · simp only [Act.put, List.setIfInBounds_toArray, List.set_cons_zero, List.set_cons_succ, i64_w, i32_w]
                        rfl
                      refine one_ (i := 7) (N := some 18) #[true, true, true, true, true, true, true, true, false, false, true, true, false, false, false, true, true, false, false, false] rfl rfl (one_of HT_.out (by kernel_rfl)) (by decide) (fun K hK => ?_)
                      refine goes_ Tryd.func79 (by kernel_rfl) rfl #[.int .i64 a0_1] (by rfl) rfl rfl (by (try simp only [List.map_toArray, List.map_cons, List.map_nil]); first | done | rfl | (simp only [List.length_drop, List.length_take]; rfl)) ?_
                      with_reducible refine (strconv_Itoa_79.calls a0_1 t188 _ A15.out (G_below (by repeat (first | (with_reducible first | exact HB.out | apply below_alloc | apply pw_below_drewN | apply below_drew1) | exact HB.out)) hG)).mono ?_
                      rintro e w25 ⟨rfl, hb⟩
                      refine ⟨_, rfl, ?_⟩
                      have n0_ := Aside0.mk (blk_below (g := gb185) (o := .cells #[.int .i64 a0_0, .int .i64 a0_1, .int .i64 a0_2, .int .i64 a0_3] 25 (0, 0)) (by (with_reducible repeat (first | refine blk_drewN ?_ _ | refine blk_drew ?_ | refine blk_alloc ?_ _)); exact BK185.out) hb)
                      have n1_ := Aside0.mk (below_step (by repeat (first | (with_reducible first | exact HB.out | apply below_alloc | apply pw_below_drewN | apply below_drew1 | refine below_set ?_ GE185.out) | exact HB.out)) hb)
                      clear BK185
                      clear HB
                      have BK185 := n0_
                      have HB := n1_
                      clear n0_ n1_
                      (try clear hb)
                      (try clear hb2)
                      (try clear hk)
                      (try clear hi)
                      refine hK.out _ _ ⟨(blk_cell BK185.out 0).trans rfl, (blk_cell BK185.out 1).trans rfl, (blk_cell BK185.out 2).trans rfl, (blk_cell BK185.out 3).trans rfl⟩ (fun hHeld => ?_)
                      clear hK K
                      refine norm_ (a' := ?_) ?_ ?_
                      rotate_left
                      · show Act.put _ (some 18) _ = _
                        simp only [Act.put, List.setIfInBounds_toArray, List.set_cons_zero, List.set_cons_succ, i64_w, i32_w]
                        rfl
                      refine pure_ (i := 8) (N := some 19) (v := ?_) (a' := ?_) #[true, true, true, true, true, true, true, true, true, false, true, true, false, false, false, true, true, false, false, false] rfl rfl (any_of HT_.out (by kernel_rfl)) (fun _ _ _ h => h) (Or.inl ⟨by rfl, ?_⟩) ?_ ?_
                      rotate_left
                      · intro w'
                        go_simp
                        with_reducible rfl
                      rotate_left
                      · simp only [Act.put, List.setIfInBounds_toArray, List.set_cons_zero, List.set_cons_succ, i64_w, i32_w]
                        rfl
                      refine pure_ (i := 9) (N := some 20) (v := ?_) (a' := ?_) #[true, true, true, true, true, true, true, true, true, true, true, true, false, false, false, true, true, false, false, false] rfl rfl (any_of HT_.out (by kernel_rfl)) (fun _ _ _ h => h) (Or.inl ⟨by rfl, ?_⟩) ?_ ?_
                      rotate_left
                      · intro w'
                        go_simp
                        with_reducible rfl
                      rotate_left
                      · simp only [Act.put, List.setIfInBounds_toArray, List.set_cons_zero, List.set_cons_succ, i64_w, i32_w]
                        rfl
                      refine one_ (i := 12) (N := some 23) #[true, true, true, true, true, true, true, true, true, true, true, true, true, false, false, true, true, false, false, false] rfl rfl (one_of HT_.out (by kernel_rfl)) (by decide) (fun K hK => ?_)
                      refine goes_ Tryd.func79 (by kernel_rfl) rfl #[.int .i64 a0_2] (by rfl) rfl rfl (by (try simp only [List.map_toArray, List.map_cons, List.map_nil]); first | done | rfl | (simp only [List.length_drop, List.length_take]; rfl)) ?_
                      with_reducible refine (strconv_Itoa_79.calls a0_2 t189 _ A18.out (G_below (by repeat (first | (with_reducible first | exact HB.out | apply below_alloc | apply pw_below_drewN | apply below_drew1) | exact HB.out)) hG)).mono ?_
                      rintro e w26 ⟨rfl, hb⟩
                      refine ⟨_, rfl, ?_⟩
                      have n0_ := Aside0.mk (blk_below (g := gb185) (o := .cells #[.int .i64 a0_0, .int .i64 a0_1, .int .i64 a0_2, .int .i64 a0_3] 25 (0, 0)) (by (with_reducible repeat (first | refine blk_drewN ?_ _ | refine blk_drew ?_ | refine blk_alloc ?_ _)); exact BK185.out) hb)
                      have n1_ := Aside0.mk (below_step (by repeat (first | (with_reducible first | exact HB.out | apply below_alloc | apply pw_below_drewN | apply below_drew1 | refine below_set ?_ GE185.out) | exact HB.out)) hb)
                      clear BK185
                      clear HB
                      have BK185 := n0_
                      have HB := n1_
                      clear n0_ n1_
                      (try clear hb)
                      (try clear hb2)
                      (try clear hk)
                      (try clear hi)
                      refine hK.out _ _ ⟨(blk_cell BK185.out 0).trans rfl, (blk_cell BK185.out 1).trans rfl, (blk_cell BK185.out 2).trans rfl, (blk_cell BK185.out 3).trans rfl⟩ (fun hHeld => ?_)
                      clear hK K
                      refine norm_ (a' := ?_) ?_ ?_
                      rotate_left
                      · show Act.put _ (some 23) _ = _
                        simp only [Act.put, List.setIfInBounds_toArray, List.set_cons_zero, List.set_cons_succ, i64_w, i32_w]
                        rfl
                      refine pure_ (i := 13) (N := some 24) (v := ?_) (a' := ?_) #[true, true, true, true, true, true, true, true, true, true, true, true, true, true, false, true, true, false, false, false] rfl rfl (any_of HT_.out (by kernel_rfl)) (fun _ _ _ h => h) (Or.inl ⟨by rfl, ?_⟩) ?_ ?_
                      rotate_left
                      · intro w'
                        go_simp
                        with_reducible rfl
                      rotate_left
                      · simp only [Act.put, List.setIfInBounds_toArray, List.set_cons_zero, List.set_cons_succ, i64_w, i32_w]
                        rfl
                      refine pure_ (i := 14) (N := some 25) (v := ?_) (a' := ?_) #[true, true, true, true, true, true, true, true, true, true, true, true, true, true, true, true, true, false, false, false] rfl rfl (any_of HT_.out (by kernel_rfl)) (fun _ _ _ h => h) (Or.inl ⟨by rfl, ?_⟩) ?_ ?_
                      rotate_left
                      · intro w'
                        go_simp
                        with_reducible rfl
                      rotate_left
                      · simp only [Act.put, List.setIfInBounds_toArray, List.set_cons_zero, List.set_cons_succ, i64_w, i32_w]
                        rfl
                      refine one_ (i := 17) (N := some 28) #[true, true, true, true, true, true, true, true, true, true, true, true, true, true, true, true, true, true, false, false] rfl rfl (one_of HT_.out (by kernel_rfl)) (by decide) (fun K hK => ?_)
                      refine goes_ Tryd.func79 (by kernel_rfl) rfl #[.int .i64 a0_3] (by rfl) rfl rfl (by (try simp only [List.map_toArray, List.map_cons, List.map_nil]); first | done | rfl | (simp only [List.length_drop, List.length_take]; rfl)) ?_
                      with_reducible refine (strconv_Itoa_79.calls a0_3 t190 _ A21.out (G_below (by repeat (first | (with_reducible first | exact HB.out | apply below_alloc | apply pw_below_drewN | apply below_drew1) | exact HB.out)) hG)).mono ?_
                      rintro e w27 ⟨rfl, hb⟩
                      refine ⟨_, rfl, ?_⟩
                      have n0_ := Aside0.mk (blk_below (g := gb185) (o := .cells #[.int .i64 a0_0, .int .i64 a0_1, .int .i64 a0_2, .int .i64 a0_3] 25 (0, 0)) (by (with_reducible repeat (first | refine blk_drewN ?_ _ | refine blk_drew ?_ | refine blk_alloc ?_ _)); exact BK185.out) hb)
                      have n1_ := Aside0.mk (below_step (by repeat (first | (with_reducible first | exact HB.out | apply below_alloc | apply pw_below_drewN | apply below_drew1 | refine below_set ?_ GE185.out) | exact HB.out)) hb)
                      clear BK185
                      clear HB
                      have BK185 := n0_
                      have HB := n1_
                      clear n0_ n1_
                      (try clear hb)
                      (try clear hb2)
                      (try clear hk)
                      (try clear hi)
                      refine hK.out _ _ ⟨(blk_cell BK185.out 0).trans rfl, (blk_cell BK185.out 1).trans rfl, (blk_cell BK185.out 2).trans rfl, (blk_cell BK185.out 3).trans rfl⟩ (fun hHeld => ?_)
                      clear hK K
                      refine norm_ (a' := ?_) ?_ ?_
                      rotate_left
                      · show Act.put _ (some 28) _ = _
                        simp only [Act.put, List.setIfInBounds_toArray, List.set_cons_zero, List.set_cons_succ, i64_w, i32_w]
                        rfl
                      refine pure_ (i := 18) (N := some 29) (v := ?_) (a' := ?_) #[true, true, true, true, true, true, true, true, true, true, true, true, true, true, true, true, true, true, true, false] rfl rfl (any_of HT_.out (by kernel_rfl)) (fun _ _ _ h => h) (Or.inl ⟨by rfl, ?_⟩) ?_ ?_
                      rotate_left
                      · intro w'
                        go_simp
                        with_reducible rfl
                      rotate_left
                      · simp only [Act.put, List.setIfInBounds_toArray, List.set_cons_zero, List.set_cons_succ, i64_w, i32_w]
                        rfl
                      refine pure_ (i := 19) (N := some 2) (v := ?_) (a' := ?_) #[true, true, true, true, true, true, true, true, true, true, true, true, true, true, true, true, true, true, true, true] rfl rfl (any_of HT_.out (by kernel_rfl)) (fun _ _ _ h => h) (Or.inl ⟨by rfl, ?_⟩) ?_ ?_
                      rotate_left
                      · intro w'
                        go_simp
                        with_reducible rfl
                      rotate_left
                      · simp only [Act.put, List.setIfInBounds_toArray, List.set_cons_zero, List.set_cons_succ, i64_w, i32_w]
                        rfl
                      refine done_ (done_of HT_.out (by kernel_rfl)) ?_
                      try go_wp2
                      go_ret
                      exact ⟨by first | rfl | (simp [errW_none, errW_some] <;> rfl) | (simp [*, errW_none, errW_some] <;> rfl), by repeat (first | (with_reducible first | exact HB.out | apply below_alloc | apply pw_below_drewN | apply below_drew1 | refine below_set ?_ GE185.out) | exact HB.out)⟩
                    · rw [if_neg c22] at H
                      exact absurd H (by simp)
                  · rw [if_neg c20] at H
                    exact absurd H (by simp)
                · rw [if_neg c19] at H
                  exact absurd H (by simp)
              · rw [if_neg c17] at H
                exact absurd H (by simp)
            · rw [if_neg c16] at H
              exact absurd H (by simp)
          · rw [if_neg c14] at H
            exact absurd H (by simp)
        · rw [if_neg c13] at H
          exact absurd H (by simp)
end Go.Proofs.YtbpffdhkeinmcaaDoor.QF
namespace Go.Proofs.YtbpffdhkeinmcaaDoor.QF
open Go.RowKit Go.Proofs.YtbpffdhkeinmcaaDoorW.PrintWords Go.Proofs.YtbpffdhkeinmcaaDoorW.PrintLast Go.Proofs.YtbpffdhkeinmcaaDoorW.PrintMore
attribute [local go_sem] max2_int min2_int max_two min_two max_three min_three max_four min_four   -- for this text's walks alone
set_option linter.unusedVariables false
set_option linter.unusedSimpArgs false
shelf_lay Lays.n146 Nm 146 at Tryd as Tryd.lays146
def strings_Split.f (a0 : ByteArray) (a1 : ByteArray) : Option (List ByteArray) := if a0.size < 4294967281 ∧ 1 ≤ a1.size then some (Lib.splitB a1 0 (Lib.countB a0 a1) a0) else none
theorem strings_Split.calls (a0 : ByteArray) (a1 : ByteArray) (r : List ByteArray) (w : World) (h : strings_Split.f a0 a1 = some r) (hG : TabG w) :
    Calls Tryd.prog 76 #[.string a0, .string a1] w fun e w' => ∃ v0_ : Value, e = .returned (v0_) ∧ Kd.R Kd.string 9 w' w.heap.size (fun _ => True) v0_ r ∧ Below w.heap.size w w' := by
  unfold strings_Split.f at h
  split at h
  · rename_i hr
    obtain rfl := Option.some.inj h
    obtain ⟨m, hm⟩ := hG.maxlen
    have hlen := Lib.splitB_all a1 hr.2 0 _ a0 rfl
    have hle := Lib.countB_le a1 hr.2 a0.size a0 (Nat.le_refl _)
    refine (Any.strings_Split Tryd.lays146 (by kernel_rfl) a0 a1 m w hr.1 hm hr.2).mono ?_
    rintro e w' ⟨rfl, rfl⟩
    refine ⟨_, rfl, Kd.R_of_own (enc := Value.string) (h1 := fun _ => rfl) ⟨by simp [encs], .inr ⟨w.heap.size, Lib.countB a0 a1 + 1, _, by rw [hlen], Nat.le_refl _, heap_alloc_new w _, by rw [hlen]; exact Nat.le_refl _, by simp only [maxLen]; omega, by simp [hlen], ?_⟩⟩ (fun _ _ => trivial), (Below.refl _ w).alloc (Nat.le_refl _) _⟩
    rw [List.take_of_length_le (by simp)]
    simp [encs]
  · cases h
end Go.Proofs.YtbpffdhkeinmcaaDoor.QF
namespace Go.Proofs.YtbpffdhkeinmcaaDoor.QF
open Go.RowKit Go.Proofs.YtbpffdhkeinmcaaDoorW.PrintWords Go.Proofs.YtbpffdhkeinmcaaDoorW.PrintLast Go.Proofs.YtbpffdhkeinmcaaDoorW.PrintMore
attribute [local go_sem] max2_int min2_int max_two min_two max_three min_three max_four min_four   -- for this text's walks alone
set_option linter.unusedVariables false
set_option linter.unusedSimpArgs false
shelf_lay LaysC.n172 Nm 172 at Tryd as Tryd.lays172
def impl_lineNumber.f (a0 : ByteArray) : Option (Int × Bool) := if a0.size ≤ 281474976710656 then
  (match Lib.atoiAll a0.data.toList with
   | .ok v => (strconv_Itoa_79.f v).bind fun t => if t.toList = a0.toList then (if 0 ≤ v ∧ v ≤ 999999999 then some (v, true) else some (0, false)) else some (0, false)
   | _ => some (0, false)) else none
theorem within_line (v : Int) : impl_within.f v 0 999999999 = some (decide (0 ≤ v ∧ v ≤ 999999999)) := by
  unfold impl_within.f
  by_cases h : v ≥ 0
  · rw [if_pos h]
    by_cases h2 : v ≤ 999999999 <;> simp [h2] <;> omega
  · rw [if_neg h]
    simp
    omega
set_option maxHeartbeats 8000000 in
set_option maxRecDepth 100000 in
theorem impl_lineNumber.calls (a0 : ByteArray) (r1 : Int) (r2 : Bool) (w : World) (h : impl_lineNumber.f a0 = some (r1, r2)) (hG : TabG w) :
    Calls Tryd.prog 77 #[.string a0] w fun e w' => e = .returned (.tuple #[.int .i64 r1, .bool r2]) ∧ Below w.heap.size w w' := by
  unfold impl_lineNumber.f at h
  split at h
  · rename_i hs
    have hfail : ∀ (z : Int) (t : TypeId) (N : Nat), (Calls Tryd.prog 116 #[.string a0] w fun e w' => e = .returned (.tuple #[.int .i64 z, .iface t (.pointer (some ⟨N, 0, none⟩))]) ∧ Below w.heap.size w w') → True := fun _ _ _ _ => trivial
    cases hat : Lib.atoiAll a0.data.toList with
    | ok v =>
      rw [hat] at h
      simp only at h
      obtain ⟨t, ht, h2⟩ := Option.bind_eq_some_iff.mp h
      have HA := Aside0.mk (Any.strconv_Atoi_ok Tryd.lays172 a0 (by omega) v hat w)
      have HT := Aside0.mk ht
      have HG := Aside0.mk hG
      have HW := Aside0.mk (within_line v)
      clear h hat ht hG hs hfail
      have hbw : ∀ w', (w' = w ∨ ∃ t, w' = Lib.bytesWorld w (Tryd.lays172_ren.t 5) t) → Below w.heap.size w w' := by
        rintro w' (rfl | ⟨t, rfl⟩)
        · exact Below.refl _ _
        · exact Lib.bytesWorld_below _ _ _
      have HBW := Aside0.mk hbw
      clear hbw
      by_cases c1 : t.toList = a0.toList
      · rw [if_pos c1] at h2
        have c1b0 : (t.toList == a0.toList) = true := by simp [c1]
        by_cases c2 : 0 ≤ v ∧ v ≤ 999999999
        · rw [if_pos c2] at h2
          rw [decide_eq_true c2] at HW
          obtain ⟨rfl, rfl⟩ : v = r1 ∧ true = r2 := by simpa using h2
          clear c1 c2
          go_enter Tryd.func77, Tryd.ntmps77
          go_wp2_with (first | (go_at_call 116; refine HA.out.mono ?_; rintro e w1 ⟨rfl, hb1⟩; have HB1 := Aside0.mk (HBW.out w1 hb1); clear hb1) | (go_at_call 79; refine (strconv_Itoa_79.calls v t _ HT.out (G_below HB1.out HG.out)).mono ?_; rintro e w2 ⟨rfl, hb2⟩; have HB2 := Aside0.mk (HB1.out.trans (hb2.mono HB1.out.size)); clear hb2) | (go_at_call 69; refine (impl_within.calls v 0 999999999 true _ HW.out).mono ?_; rintro e w3 ⟨rfl, ⟨nd, rfl⟩⟩))
          go_ret2
          exact ⟨rfl, pw_below_drewN HB2.out _⟩
        · rw [if_neg c2] at h2
          rw [decide_eq_false c2] at HW
          cases h2
          clear c1 c2
          go_enter Tryd.func77, Tryd.ntmps77
          go_wp2_with (first | (go_at_call 116; refine HA.out.mono ?_; rintro e w1 ⟨rfl, hb1⟩; have HB1 := Aside0.mk (HBW.out w1 hb1); clear hb1) | (go_at_call 79; refine (strconv_Itoa_79.calls v t _ HT.out (G_below HB1.out HG.out)).mono ?_; rintro e w2 ⟨rfl, hb2⟩; have HB2 := Aside0.mk (HB1.out.trans (hb2.mono HB1.out.size)); clear hb2) | (go_at_call 69; refine (impl_within.calls v 0 999999999 false _ HW.out).mono ?_; rintro e w3 ⟨rfl, ⟨nd, rfl⟩⟩))
          go_ret2
          exact ⟨rfl, pw_below_drewN HB2.out _⟩
      · rw [if_neg c1] at h2
        have c1b0 : (t.toList == a0.toList) = false := by simp [c1]
        cases h2
        clear c1 HW
        go_enter Tryd.func77, Tryd.ntmps77
        go_wp2_with (first | (go_at_call 116; refine HA.out.mono ?_; rintro e w1 ⟨rfl, hb1⟩; have HB1 := Aside0.mk (HBW.out w1 hb1); clear hb1) | (go_at_call 79; refine (strconv_Itoa_79.calls v t _ HT.out (G_below HB1.out HG.out)).mono ?_; rintro e w2 ⟨rfl, hb2⟩; have HB2 := Aside0.mk (HB1.out.trans (hb2.mono HB1.out.size)); clear hb2))
        go_ret2
        exact ⟨rfl, HB2.out⟩
    | «syntax» =>
      rw [hat] at h
      cases h
      obtain ⟨tp, p, hv⟩ := hG.syn
      have HA := Aside0.mk (Any.strconv_Atoi_syntax_var Tryd.lays172 a0 hs hat tp p w hv)
      clear hat hG hs hfail hv
      go_enter Tryd.func77, Tryd.ntmps77
      go_wp2_with (go_at_call 116; refine HA.out.mono ?_; rintro e w1 ⟨N, rfl, _, _, hb1⟩)
      go_ret2
      exact ⟨rfl, hb1⟩
    | range =>
      rw [hat] at h
      cases h
      obtain ⟨tp, p, hv⟩ := hG.rng
      have HA := Aside0.mk (Any.strconv_Atoi_range_var Tryd.lays172 a0 hs hat tp p w hv)
      clear hat hG hs hfail hv
      go_enter Tryd.func77, Tryd.ntmps77
      go_wp2_with (go_at_call 116; refine HA.out.mono ?_; rintro e w1 ⟨N, rfl, _, _, hb1⟩)
      go_ret2
      exact ⟨rfl, hb1⟩
  · cases h
end Go.Proofs.YtbpffdhkeinmcaaDoor.QF
namespace Go.Proofs.YtbpffdhkeinmcaaDoor.QF
open Go.RowKit Go.Proofs.YtbpffdhkeinmcaaDoorW.PrintWords Go.Proofs.YtbpffdhkeinmcaaDoorW.PrintLast Go.Proofs.YtbpffdhkeinmcaaDoorW.PrintMore
attribute [local go_sem] max2_int min2_int max_two min_two max_three min_three max_four min_four   -- for this text's walks alone
set_option linter.unusedVariables false
set_option linter.unusedSimpArgs false
def crGo (k : Nat) (a0 : ByteArray) (ws : List ByteArray) : Nat → Nat → List Int → Option (Int × Int × Int × Int × Bool)
  | 0, _, ns => (impl_confText.f k (ns.getD 0 0) (ns.getD 1 0) (ns.getD 2 0) (ns.getD 3 0)).bind fun t => if t.toList = a0.toList then some (ns.getD 0 0, ns.getD 1 0, ns.getD 2 0, ns.getD 3 0, true) else some (0, 0, 0, 0, false)
  | d + 1, i, ns => (impl_lineNumber.f (rdOf ByteArray.empty ws ((2 * i + 1 : Nat) : Int))).bind fun p => if p.2 = true then crGo k a0 ws d (i + 1) (ns.set i p.1) else some (0, 0, 0, 0, false)
def impl_ConfRead.f (k : Nat) (a0 : ByteArray) : Option (Int × Int × Int × Int × Bool) := (strings_Split.f a0 (⟨#[32]⟩ : ByteArray)).bind fun ws => if ws.length = 8 then crGo k a0 ws 4 0 [0, 0, 0, 0] else some (0, 0, 0, 0, false)
set_option maxHeartbeats 8000000 in
set_option maxRecDepth 100000 in
theorem impl_ConfRead.calls (k : Nat) (a0 : ByteArray) (r1 : Int) (r2 : Int) (r3 : Int) (r4 : Int) (r5 : Bool) (w : World) (h : impl_ConfRead.f k a0 = some (r1, r2, r3, r4, r5)) (hG : TabG w) :
    Calls Tryd.prog 37 #[.string a0] w fun e w' => e = .returned (.tuple #[.agg #[.int .i64 r1, .int .i64 r2, .int .i64 r3, .int .i64 r4], .bool r5]) ∧ Below w.heap.size w w' := by
  unfold impl_ConfRead.f at h
  obtain ⟨ws, hws, h2⟩ := Option.bind_eq_some_iff.mp h
  have HS := Aside0.mk hws
  have HG := Aside0.mk hG
  have hu25 := Tryd.underlying25
  clear h hws hG
  by_cases c8 : ws.length = 8
  · rw [if_pos c8] at h2
    have HC := Aside0.mk h2
    clear h2
    have c8b0 : ((ws.length : Int) != 8) = false := by simp [c8]
    have c8b1 : ((ws.length : Int) == 8) = true := by simp [c8]
    go_enter Tryd.func37, Tryd.ntmps37
    go_wp2_with (first | ((with_reducible refine gate_dst (N := 2) rfl ?_); refine box_event ?hg (N := 2) ?hd (cs := #[.int .i64 0, .int .i64 0, .int .i64 0, .int .i64 0]) (t := 25) ?hr ?_; (case hd => rfl); (case hg => rfl); (case hr => first | (go_simp; done) | (go_simp; rfl)); intro gb2 hg2 w2 hbox hb; have BK2 := Aside0.mk hbox; have GE2 := Aside0.mk ((by rw [hg2]; exact Nat.le_refl _) : w.heap.size ≤ gb2); have HB2 := Aside0.mk hb; clear hbox hb hg2) | (go_at_call 76; refine (strings_Split.calls a0 (⟨#[32]⟩ : ByteArray) ws _ HS.out (G_below HB2.out HG.out)).mono ?_; rintro e wB ⟨V, rfl, hO, hb⟩; obtain ⟨gW, cW, rfl⟩ : ∃ gW cW, V = .slice (some ⟨gW, 0, none⟩) ws.length cW := (by rcases (Kd.own_of_R hO).2 with ⟨_, h0⟩ | ⟨g, cap, cur, hv, _⟩; (exfalso; omega); exact ⟨g, cap, hv⟩); have HO := Aside0.mk hO; have BK2b := Aside0.mk (blk_below BK2.out hb); have HB3 := Aside0.mk (HB2.out.trans (hb.mono HB2.out.size)); clear hO hb) | ((with_reducible refine gate_dst (N := 5) rfl ?_); refine box_event ?hg (N := 5) ?hd (cs := #[.int .i64 0, .int .i64 0, .int .i64 0, .int .i64 0]) (t := 100) ?hr ?_; (case hd => rfl); (case hg => rfl); (case hr => first | (go_simp; done) | (go_simp; rfl)); intro gb5 hg5 w5 hbox hb; have BK5 := Aside0.mk hbox; have NB := Aside0.mk ((by rw [hg5]; exact Nat.ne_of_lt (blk_lt BK2b.out)) : gb2 ≠ gb5); have GE5 := Aside0.mk ((by rw [hg5]; exact HB3.out.size) : w.heap.size ≤ gb5); have GB5 := Aside0.mk ((by rw [hg5]; exact Nat.le_refl _) : wB.heap.size ≤ gb5); have BK2c := Aside0.mk (blk_below BK2b.out hb); have HB4 := Aside0.mk (HB3.out.trans (hb.mono HB3.out.size)); have HBB := Aside0.mk hb; clear hbox hb hg5))
    go_loopg [16] 4 (fun gg s16 wr => ∃ (i : Nat) (n0 n1 n2 n3 : Int), s16 = .int .i64 (i : Int) ∧ i + gg = 4 ∧ Aside0 (crGo k a0 ws gg i [n0, n1, n2, n3] = some (r1, r2, r3, r4, r5)) ∧ Aside0 (wr.heap[gb5]? = some (.cells #[.int .i64 n0, .int .i64 n1, .int .i64 n2, .int .i64 n3] 100 (0, 0))) ∧ Aside0 (wr.heap[gb2]? = some (.cells #[.int .i64 0, .int .i64 0, .int .i64 0, .int .i64 0] 25 (0, 0))) ∧ Aside0 (Below wB.heap.size wB wr) ∧ Aside0 (Below w.heap.size w wr))
    case atStart => exact ⟨0, 0, 0, 0, 0, rfl, rfl, HC, BK5, BK2c, HBB, HB4⟩
    case round =>
      clear HC BK5 BK2c HBB HB4 BK2 BK2b HB2 HB3
      obtain ⟨i, n0, n1, n2, n3, rfl, hi, HC, BK5, BK2, HBB, HB⟩ := hrel

      rcases Nat.lt_or_ge i 4 with hlt | hge

      · obtain ⟨g2, rfl⟩ : ∃ g2, gk = g2 + 1 := ⟨gk - 1, by omega⟩
        have HH := HC.out
        clear HC
        unfold crGo at HH
        obtain ⟨p, hp, HH⟩ := Option.bind_eq_some_iff.mp HH
        obtain ⟨x, ok⟩ := p
        have HP := Aside0.mk hp
        clear hp
        have hw := (Kd.R_cell ByteArray.empty HO.out ((2 * i + 1 : Nat) : Int) (by omega) (by omega)).1
        rw [Int.toNat_natCast] at hw
        replace hw := (HBB.out.cell (World.block_lt_of_cell? wB _ hw)).trans hw
        have hz5_0 : wr.cell? ⟨gb5, 0, none⟩ = some (.int .i64 n0) := (blk_cell BK5.out 0).trans rfl
        have hz5_1 : wr.cell? ⟨gb5, 1, none⟩ = some (.int .i64 n1) := (blk_cell BK5.out 1).trans rfl
        have hz5_2 : wr.cell? ⟨gb5, 2, none⟩ = some (.int .i64 n2) := (blk_cell BK5.out 2).trans rfl
        have hz5_3 : wr.cell? ⟨gb5, 3, none⟩ = some (.int .i64 n3) := (blk_cell BK5.out 3).trans rfl
        have hf5_0 := blk_frozen BK5.out 0
        have hf5_1 := blk_frozen BK5.out 1
        have hf5_2 := blk_frozen BK5.out 2
        have hf5_3 := blk_frozen BK5.out 3
        have hz2_0 : wr.cell? ⟨gb2, 0, none⟩ = some (.int .i64 0) := (blk_cell BK2.out 0).trans rfl
        have hz2_1 : wr.cell? ⟨gb2, 1, none⟩ = some (.int .i64 0) := (blk_cell BK2.out 1).trans rfl
        have hz2_2 : wr.cell? ⟨gb2, 2, none⟩ = some (.int .i64 0) := (blk_cell BK2.out 2).trans rfl
        have hz2_3 : wr.cell? ⟨gb2, 3, none⟩ = some (.int .i64 0) := (blk_cell BK2.out 3).trans rfl
        have hf2_0 := blk_frozen BK2.out 0
        have hf2_1 := blk_frozen BK2.out 1
        have hf2_2 := blk_frozen BK2.out 2
        have hf2_3 := blk_frozen BK2.out 3
        have hi4 : i = 0 ∨ i = 1 ∨ i = 2 ∨ i = 3 := by omega
        cases ok with
        | true =>
          have HN := Aside0.mk (show crGo k a0 ws g2 (i + 1) ([n0, n1, n2, n3].set i x) = some (r1, r2, r3, r4, r5) from HH)
          clear HH
          rcases hi4 with rfl | rfl | rfl | rfl
          · replace hw : wr.cell? ⟨gW, 1, none⟩ = _ := hw
            go_wp2_with (go_at_call 77; refine (impl_lineNumber.calls _ x true _ HP.out (G_below HB.out HG.out)).mono ?_; rintro e w6 ⟨rfl, hb⟩; have BK5b := Aside0.mk (blk_below BK5.out hb); have BK2b := Aside0.mk (blk_below BK2.out hb); have HBBb := Aside0.mk (HBB.out.trans (hb.mono HBB.out.size)); have HBb := Aside0.mk (HB.out.trans (hb.mono HB.out.size)); clear hb; have hz6_0 : w6.cell? ⟨gb5, 0, none⟩ = some (.int .i64 n0) := (blk_cell BK5b.out 0).trans rfl; have hz6_1 : w6.cell? ⟨gb5, 1, none⟩ = some (.int .i64 n1) := (blk_cell BK5b.out 1).trans rfl; have hz6_2 : w6.cell? ⟨gb5, 2, none⟩ = some (.int .i64 n2) := (blk_cell BK5b.out 2).trans rfl; have hz6_3 : w6.cell? ⟨gb5, 3, none⟩ = some (.int .i64 n3) := (blk_cell BK5b.out 3).trans rfl; have hf6_0 := blk_frozen BK5b.out 0; have hf6_1 := blk_frozen BK5b.out 1; have hf6_2 := blk_frozen BK5b.out 2; have hf6_3 := blk_frozen BK5b.out 3; have hz7_0 : w6.cell? ⟨gb2, 0, none⟩ = some (.int .i64 0) := (blk_cell BK2b.out 0).trans rfl; have hz7_1 : w6.cell? ⟨gb2, 1, none⟩ = some (.int .i64 0) := (blk_cell BK2b.out 1).trans rfl; have hz7_2 : w6.cell? ⟨gb2, 2, none⟩ = some (.int .i64 0) := (blk_cell BK2b.out 2).trans rfl; have hz7_3 : w6.cell? ⟨gb2, 3, none⟩ = some (.int .i64 0) := (blk_cell BK2b.out 3).trans rfl; have hf7_0 := blk_frozen BK2b.out 0; have hf7_1 := blk_frozen BK2b.out 1; have hf7_2 := blk_frozen BK2b.out 2; have hf7_3 := blk_frozen BK2b.out 3)
            go_roundg g2
            case measure => omega
            case rel => exact ⟨1, x, n1, n2, n3, rfl, by omega, HN, ⟨blk_put BK5b.out 0 _ rfl⟩, ⟨blk_far BK2b.out NB.out _⟩, ⟨HBBb.out.setCell (p := ⟨gb5, 0, none⟩) GB5.out _⟩, ⟨below_set HBb.out GE5.out⟩⟩
          · replace hw : wr.cell? ⟨gW, 3, none⟩ = _ := hw
            go_wp2_with (go_at_call 77; refine (impl_lineNumber.calls _ x true _ HP.out (G_below HB.out HG.out)).mono ?_; rintro e w6 ⟨rfl, hb⟩; have BK5b := Aside0.mk (blk_below BK5.out hb); have BK2b := Aside0.mk (blk_below BK2.out hb); have HBBb := Aside0.mk (HBB.out.trans (hb.mono HBB.out.size)); have HBb := Aside0.mk (HB.out.trans (hb.mono HB.out.size)); clear hb; have hz6_0 : w6.cell? ⟨gb5, 0, none⟩ = some (.int .i64 n0) := (blk_cell BK5b.out 0).trans rfl; have hz6_1 : w6.cell? ⟨gb5, 1, none⟩ = some (.int .i64 n1) := (blk_cell BK5b.out 1).trans rfl; have hz6_2 : w6.cell? ⟨gb5, 2, none⟩ = some (.int .i64 n2) := (blk_cell BK5b.out 2).trans rfl; have hz6_3 : w6.cell? ⟨gb5, 3, none⟩ = some (.int .i64 n3) := (blk_cell BK5b.out 3).trans rfl; have hf6_0 := blk_frozen BK5b.out 0; have hf6_1 := blk_frozen BK5b.out 1; have hf6_2 := blk_frozen BK5b.out 2; have hf6_3 := blk_frozen BK5b.out 3; have hz7_0 : w6.cell? ⟨gb2, 0, none⟩ = some (.int .i64 0) := (blk_cell BK2b.out 0).trans rfl; have hz7_1 : w6.cell? ⟨gb2, 1, none⟩ = some (.int .i64 0) := (blk_cell BK2b.out 1).trans rfl; have hz7_2 : w6.cell? ⟨gb2, 2, none⟩ = some (.int .i64 0) := (blk_cell BK2b.out 2).trans rfl; have hz7_3 : w6.cell? ⟨gb2, 3, none⟩ = some (.int .i64 0) := (blk_cell BK2b.out 3).trans rfl; have hf7_0 := blk_frozen BK2b.out 0; have hf7_1 := blk_frozen BK2b.out 1; have hf7_2 := blk_frozen BK2b.out 2; have hf7_3 := blk_frozen BK2b.out 3)
            go_roundg g2
            case measure => omega
            case rel => exact ⟨2, n0, x, n2, n3, rfl, by omega, HN, ⟨blk_put BK5b.out 1 _ rfl⟩, ⟨blk_far BK2b.out NB.out _⟩, ⟨HBBb.out.setCell (p := ⟨gb5, 1, none⟩) GB5.out _⟩, ⟨below_set HBb.out GE5.out⟩⟩
          · replace hw : wr.cell? ⟨gW, 5, none⟩ = _ := hw
            go_wp2_with (go_at_call 77; refine (impl_lineNumber.calls _ x true _ HP.out (G_below HB.out HG.out)).mono ?_; rintro e w6 ⟨rfl, hb⟩; have BK5b := Aside0.mk (blk_below BK5.out hb); have BK2b := Aside0.mk (blk_below BK2.out hb); have HBBb := Aside0.mk (HBB.out.trans (hb.mono HBB.out.size)); have HBb := Aside0.mk (HB.out.trans (hb.mono HB.out.size)); clear hb; have hz6_0 : w6.cell? ⟨gb5, 0, none⟩ = some (.int .i64 n0) := (blk_cell BK5b.out 0).trans rfl; have hz6_1 : w6.cell? ⟨gb5, 1, none⟩ = some (.int .i64 n1) := (blk_cell BK5b.out 1).trans rfl; have hz6_2 : w6.cell? ⟨gb5, 2, none⟩ = some (.int .i64 n2) := (blk_cell BK5b.out 2).trans rfl; have hz6_3 : w6.cell? ⟨gb5, 3, none⟩ = some (.int .i64 n3) := (blk_cell BK5b.out 3).trans rfl; have hf6_0 := blk_frozen BK5b.out 0; have hf6_1 := blk_frozen BK5b.out 1; have hf6_2 := blk_frozen BK5b.out 2; have hf6_3 := blk_frozen BK5b.out 3; have hz7_0 : w6.cell? ⟨gb2, 0, none⟩ = some (.int .i64 0) := (blk_cell BK2b.out 0).trans rfl; have hz7_1 : w6.cell? ⟨gb2, 1, none⟩ = some (.int .i64 0) := (blk_cell BK2b.out 1).trans rfl; have hz7_2 : w6.cell? ⟨gb2, 2, none⟩ = some (.int .i64 0) := (blk_cell BK2b.out 2).trans rfl; have hz7_3 : w6.cell? ⟨gb2, 3, none⟩ = some (.int .i64 0) := (blk_cell BK2b.out 3).trans rfl; have hf7_0 := blk_frozen BK2b.out 0; have hf7_1 := blk_frozen BK2b.out 1; have hf7_2 := blk_frozen BK2b.out 2; have hf7_3 := blk_frozen BK2b.out 3)
            go_roundg g2
            case measure => omega
            case rel => exact ⟨3, n0, n1, x, n3, rfl, by omega, HN, ⟨blk_put BK5b.out 2 _ rfl⟩, ⟨blk_far BK2b.out NB.out _⟩, ⟨HBBb.out.setCell (p := ⟨gb5, 2, none⟩) GB5.out _⟩, ⟨below_set HBb.out GE5.out⟩⟩
          · replace hw : wr.cell? ⟨gW, 7, none⟩ = _ := hw
            go_wp2_with (go_at_call 77; refine (impl_lineNumber.calls _ x true _ HP.out (G_below HB.out HG.out)).mono ?_; rintro e w6 ⟨rfl, hb⟩; have BK5b := Aside0.mk (blk_below BK5.out hb); have BK2b := Aside0.mk (blk_below BK2.out hb); have HBBb := Aside0.mk (HBB.out.trans (hb.mono HBB.out.size)); have HBb := Aside0.mk (HB.out.trans (hb.mono HB.out.size)); clear hb; have hz6_0 : w6.cell? ⟨gb5, 0, none⟩ = some (.int .i64 n0) := (blk_cell BK5b.out 0).trans rfl; have hz6_1 : w6.cell? ⟨gb5, 1, none⟩ = some (.int .i64 n1) := (blk_cell BK5b.out 1).trans rfl; have hz6_2 : w6.cell? ⟨gb5, 2, none⟩ = some (.int .i64 n2) := (blk_cell BK5b.out 2).trans rfl; have hz6_3 : w6.cell? ⟨gb5, 3, none⟩ = some (.int .i64 n3) := (blk_cell BK5b.out 3).trans rfl; have hf6_0 := blk_frozen BK5b.out 0; have hf6_1 := blk_frozen BK5b.out 1; have hf6_2 := blk_frozen BK5b.out 2; have hf6_3 := blk_frozen BK5b.out 3; have hz7_0 : w6.cell? ⟨gb2, 0, none⟩ = some (.int .i64 0) := (blk_cell BK2b.out 0).trans rfl; have hz7_1 : w6.cell? ⟨gb2, 1, none⟩ = some (.int .i64 0) := (blk_cell BK2b.out 1).trans rfl; have hz7_2 : w6.cell? ⟨gb2, 2, none⟩ = some (.int .i64 0) := (blk_cell BK2b.out 2).trans rfl; have hz7_3 : w6.cell? ⟨gb2, 3, none⟩ = some (.int .i64 0) := (blk_cell BK2b.out 3).trans rfl; have hf7_0 := blk_frozen BK2b.out 0; have hf7_1 := blk_frozen BK2b.out 1; have hf7_2 := blk_frozen BK2b.out 2; have hf7_3 := blk_frozen BK2b.out 3)
            go_roundg g2
            case measure => omega
            case rel => exact ⟨4, n0, n1, n2, x, rfl, by omega, HN, ⟨blk_put BK5b.out 3 _ rfl⟩, ⟨blk_far BK2b.out NB.out _⟩, ⟨HBBb.out.setCell (p := ⟨gb5, 3, none⟩) GB5.out _⟩, ⟨below_set HBb.out GE5.out⟩⟩
        | false =>
          obtain ⟨rfl, rfl, rfl, rfl, rfl⟩ : 0 = r1 ∧ 0 = r2 ∧ 0 = r3 ∧ 0 = r4 ∧ false = r5 := by simpa using HH
          clear HH
          rcases hi4 with rfl | rfl | rfl | rfl
          · replace hw : wr.cell? ⟨gW, 1, none⟩ = _ := hw
            go_wp2_with (go_at_call 77; refine (impl_lineNumber.calls _ x false _ HP.out (G_below HB.out HG.out)).mono ?_; rintro e w6 ⟨rfl, hb⟩; have BK5b := Aside0.mk (blk_below BK5.out hb); have BK2b := Aside0.mk (blk_below BK2.out hb); have HBBb := Aside0.mk (HBB.out.trans (hb.mono HBB.out.size)); have HBb := Aside0.mk (HB.out.trans (hb.mono HB.out.size)); clear hb; have hz6_0 : w6.cell? ⟨gb5, 0, none⟩ = some (.int .i64 n0) := (blk_cell BK5b.out 0).trans rfl; have hz6_1 : w6.cell? ⟨gb5, 1, none⟩ = some (.int .i64 n1) := (blk_cell BK5b.out 1).trans rfl; have hz6_2 : w6.cell? ⟨gb5, 2, none⟩ = some (.int .i64 n2) := (blk_cell BK5b.out 2).trans rfl; have hz6_3 : w6.cell? ⟨gb5, 3, none⟩ = some (.int .i64 n3) := (blk_cell BK5b.out 3).trans rfl; have hf6_0 := blk_frozen BK5b.out 0; have hf6_1 := blk_frozen BK5b.out 1; have hf6_2 := blk_frozen BK5b.out 2; have hf6_3 := blk_frozen BK5b.out 3; have hz7_0 : w6.cell? ⟨gb2, 0, none⟩ = some (.int .i64 0) := (blk_cell BK2b.out 0).trans rfl; have hz7_1 : w6.cell? ⟨gb2, 1, none⟩ = some (.int .i64 0) := (blk_cell BK2b.out 1).trans rfl; have hz7_2 : w6.cell? ⟨gb2, 2, none⟩ = some (.int .i64 0) := (blk_cell BK2b.out 2).trans rfl; have hz7_3 : w6.cell? ⟨gb2, 3, none⟩ = some (.int .i64 0) := (blk_cell BK2b.out 3).trans rfl; have hf7_0 := blk_frozen BK2b.out 0; have hf7_1 := blk_frozen BK2b.out 1; have hf7_2 := blk_frozen BK2b.out 2; have hf7_3 := blk_frozen BK2b.out 3)
            refine bodyPost_ret (results_ct rfl _ _ gb2 25 #[.int .i64 0, .int .i64 0, .int .i64 0, .int .i64 0] (0, 0) _ rfl (blk_put (blk_put (blk_put (blk_put BK2b.out 0 _ rfl) 1 _ rfl) 2 _ rfl) 3 _ rfl) Tryd.underlying25 rfl (by kernel_rfl)) rfl ?_
            exact ⟨rfl, below_set (below_set (below_set (below_set HBb.out GE2.out) GE2.out) GE2.out) GE2.out⟩
          · replace hw : wr.cell? ⟨gW, 3, none⟩ = _ := hw
            go_wp2_with (go_at_call 77; refine (impl_lineNumber.calls _ x false _ HP.out (G_below HB.out HG.out)).mono ?_; rintro e w6 ⟨rfl, hb⟩; have BK5b := Aside0.mk (blk_below BK5.out hb); have BK2b := Aside0.mk (blk_below BK2.out hb); have HBBb := Aside0.mk (HBB.out.trans (hb.mono HBB.out.size)); have HBb := Aside0.mk (HB.out.trans (hb.mono HB.out.size)); clear hb; have hz6_0 : w6.cell? ⟨gb5, 0, none⟩ = some (.int .i64 n0) := (blk_cell BK5b.out 0).trans rfl; have hz6_1 : w6.cell? ⟨gb5, 1, none⟩ = some (.int .i64 n1) := (blk_cell BK5b.out 1).trans rfl; have hz6_2 : w6.cell? ⟨gb5, 2, none⟩ = some (.int .i64 n2) := (blk_cell BK5b.out 2).trans rfl; have hz6_3 : w6.cell? ⟨gb5, 3, none⟩ = some (.int .i64 n3) := (blk_cell BK5b.out 3).trans rfl; have hf6_0 := blk_frozen BK5b.out 0; have hf6_1 := blk_frozen BK5b.out 1; have hf6_2 := blk_frozen BK5b.out 2; have hf6_3 := blk_frozen BK5b.out 3; have hz7_0 : w6.cell? ⟨gb2, 0, none⟩ = some (.int .i64 0) := (blk_cell BK2b.out 0).trans rfl; have hz7_1 : w6.cell? ⟨gb2, 1, none⟩ = some (.int .i64 0) := (blk_cell BK2b.out 1).trans rfl; have hz7_2 : w6.cell? ⟨gb2, 2, none⟩ = some (.int .i64 0) := (blk_cell BK2b.out 2).trans rfl; have hz7_3 : w6.cell? ⟨gb2, 3, none⟩ = some (.int .i64 0) := (blk_cell BK2b.out 3).trans rfl; have hf7_0 := blk_frozen BK2b.out 0; have hf7_1 := blk_frozen BK2b.out 1; have hf7_2 := blk_frozen BK2b.out 2; have hf7_3 := blk_frozen BK2b.out 3)
            refine bodyPost_ret (results_ct rfl _ _ gb2 25 #[.int .i64 0, .int .i64 0, .int .i64 0, .int .i64 0] (0, 0) _ rfl (blk_put (blk_put (blk_put (blk_put BK2b.out 0 _ rfl) 1 _ rfl) 2 _ rfl) 3 _ rfl) Tryd.underlying25 rfl (by kernel_rfl)) rfl ?_
            exact ⟨rfl, below_set (below_set (below_set (below_set HBb.out GE2.out) GE2.out) GE2.out) GE2.out⟩
          · replace hw : wr.cell? ⟨gW, 5, none⟩ = _ := hw
            go_wp2_with (go_at_call 77; refine (impl_lineNumber.calls _ x false _ HP.out (G_below HB.out HG.out)).mono ?_; rintro e w6 ⟨rfl, hb⟩; have BK5b := Aside0.mk (blk_below BK5.out hb); have BK2b := Aside0.mk (blk_below BK2.out hb); have HBBb := Aside0.mk (HBB.out.trans (hb.mono HBB.out.size)); have HBb := Aside0.mk (HB.out.trans (hb.mono HB.out.size)); clear hb; have hz6_0 : w6.cell? ⟨gb5, 0, none⟩ = some (.int .i64 n0) := (blk_cell BK5b.out 0).trans rfl; have hz6_1 : w6.cell? ⟨gb5, 1, none⟩ = some (.int .i64 n1) := (blk_cell BK5b.out 1).trans rfl; have hz6_2 : w6.cell? ⟨gb5, 2, none⟩ = some (.int .i64 n2) := (blk_cell BK5b.out 2).trans rfl; have hz6_3 : w6.cell? ⟨gb5, 3, none⟩ = some (.int .i64 n3) := (blk_cell BK5b.out 3).trans rfl; have hf6_0 := blk_frozen BK5b.out 0; have hf6_1 := blk_frozen BK5b.out 1; have hf6_2 := blk_frozen BK5b.out 2; have hf6_3 := blk_frozen BK5b.out 3; have hz7_0 : w6.cell? ⟨gb2, 0, none⟩ = some (.int .i64 0) := (blk_cell BK2b.out 0).trans rfl; have hz7_1 : w6.cell? ⟨gb2, 1, none⟩ = some (.int .i64 0) := (blk_cell BK2b.out 1).trans rfl; have hz7_2 : w6.cell? ⟨gb2, 2, none⟩ = some (.int .i64 0) := (blk_cell BK2b.out 2).trans rfl; have hz7_3 : w6.cell? ⟨gb2, 3, none⟩ = some (.int .i64 0) := (blk_cell BK2b.out 3).trans rfl; have hf7_0 := blk_frozen BK2b.out 0; have hf7_1 := blk_frozen BK2b.out 1; have hf7_2 := blk_frozen BK2b.out 2; have hf7_3 := blk_frozen BK2b.out 3)
            refine bodyPost_ret (results_ct rfl _ _ gb2 25 #[.int .i64 0, .int .i64 0, .int .i64 0, .int .i64 0] (0, 0) _ rfl (blk_put (blk_put (blk_put (blk_put BK2b.out 0 _ rfl) 1 _ rfl) 2 _ rfl) 3 _ rfl) Tryd.underlying25 rfl (by kernel_rfl)) rfl ?_
            exact ⟨rfl, below_set (below_set (below_set (below_set HBb.out GE2.out) GE2.out) GE2.out) GE2.out⟩
          · replace hw : wr.cell? ⟨gW, 7, none⟩ = _ := hw
            go_wp2_with (go_at_call 77; refine (impl_lineNumber.calls _ x false _ HP.out (G_below HB.out HG.out)).mono ?_; rintro e w6 ⟨rfl, hb⟩; have BK5b := Aside0.mk (blk_below BK5.out hb); have BK2b := Aside0.mk (blk_below BK2.out hb); have HBBb := Aside0.mk (HBB.out.trans (hb.mono HBB.out.size)); have HBb := Aside0.mk (HB.out.trans (hb.mono HB.out.size)); clear hb; have hz6_0 : w6.cell? ⟨gb5, 0, none⟩ = some (.int .i64 n0) := (blk_cell BK5b.out 0).trans rfl; have hz6_1 : w6.cell? ⟨gb5, 1, none⟩ = some (.int .i64 n1) := (blk_cell BK5b.out 1).trans rfl; have hz6_2 : w6.cell? ⟨gb5, 2, none⟩ = some (.int .i64 n2) := (blk_cell BK5b.out 2).trans rfl; have hz6_3 : w6.cell? ⟨gb5, 3, none⟩ = some (.int .i64 n3) := (blk_cell BK5b.out 3).trans rfl; have hf6_0 := blk_frozen BK5b.out 0; have hf6_1 := blk_frozen BK5b.out 1; have hf6_2 := blk_frozen BK5b.out 2; have hf6_3 := blk_frozen BK5b.out 3; have hz7_0 : w6.cell? ⟨gb2, 0, none⟩ = some (.int .i64 0) := (blk_cell BK2b.out 0).trans rfl; have hz7_1 : w6.cell? ⟨gb2, 1, none⟩ = some (.int .i64 0) := (blk_cell BK2b.out 1).trans rfl; have hz7_2 : w6.cell? ⟨gb2, 2, none⟩ = some (.int .i64 0) := (blk_cell BK2b.out 2).trans rfl; have hz7_3 : w6.cell? ⟨gb2, 3, none⟩ = some (.int .i64 0) := (blk_cell BK2b.out 3).trans rfl; have hf7_0 := blk_frozen BK2b.out 0; have hf7_1 := blk_frozen BK2b.out 1; have hf7_2 := blk_frozen BK2b.out 2; have hf7_3 := blk_frozen BK2b.out 3)
            refine bodyPost_ret (results_ct rfl _ _ gb2 25 #[.int .i64 0, .int .i64 0, .int .i64 0, .int .i64 0] (0, 0) _ rfl (blk_put (blk_put (blk_put (blk_put BK2b.out 0 _ rfl) 1 _ rfl) 2 _ rfl) 3 _ rfl) Tryd.underlying25 rfl (by kernel_rfl)) rfl ?_
            exact ⟨rfl, below_set (below_set (below_set (below_set HBb.out GE2.out) GE2.out) GE2.out) GE2.out⟩
      · obtain rfl : gk = 0 := by omega
        obtain rfl : i = 4 := by omega
        have HH := HC.out
        clear HC
        unfold crGo at HH
        obtain ⟨t, ht, HH⟩ := Option.bind_eq_some_iff.mp HH
        have HT := Aside0.mk (show impl_confText.f k n0 n1 n2 n3 = some t from ht)
        clear ht
        have hz5_0 : wr.cell? ⟨gb5, 0, none⟩ = some (.int .i64 n0) := (blk_cell BK5.out 0).trans rfl
        have hz5_1 : wr.cell? ⟨gb5, 1, none⟩ = some (.int .i64 n1) := (blk_cell BK5.out 1).trans rfl
        have hz5_2 : wr.cell? ⟨gb5, 2, none⟩ = some (.int .i64 n2) := (blk_cell BK5.out 2).trans rfl
        have hz5_3 : wr.cell? ⟨gb5, 3, none⟩ = some (.int .i64 n3) := (blk_cell BK5.out 3).trans rfl
        have hf5_0 := blk_frozen BK5.out 0
        have hf5_1 := blk_frozen BK5.out 1
        have hf5_2 := blk_frozen BK5.out 2
        have hf5_3 := blk_frozen BK5.out 3
        have hz2_0 : wr.cell? ⟨gb2, 0, none⟩ = some (.int .i64 0) := (blk_cell BK2.out 0).trans rfl
        have hz2_1 : wr.cell? ⟨gb2, 1, none⟩ = some (.int .i64 0) := (blk_cell BK2.out 1).trans rfl
        have hz2_2 : wr.cell? ⟨gb2, 2, none⟩ = some (.int .i64 0) := (blk_cell BK2.out 2).trans rfl
        have hz2_3 : wr.cell? ⟨gb2, 3, none⟩ = some (.int .i64 0) := (blk_cell BK2.out 3).trans rfl
        have hf2_0 := blk_frozen BK2.out 0
        have hf2_1 := blk_frozen BK2.out 1
        have hf2_2 := blk_frozen BK2.out 2
        have hf2_3 := blk_frozen BK2.out 3
        by_cases c9 : t.toList = a0.toList
        · obtain ⟨rfl, rfl, rfl, rfl, rfl⟩ : n0 = r1 ∧ n1 = r2 ∧ n2 = r3 ∧ n3 = r4 ∧ true = r5 := by rw [if_pos c9] at HH; simpa using HH
          clear HH
          have c9b0 : (t.toList == a0.toList) = true := by simp [c9]
          clear c9
          go_wp2_with (first | ((with_reducible refine gate_dst (N := 9) rfl ?_); refine box_event ?hg (N := 9) ?hd (cs := #[.int .i64 0, .int .i64 0, .int .i64 0, .int .i64 0]) (t := 25) ?hr ?_; (case hd => rfl); (case hg => rfl); (case hr => first | (go_simp; done) | (go_simp; rfl)); intro gb9 hg9 w9 hbox hb; have BK9 := Aside0.mk hbox; have NB9 := Aside0.mk ((by rw [hg9]; exact Nat.ne_of_lt (blk_lt BK2.out)) : gb2 ≠ gb9); have GE9 := Aside0.mk ((by rw [hg9]; exact HB.out.size) : w.heap.size ≤ gb9); have BK2b := Aside0.mk (blk_below BK2.out hb); have HBb := Aside0.mk (HB.out.trans (hb.mono HB.out.size)); clear hbox hb hg9; have hz9_0 : w9.cell? ⟨gb9, 0, none⟩ = some (.int .i64 0) := (blk_cell BK9.out 0).trans rfl; have hz9_1 : w9.cell? ⟨gb9, 1, none⟩ = some (.int .i64 0) := (blk_cell BK9.out 1).trans rfl; have hz9_2 : w9.cell? ⟨gb9, 2, none⟩ = some (.int .i64 0) := (blk_cell BK9.out 2).trans rfl; have hz9_3 : w9.cell? ⟨gb9, 3, none⟩ = some (.int .i64 0) := (blk_cell BK9.out 3).trans rfl; have hf9_0 := blk_frozen BK9.out 0; have hf9_1 := blk_frozen BK9.out 1; have hf9_2 := blk_frozen BK9.out 2; have hf9_3 := blk_frozen BK9.out 3; have hz8_0 : w9.cell? ⟨gb2, 0, none⟩ = some (.int .i64 0) := (blk_cell BK2b.out 0).trans rfl; have hz8_1 : w9.cell? ⟨gb2, 1, none⟩ = some (.int .i64 0) := (blk_cell BK2b.out 1).trans rfl; have hz8_2 : w9.cell? ⟨gb2, 2, none⟩ = some (.int .i64 0) := (blk_cell BK2b.out 2).trans rfl; have hz8_3 : w9.cell? ⟨gb2, 3, none⟩ = some (.int .i64 0) := (blk_cell BK2b.out 3).trans rfl; have hf8_0 := blk_frozen BK2b.out 0; have hf8_1 := blk_frozen BK2b.out 1; have hf8_2 := blk_frozen BK2b.out 2; have hf8_3 := blk_frozen BK2b.out 3) | (go_at_call 42; refine (impl_confText.calls k n0 n1 n2 n3 t _ HT.out (G_below (below_set (below_set (below_set (below_set HBb.out GE9.out) GE9.out) GE9.out) GE9.out) HG.out)).mono ?_; rintro e w10 ⟨rfl, hb⟩; have BK9c := Aside0.mk (blk_below (blk_put (blk_put (blk_put (blk_put BK9.out 0 (.int .i64 n0) rfl) 1 (.int .i64 n1) rfl) 2 (.int .i64 n2) rfl) 3 (.int .i64 n3) rfl) hb); have BK2c := Aside0.mk (blk_below (blk_far (blk_far (blk_far (blk_far BK2b.out NB9.out _) NB9.out _) NB9.out _) NB9.out _) hb); have HBc := Aside0.mk (below_step (below_set (below_set (below_set (below_set HBb.out GE9.out) GE9.out) GE9.out) GE9.out) hb); clear hb; have hza_0 : w10.cell? ⟨gb9, 0, none⟩ = some (.int .i64 n0) := (blk_cell BK9c.out 0).trans rfl; have hza_1 : w10.cell? ⟨gb9, 1, none⟩ = some (.int .i64 n1) := (blk_cell BK9c.out 1).trans rfl; have hza_2 : w10.cell? ⟨gb9, 2, none⟩ = some (.int .i64 n2) := (blk_cell BK9c.out 2).trans rfl; have hza_3 : w10.cell? ⟨gb9, 3, none⟩ = some (.int .i64 n3) := (blk_cell BK9c.out 3).trans rfl; have hfa_0 := blk_frozen BK9c.out 0; have hfa_1 := blk_frozen BK9c.out 1; have hfa_2 := blk_frozen BK9c.out 2; have hfa_3 := blk_frozen BK9c.out 3; have hzb_0 : w10.cell? ⟨gb2, 0, none⟩ = some (.int .i64 0) := (blk_cell BK2c.out 0).trans rfl; have hzb_1 : w10.cell? ⟨gb2, 1, none⟩ = some (.int .i64 0) := (blk_cell BK2c.out 1).trans rfl; have hzb_2 : w10.cell? ⟨gb2, 2, none⟩ = some (.int .i64 0) := (blk_cell BK2c.out 2).trans rfl; have hzb_3 : w10.cell? ⟨gb2, 3, none⟩ = some (.int .i64 0) := (blk_cell BK2c.out 3).trans rfl; have hfb_0 := blk_frozen BK2c.out 0; have hfb_1 := blk_frozen BK2c.out 1; have hfb_2 := blk_frozen BK2c.out 2; have hfb_3 := blk_frozen BK2c.out 3))
          refine bodyPost_ret (results_ct rfl _ _ gb2 25 #[.int .i64 n0, .int .i64 n1, .int .i64 n2, .int .i64 n3] (0, 0) _ rfl (blk_put (blk_put (blk_put (blk_put BK2c.out 0 _ rfl) 1 _ rfl) 2 _ rfl) 3 _ rfl) Tryd.underlying25 rfl (by kernel_rfl)) rfl ?_
          exact ⟨rfl, below_set (below_set (below_set (below_set HBc.out GE2.out) GE2.out) GE2.out) GE2.out⟩
        · obtain ⟨rfl, rfl, rfl, rfl, rfl⟩ : 0 = r1 ∧ 0 = r2 ∧ 0 = r3 ∧ 0 = r4 ∧ false = r5 := by rw [if_neg c9] at HH; simpa using HH
          clear HH
          have c9b0 : (t.toList == a0.toList) = false := by simp [c9]
          clear c9
          go_wp2_with (first | ((with_reducible refine gate_dst (N := 9) rfl ?_); refine box_event ?hg (N := 9) ?hd (cs := #[.int .i64 0, .int .i64 0, .int .i64 0, .int .i64 0]) (t := 25) ?hr ?_; (case hd => rfl); (case hg => rfl); (case hr => first | (go_simp; done) | (go_simp; rfl)); intro gb9 hg9 w9 hbox hb; have BK9 := Aside0.mk hbox; have NB9 := Aside0.mk ((by rw [hg9]; exact Nat.ne_of_lt (blk_lt BK2.out)) : gb2 ≠ gb9); have GE9 := Aside0.mk ((by rw [hg9]; exact HB.out.size) : w.heap.size ≤ gb9); have BK2b := Aside0.mk (blk_below BK2.out hb); have HBb := Aside0.mk (HB.out.trans (hb.mono HB.out.size)); clear hbox hb hg9; have hz9_0 : w9.cell? ⟨gb9, 0, none⟩ = some (.int .i64 0) := (blk_cell BK9.out 0).trans rfl; have hz9_1 : w9.cell? ⟨gb9, 1, none⟩ = some (.int .i64 0) := (blk_cell BK9.out 1).trans rfl; have hz9_2 : w9.cell? ⟨gb9, 2, none⟩ = some (.int .i64 0) := (blk_cell BK9.out 2).trans rfl; have hz9_3 : w9.cell? ⟨gb9, 3, none⟩ = some (.int .i64 0) := (blk_cell BK9.out 3).trans rfl; have hf9_0 := blk_frozen BK9.out 0; have hf9_1 := blk_frozen BK9.out 1; have hf9_2 := blk_frozen BK9.out 2; have hf9_3 := blk_frozen BK9.out 3; have hz8_0 : w9.cell? ⟨gb2, 0, none⟩ = some (.int .i64 0) := (blk_cell BK2b.out 0).trans rfl; have hz8_1 : w9.cell? ⟨gb2, 1, none⟩ = some (.int .i64 0) := (blk_cell BK2b.out 1).trans rfl; have hz8_2 : w9.cell? ⟨gb2, 2, none⟩ = some (.int .i64 0) := (blk_cell BK2b.out 2).trans rfl; have hz8_3 : w9.cell? ⟨gb2, 3, none⟩ = some (.int .i64 0) := (blk_cell BK2b.out 3).trans rfl; have hf8_0 := blk_frozen BK2b.out 0; have hf8_1 := blk_frozen BK2b.out 1; have hf8_2 := blk_frozen BK2b.out 2; have hf8_3 := blk_frozen BK2b.out 3) | (go_at_call 42; refine (impl_confText.calls k n0 n1 n2 n3 t _ HT.out (G_below (below_set (below_set (below_set (below_set HBb.out GE9.out) GE9.out) GE9.out) GE9.out) HG.out)).mono ?_; rintro e w10 ⟨rfl, hb⟩; have BK9c := Aside0.mk (blk_below (blk_put (blk_put (blk_put (blk_put BK9.out 0 (.int .i64 n0) rfl) 1 (.int .i64 n1) rfl) 2 (.int .i64 n2) rfl) 3 (.int .i64 n3) rfl) hb); have BK2c := Aside0.mk (blk_below (blk_far (blk_far (blk_far (blk_far BK2b.out NB9.out _) NB9.out _) NB9.out _) NB9.out _) hb); have HBc := Aside0.mk (below_step (below_set (below_set (below_set (below_set HBb.out GE9.out) GE9.out) GE9.out) GE9.out) hb); clear hb; have hza_0 : w10.cell? ⟨gb9, 0, none⟩ = some (.int .i64 n0) := (blk_cell BK9c.out 0).trans rfl; have hza_1 : w10.cell? ⟨gb9, 1, none⟩ = some (.int .i64 n1) := (blk_cell BK9c.out 1).trans rfl; have hza_2 : w10.cell? ⟨gb9, 2, none⟩ = some (.int .i64 n2) := (blk_cell BK9c.out 2).trans rfl; have hza_3 : w10.cell? ⟨gb9, 3, none⟩ = some (.int .i64 n3) := (blk_cell BK9c.out 3).trans rfl; have hfa_0 := blk_frozen BK9c.out 0; have hfa_1 := blk_frozen BK9c.out 1; have hfa_2 := blk_frozen BK9c.out 2; have hfa_3 := blk_frozen BK9c.out 3; have hzb_0 : w10.cell? ⟨gb2, 0, none⟩ = some (.int .i64 0) := (blk_cell BK2c.out 0).trans rfl; have hzb_1 : w10.cell? ⟨gb2, 1, none⟩ = some (.int .i64 0) := (blk_cell BK2c.out 1).trans rfl; have hzb_2 : w10.cell? ⟨gb2, 2, none⟩ = some (.int .i64 0) := (blk_cell BK2c.out 2).trans rfl; have hzb_3 : w10.cell? ⟨gb2, 3, none⟩ = some (.int .i64 0) := (blk_cell BK2c.out 3).trans rfl; have hfb_0 := blk_frozen BK2c.out 0; have hfb_1 := blk_frozen BK2c.out 1; have hfb_2 := blk_frozen BK2c.out 2; have hfb_3 := blk_frozen BK2c.out 3))
          refine bodyPost_ret (results_ct rfl _ _ gb2 25 #[.int .i64 0, .int .i64 0, .int .i64 0, .int .i64 0] (0, 0) _ rfl (blk_put (blk_put (blk_put (blk_put BK2c.out 0 _ rfl) 1 _ rfl) 2 _ rfl) 3 _ rfl) Tryd.underlying25 rfl (by kernel_rfl)) rfl ?_
          exact ⟨rfl, below_set (below_set (below_set (below_set HBc.out GE2.out) GE2.out) GE2.out) GE2.out⟩
  · rw [if_neg c8] at h2
    obtain ⟨rfl, rfl, rfl, rfl, rfl⟩ : 0 = r1 ∧ 0 = r2 ∧ 0 = r3 ∧ 0 = r4 ∧ false = r5 := by simpa using h2
    clear h2
    have c8b0 : ((ws.length : Int) != 8) = true := by simp; omega
    have c8b1 : ((ws.length : Int) == 8) = false := by simp; omega
    go_enter Tryd.func37, Tryd.ntmps37
    go_wp2_with (first | ((with_reducible refine gate_dst (N := 2) rfl ?_); refine box_event ?hg (N := 2) ?hd (cs := #[.int .i64 0, .int .i64 0, .int .i64 0, .int .i64 0]) (t := 25) ?hr ?_; (case hd => rfl); (case hg => rfl); (case hr => first | (go_simp; done) | (go_simp; rfl)); intro gb2 hg2 w2 hbox hb; have BK2 := Aside0.mk hbox; have GE2 := Aside0.mk ((by rw [hg2]; exact Nat.le_refl _) : w.heap.size ≤ gb2); have HB2 := Aside0.mk hb; clear hbox hb hg2) | (go_at_call 76; refine (strings_Split.calls a0 (⟨#[32]⟩ : ByteArray) ws _ HS.out (G_below HB2.out HG.out)).mono ?_; rintro e wB ⟨V, rfl, hO, hb⟩; obtain ⟨AW, cW, rfl⟩ := Kd.R_slice hO; have BK2b := Aside0.mk (blk_below BK2.out hb); have HB3 := Aside0.mk (HB2.out.trans (hb.mono HB2.out.size)); clear hO hb; have hz2_0 : wB.cell? ⟨gb2, 0, none⟩ = some (.int .i64 0) := (blk_cell BK2b.out 0).trans rfl; have hz2_1 : wB.cell? ⟨gb2, 1, none⟩ = some (.int .i64 0) := (blk_cell BK2b.out 1).trans rfl; have hz2_2 : wB.cell? ⟨gb2, 2, none⟩ = some (.int .i64 0) := (blk_cell BK2b.out 2).trans rfl; have hz2_3 : wB.cell? ⟨gb2, 3, none⟩ = some (.int .i64 0) := (blk_cell BK2b.out 3).trans rfl; have hf2_0 := blk_frozen BK2b.out 0; have hf2_1 := blk_frozen BK2b.out 1; have hf2_2 := blk_frozen BK2b.out 2; have hf2_3 := blk_frozen BK2b.out 3))
    refine bodyPost_ret (results_ct rfl _ _ gb2 25 #[.int .i64 0, .int .i64 0, .int .i64 0, .int .i64 0] (0, 0) _ rfl (blk_put (blk_put (blk_put (blk_put BK2b.out 0 _ rfl) 1 _ rfl) 2 _ rfl) 3 _ rfl) Tryd.underlying25 rfl (by kernel_rfl)) rfl ?_
    exact ⟨rfl, below_set (below_set (below_set (below_set HB3.out GE2.out) GE2.out) GE2.out) GE2.out⟩
end Go.Proofs.YtbpffdhkeinmcaaDoor.QF
namespace Go.Proofs.YtbpffdhkeinmcaaDoor.QF
open Go.RowKit Go.Proofs.YtbpffdhkeinmcaaDoorW.PrintWords Go.Proofs.YtbpffdhkeinmcaaDoorW.PrintLast Go.Proofs.YtbpffdhkeinmcaaDoorW.PrintMore
attribute [local go_sem] max2_int min2_int max_two min_two max_three min_three max_four min_four   -- for this text's walks alone
set_option linter.unusedVariables false
set_option linter.unusedSimpArgs false
def laws_eqConf.f (a0_0 : Int) (a0_1 : Int) (a0_2 : Int) (a0_3 : Int) (a1_0 : Int) (a1_1 : Int) (a1_2 : Int) (a1_3 : Int) : Option (Bool) := if a0_0 = a1_0 then (if a0_1 = a1_1 then (if a0_2 = a1_2 then (if a0_3 = a1_3 then (some true) else (some false)) else (some false)) else (some false)) else (some false)
set_option maxHeartbeats 8000000 in
set_option maxRecDepth 100000 in
theorem laws_eqConf.calls (a0_0 : Int) (a0_1 : Int) (a0_2 : Int) (a0_3 : Int) (a1_0 : Int) (a1_1 : Int) (a1_2 : Int) (a1_3 : Int) (r : Bool) (w : World) (h : laws_eqConf.f a0_0 a0_1 a0_2 a0_3 a1_0 a1_1 a1_2 a1_3 = some r) :
    Calls Tryd.prog 38 #[.agg #[.int .i64 a0_0, .int .i64 a0_1, .int .i64 a0_2, .int .i64 a0_3], .agg #[.int .i64 a1_0, .int .i64 a1_1, .int .i64 a1_2, .int .i64 a1_3]] w fun e w' => e = .returned (.bool r) ∧ Below w.heap.size w w' := by
  have hu25 := Tryd.underlying25
  have HB := Aside0.mk (Below.refl w.heap.size w)
  have H : (if a0_0 = a1_0 then (if a0_1 = a1_1 then (if a0_2 = a1_2 then (if a0_3 = a1_3 then (some true) else (some false)) else (some false)) else (some false)) else (some false)) = some r := h
  clear h
  by_cases c3 : a0_0 = a1_0
  · rw [if_pos c3] at H
    have c3b0 : (a0_0 == a1_0) = true := beq_iff_eq.mpr c3
    have c3b1 : (a0_0 != a1_0) = false := bne_eq_false_iff_eq.mpr c3
    clear c3
    by_cases c4 : a0_1 = a1_1
    · rw [if_pos c4] at H
      have c4b0 : (a0_1 == a1_1) = true := beq_iff_eq.mpr c4
      have c4b1 : (a0_1 != a1_1) = false := bne_eq_false_iff_eq.mpr c4
      clear c4
      by_cases c5 : a0_2 = a1_2
      · rw [if_pos c5] at H
        have c5b0 : (a0_2 == a1_2) = true := beq_iff_eq.mpr c5
        have c5b1 : (a0_2 != a1_2) = false := bne_eq_false_iff_eq.mpr c5
        clear c5
        by_cases c6 : a0_3 = a1_3
        · rw [if_pos c6] at H
          have c6b0 : (a0_3 == a1_3) = true := beq_iff_eq.mpr c6
          have c6b1 : (a0_3 != a1_3) = false := bne_eq_false_iff_eq.mpr c6
          clear c6
          obtain rfl := Option.some.inj H
          go_enter Tryd.func38, Tryd.ntmps38
          go_wp2_with (first | ((with_reducible refine gate_dst (N := 2) rfl ?_); refine box_event ?hg (N := 2) ?hd (cs := #[.int .i64 a0_0, .int .i64 a0_1, .int .i64 a0_2, .int .i64 a0_3]) (t := 25) ?hr ?_; (case hd => rfl); (case hg => rfl); (case hr => first | (go_simp; done) | (go_simp; rfl)); intro gb208 hg w7 hbox hb; have n0_ := Aside0.mk (below_step (by repeat (first | (with_reducible first | exact HB.out | apply below_alloc | apply pw_below_drewN | apply below_drew1) | exact HB.out)) hb); have n1_ := Aside0.mk (hbox); have n2_ := Aside0.mk ((by rw [hg]; exact (below_size (by repeat (first | (with_reducible first | exact HB.out | apply below_alloc | apply pw_below_drewN | apply below_drew1) | exact HB.out))) : w.heap.size ≤ gb208)); have n3_ := Aside0.mk ((by rw [hg]; exact (below_size (by repeat (first | (with_reducible first | exact HB.out | apply below_alloc | apply pw_below_drewN | apply below_drew1) | exact HB.out))) : w.heap.size ≤ gb208)); clear HB; have HB := n0_; have BK208 := n1_; have GW208 := n2_; have GE208 := n3_; clear n0_ n1_ n2_ n3_; clear hb hbox hg) | ((with_reducible refine gate_dst (N := 3) rfl ?_); refine box_event ?hg (N := 3) ?hd (cs := #[.int .i64 a1_0, .int .i64 a1_1, .int .i64 a1_2, .int .i64 a1_3]) (t := 25) ?hr ?_; (case hd => rfl); (case hg => rfl); (case hr => first | (go_simp; done) | (go_simp; rfl)); intro gb209 hg w8 hbox hb; have n0_ := Aside0.mk (blk_below (g := gb208) (o := .cells #[.int .i64 a0_0, .int .i64 a0_1, .int .i64 a0_2, .int .i64 a0_3] 25 (0, 0)) (by (with_reducible repeat (first | refine blk_drewN ?_ _ | refine blk_drew ?_ | refine blk_alloc ?_ _)); exact BK208.out) hb); have n1_ := Aside0.mk (below_step (by repeat (first | (with_reducible first | exact HB.out | apply below_alloc | apply pw_below_drewN | apply below_drew1 | refine below_set ?_ GE208.out) | exact HB.out)) hb); have n2_ := Aside0.mk (hbox); have n3_ := Aside0.mk ((by rw [hg]; exact (below_size (by repeat (first | (with_reducible first | exact HB.out | apply below_alloc | apply pw_below_drewN | apply below_drew1 | refine below_set ?_ GE208.out) | exact HB.out))) : w.heap.size ≤ gb209)); have n4_ := Aside0.mk ((by rw [hg]; exact (below_size (by repeat (first | (with_reducible first | exact HB.out | apply below_alloc | apply pw_below_drewN | apply below_drew1 | refine below_set ?_ GE208.out) | exact HB.out))) : w.heap.size ≤ gb209)); have n5_ := Aside0.mk ((by rw [hg]; exact Nat.ne_of_lt (blk_lt (g := gb208) (o := .cells #[.int .i64 a0_0, .int .i64 a0_1, .int .i64 a0_2, .int .i64 a0_3] 25 (0, 0)) (by (with_reducible repeat (first | refine blk_drewN ?_ _ | refine blk_drew ?_ | refine blk_alloc ?_ _)); exact BK208.out)) : gb208 ≠ gb209)); have n6_ := Aside0.mk ((by rw [hg]; exact Nat.ne_of_gt (blk_lt (g := gb208) (o := .cells #[.int .i64 a0_0, .int .i64 a0_1, .int .i64 a0_2, .int .i64 a0_3] 25 (0, 0)) (by (with_reducible repeat (first | refine blk_drewN ?_ _ | refine blk_drew ?_ | refine blk_alloc ?_ _)); exact BK208.out)) : gb209 ≠ gb208)); clear BK208; clear HB; have BK208 := n0_; have HB := n1_; have BK209 := n2_; have GW209 := n3_; have GE209 := n4_; have NB208_209 := n5_; have NB209_208 := n6_; clear n0_ n1_ n2_ n3_ n4_ n5_ n6_; clear hb hbox hg; have hnb9 := NB208_209.out; have hnc9 := NB209_208.out; have hcz10_0 : w8.cell? ⟨gb208, 0, none⟩ = some (.int .i64 a0_0) := (blk_cell BK208.out 0).trans rfl; have hcz10_1 : w8.cell? ⟨gb208, 1, none⟩ = some (.int .i64 a0_1) := (blk_cell BK208.out 1).trans rfl; have hcz10_2 : w8.cell? ⟨gb208, 2, none⟩ = some (.int .i64 a0_2) := (blk_cell BK208.out 2).trans rfl; have hcz10_3 : w8.cell? ⟨gb208, 3, none⟩ = some (.int .i64 a0_3) := (blk_cell BK208.out 3).trans rfl; have hfz10_0 := blk_frozen BK208.out 0; have hfz10_1 := blk_frozen BK208.out 1; have hfz10_2 := blk_frozen BK208.out 2; have hfz10_3 := blk_frozen BK208.out 3; have hcz11_0 : w8.cell? ⟨gb209, 0, none⟩ = some (.int .i64 a1_0) := (blk_cell BK209.out 0).trans rfl; have hcz11_1 : w8.cell? ⟨gb209, 1, none⟩ = some (.int .i64 a1_1) := (blk_cell BK209.out 1).trans rfl; have hcz11_2 : w8.cell? ⟨gb209, 2, none⟩ = some (.int .i64 a1_2) := (blk_cell BK209.out 2).trans rfl; have hcz11_3 : w8.cell? ⟨gb209, 3, none⟩ = some (.int .i64 a1_3) := (blk_cell BK209.out 3).trans rfl; have hfz11_0 := blk_frozen BK209.out 0; have hfz11_1 := blk_frozen BK209.out 1; have hfz11_2 := blk_frozen BK209.out 2; have hfz11_3 := blk_frozen BK209.out 3))
          go_ret
          exact ⟨by first | rfl | (simp [errW_none, errW_some] <;> rfl) | (simp [*, errW_none, errW_some] <;> rfl), by repeat (first | (with_reducible first | exact HB.out | apply below_alloc | apply pw_below_drewN | apply below_drew1 | refine below_set ?_ GE208.out | refine below_set ?_ GE209.out) | exact HB.out)⟩
        · rw [if_neg c6] at H
          have c6b0 : (a0_3 == a1_3) = false := beq_eq_false_iff_ne.mpr c6
          have c6b1 : (a0_3 != a1_3) = true := bne_iff_ne.mpr c6
          obtain rfl := Option.some.inj H
          go_enter Tryd.func38, Tryd.ntmps38
          go_wp2_with (first | ((with_reducible refine gate_dst (N := 2) rfl ?_); refine box_event ?hg (N := 2) ?hd (cs := #[.int .i64 a0_0, .int .i64 a0_1, .int .i64 a0_2, .int .i64 a0_3]) (t := 25) ?hr ?_; (case hd => rfl); (case hg => rfl); (case hr => first | (go_simp; done) | (go_simp; rfl)); intro gb208 hg w12 hbox hb; have n0_ := Aside0.mk (below_step (by repeat (first | (with_reducible first | exact HB.out | apply below_alloc | apply pw_below_drewN | apply below_drew1) | exact HB.out)) hb); have n1_ := Aside0.mk (hbox); have n2_ := Aside0.mk ((by rw [hg]; exact (below_size (by repeat (first | (with_reducible first | exact HB.out | apply below_alloc | apply pw_below_drewN | apply below_drew1) | exact HB.out))) : w.heap.size ≤ gb208)); have n3_ := Aside0.mk ((by rw [hg]; exact (below_size (by repeat (first | (with_reducible first | exact HB.out | apply below_alloc | apply pw_below_drewN | apply below_drew1) | exact HB.out))) : w.heap.size ≤ gb208)); clear HB; have HB := n0_; have BK208 := n1_; have GW208 := n2_; have GE208 := n3_; clear n0_ n1_ n2_ n3_; clear hb hbox hg) | ((with_reducible refine gate_dst (N := 3) rfl ?_); refine box_event ?hg (N := 3) ?hd (cs := #[.int .i64 a1_0, .int .i64 a1_1, .int .i64 a1_2, .int .i64 a1_3]) (t := 25) ?hr ?_; (case hd => rfl); (case hg => rfl); (case hr => first | (go_simp; done) | (go_simp; rfl)); intro gb209 hg w13 hbox hb; have n0_ := Aside0.mk (blk_below (g := gb208) (o := .cells #[.int .i64 a0_0, .int .i64 a0_1, .int .i64 a0_2, .int .i64 a0_3] 25 (0, 0)) (by (with_reducible repeat (first | refine blk_drewN ?_ _ | refine blk_drew ?_ | refine blk_alloc ?_ _)); exact BK208.out) hb); have n1_ := Aside0.mk (below_step (by repeat (first | (with_reducible first | exact HB.out | apply below_alloc | apply pw_below_drewN | apply below_drew1 | refine below_set ?_ GE208.out) | exact HB.out)) hb); have n2_ := Aside0.mk (hbox); have n3_ := Aside0.mk ((by rw [hg]; exact (below_size (by repeat (first | (with_reducible first | exact HB.out | apply below_alloc | apply pw_below_drewN | apply below_drew1 | refine below_set ?_ GE208.out) | exact HB.out))) : w.heap.size ≤ gb209)); have n4_ := Aside0.mk ((by rw [hg]; exact (below_size (by repeat (first | (with_reducible first | exact HB.out | apply below_alloc | apply pw_below_drewN | apply below_drew1 | refine below_set ?_ GE208.out) | exact HB.out))) : w.heap.size ≤ gb209)); have n5_ := Aside0.mk ((by rw [hg]; exact Nat.ne_of_lt (blk_lt (g := gb208) (o := .cells #[.int .i64 a0_0, .int .i64 a0_1, .int .i64 a0_2, .int .i64 a0_3] 25 (0, 0)) (by (with_reducible repeat (first | refine blk_drewN ?_ _ | refine blk_drew ?_ | refine blk_alloc ?_ _)); exact BK208.out)) : gb208 ≠ gb209)); have n6_ := Aside0.mk ((by rw [hg]; exact Nat.ne_of_gt (blk_lt (g := gb208) (o := .cells #[.int .i64 a0_0, .int .i64 a0_1, .int .i64 a0_2, .int .i64 a0_3] 25 (0, 0)) (by (with_reducible repeat (first | refine blk_drewN ?_ _ | refine blk_drew ?_ | refine blk_alloc ?_ _)); exact BK208.out)) : gb209 ≠ gb208)); clear BK208; clear HB; have BK208 := n0_; have HB := n1_; have BK209 := n2_; have GW209 := n3_; have GE209 := n4_; have NB208_209 := n5_; have NB209_208 := n6_; clear n0_ n1_ n2_ n3_ n4_ n5_ n6_; clear hb hbox hg; have hnb14 := NB208_209.out; have hnc14 := NB209_208.out; have hcz15_0 : w13.cell? ⟨gb208, 0, none⟩ = some (.int .i64 a0_0) := (blk_cell BK208.out 0).trans rfl; have hcz15_1 : w13.cell? ⟨gb208, 1, none⟩ = some (.int .i64 a0_1) := (blk_cell BK208.out 1).trans rfl; have hcz15_2 : w13.cell? ⟨gb208, 2, none⟩ = some (.int .i64 a0_2) := (blk_cell BK208.out 2).trans rfl; have hcz15_3 : w13.cell? ⟨gb208, 3, none⟩ = some (.int .i64 a0_3) := (blk_cell BK208.out 3).trans rfl; have hfz15_0 := blk_frozen BK208.out 0; have hfz15_1 := blk_frozen BK208.out 1; have hfz15_2 := blk_frozen BK208.out 2; have hfz15_3 := blk_frozen BK208.out 3; have hcz16_0 : w13.cell? ⟨gb209, 0, none⟩ = some (.int .i64 a1_0) := (blk_cell BK209.out 0).trans rfl; have hcz16_1 : w13.cell? ⟨gb209, 1, none⟩ = some (.int .i64 a1_1) := (blk_cell BK209.out 1).trans rfl; have hcz16_2 : w13.cell? ⟨gb209, 2, none⟩ = some (.int .i64 a1_2) := (blk_cell BK209.out 2).trans rfl; have hcz16_3 : w13.cell? ⟨gb209, 3, none⟩ = some (.int .i64 a1_3) := (blk_cell BK209.out 3).trans rfl; have hfz16_0 := blk_frozen BK209.out 0; have hfz16_1 := blk_frozen BK209.out 1; have hfz16_2 := blk_frozen BK209.out 2; have hfz16_3 := blk_frozen BK209.out 3))
          go_ret
          exact ⟨by first | rfl | (simp [errW_none, errW_some] <;> rfl) | (simp [*, errW_none, errW_some] <;> rfl), by repeat (first | (with_reducible first | exact HB.out | apply below_alloc | apply pw_below_drewN | apply below_drew1 | refine below_set ?_ GE208.out | refine below_set ?_ GE209.out) | exact HB.out)⟩
      · rw [if_neg c5] at H
        have c5b0 : (a0_2 == a1_2) = false := beq_eq_false_iff_ne.mpr c5
        have c5b1 : (a0_2 != a1_2) = true := bne_iff_ne.mpr c5
        obtain rfl := Option.some.inj H
        go_enter Tryd.func38, Tryd.ntmps38
        go_wp2_with (first | ((with_reducible refine gate_dst (N := 2) rfl ?_); refine box_event ?hg (N := 2) ?hd (cs := #[.int .i64 a0_0, .int .i64 a0_1, .int .i64 a0_2, .int .i64 a0_3]) (t := 25) ?hr ?_; (case hd => rfl); (case hg => rfl); (case hr => first | (go_simp; done) | (go_simp; rfl)); intro gb208 hg w17 hbox hb; have n0_ := Aside0.mk (below_step (by repeat (first | (with_reducible first | exact HB.out | apply below_alloc | apply pw_below_drewN | apply below_drew1) | exact HB.out)) hb); have n1_ := Aside0.mk (hbox); have n2_ := Aside0.mk ((by rw [hg]; exact (below_size (by repeat (first | (with_reducible first | exact HB.out | apply below_alloc | apply pw_below_drewN | apply below_drew1) | exact HB.out))) : w.heap.size ≤ gb208)); have n3_ := Aside0.mk ((by rw [hg]; exact (below_size (by repeat (first | (with_reducible first | exact HB.out | apply below_alloc | apply pw_below_drewN | apply below_drew1) | exact HB.out))) : w.heap.size ≤ gb208)); clear HB; have HB := n0_; have BK208 := n1_; have GW208 := n2_; have GE208 := n3_; clear n0_ n1_ n2_ n3_; clear hb hbox hg) | ((with_reducible refine gate_dst (N := 3) rfl ?_); refine box_event ?hg (N := 3) ?hd (cs := #[.int .i64 a1_0, .int .i64 a1_1, .int .i64 a1_2, .int .i64 a1_3]) (t := 25) ?hr ?_; (case hd => rfl); (case hg => rfl); (case hr => first | (go_simp; done) | (go_simp; rfl)); intro gb209 hg w18 hbox hb; have n0_ := Aside0.mk (blk_below (g := gb208) (o := .cells #[.int .i64 a0_0, .int .i64 a0_1, .int .i64 a0_2, .int .i64 a0_3] 25 (0, 0)) (by (with_reducible repeat (first | refine blk_drewN ?_ _ | refine blk_drew ?_ | refine blk_alloc ?_ _)); exact BK208.out) hb); have n1_ := Aside0.mk (below_step (by repeat (first | (with_reducible first | exact HB.out | apply below_alloc | apply pw_below_drewN | apply below_drew1 | refine below_set ?_ GE208.out) | exact HB.out)) hb); have n2_ := Aside0.mk (hbox); have n3_ := Aside0.mk ((by rw [hg]; exact (below_size (by repeat (first | (with_reducible first | exact HB.out | apply below_alloc | apply pw_below_drewN | apply below_drew1 | refine below_set ?_ GE208.out) | exact HB.out))) : w.heap.size ≤ gb209)); have n4_ := Aside0.mk ((by rw [hg]; exact (below_size (by repeat (first | (with_reducible first | exact HB.out | apply below_alloc | apply pw_below_drewN | apply below_drew1 | refine below_set ?_ GE208.out) | exact HB.out))) : w.heap.size ≤ gb209)); have n5_ := Aside0.mk ((by rw [hg]; exact Nat.ne_of_lt (blk_lt (g := gb208) (o := .cells #[.int .i64 a0_0, .int .i64 a0_1, .int .i64 a0_2, .int .i64 a0_3] 25 (0, 0)) (by (with_reducible repeat (first | refine blk_drewN ?_ _ | refine blk_drew ?_ | refine blk_alloc ?_ _)); exact BK208.out)) : gb208 ≠ gb209)); have n6_ := Aside0.mk ((by rw [hg]; exact Nat.ne_of_gt (blk_lt (g := gb208) (o := .cells #[.int .i64 a0_0, .int .i64 a0_1, .int .i64 a0_2, .int .i64 a0_3] 25 (0, 0)) (by (with_reducible repeat (first | refine blk_drewN ?_ _ | refine blk_drew ?_ | refine blk_alloc ?_ _)); exact BK208.out)) : gb209 ≠ gb208)); clear BK208; clear HB; have BK208 := n0_; have HB := n1_; have BK209 := n2_; have GW209 := n3_; have GE209 := n4_; have NB208_209 := n5_; have NB209_208 := n6_; clear n0_ n1_ n2_ n3_ n4_ n5_ n6_; clear hb hbox hg; have hnb19 := NB208_209.out; have hnc19 := NB209_208.out; have hcz20_0 : w18.cell? ⟨gb208, 0, none⟩ = some (.int .i64 a0_0) := (blk_cell BK208.out 0).trans rfl; have hcz20_1 : w18.cell? ⟨gb208, 1, none⟩ = some (.int .i64 a0_1) := (blk_cell BK208.out 1).trans rfl; have hcz20_2 : w18.cell? ⟨gb208, 2, none⟩ = some (.int .i64 a0_2) := (blk_cell BK208.out 2).trans rfl; have hcz20_3 : w18.cell? ⟨gb208, 3, none⟩ = some (.int .i64 a0_3) := (blk_cell BK208.out 3).trans rfl; have hfz20_0 := blk_frozen BK208.out 0; have hfz20_1 := blk_frozen BK208.out 1; have hfz20_2 := blk_frozen BK208.out 2; have hfz20_3 := blk_frozen BK208.out 3; have hcz21_0 : w18.cell? ⟨gb209, 0, none⟩ = some (.int .i64 a1_0) := (blk_cell BK209.out 0).trans rfl; have hcz21_1 : w18.cell? ⟨gb209, 1, none⟩ = some (.int .i64 a1_1) := (blk_cell BK209.out 1).trans rfl; have hcz21_2 : w18.cell? ⟨gb209, 2, none⟩ = some (.int .i64 a1_2) := (blk_cell BK209.out 2).trans rfl; have hcz21_3 : w18.cell? ⟨gb209, 3, none⟩ = some (.int .i64 a1_3) := (blk_cell BK209.out 3).trans rfl; have hfz21_0 := blk_frozen BK209.out 0; have hfz21_1 := blk_frozen BK209.out 1; have hfz21_2 := blk_frozen BK209.out 2; have hfz21_3 := blk_frozen BK209.out 3))
        go_ret
        exact ⟨by first | rfl | (simp [errW_none, errW_some] <;> rfl) | (simp [*, errW_none, errW_some] <;> rfl), by repeat (first | (with_reducible first | exact HB.out | apply below_alloc | apply pw_below_drewN | apply below_drew1 | refine below_set ?_ GE208.out | refine below_set ?_ GE209.out) | exact HB.out)⟩
    · rw [if_neg c4] at H
      have c4b0 : (a0_1 == a1_1) = false := beq_eq_false_iff_ne.mpr c4
      have c4b1 : (a0_1 != a1_1) = true := bne_iff_ne.mpr c4
      obtain rfl := Option.some.inj H
      go_enter Tryd.func38, Tryd.ntmps38
      go_wp2_with (first | ((with_reducible refine gate_dst (N := 2) rfl ?_); refine box_event ?hg (N := 2) ?hd (cs := #[.int .i64 a0_0, .int .i64 a0_1, .int .i64 a0_2, .int .i64 a0_3]) (t := 25) ?hr ?_; (case hd => rfl); (case hg => rfl); (case hr => first | (go_simp; done) | (go_simp; rfl)); intro gb208 hg w22 hbox hb; have n0_ := Aside0.mk (below_step (by repeat (first | (with_reducible first | exact HB.out | apply below_alloc | apply pw_below_drewN | apply below_drew1) | exact HB.out)) hb); have n1_ := Aside0.mk (hbox); have n2_ := Aside0.mk ((by rw [hg]; exact (below_size (by repeat (first | (with_reducible first | exact HB.out | apply below_alloc | apply pw_below_drewN | apply below_drew1) | exact HB.out))) : w.heap.size ≤ gb208)); have n3_ := Aside0.mk ((by rw [hg]; exact (below_size (by repeat (first | (with_reducible first | exact HB.out | apply below_alloc | apply pw_below_drewN | apply below_drew1) | exact HB.out))) : w.heap.size ≤ gb208)); clear HB; have HB := n0_; have BK208 := n1_; have GW208 := n2_; have GE208 := n3_; clear n0_ n1_ n2_ n3_; clear hb hbox hg) | ((with_reducible refine gate_dst (N := 3) rfl ?_); refine box_event ?hg (N := 3) ?hd (cs := #[.int .i64 a1_0, .int .i64 a1_1, .int .i64 a1_2, .int .i64 a1_3]) (t := 25) ?hr ?_; (case hd => rfl); (case hg => rfl); (case hr => first | (go_simp; done) | (go_simp; rfl)); intro gb209 hg w23 hbox hb; have n0_ := Aside0.mk (blk_below (g := gb208) (o := .cells #[.int .i64 a0_0, .int .i64 a0_1, .int .i64 a0_2, .int .i64 a0_3] 25 (0, 0)) (by (with_reducible repeat (first | refine blk_drewN ?_ _ | refine blk_drew ?_ | refine blk_alloc ?_ _)); exact BK208.out) hb); have n1_ := Aside0.mk (below_step (by repeat (first | (with_reducible first | exact HB.out | apply below_alloc | apply pw_below_drewN | apply below_drew1 | refine below_set ?_ GE208.out) | exact HB.out)) hb); have n2_ := Aside0.mk (hbox); have n3_ := Aside0.mk ((by rw [hg]; exact (below_size (by repeat (first | (with_reducible first | exact HB.out | apply below_alloc | apply pw_below_drewN | apply below_drew1 | refine below_set ?_ GE208.out) | exact HB.out))) : w.heap.size ≤ gb209)); have n4_ := Aside0.mk ((by rw [hg]; exact (below_size (by repeat (first | (with_reducible first | exact HB.out | apply below_alloc | apply pw_below_drewN | apply below_drew1 | refine below_set ?_ GE208.out) | exact HB.out))) : w.heap.size ≤ gb209)); have n5_ := Aside0.mk ((by rw [hg]; exact Nat.ne_of_lt (blk_lt (g := gb208) (o := .cells #[.int .i64 a0_0, .int .i64 a0_1, .int .i64 a0_2, .int .i64 a0_3] 25 (0, 0)) (by (with_reducible repeat (first | refine blk_drewN ?_ _ | refine blk_drew ?_ | refine blk_alloc ?_ _)); exact BK208.out)) : gb208 ≠ gb209)); have n6_ := Aside0.mk ((by rw [hg]; exact Nat.ne_of_gt (blk_lt (g := gb208) (o := .cells #[.int .i64 a0_0, .int .i64 a0_1, .int .i64 a0_2, .int .i64 a0_3] 25 (0, 0)) (by (with_reducible repeat (first | refine blk_drewN ?_ _ | refine blk_drew ?_ | refine blk_alloc ?_ _)); exact BK208.out)) : gb209 ≠ gb208)); clear BK208; clear HB; have BK208 := n0_; have HB := n1_; have BK209 := n2_; have GW209 := n3_; have GE209 := n4_; have NB208_209 := n5_; have NB209_208 := n6_; clear n0_ n1_ n2_ n3_ n4_ n5_ n6_; clear hb hbox hg; have hnb24 := NB208_209.out; have hnc24 := NB209_208.out; have hcz25_0 : w23.cell? ⟨gb208, 0, none⟩ = some (.int .i64 a0_0) := (blk_cell BK208.out 0).trans rfl; have hcz25_1 : w23.cell? ⟨gb208, 1, none⟩ = some (.int .i64 a0_1) := (blk_cell BK208.out 1).trans rfl; have hcz25_2 : w23.cell? ⟨gb208, 2, none⟩ = some (.int .i64 a0_2) := (blk_cell BK208.out 2).trans rfl; have hcz25_3 : w23.cell? ⟨gb208, 3, none⟩ = some (.int .i64 a0_3) := (blk_cell BK208.out 3).trans rfl; have hfz25_0 := blk_frozen BK208.out 0; have hfz25_1 := blk_frozen BK208.out 1; have hfz25_2 := blk_frozen BK208.out 2; have hfz25_3 := blk_frozen BK208.out 3; have hcz26_0 : w23.cell? ⟨gb209, 0, none⟩ = some (.int .i64 a1_0) := (blk_cell BK209.out 0).trans rfl; have hcz26_1 : w23.cell? ⟨gb209, 1, none⟩ = some (.int .i64 a1_1) := (blk_cell BK209.out 1).trans rfl; have hcz26_2 : w23.cell? ⟨gb209, 2, none⟩ = some (.int .i64 a1_2) := (blk_cell BK209.out 2).trans rfl; have hcz26_3 : w23.cell? ⟨gb209, 3, none⟩ = some (.int .i64 a1_3) := (blk_cell BK209.out 3).trans rfl; have hfz26_0 := blk_frozen BK209.out 0; have hfz26_1 := blk_frozen BK209.out 1; have hfz26_2 := blk_frozen BK209.out 2; have hfz26_3 := blk_frozen BK209.out 3))
      go_ret
      exact ⟨by first | rfl | (simp [errW_none, errW_some] <;> rfl) | (simp [*, errW_none, errW_some] <;> rfl), by repeat (first | (with_reducible first | exact HB.out | apply below_alloc | apply pw_below_drewN | apply below_drew1 | refine below_set ?_ GE208.out | refine below_set ?_ GE209.out) | exact HB.out)⟩
  · rw [if_neg c3] at H
    have c3b0 : (a0_0 == a1_0) = false := beq_eq_false_iff_ne.mpr c3
    have c3b1 : (a0_0 != a1_0) = true := bne_iff_ne.mpr c3
    obtain rfl := Option.some.inj H
    go_enter Tryd.func38, Tryd.ntmps38
    go_wp2_with (first | ((with_reducible refine gate_dst (N := 2) rfl ?_); refine box_event ?hg (N := 2) ?hd (cs := #[.int .i64 a0_0, .int .i64 a0_1, .int .i64 a0_2, .int .i64 a0_3]) (t := 25) ?hr ?_; (case hd => rfl); (case hg => rfl); (case hr => first | (go_simp; done) | (go_simp; rfl)); intro gb208 hg w27 hbox hb; have n0_ := Aside0.mk (below_step (by repeat (first | (with_reducible first | exact HB.out | apply below_alloc | apply pw_below_drewN | apply below_drew1) | exact HB.out)) hb); have n1_ := Aside0.mk (hbox); have n2_ := Aside0.mk ((by rw [hg]; exact (below_size (by repeat (first | (with_reducible first | exact HB.out | apply below_alloc | apply pw_below_drewN | apply below_drew1) | exact HB.out))) : w.heap.size ≤ gb208)); have n3_ := Aside0.mk ((by rw [hg]; exact (below_size (by repeat (first | (with_reducible first | exact HB.out | apply below_alloc | apply pw_below_drewN | apply below_drew1) | exact HB.out))) : w.heap.size ≤ gb208)); clear HB; have HB := n0_; have BK208 := n1_; have GW208 := n2_; have GE208 := n3_; clear n0_ n1_ n2_ n3_; clear hb hbox hg) | ((with_reducible refine gate_dst (N := 3) rfl ?_); refine box_event ?hg (N := 3) ?hd (cs := #[.int .i64 a1_0, .int .i64 a1_1, .int .i64 a1_2, .int .i64 a1_3]) (t := 25) ?hr ?_; (case hd => rfl); (case hg => rfl); (case hr => first | (go_simp; done) | (go_simp; rfl)); intro gb209 hg w28 hbox hb; have n0_ := Aside0.mk (blk_below (g := gb208) (o := .cells #[.int .i64 a0_0, .int .i64 a0_1, .int .i64 a0_2, .int .i64 a0_3] 25 (0, 0)) (by (with_reducible repeat (first | refine blk_drewN ?_ _ | refine blk_drew ?_ | refine blk_alloc ?_ _)); exact BK208.out) hb); have n1_ := Aside0.mk (below_step (by repeat (first | (with_reducible first | exact HB.out | apply below_alloc | apply pw_below_drewN | apply below_drew1 | refine below_set ?_ GE208.out) | exact HB.out)) hb); have n2_ := Aside0.mk (hbox); have n3_ := Aside0.mk ((by rw [hg]; exact (below_size (by repeat (first | (with_reducible first | exact HB.out | apply below_alloc | apply pw_below_drewN | apply below_drew1 | refine below_set ?_ GE208.out) | exact HB.out))) : w.heap.size ≤ gb209)); have n4_ := Aside0.mk ((by rw [hg]; exact (below_size (by repeat (first | (with_reducible first | exact HB.out | apply below_alloc | apply pw_below_drewN | apply below_drew1 | refine below_set ?_ GE208.out) | exact HB.out))) : w.heap.size ≤ gb209)); have n5_ := Aside0.mk ((by rw [hg]; exact Nat.ne_of_lt (blk_lt (g := gb208) (o := .cells #[.int .i64 a0_0, .int .i64 a0_1, .int .i64 a0_2, .int .i64 a0_3] 25 (0, 0)) (by (with_reducible repeat (first | refine blk_drewN ?_ _ | refine blk_drew ?_ | refine blk_alloc ?_ _)); exact BK208.out)) : gb208 ≠ gb209)); have n6_ := Aside0.mk ((by rw [hg]; exact Nat.ne_of_gt (blk_lt (g := gb208) (o := .cells #[.int .i64 a0_0, .int .i64 a0_1, .int .i64 a0_2, .int .i64 a0_3] 25 (0, 0)) (by (with_reducible repeat (first | refine blk_drewN ?_ _ | refine blk_drew ?_ | refine blk_alloc ?_ _)); exact BK208.out)) : gb209 ≠ gb208)); clear BK208; clear HB; have BK208 := n0_; have HB := n1_; have BK209 := n2_; have GW209 := n3_; have GE209 := n4_; have NB208_209 := n5_; have NB209_208 := n6_; clear n0_ n1_ n2_ n3_ n4_ n5_ n6_; clear hb hbox hg; have hnb29 := NB208_209.out; have hnc29 := NB209_208.out; have hcz30_0 : w28.cell? ⟨gb208, 0, none⟩ = some (.int .i64 a0_0) := (blk_cell BK208.out 0).trans rfl; have hcz30_1 : w28.cell? ⟨gb208, 1, none⟩ = some (.int .i64 a0_1) := (blk_cell BK208.out 1).trans rfl; have hcz30_2 : w28.cell? ⟨gb208, 2, none⟩ = some (.int .i64 a0_2) := (blk_cell BK208.out 2).trans rfl; have hcz30_3 : w28.cell? ⟨gb208, 3, none⟩ = some (.int .i64 a0_3) := (blk_cell BK208.out 3).trans rfl; have hfz30_0 := blk_frozen BK208.out 0; have hfz30_1 := blk_frozen BK208.out 1; have hfz30_2 := blk_frozen BK208.out 2; have hfz30_3 := blk_frozen BK208.out 3; have hcz31_0 : w28.cell? ⟨gb209, 0, none⟩ = some (.int .i64 a1_0) := (blk_cell BK209.out 0).trans rfl; have hcz31_1 : w28.cell? ⟨gb209, 1, none⟩ = some (.int .i64 a1_1) := (blk_cell BK209.out 1).trans rfl; have hcz31_2 : w28.cell? ⟨gb209, 2, none⟩ = some (.int .i64 a1_2) := (blk_cell BK209.out 2).trans rfl; have hcz31_3 : w28.cell? ⟨gb209, 3, none⟩ = some (.int .i64 a1_3) := (blk_cell BK209.out 3).trans rfl; have hfz31_0 := blk_frozen BK209.out 0; have hfz31_1 := blk_frozen BK209.out 1; have hfz31_2 := blk_frozen BK209.out 2; have hfz31_3 := blk_frozen BK209.out 3))
    go_ret
    exact ⟨by first | rfl | (simp [errW_none, errW_some] <;> rfl) | (simp [*, errW_none, errW_some] <;> rfl), by repeat (first | (with_reducible first | exact HB.out | apply below_alloc | apply pw_below_drewN | apply below_drew1 | refine below_set ?_ GE208.out | refine below_set ?_ GE209.out) | exact HB.out)⟩
end Go.Proofs.YtbpffdhkeinmcaaDoor.QF
