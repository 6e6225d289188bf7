/- Part of the proof of the law FnTextsBack: what it uses of the texts that this session and the kit's print wrote. -/
import Derived.Test.YtgnbfmoifnfneaaDoorZFnTextsBackx5
import Derived.Test.YtgnbfmoifnfneaaDoorZFnTextsBackx8
namespace Go.Proofs.YtgnbfmoifnfneaaDoor.QA
open Go.RowKit Go.Proofs.YtgnbfmoifnfneaaDoorW.PrintWords Go.Proofs.YtgnbfmoifnfneaaDoorW.PrintLast Go.Proofs.YtgnbfmoifnfneaaDoorW.PrintMore
attribute [local go_sem] max2_int min2_int max_two min_two max_three min_three max_four min_four
set_option linter.unusedVariables false
set_option linter.unusedSimpArgs false
set_option maxHeartbeats 8000000
set_option maxRecDepth 100000
mutual
def spec_ReqText.j0 : Nat → Bool → Int → ByteArray → Int → Int → Int → Int → ByteArray → Option (ByteArray)
 | 0, _, _, _, _, _, _, _, _ => none
 | k + 1, x27, x220000, x220001, x220002, x220003, x220004, x220005, x220006 => if x27 = true then (some (⟨#[]⟩ : ByteArray)) else (if x220000 = 3 then (spec_ReqText.j1 k (x220000 == 2) true x220000 x220001 x220002 x220003 x220004 x220005 x220006) else (spec_ReqText.j1 k (x220000 == 2) (x220000 == 5) x220000 x220001 x220002 x220003 x220004 x220005 x220006))
def spec_ReqText.j1 : Nat → Bool → Bool → Int → ByteArray → Int → Int → Int → Int → ByteArray → Option (ByteArray)
 | 0, _, _, _, _, _, _, _, _, _ => none
 | k + 1, x3, x4, x220000, x220001, x220002, x220003, x220004, x220005, x220006 => if x3 = true then (if x4 = true then (if x220000 = 6 then (spec_ReqText.j2 k (x220001.toList != ([] : List UInt8)) x220000 x220001 x220002 x220003 x220004 x220005 x220006) else (if x220006.toList = ([] : List UInt8) then ((spec_l26Word.f k x220001).bind fun t224 => (if t224 = true then (spec_ReqText.j2 k false x220000 x220001 x220002 x220003 x220004 x220005 x220006) else (spec_ReqText.j2 k true x220000 x220001 x220002 x220003 x220004 x220005 x220006))) else (spec_ReqText.j2 k true x220000 x220001 x220002 x220003 x220004 x220005 x220006))) else (if x220002 = 0 then (if x220000 = 6 then (spec_ReqText.j2 k (x220001.toList != ([] : List UInt8)) x220000 x220001 x220002 x220003 x220004 x220005 x220006) else (if x220006.toList = ([] : List UInt8) then ((spec_l26Word.f k x220001).bind fun t225 => (if t225 = true then (spec_ReqText.j2 k false x220000 x220001 x220002 x220003 x220004 x220005 x220006) else (spec_ReqText.j2 k true x220000 x220001 x220002 x220003 x220004 x220005 x220006))) else (spec_ReqText.j2 k true x220000 x220001 x220002 x220003 x220004 x220005 x220006))) else (spec_ReqText.j2 k true x220000 x220001 x220002 x220003 x220004 x220005 x220006))) else (if x220003 = 0 then (if x220004 = 0 then (if x4 = true then (if x220000 = 6 then (spec_ReqText.j2 k (x220001.toList != ([] : List UInt8)) x220000 x220001 x220002 x220003 x220004 x220005 x220006) else (if x220006.toList = ([] : List UInt8) then ((spec_l26Word.f k x220001).bind fun t226 => (if t226 = true then (spec_ReqText.j2 k false x220000 x220001 x220002 x220003 x220004 x220005 x220006) else (spec_ReqText.j2 k true x220000 x220001 x220002 x220003 x220004 x220005 x220006))) else (spec_ReqText.j2 k true x220000 x220001 x220002 x220003 x220004 x220005 x220006))) else (if x220002 = 0 then (if x220000 = 6 then (spec_ReqText.j2 k (x220001.toList != ([] : List UInt8)) x220000 x220001 x220002 x220003 x220004 x220005 x220006) else (if x220006.toList = ([] : List UInt8) then ((spec_l26Word.f k x220001).bind fun t227 => (if t227 = true then (spec_ReqText.j2 k false x220000 x220001 x220002 x220003 x220004 x220005 x220006) else (spec_ReqText.j2 k true x220000 x220001 x220002 x220003 x220004 x220005 x220006))) else (spec_ReqText.j2 k true x220000 x220001 x220002 x220003 x220004 x220005 x220006))) else (spec_ReqText.j2 k true x220000 x220001 x220002 x220003 x220004 x220005 x220006))) else (spec_ReqText.j2 k true x220000 x220001 x220002 x220003 x220004 x220005 x220006)) else (spec_ReqText.j2 k true x220000 x220001 x220002 x220003 x220004 x220005 x220006))
def spec_ReqText.j2 : Nat → Bool → Int → ByteArray → Int → Int → Int → Int → ByteArray → Option (ByteArray)
 | 0, _, _, _, _, _, _, _, _ => none
 | k + 1, x85, x220000, x220001, x220002, x220003, x220004, x220005, x220006 => if x85 = true then (some (⟨#[]⟩ : ByteArray)) else (if x220000 = 1 then (if 6 + x220001.size ≤ 9223372036854775807 then (some ((⟨#[99, 104, 101, 99, 107, 32]⟩ : ByteArray) ++ x220001)) else (none)) else (if x220000 = 2 then (if 4 + x220001.size ≤ 9223372036854775807 then (if ((⟨#[116, 111, 112, 32]⟩ : ByteArray) ++ x220001).size + 1 ≤ 9223372036854775807 then ((spec_l04Num.f k x220003).bind fun t228 => (if (((⟨#[116, 111, 112, 32]⟩ : ByteArray) ++ x220001) ++ (⟨#[32]⟩ : ByteArray)).size + t228.size ≤ 9223372036854775807 then (if ((((⟨#[116, 111, 112, 32]⟩ : ByteArray) ++ x220001) ++ (⟨#[32]⟩ : ByteArray)) ++ t228).size + 1 ≤ 9223372036854775807 then ((spec_l04Num.f k x220004).bind fun t229 => (if (((((⟨#[116, 111, 112, 32]⟩ : ByteArray) ++ x220001) ++ (⟨#[32]⟩ : ByteArray)) ++ t228) ++ (⟨#[32]⟩ : ByteArray)).size + t229.size ≤ 9223372036854775807 then (some ((((((⟨#[116, 111, 112, 32]⟩ : ByteArray) ++ x220001) ++ (⟨#[32]⟩ : ByteArray)) ++ t228) ++ (⟨#[32]⟩ : ByteArray)) ++ t229)) else (none))) else (none)) else (none))) else (none)) else (none)) else (if x220000 = 3 then (if 4 + x220001.size ≤ 9223372036854775807 then (if ((⟨#[97, 100, 100, 32]⟩ : ByteArray) ++ x220001).size + 1 ≤ 9223372036854775807 then ((spec_l04Num.f k x220002).bind fun t230 => (if (((⟨#[97, 100, 100, 32]⟩ : ByteArray) ++ x220001) ++ (⟨#[32]⟩ : ByteArray)).size + t230.size ≤ 9223372036854775807 then (some ((((⟨#[97, 100, 100, 32]⟩ : ByteArray) ++ x220001) ++ (⟨#[32]⟩ : ByteArray)) ++ t230)) else (none))) else (none)) else (none)) else (if x220000 = 4 then (if 5 + x220001.size ≤ 9223372036854775807 then (some ((⟨#[100, 114, 111, 112, 32]⟩ : ByteArray) ++ x220001)) else (none)) else (if x220000 = 5 then (if 4 + x220001.size ≤ 9223372036854775807 then (if ((⟨#[115, 101, 116, 32]⟩ : ByteArray) ++ x220001).size + 1 ≤ 9223372036854775807 then ((spec_l04Num.f k x220002).bind fun t231 => (if (((⟨#[115, 101, 116, 32]⟩ : ByteArray) ++ x220001) ++ (⟨#[32]⟩ : ByteArray)).size + t231.size ≤ 9223372036854775807 then (some ((((⟨#[115, 101, 116, 32]⟩ : ByteArray) ++ x220001) ++ (⟨#[32]⟩ : ByteArray)) ++ t231)) else (none))) else (none)) else (none)) else (spec_ReqText.l0 k 0 x220000 x220001 x220002 x220003 x220004 x220005 x220006))))))
def spec_ReqText.l0 : Nat → Int → Int → ByteArray → Int → Int → Int → Int → ByteArray → Option (ByteArray)
 | 0, _, _, _, _, _, _, _, _ => none
 | k + 1, x6, x220000, x220001, x220002, x220003, x220004, x220005, x220006 => if x6 < (x220006.size : Int) then (if 0 ≤ x6 then (if (bt x220006 x6) = 10 then (some (⟨#[]⟩ : ByteArray)) else (spec_ReqText.l0 k (wrap64 (x6 + 1)) x220000 x220001 x220002 x220003 x220004 x220005 x220006)) else (none)) else ((spec_l04Num.f k x220005).bind fun t232 => (if 5 + t232.size ≤ 9223372036854775807 then (if ((⟨#[116, 101, 120, 116, 32]⟩ : ByteArray) ++ t232).size + 1 ≤ 9223372036854775807 then (if (((⟨#[116, 101, 120, 116, 32]⟩ : ByteArray) ++ t232) ++ (⟨#[32]⟩ : ByteArray)).size + x220006.size ≤ 9223372036854775807 then (some ((((⟨#[116, 101, 120, 116, 32]⟩ : ByteArray) ++ t232) ++ (⟨#[32]⟩ : ByteArray)) ++ x220006)) else (none)) else (none)) else (none)))
end
def spec_ReqText.f (k : Nat) (a0_0 : Int) (a0_1 : ByteArray) (a0_2 : Int) (a0_3 : Int) (a0_4 : Int) (a0_5 : Int) (a0_6 : ByteArray) : Option (ByteArray) := (spec_ReqOk.f a0_0 a0_1 a0_2 a0_3 a0_4 a0_5 a0_6).bind fun t220 => (if t220 = true then ((spec_l26Num.f a0_2).bind fun t221 => (if t221 = true then ((spec_l26Num.f a0_3).bind fun t222 => (if t222 = true then ((spec_l26Num.f a0_4).bind fun t223 => (spec_ReqText.j0 k (!t223) a0_0 a0_1 a0_2 a0_3 a0_4 a0_5 a0_6)) else (spec_ReqText.j0 k true a0_0 a0_1 a0_2 a0_3 a0_4 a0_5 a0_6))) else (spec_ReqText.j0 k true a0_0 a0_1 a0_2 a0_3 a0_4 a0_5 a0_6))) else (spec_ReqText.j0 k true a0_0 a0_1 a0_2 a0_3 a0_4 a0_5 a0_6))
def spec_ReqText.T12 : Bool × List (List Nat × List Nat) := (true, [([], []), ([0], [0]), ([1], [1]), ([2], [2]), ([], []), ([4], [4]), ([5], [5]), ([3, 6], [3, 6]), ([7], [7]), ([], []), ([9], [9]), ([10, 6], [10]), ([8, 11], [8, 11]), ([12, 11, 0, 1, 2, 3, 4, 5, 6, 7, 8, 9, 10, 11, 12], [12])])
def spec_ReqText.B12 : List Nat := [0, 1, 3, 7, 0, 16, 48, 127, 255, 0, 512, 1648, 4095, 8191]
theorem spec_ReqText.tab12 : rtab .any (opsOf Tryd.f14 12) = spec_ReqText.T12 := by kernel_rfl
theorem spec_ReqText.bits12 : waitsOk spec_ReqText.T12.2 spec_ReqText.B12 = true := by kernel_rfl
def spec_ReqText.T14 : Bool × List (List Nat × List Nat) := (true, [([], []), ([0], [0]), ([1], [1]), ([2], [2]), ([], []), ([4], [4]), ([5], [5]), ([3, 6], [3, 6]), ([7, 6, 0, 1, 2, 3, 4, 5, 6, 7], [7])])
def spec_ReqText.B14 : List Nat := [0, 1, 3, 7, 0, 16, 48, 127, 255]
theorem spec_ReqText.tab14 : rtab .any (opsOf Tryd.f14 14) = spec_ReqText.T14 := by kernel_rfl
theorem spec_ReqText.bits14 : waitsOk spec_ReqText.T14.2 spec_ReqText.B14 = true := by kernel_rfl
def spec_ReqText.T18 : Bool × List (List Nat × List Nat) := (true, [([], []), ([0], [0]), ([1], [1]), ([2], [2]), ([], []), ([4], [4]), ([5], [5]), ([3, 6], [3, 6]), ([7, 6, 0, 1, 2, 3, 4, 5, 6, 7], [7])])
def spec_ReqText.B18 : List Nat := [0, 1, 3, 7, 0, 16, 48, 127, 255]
theorem spec_ReqText.tab18 : rtab .any (opsOf Tryd.f14 18) = spec_ReqText.T18 := by kernel_rfl
theorem spec_ReqText.bits18 : waitsOk spec_ReqText.T18.2 spec_ReqText.B18 = true := by kernel_rfl
def spec_ReqText.T24 : Bool × List (List Nat × List Nat) := (true, [([], []), ([0], [0]), ([1], [1]), ([2], [2]), ([3], [3]), ([], []), ([5], [5]), ([4, 6], [4, 6]), ([7, 2, 0, 1, 2, 3, 4, 5, 6, 7], [7])])
def spec_ReqText.B24 : List Nat := [0, 1, 3, 7, 15, 0, 32, 127, 255]
theorem spec_ReqText.tab24 : rtab .any (opsOf Tryd.f14 24) = spec_ReqText.T24 := by kernel_rfl
theorem spec_ReqText.bits24 : waitsOk spec_ReqText.T24.2 spec_ReqText.B24 = true := by kernel_rfl
theorem spec_ReqText.bne_nil (l : List UInt8) : (l != ([] : List UInt8)) = !l.isEmpty := by cases l <;> rfl
theorem spec_ReqText.calls (k : Nat) (a0_0 : Int) (a0_1 : ByteArray) (a0_2 : Int) (a0_3 : Int) (a0_4 : Int) (a0_5 : Int) (a0_6 : ByteArray) (r : ByteArray) (w : World) (h : spec_ReqText.f k a0_0 a0_1 a0_2 a0_3 a0_4 a0_5 a0_6 = some r) :
  Calls Tryd.prog 14 #[.agg #[.int .i64 a0_0, .string a0_1, .int .i64 a0_2, .int .i64 a0_3, .int .i64 a0_4, .int .i64 a0_5, .string a0_6]] w fun e w' => e = .returned (.string r) ∧ Below w.heap.size w w' := by
 (have hu23 := Tryd.underlying23); (have HB := Aside0.mk (Below.refl w.heap.size w)); (have H : ((spec_ReqOk.f a0_0 a0_1 a0_2 a0_3 a0_4 a0_5 a0_6).bind fun t220 => (if t220 = true then ((spec_l26Num.f a0_2).bind fun t221 => (if t221 = true then ((spec_l26Num.f a0_3).bind fun t222 => (if t222 = true then ((spec_l26Num.f a0_4).bind fun t223 => (spec_ReqText.j0 k (!t223) a0_0 a0_1 a0_2 a0_3 a0_4 a0_5 a0_6)) else (spec_ReqText.j0 k true a0_0 a0_1 a0_2 a0_3 a0_4 a0_5 a0_6))) else (spec_ReqText.j0 k true a0_0 a0_1 a0_2 a0_3 a0_4 a0_5 a0_6))) else (spec_ReqText.j0 k true a0_0 a0_1 a0_2 a0_3 a0_4 a0_5 a0_6))) = some r := h); clear h; (have HC2 := Aside0.mk H); clear H
 go_enter Tryd.func14, Tryd.ntmps14
 go_upto_region 1 with (first | ((with_reducible refine gate_dst (N := 1) rfl ?_); refine box_event ?hg (N := 1) ?hd (cs := #[.int .i64 a0_0, .string a0_1, .int .i64 a0_2, .int .i64 a0_3, .int .i64 a0_4, .int .i64 a0_5, .string a0_6]) (t := 23) ?hr ?_; (case hd => rfl); (case hg => rfl); (case hr => first | (go_simp; done) | (go_simp; rfl)); intro gb219 hg w3 hbox hb; have BK219 := Aside0.mk (hbox); have GW219 := qG hg (below_size (qS0 HB)); have GE219 := qG hg (below_size (qS0 HB)); replace HB := Aside0.mk (below_step (qS0 HB) hb); clear hb hbox hg))
 (try simp only [Act.put, List.setIfInBounds_toArray, List.set_cons_zero, List.set_cons_succ])
 go_cut [27] (fun v27 wc => ∃ (kq : Nat) (x27_1 : Bool), v27 = .bool x27_1 ∧ Aside0 (spec_ReqText.j0 kq x27_1 a0_0 a0_1 a0_2 a0_3 a0_4 a0_5 a0_6 = some r) ∧ Aside0 (kq ≤ k) ∧ Aside0 (wc.heap[gb219]? = some (.cells #[.int .i64 a0_0, .string a0_1, .int .i64 a0_2, .int .i64 a0_3, .int .i64 a0_4, .int .i64 a0_5, .string a0_6] 23 (0, 0))) ∧ Aside0 (Below w.heap.size w wc))
 case first JJ KK hRJ hMK =>
  (have H := HC2.out); clear HC2; (obtain ⟨t220, A4, H⟩ := qX H)
  try dsimp only at H
  by_cases c5 : t220 = true
  ·subst c5
   (have H1 : ((spec_l26Num.f a0_2).bind fun t221 => (if t221 = true then ((spec_l26Num.f a0_3).bind fun t222 => (if t222 = true then ((spec_l26Num.f a0_4).bind fun t223 => (spec_ReqText.j0 k (!t223) a0_0 a0_1 a0_2 a0_3 a0_4 a0_5 a0_6)) else (spec_ReqText.j0 k true a0_0 a0_1 a0_2 a0_3 a0_4 a0_5 a0_6))) else (spec_ReqText.j0 k true a0_0 a0_1 a0_2 a0_3 a0_4 a0_5 a0_6))) = some r := by rw [if_pos rfl] at H; exact H); clear H; (have H := H1); clear H1; (obtain ⟨t221, A6, H⟩ := qX H)
   try dsimp only at H
   by_cases c7 : t221 = true
   ·subst c7
    (have H1 : ((spec_l26Num.f a0_3).bind fun t222 => (if t222 = true then ((spec_l26Num.f a0_4).bind fun t223 => (spec_ReqText.j0 k (!t223) a0_0 a0_1 a0_2 a0_3 a0_4 a0_5 a0_6)) else (spec_ReqText.j0 k true a0_0 a0_1 a0_2 a0_3 a0_4 a0_5 a0_6))) = some r := by rw [if_pos rfl] at H; exact H); clear H; (have H := H1); clear H1; (obtain ⟨t222, A8, H⟩ := qX H)
    try dsimp only at H
    by_cases c9 : t222 = true
    ·subst c9
     (have H1 : ((spec_l26Num.f a0_4).bind fun t223 => (spec_ReqText.j0 k (!t223) a0_0 a0_1 a0_2 a0_3 a0_4 a0_5 a0_6)) = some r := by rw [if_pos rfl] at H; exact H); clear H; (have H := H1); clear H1; (obtain ⟨t223, A10, H⟩ := qX H); (replace H : (spec_ReqText.j0 k (!t223) a0_0 a0_1 a0_2 a0_3 a0_4 a0_5 a0_6) = some r := H); (have H' := Aside0.mk H); clear H; (obtain ⟨hcz11_0, hcz11_1, hcz11_2, hcz11_3, hcz11_4, hcz11_5, hcz11_6, hfz11_0, hfz11_1, hfz11_2, hfz11_3, hfz11_4, hfz11_5, hfz11_6⟩ := qC7 BK219)
     go_wp2_with (first | ((with_reducible refine gate_callee (f := 29) rfl ?_); refine goesL_ (some 8) rfl rfl Tryd.func29 (by kernel_rfl) rfl #[.agg #[.int .i64 a0_0, .string a0_1, .int .i64 a0_2, .int .i64 a0_3, .int .i64 a0_4, .int .i64 a0_5, .string a0_6]] rfl qL ?_; (with_reducible refine (spec_ReqOk.calls a0_0 a0_1 a0_2 a0_3 a0_4 a0_5 a0_6 true _ A4.out).mono ?_); rintro e w12 ⟨rfl, hb⟩; refine ⟨_, rfl, ?_⟩; replace BK219 := qD BK219 hb; replace HB := Aside0.mk (below_step (qS1 HB GE219) hb); (try clear hb); (try clear hb2); (try clear hk); (try clear hi); obtain ⟨hcz13_0, hcz13_1, hcz13_2, hcz13_3, hcz13_4, hcz13_5, hcz13_6, hfz13_0, hfz13_1, hfz13_2, hfz13_3, hfz13_4, hfz13_5, hfz13_6⟩ := qC7 BK219) | (go_at_call 27; (with_reducible refine (spec_l26Num.calls a0_2 true _ A6.out).mono ?_); rintro e w' ⟨rfl, ⟨nd, rfl⟩⟩) | (go_at_call 27; (with_reducible refine (spec_l26Num.calls a0_3 true _ A8.out).mono ?_); rintro e w' ⟨rfl, ⟨nd, rfl⟩⟩) | (go_at_call 27; (with_reducible refine (spec_l26Num.calls a0_4 t223 _ A10.out).mono ?_); rintro e w' ⟨rfl, ⟨nd, rfl⟩⟩))
     go_meet
     case rel => exact ⟨_, (!t223), qV, H', ⟨by first | omega | exact Nat.le_refl _⟩, ⟨qB BK219⟩, ⟨qS1 HB GE219⟩⟩
    ·replace c9 := Bool.eq_false_iff.mpr c9
     (subst c9); (have H1 : (spec_ReqText.j0 k true a0_0 a0_1 a0_2 a0_3 a0_4 a0_5 a0_6) = some r := by rw [if_neg (show ¬ (false = true) by decide)] at H; exact H); clear H; (have H := H1); clear H1; (have H' := Aside0.mk H); clear H; (obtain ⟨hcz14_0, hcz14_1, hcz14_2, hcz14_3, hcz14_4, hcz14_5, hcz14_6, hfz14_0, hfz14_1, hfz14_2, hfz14_3, hfz14_4, hfz14_5, hfz14_6⟩ := qC7 BK219)
     go_wp2_with (first | ((with_reducible refine gate_callee (f := 29) rfl ?_); refine goesL_ (some 8) rfl rfl Tryd.func29 (by kernel_rfl) rfl #[.agg #[.int .i64 a0_0, .string a0_1, .int .i64 a0_2, .int .i64 a0_3, .int .i64 a0_4, .int .i64 a0_5, .string a0_6]] rfl qL ?_; (with_reducible refine (spec_ReqOk.calls a0_0 a0_1 a0_2 a0_3 a0_4 a0_5 a0_6 true _ A4.out).mono ?_); rintro e w15 ⟨rfl, hb⟩; refine ⟨_, rfl, ?_⟩; replace BK219 := qD BK219 hb; replace HB := Aside0.mk (below_step (qS1 HB GE219) hb); (try clear hb); (try clear hb2); (try clear hk); (try clear hi); obtain ⟨hcz16_0, hcz16_1, hcz16_2, hcz16_3, hcz16_4, hcz16_5, hcz16_6, hfz16_0, hfz16_1, hfz16_2, hfz16_3, hfz16_4, hfz16_5, hfz16_6⟩ := qC7 BK219) | (go_at_call 27; (with_reducible refine (spec_l26Num.calls a0_2 true _ A6.out).mono ?_); rintro e w' ⟨rfl, ⟨nd, rfl⟩⟩) | (go_at_call 27; (with_reducible refine (spec_l26Num.calls a0_3 false _ A8.out).mono ?_); rintro e w' ⟨rfl, ⟨nd, rfl⟩⟩))
     go_meet
     case rel => exact ⟨_, (true), qV, H', ⟨by first | omega | exact Nat.le_refl _⟩, ⟨qB BK219⟩, ⟨qS1 HB GE219⟩⟩
   ·replace c7 := Bool.eq_false_iff.mpr c7
    (subst c7); (have H1 : (spec_ReqText.j0 k true a0_0 a0_1 a0_2 a0_3 a0_4 a0_5 a0_6) = some r := by rw [if_neg (show ¬ (false = true) by decide)] at H; exact H); clear H; (have H := H1); clear H1; (have H' := Aside0.mk H); clear H; (obtain ⟨hcz17_0, hcz17_1, hcz17_2, hcz17_3, hcz17_4, hcz17_5, hcz17_6, hfz17_0, hfz17_1, hfz17_2, hfz17_3, hfz17_4, hfz17_5, hfz17_6⟩ := qC7 BK219)
    go_wp2_with (first | ((with_reducible refine gate_callee (f := 29) rfl ?_); refine goesL_ (some 8) rfl rfl Tryd.func29 (by kernel_rfl) rfl #[.agg #[.int .i64 a0_0, .string a0_1, .int .i64 a0_2, .int .i64 a0_3, .int .i64 a0_4, .int .i64 a0_5, .string a0_6]] rfl qL ?_; (with_reducible refine (spec_ReqOk.calls a0_0 a0_1 a0_2 a0_3 a0_4 a0_5 a0_6 true _ A4.out).mono ?_); rintro e w18 ⟨rfl, hb⟩; refine ⟨_, rfl, ?_⟩; replace BK219 := qD BK219 hb; replace HB := Aside0.mk (below_step (qS1 HB GE219) hb); (try clear hb); (try clear hb2); (try clear hk); (try clear hi); obtain ⟨hcz19_0, hcz19_1, hcz19_2, hcz19_3, hcz19_4, hcz19_5, hcz19_6, hfz19_0, hfz19_1, hfz19_2, hfz19_3, hfz19_4, hfz19_5, hfz19_6⟩ := qC7 BK219) | (go_at_call 27; (with_reducible refine (spec_l26Num.calls a0_2 false _ A6.out).mono ?_); rintro e w' ⟨rfl, ⟨nd, rfl⟩⟩))
    go_meet
    case rel => exact ⟨_, (true), qV, H', ⟨by first | omega | exact Nat.le_refl _⟩, ⟨qB BK219⟩, ⟨qS1 HB GE219⟩⟩
  ·replace c5 := Bool.eq_false_iff.mpr c5
   (subst c5); (have H1 : (spec_ReqText.j0 k true a0_0 a0_1 a0_2 a0_3 a0_4 a0_5 a0_6) = some r := by rw [if_neg (show ¬ (false = true) by decide)] at H; exact H); clear H; (have H := H1); clear H1; (have H' := Aside0.mk H); clear H; (obtain ⟨hcz20_0, hcz20_1, hcz20_2, hcz20_3, hcz20_4, hcz20_5, hcz20_6, hfz20_0, hfz20_1, hfz20_2, hfz20_3, hfz20_4, hfz20_5, hfz20_6⟩ := qC7 BK219)
   go_wp2_with (first | ((with_reducible refine gate_callee (f := 29) rfl ?_); refine goesL_ (some 8) rfl rfl Tryd.func29 (by kernel_rfl) rfl #[.agg #[.int .i64 a0_0, .string a0_1, .int .i64 a0_2, .int .i64 a0_3, .int .i64 a0_4, .int .i64 a0_5, .string a0_6]] rfl qL ?_; (with_reducible refine (spec_ReqOk.calls a0_0 a0_1 a0_2 a0_3 a0_4 a0_5 a0_6 false _ A4.out).mono ?_); rintro e w21 ⟨rfl, hb⟩; refine ⟨_, rfl, ?_⟩; replace BK219 := qD BK219 hb; replace HB := Aside0.mk (below_step (qS1 HB GE219) hb); (try clear hb); (try clear hb2); (try clear hk); (try clear hi)))
   go_meet
   case rel => exact ⟨_, (true), qV, H', ⟨by first | omega | exact Nat.le_refl _⟩, ⟨qB BK219⟩, ⟨qS1 HB GE219⟩⟩
 case rest =>
  clear HC2; (try clear c5); (try clear c7); (try clear c9); (try clear hcz11_0); (try clear hcz11_1); (try clear hcz11_2); (try clear hcz11_3); (try clear hcz11_4); (try clear hcz11_5); (try clear hcz11_6); (try clear hcz13_0); (try clear hcz13_1); (try clear hcz13_2); (try clear hcz13_3); (try clear hcz13_4); (try clear hcz13_5); (try clear hcz13_6); (try clear hcz14_0); (try clear hcz14_1); (try clear hcz14_2); (try clear hcz14_3); (try clear hcz14_4); (try clear hcz14_5); (try clear hcz14_6); (try clear hcz16_0); (try clear hcz16_1); (try clear hcz16_2); (try clear hcz16_3); (try clear hcz16_4); (try clear hcz16_5); (try clear hcz16_6); (try clear hcz17_0); (try clear hcz17_1); (try clear hcz17_2); (try clear hcz17_3); (try clear hcz17_4); (try clear hcz17_5); (try clear hcz17_6); (try clear hcz19_0); (try clear hcz19_1); (try clear hcz19_2); (try clear hcz19_3); (try clear hcz19_4); (try clear hcz19_5); (try clear hcz19_6); (try clear hcz20_0); (try clear hcz20_1); (try clear hcz20_2); (try clear hcz20_3); (try clear hcz20_4); (try clear hcz20_5); (try clear hcz20_6); (try clear hfz11_0); (try clear hfz11_1); (try clear hfz11_2); (try clear hfz11_3); (try clear hfz11_4); (try clear hfz11_5); (try clear hfz11_6); (try clear hfz13_0); (try clear hfz13_1); (try clear hfz13_2); (try clear hfz13_3); (try clear hfz13_4); (try clear hfz13_5); (try clear hfz13_6); (try clear hfz14_0); (try clear hfz14_1); (try clear hfz14_2); (try clear hfz14_3); (try clear hfz14_4); (try clear hfz14_5); (try clear hfz14_6); (try clear hfz16_0); (try clear hfz16_1); (try clear hfz16_2); (try clear hfz16_3); (try clear hfz16_4); (try clear hfz16_5); (try clear hfz16_6); (try clear hfz17_0); (try clear hfz17_1); (try clear hfz17_2); (try clear hfz17_3); (try clear hfz17_4); (try clear hfz17_5); (try clear hfz17_6); (try clear hfz19_0); (try clear hfz19_1); (try clear hfz19_2); (try clear hfz19_3); (try clear hfz19_4); (try clear hfz19_5); (try clear hfz19_6); (try clear hfz20_0); (try clear hfz20_1); (try clear hfz20_2); (try clear hfz20_3); (try clear hfz20_4); (try clear hfz20_5); (try clear hfz20_6); (obtain ⟨kq, x27_1, rfl, HA, HJ1, BK219, HB⟩ := hcut)
  cases kq with
  | zero => exact absurd HA.out (by simp [spec_ReqText.j0])
  | succ kj1 =>
   (have H := HA.out); clear HA; (simp only [spec_ReqText.j0] at H)
   by_cases c22 : x27_1 = true
   ·subst c22
    (have H1 : (some (⟨#[]⟩ : ByteArray)) = some r := by rw [if_pos rfl] at H; exact H); clear H; (have H := H1); clear H1; (obtain rfl := Option.some.inj H)
    go_wp2
    go_ret
    exact ⟨qE, qS1 HB GE219⟩
   ·replace c22 := Bool.eq_false_iff.mpr c22
    (subst c22); (have H1 : (if a0_0 = 3 then (spec_ReqText.j1 kj1 (a0_0 == 2) true a0_0 a0_1 a0_2 a0_3 a0_4 a0_5 a0_6) else (spec_ReqText.j1 kj1 (a0_0 == 2) (a0_0 == 5) a0_0 a0_1 a0_2 a0_3 a0_4 a0_5 a0_6)) = some r := by rw [if_neg (show ¬ (false = true) by decide)] at H; exact H); clear H; (have H := H1); clear H1; (have HC23 := Aside0.mk H); clear H; (obtain ⟨hcz24_0, hcz24_1, hcz24_2, hcz24_3, hcz24_4, hcz24_5, hcz24_6, hfz24_0, hfz24_1, hfz24_2, hfz24_3, hfz24_4, hfz24_5, hfz24_6⟩ := qC7 BK219)
    go_upto_region 4 with (fail)
    go_cut [4] (fun v4 wc => ∃ (kq : Nat) (x4_22 : Bool), v4 = .bool x4_22 ∧ Aside0 (spec_ReqText.j1 kq (a0_0 == 2) x4_22 a0_0 a0_1 a0_2 a0_3 a0_4 a0_5 a0_6 = some r) ∧ Aside0 (kq ≤ kj1) ∧ Aside0 (wc.heap[gb219]? = some (.cells #[.int .i64 a0_0, .string a0_1, .int .i64 a0_2, .int .i64 a0_3, .int .i64 a0_4, .int .i64 a0_5, .string a0_6] 23 (0, 0))) ∧ Aside0 (Below w.heap.size w wc))
    case first JJ KK hRJ hMK =>
     (have H := HC23.out); clear HC23
     rcases qJ H with ⟨c25, H⟩ | ⟨c25, H⟩
     ·have c25b0 : (a0_0 == 3) = true := beq_iff_eq.mpr c25
      (have c25b1 : (a0_0 != 3) = false := bne_eq_false_iff_eq.mpr c25); clear c25
      (first | rw [c25b0] | (simp only [i64_w, i32_w]; rw [c25b0]) | skip)
      (have H' := Aside0.mk H); clear H; (obtain ⟨hcz26_0, hcz26_1, hcz26_2, hcz26_3, hcz26_4, hcz26_5, hcz26_6, hfz26_0, hfz26_1, hfz26_2, hfz26_3, hfz26_4, hfz26_5, hfz26_6⟩ := qC7 BK219)
      go_wp2
      go_meet
      case rel => exact ⟨_, (true), qV, H', ⟨by have := HJ1.out; first | omega | exact Nat.le_refl _⟩, ⟨qB BK219⟩, ⟨qS1 HB GE219⟩⟩
     ·have c25b0 : (a0_0 == 3) = false := beq_eq_false_iff_ne.mpr c25
      have c25b1 : (a0_0 != 3) = true := bne_iff_ne.mpr c25
      (first | rw [c25b0] | (simp only [i64_w, i32_w]; rw [c25b0]) | skip)
      (have H' := Aside0.mk H); clear H; (obtain ⟨hcz27_0, hcz27_1, hcz27_2, hcz27_3, hcz27_4, hcz27_5, hcz27_6, hfz27_0, hfz27_1, hfz27_2, hfz27_3, hfz27_4, hfz27_5, hfz27_6⟩ := qC7 BK219)
      go_wp2
      go_meet
      case rel => exact ⟨_, ((a0_0 == 5)), qV, H', ⟨by have := HJ1.out; first | omega | exact Nat.le_refl _⟩, ⟨qB BK219⟩, ⟨qS1 HB GE219⟩⟩
    case rest =>
     clear HC23; (try clear c22); (try clear c25b0); (try clear c25b1); (try clear hcz24_0); (try clear hcz24_1); (try clear hcz24_2); (try clear hcz24_3); (try clear hcz24_4); (try clear hcz24_5); (try clear hcz24_6); (try clear hcz26_0); (try clear hcz26_1); (try clear hcz26_2); (try clear hcz26_3); (try clear hcz26_4); (try clear hcz26_5); (try clear hcz26_6); (try clear hcz27_0); (try clear hcz27_1); (try clear hcz27_2); (try clear hcz27_3); (try clear hcz27_4); (try clear hcz27_5); (try clear hcz27_6); (try clear hfz24_0); (try clear hfz24_1); (try clear hfz24_2); (try clear hfz24_3); (try clear hfz24_4); (try clear hfz24_5); (try clear hfz24_6); (try clear hfz26_0); (try clear hfz26_1); (try clear hfz26_2); (try clear hfz26_3); (try clear hfz26_4); (try clear hfz26_5); (try clear hfz26_6); (try clear hfz27_0); (try clear hfz27_1); (try clear hfz27_2); (try clear hfz27_3); (try clear hfz27_4); (try clear hfz27_5); (try clear hfz27_6); (obtain ⟨kq, x4_22, rfl, HA, HJ22, BK219, HB⟩ := hcut)
     cases kq with
     | zero => exact absurd HA.out (by simp [spec_ReqText.j1])
     | succ kj22 =>
      (have H := HA.out); clear HA; (simp only [spec_ReqText.j1] at H); (have HC28 := Aside0.mk H); clear H; (obtain ⟨hcz29_0, hcz29_1, hcz29_2, hcz29_3, hcz29_4, hcz29_5, hcz29_6, hfz29_0, hfz29_1, hfz29_2, hfz29_3, hfz29_4, hfz29_5, hfz29_6⟩ := qC7 BK219)
      go_upto_region 6 with (fail)
      go_cut [85] (fun v85 wc => ∃ (kq : Nat) (x85_27 : Bool), v85 = .bool x85_27 ∧ Aside0 (spec_ReqText.j2 kq x85_27 a0_0 a0_1 a0_2 a0_3 a0_4 a0_5 a0_6 = some r) ∧ Aside0 (kq ≤ kj22) ∧ Aside0 (wc.heap[gb219]? = some (.cells #[.int .i64 a0_0, .string a0_1, .int .i64 a0_2, .int .i64 a0_3, .int .i64 a0_4, .int .i64 a0_5, .string a0_6] 23 (0, 0))) ∧ Aside0 (Below w.heap.size w wc))
      case first JJ KK hRJ hMK =>
       (have H := HC28.out); clear HC28
       rcases qJ H with ⟨c30, H⟩ | ⟨c30, H⟩
       ·have c30b0 : (a0_0 == 2) = true := c30
        (try (have c30b1 : decide (a0_0 = 2) = true := by simpa using c30)); (try (have c30b2 : (a0_0 == 2) = true := by simpa using c30)); clear c30
        (first | rw [c30b0] | (simp only [i64_w, i32_w]; rw [c30b0]) | skip)
        by_cases c31 : x4_22 = true
        ·subst c31
         (have H1 : (if a0_0 = 6 then (spec_ReqText.j2 kj22 (a0_1.toList != ([] : List UInt8)) a0_0 a0_1 a0_2 a0_3 a0_4 a0_5 a0_6) else (if a0_6.toList = ([] : List UInt8) then ((spec_l26Word.f kj22 a0_1).bind fun t224 => (if t224 = true then (spec_ReqText.j2 kj22 false a0_0 a0_1 a0_2 a0_3 a0_4 a0_5 a0_6) else (spec_ReqText.j2 kj22 true a0_0 a0_1 a0_2 a0_3 a0_4 a0_5 a0_6))) else (spec_ReqText.j2 kj22 true a0_0 a0_1 a0_2 a0_3 a0_4 a0_5 a0_6))) = some r := by rw [if_pos rfl] at H; exact H); clear H; (have H := H1); clear H1
         rcases qJ H with ⟨c32, H⟩ | ⟨c32, H⟩
         ·have c32b0 : (a0_0 == 6) = true := beq_iff_eq.mpr c32
          exact absurd (eq_of_beq c32b0) (by rw [eq_of_beq c30b0]; decide)
         ·have c32b0 : (a0_0 == 6) = false := beq_eq_false_iff_ne.mpr c32
          have c32b1 : (a0_0 != 6) = true := bne_iff_ne.mpr c32
          rcases qJ H with ⟨c34, H⟩ | ⟨c34, H⟩
          ·have c34b0 : (a0_6.toList == ([] : List UInt8)) = true := beq_iff_eq.mpr c34
           (have c34b1 : (a0_6.toList != ([] : List UInt8)) = false := bne_eq_false_iff_eq.mpr c34); clear c34; (obtain ⟨t224, A35, H⟩ := qX H)
           try dsimp only at H
           by_cases c36 : t224 = true
           ·subst c36
            (have H1 : (spec_ReqText.j2 kj22 false a0_0 a0_1 a0_2 a0_3 a0_4 a0_5 a0_6) = some r := by rw [if_pos rfl] at H; exact H); clear H; (have H := H1); clear H1; (have H' := Aside0.mk H); clear H; (obtain ⟨hcz37_0, hcz37_1, hcz37_2, hcz37_3, hcz37_4, hcz37_5, hcz37_6, hfz37_0, hfz37_1, hfz37_2, hfz37_3, hfz37_4, hfz37_5, hfz37_6⟩ := qC7 BK219)
            go_wp2_with (first | (go_at_call 30; (with_reducible refine (spec_l26Word.calls kj22 a0_1 true _ A35.out).mono ?_); rintro e w' ⟨rfl, ⟨nd, rfl⟩⟩))
            (try rw [c30b0] at hRJ); (try rw [c30b0]); (try rw [c32b0] at hRJ); (try rw [c32b0])
            go_meet
            case rel => exact ⟨_, (false), qV, H', ⟨by have := HJ1.out; have := HJ22.out; first | omega | exact Nat.le_refl _⟩, ⟨qB BK219⟩, ⟨qS1 HB GE219⟩⟩
           ·replace c36 := Bool.eq_false_iff.mpr c36
            (subst c36); (have H1 : (spec_ReqText.j2 kj22 true a0_0 a0_1 a0_2 a0_3 a0_4 a0_5 a0_6) = some r := by rw [if_neg (show ¬ (false = true) by decide)] at H; exact H); clear H; (have H := H1); clear H1; (have H' := Aside0.mk H); clear H; (obtain ⟨hcz38_0, hcz38_1, hcz38_2, hcz38_3, hcz38_4, hcz38_5, hcz38_6, hfz38_0, hfz38_1, hfz38_2, hfz38_3, hfz38_4, hfz38_5, hfz38_6⟩ := qC7 BK219)
            go_wp2_with (first | (go_at_call 30; (with_reducible refine (spec_l26Word.calls kj22 a0_1 false _ A35.out).mono ?_); rintro e w' ⟨rfl, ⟨nd, rfl⟩⟩))
            (try rw [c30b0] at hRJ); (try rw [c30b0]); (try rw [c32b0] at hRJ); (try rw [c32b0])
            go_meet
            case rel => exact ⟨_, (true), qV, H', ⟨by have := HJ1.out; have := HJ22.out; first | omega | exact Nat.le_refl _⟩, ⟨qB BK219⟩, ⟨qS1 HB GE219⟩⟩
          ·have c34b0 : (a0_6.toList == ([] : List UInt8)) = false := beq_eq_false_iff_ne.mpr c34
           (have c34b1 : (a0_6.toList != ([] : List UInt8)) = true := bne_iff_ne.mpr c34); (have H' := Aside0.mk H); clear H; (obtain ⟨hcz39_0, hcz39_1, hcz39_2, hcz39_3, hcz39_4, hcz39_5, hcz39_6, hfz39_0, hfz39_1, hfz39_2, hfz39_3, hfz39_4, hfz39_5, hfz39_6⟩ := qC7 BK219)
           go_wp2
           (try rw [c30b0] at hRJ); (try rw [c30b0]); (try rw [c32b0] at hRJ); (try rw [c32b0])
           go_meet
           case rel => exact ⟨_, (true), qV, H', ⟨by have := HJ1.out; have := HJ22.out; first | omega | exact Nat.le_refl _⟩, ⟨qB BK219⟩, ⟨qS1 HB GE219⟩⟩
        ·replace c31 := Bool.eq_false_iff.mpr c31
         (subst c31); (have H1 : (if a0_2 = 0 then (if a0_0 = 6 then (spec_ReqText.j2 kj22 (a0_1.toList != ([] : List UInt8)) a0_0 a0_1 a0_2 a0_3 a0_4 a0_5 a0_6) else (if a0_6.toList = ([] : List UInt8) then ((spec_l26Word.f kj22 a0_1).bind fun t225 => (if t225 = true then (spec_ReqText.j2 kj22 false a0_0 a0_1 a0_2 a0_3 a0_4 a0_5 a0_6) else (spec_ReqText.j2 kj22 true a0_0 a0_1 a0_2 a0_3 a0_4 a0_5 a0_6))) else (spec_ReqText.j2 kj22 true a0_0 a0_1 a0_2 a0_3 a0_4 a0_5 a0_6))) else (spec_ReqText.j2 kj22 true a0_0 a0_1 a0_2 a0_3 a0_4 a0_5 a0_6)) = some r := by rw [if_neg (show ¬ (false = true) by decide)] at H; exact H); clear H; (have H := H1); clear H1
         rcases qJ H with ⟨c40, H⟩ | ⟨c40, H⟩
         ·have c40b0 : (a0_2 == 0) = true := beq_iff_eq.mpr c40
          (have c40b1 : (a0_2 != 0) = false := bne_eq_false_iff_eq.mpr c40); clear c40
          rcases qJ H with ⟨c41, H⟩ | ⟨c41, H⟩
          ·have c41b0 : (a0_0 == 6) = true := beq_iff_eq.mpr c41
           exact absurd (eq_of_beq c41b0) (by rw [eq_of_beq c30b0]; decide)
          ·have c41b0 : (a0_0 == 6) = false := beq_eq_false_iff_ne.mpr c41
           have c41b1 : (a0_0 != 6) = true := bne_iff_ne.mpr c41
           rcases qJ H with ⟨c43, H⟩ | ⟨c43, H⟩
           ·have c43b0 : (a0_6.toList == ([] : List UInt8)) = true := beq_iff_eq.mpr c43
            (have c43b1 : (a0_6.toList != ([] : List UInt8)) = false := bne_eq_false_iff_eq.mpr c43); clear c43; (obtain ⟨t225, A44, H⟩ := qX H)
            try dsimp only at H
            by_cases c45 : t225 = true
            ·subst c45
             (have H1 : (spec_ReqText.j2 kj22 false a0_0 a0_1 a0_2 a0_3 a0_4 a0_5 a0_6) = some r := by rw [if_pos rfl] at H; exact H); clear H; (have H := H1); clear H1; (have H' := Aside0.mk H); clear H; (obtain ⟨hcz46_0, hcz46_1, hcz46_2, hcz46_3, hcz46_4, hcz46_5, hcz46_6, hfz46_0, hfz46_1, hfz46_2, hfz46_3, hfz46_4, hfz46_5, hfz46_6⟩ := qC7 BK219)
             go_wp2_with (first | (go_at_call 30; (with_reducible refine (spec_l26Word.calls kj22 a0_1 true _ A44.out).mono ?_); rintro e w' ⟨rfl, ⟨nd, rfl⟩⟩))
             (try rw [c30b0] at hRJ); (try rw [c30b0]); (try rw [c41b0] at hRJ); (try rw [c41b0])
             go_meet
             case rel => exact ⟨_, (false), qV, H', ⟨by have := HJ1.out; have := HJ22.out; first | omega | exact Nat.le_refl _⟩, ⟨qB BK219⟩, ⟨qS1 HB GE219⟩⟩
            ·replace c45 := Bool.eq_false_iff.mpr c45
             (subst c45); (have H1 : (spec_ReqText.j2 kj22 true a0_0 a0_1 a0_2 a0_3 a0_4 a0_5 a0_6) = some r := by rw [if_neg (show ¬ (false = true) by decide)] at H; exact H); clear H; (have H := H1); clear H1; (have H' := Aside0.mk H); clear H; (obtain ⟨hcz47_0, hcz47_1, hcz47_2, hcz47_3, hcz47_4, hcz47_5, hcz47_6, hfz47_0, hfz47_1, hfz47_2, hfz47_3, hfz47_4, hfz47_5, hfz47_6⟩ := qC7 BK219)
             go_wp2_with (first | (go_at_call 30; (with_reducible refine (spec_l26Word.calls kj22 a0_1 false _ A44.out).mono ?_); rintro e w' ⟨rfl, ⟨nd, rfl⟩⟩))
             (try rw [c30b0] at hRJ); (try rw [c30b0]); (try rw [c41b0] at hRJ); (try rw [c41b0])
             go_meet
             case rel => exact ⟨_, (true), qV, H', ⟨by have := HJ1.out; have := HJ22.out; first | omega | exact Nat.le_refl _⟩, ⟨qB BK219⟩, ⟨qS1 HB GE219⟩⟩
           ·have c43b0 : (a0_6.toList == ([] : List UInt8)) = false := beq_eq_false_iff_ne.mpr c43
            (have c43b1 : (a0_6.toList != ([] : List UInt8)) = true := bne_iff_ne.mpr c43); (have H' := Aside0.mk H); clear H; (obtain ⟨hcz48_0, hcz48_1, hcz48_2, hcz48_3, hcz48_4, hcz48_5, hcz48_6, hfz48_0, hfz48_1, hfz48_2, hfz48_3, hfz48_4, hfz48_5, hfz48_6⟩ := qC7 BK219)
            go_wp2
            (try rw [c30b0] at hRJ); (try rw [c30b0]); (try rw [c41b0] at hRJ); (try rw [c41b0])
            go_meet
            case rel => exact ⟨_, (true), qV, H', ⟨by have := HJ1.out; have := HJ22.out; first | omega | exact Nat.le_refl _⟩, ⟨qB BK219⟩, ⟨qS1 HB GE219⟩⟩
         ·have c40b0 : (a0_2 == 0) = false := beq_eq_false_iff_ne.mpr c40
          (have c40b1 : (a0_2 != 0) = true := bne_iff_ne.mpr c40); (have H' := Aside0.mk H); clear H; (obtain ⟨hcz49_0, hcz49_1, hcz49_2, hcz49_3, hcz49_4, hcz49_5, hcz49_6, hfz49_0, hfz49_1, hfz49_2, hfz49_3, hfz49_4, hfz49_5, hfz49_6⟩ := qC7 BK219)
          go_wp2
          (try rw [c30b0] at hRJ); (try rw [c30b0])
          go_meet
          case rel => exact ⟨_, (true), qV, H', ⟨by have := HJ1.out; have := HJ22.out; first | omega | exact Nat.le_refl _⟩, ⟨qB BK219⟩, ⟨qS1 HB GE219⟩⟩
       ·have c30b0 : (a0_0 == 2) = false := by simpa using c30
        (try (have c30b1 : decide (a0_0 = 2) = false := by simpa using c30)); (try (have c30b2 : (a0_0 == 2) = false := by simpa using c30)); (try (have c30b3 : ¬ (a0_0 = 2) := by simpa using c30)); clear c30
        (first | rw [c30b0] | (simp only [i64_w, i32_w]; rw [c30b0]) | skip)
        rcases qJ H with ⟨c50, H⟩ | ⟨c50, H⟩
        ·have c50b0 : (a0_3 == 0) = true := beq_iff_eq.mpr c50
         (have c50b1 : (a0_3 != 0) = false := bne_eq_false_iff_eq.mpr c50); clear c50
         rcases qJ H with ⟨c51, H⟩ | ⟨c51, H⟩
         ·have c51b0 : (a0_4 == 0) = true := beq_iff_eq.mpr c51
          (have c51b1 : (a0_4 != 0) = false := bne_eq_false_iff_eq.mpr c51); clear c51
          by_cases c52 : x4_22 = true
          ·subst c52
           (have H1 : (if a0_0 = 6 then (spec_ReqText.j2 kj22 (a0_1.toList != ([] : List UInt8)) a0_0 a0_1 a0_2 a0_3 a0_4 a0_5 a0_6) else (if a0_6.toList = ([] : List UInt8) then ((spec_l26Word.f kj22 a0_1).bind fun t226 => (if t226 = true then (spec_ReqText.j2 kj22 false a0_0 a0_1 a0_2 a0_3 a0_4 a0_5 a0_6) else (spec_ReqText.j2 kj22 true a0_0 a0_1 a0_2 a0_3 a0_4 a0_5 a0_6))) else (spec_ReqText.j2 kj22 true a0_0 a0_1 a0_2 a0_3 a0_4 a0_5 a0_6))) = some r := by rw [if_pos rfl] at H; exact H); clear H; (have H := H1); clear H1
           rcases qJ H with ⟨c53, H⟩ | ⟨c53, H⟩
           ·have c53b0 : (a0_0 == 6) = true := beq_iff_eq.mpr c53
            (have c53b1 : (a0_0 != 6) = false := bne_eq_false_iff_eq.mpr c53); clear c53; (have H' := Aside0.mk H); clear H; (obtain ⟨hcz54_0, hcz54_1, hcz54_2, hcz54_3, hcz54_4, hcz54_5, hcz54_6, hfz54_0, hfz54_1, hfz54_2, hfz54_3, hfz54_4, hfz54_5, hfz54_6⟩ := qC7 BK219)
            go_wp2
            (try rw [c30b0] at hRJ); (try rw [c30b0]); (try rw [c53b0] at hRJ); (try rw [c53b0])
            go_meet
            case rel => exact ⟨_, ((a0_1.toList != ([] : List UInt8))), (by first | rfl | exact congrArg Value.bool (spec_ReqText.bne_nil _).symm | (simp; done)), H', ⟨by have := HJ1.out; have := HJ22.out; first | omega | exact Nat.le_refl _⟩, ⟨qB BK219⟩, ⟨qS1 HB GE219⟩⟩
           ·have c53b0 : (a0_0 == 6) = false := beq_eq_false_iff_ne.mpr c53
            have c53b1 : (a0_0 != 6) = true := bne_iff_ne.mpr c53
            rcases qJ H with ⟨c55, H⟩ | ⟨c55, H⟩
            ·have c55b0 : (a0_6.toList == ([] : List UInt8)) = true := beq_iff_eq.mpr c55
             (have c55b1 : (a0_6.toList != ([] : List UInt8)) = false := bne_eq_false_iff_eq.mpr c55); clear c55; (obtain ⟨t226, A56, H⟩ := qX H)
             try dsimp only at H
             by_cases c57 : t226 = true
             ·subst c57
              (have H1 : (spec_ReqText.j2 kj22 false a0_0 a0_1 a0_2 a0_3 a0_4 a0_5 a0_6) = some r := by rw [if_pos rfl] at H; exact H); clear H; (have H := H1); clear H1; (have H' := Aside0.mk H); clear H; (obtain ⟨hcz58_0, hcz58_1, hcz58_2, hcz58_3, hcz58_4, hcz58_5, hcz58_6, hfz58_0, hfz58_1, hfz58_2, hfz58_3, hfz58_4, hfz58_5, hfz58_6⟩ := qC7 BK219)
              go_wp2_with (first | (go_at_call 30; (with_reducible refine (spec_l26Word.calls kj22 a0_1 true _ A56.out).mono ?_); rintro e w' ⟨rfl, ⟨nd, rfl⟩⟩))
              (try rw [c30b0] at hRJ); (try rw [c30b0]); (try rw [c53b0] at hRJ); (try rw [c53b0])
              go_meet
              case rel => exact ⟨_, (false), qV, H', ⟨by have := HJ1.out; have := HJ22.out; first | omega | exact Nat.le_refl _⟩, ⟨qB BK219⟩, ⟨qS1 HB GE219⟩⟩
             ·replace c57 := Bool.eq_false_iff.mpr c57
              (subst c57); (have H1 : (spec_ReqText.j2 kj22 true a0_0 a0_1 a0_2 a0_3 a0_4 a0_5 a0_6) = some r := by rw [if_neg (show ¬ (false = true) by decide)] at H; exact H); clear H; (have H := H1); clear H1; (have H' := Aside0.mk H); clear H; (obtain ⟨hcz59_0, hcz59_1, hcz59_2, hcz59_3, hcz59_4, hcz59_5, hcz59_6, hfz59_0, hfz59_1, hfz59_2, hfz59_3, hfz59_4, hfz59_5, hfz59_6⟩ := qC7 BK219)
              go_wp2_with (first | (go_at_call 30; (with_reducible refine (spec_l26Word.calls kj22 a0_1 false _ A56.out).mono ?_); rintro e w' ⟨rfl, ⟨nd, rfl⟩⟩))
              (try rw [c30b0] at hRJ); (try rw [c30b0]); (try rw [c53b0] at hRJ); (try rw [c53b0])
              go_meet
              case rel => exact ⟨_, (true), qV, H', ⟨by have := HJ1.out; have := HJ22.out; first | omega | exact Nat.le_refl _⟩, ⟨qB BK219⟩, ⟨qS1 HB GE219⟩⟩
            ·have c55b0 : (a0_6.toList == ([] : List UInt8)) = false := beq_eq_false_iff_ne.mpr c55
             (have c55b1 : (a0_6.toList != ([] : List UInt8)) = true := bne_iff_ne.mpr c55); (have H' := Aside0.mk H); clear H; (obtain ⟨hcz60_0, hcz60_1, hcz60_2, hcz60_3, hcz60_4, hcz60_5, hcz60_6, hfz60_0, hfz60_1, hfz60_2, hfz60_3, hfz60_4, hfz60_5, hfz60_6⟩ := qC7 BK219)
             go_wp2
             (try rw [c30b0] at hRJ); (try rw [c30b0]); (try rw [c53b0] at hRJ); (try rw [c53b0])
             go_meet
             case rel => exact ⟨_, (true), qV, H', ⟨by have := HJ1.out; have := HJ22.out; first | omega | exact Nat.le_refl _⟩, ⟨qB BK219⟩, ⟨qS1 HB GE219⟩⟩
          ·replace c52 := Bool.eq_false_iff.mpr c52
           (subst c52); (have H1 : (if a0_2 = 0 then (if a0_0 = 6 then (spec_ReqText.j2 kj22 (a0_1.toList != ([] : List UInt8)) a0_0 a0_1 a0_2 a0_3 a0_4 a0_5 a0_6) else (if a0_6.toList = ([] : List UInt8) then ((spec_l26Word.f kj22 a0_1).bind fun t227 => (if t227 = true then (spec_ReqText.j2 kj22 false a0_0 a0_1 a0_2 a0_3 a0_4 a0_5 a0_6) else (spec_ReqText.j2 kj22 true a0_0 a0_1 a0_2 a0_3 a0_4 a0_5 a0_6))) else (spec_ReqText.j2 kj22 true a0_0 a0_1 a0_2 a0_3 a0_4 a0_5 a0_6))) else (spec_ReqText.j2 kj22 true a0_0 a0_1 a0_2 a0_3 a0_4 a0_5 a0_6)) = some r := by rw [if_neg (show ¬ (false = true) by decide)] at H; exact H); clear H; (have H := H1); clear H1
           rcases qJ H with ⟨c61, H⟩ | ⟨c61, H⟩
           ·have c61b0 : (a0_2 == 0) = true := beq_iff_eq.mpr c61
            (have c61b1 : (a0_2 != 0) = false := bne_eq_false_iff_eq.mpr c61); clear c61
            rcases qJ H with ⟨c62, H⟩ | ⟨c62, H⟩
            ·have c62b0 : (a0_0 == 6) = true := beq_iff_eq.mpr c62
             (have c62b1 : (a0_0 != 6) = false := bne_eq_false_iff_eq.mpr c62); clear c62; (have H' := Aside0.mk H); clear H; (obtain ⟨hcz63_0, hcz63_1, hcz63_2, hcz63_3, hcz63_4, hcz63_5, hcz63_6, hfz63_0, hfz63_1, hfz63_2, hfz63_3, hfz63_4, hfz63_5, hfz63_6⟩ := qC7 BK219)
             go_wp2
             (try rw [c30b0] at hRJ); (try rw [c30b0]); (try rw [c62b0] at hRJ); (try rw [c62b0])
             go_meet
             case rel => exact ⟨_, ((a0_1.toList != ([] : List UInt8))), (by first | rfl | exact congrArg Value.bool (spec_ReqText.bne_nil _).symm | (simp; done)), H', ⟨by have := HJ1.out; have := HJ22.out; first | omega | exact Nat.le_refl _⟩, ⟨qB BK219⟩, ⟨qS1 HB GE219⟩⟩
            ·have c62b0 : (a0_0 == 6) = false := beq_eq_false_iff_ne.mpr c62
             have c62b1 : (a0_0 != 6) = true := bne_iff_ne.mpr c62
             rcases qJ H with ⟨c64, H⟩ | ⟨c64, H⟩
             ·have c64b0 : (a0_6.toList == ([] : List UInt8)) = true := beq_iff_eq.mpr c64
              (have c64b1 : (a0_6.toList != ([] : List UInt8)) = false := bne_eq_false_iff_eq.mpr c64); clear c64; (obtain ⟨t227, A65, H⟩ := qX H)
              try dsimp only at H
              by_cases c66 : t227 = true
              ·subst c66
               (have H1 : (spec_ReqText.j2 kj22 false a0_0 a0_1 a0_2 a0_3 a0_4 a0_5 a0_6) = some r := by rw [if_pos rfl] at H; exact H); clear H; (have H := H1); clear H1; (have H' := Aside0.mk H); clear H; (obtain ⟨hcz67_0, hcz67_1, hcz67_2, hcz67_3, hcz67_4, hcz67_5, hcz67_6, hfz67_0, hfz67_1, hfz67_2, hfz67_3, hfz67_4, hfz67_5, hfz67_6⟩ := qC7 BK219)
               go_wp2_with (first | (go_at_call 30; (with_reducible refine (spec_l26Word.calls kj22 a0_1 true _ A65.out).mono ?_); rintro e w' ⟨rfl, ⟨nd, rfl⟩⟩))
               (try rw [c30b0] at hRJ); (try rw [c30b0]); (try rw [c62b0] at hRJ); (try rw [c62b0])
               go_meet
               case rel => exact ⟨_, (false), qV, H', ⟨by have := HJ1.out; have := HJ22.out; first | omega | exact Nat.le_refl _⟩, ⟨qB BK219⟩, ⟨qS1 HB GE219⟩⟩
              ·replace c66 := Bool.eq_false_iff.mpr c66
               (subst c66); (have H1 : (spec_ReqText.j2 kj22 true a0_0 a0_1 a0_2 a0_3 a0_4 a0_5 a0_6) = some r := by rw [if_neg (show ¬ (false = true) by decide)] at H; exact H); clear H; (have H := H1); clear H1; (have H' := Aside0.mk H); clear H; (obtain ⟨hcz68_0, hcz68_1, hcz68_2, hcz68_3, hcz68_4, hcz68_5, hcz68_6, hfz68_0, hfz68_1, hfz68_2, hfz68_3, hfz68_4, hfz68_5, hfz68_6⟩ := qC7 BK219)
               go_wp2_with (first | (go_at_call 30; (with_reducible refine (spec_l26Word.calls kj22 a0_1 false _ A65.out).mono ?_); rintro e w' ⟨rfl, ⟨nd, rfl⟩⟩))
               (try rw [c30b0] at hRJ); (try rw [c30b0]); (try rw [c62b0] at hRJ); (try rw [c62b0])
               go_meet
               case rel => exact ⟨_, (true), qV, H', ⟨by have := HJ1.out; have := HJ22.out; first | omega | exact Nat.le_refl _⟩, ⟨qB BK219⟩, ⟨qS1 HB GE219⟩⟩
             ·have c64b0 : (a0_6.toList == ([] : List UInt8)) = false := beq_eq_false_iff_ne.mpr c64
              (have c64b1 : (a0_6.toList != ([] : List UInt8)) = true := bne_iff_ne.mpr c64); (have H' := Aside0.mk H); clear H; (obtain ⟨hcz69_0, hcz69_1, hcz69_2, hcz69_3, hcz69_4, hcz69_5, hcz69_6, hfz69_0, hfz69_1, hfz69_2, hfz69_3, hfz69_4, hfz69_5, hfz69_6⟩ := qC7 BK219)
              go_wp2
              (try rw [c30b0] at hRJ); (try rw [c30b0]); (try rw [c62b0] at hRJ); (try rw [c62b0])
              go_meet
              case rel => exact ⟨_, (true), qV, H', ⟨by have := HJ1.out; have := HJ22.out; first | omega | exact Nat.le_refl _⟩, ⟨qB BK219⟩, ⟨qS1 HB GE219⟩⟩
           ·have c61b0 : (a0_2 == 0) = false := beq_eq_false_iff_ne.mpr c61
            (have c61b1 : (a0_2 != 0) = true := bne_iff_ne.mpr c61); (have H' := Aside0.mk H); clear H; (obtain ⟨hcz70_0, hcz70_1, hcz70_2, hcz70_3, hcz70_4, hcz70_5, hcz70_6, hfz70_0, hfz70_1, hfz70_2, hfz70_3, hfz70_4, hfz70_5, hfz70_6⟩ := qC7 BK219)
            go_wp2
            (try rw [c30b0] at hRJ); (try rw [c30b0])
            go_meet
            case rel => exact ⟨_, (true), qV, H', ⟨by have := HJ1.out; have := HJ22.out; first | omega | exact Nat.le_refl _⟩, ⟨qB BK219⟩, ⟨qS1 HB GE219⟩⟩
         ·have c51b0 : (a0_4 == 0) = false := beq_eq_false_iff_ne.mpr c51
          (have c51b1 : (a0_4 != 0) = true := bne_iff_ne.mpr c51); (have H' := Aside0.mk H); clear H; (obtain ⟨hcz71_0, hcz71_1, hcz71_2, hcz71_3, hcz71_4, hcz71_5, hcz71_6, hfz71_0, hfz71_1, hfz71_2, hfz71_3, hfz71_4, hfz71_5, hfz71_6⟩ := qC7 BK219)
          go_wp2
          (try rw [c30b0] at hRJ); (try rw [c30b0])
          go_meet
          case rel => exact ⟨_, (true), qV, H', ⟨by have := HJ1.out; have := HJ22.out; first | omega | exact Nat.le_refl _⟩, ⟨qB BK219⟩, ⟨qS1 HB GE219⟩⟩
        ·have c50b0 : (a0_3 == 0) = false := beq_eq_false_iff_ne.mpr c50
         (have c50b1 : (a0_3 != 0) = true := bne_iff_ne.mpr c50); (have H' := Aside0.mk H); clear H; (obtain ⟨hcz72_0, hcz72_1, hcz72_2, hcz72_3, hcz72_4, hcz72_5, hcz72_6, hfz72_0, hfz72_1, hfz72_2, hfz72_3, hfz72_4, hfz72_5, hfz72_6⟩ := qC7 BK219)
         go_wp2
         (try rw [c30b0] at hRJ); (try rw [c30b0])
         go_meet
         case rel => exact ⟨_, (true), qV, H', ⟨by have := HJ1.out; have := HJ22.out; first | omega | exact Nat.le_refl _⟩, ⟨qB BK219⟩, ⟨qS1 HB GE219⟩⟩
      case rest =>
       clear HC28; (try clear c30b0); (try clear c30b1); (try clear c30b2); (try clear c31); (try clear c32); (try clear c32b0); (try clear c32b1); (try clear c34b0); (try clear c34b1); (try clear c36); (try clear c40b0); (try clear c40b1); (try clear c41); (try clear c41b0); (try clear c41b1); (try clear c43b0); (try clear c43b1); (try clear c45); (try clear c50b0); (try clear c50b1); (try clear c51b0); (try clear c51b1); (try clear c52); (try clear c53b0); (try clear c53b1); (try clear c55b0); (try clear c55b1); (try clear c57); (try clear c61b0); (try clear c61b1); (try clear c62b0); (try clear c62b1); (try clear c64b0); (try clear c64b1); (try clear c66); (try clear hcz29_3); (try clear hcz29_4); (try clear hcz29_5); (try clear hcz29_6); (try clear hcz33_0); (try clear hcz33_1); (try clear hcz33_2); (try clear hcz33_3); (try clear hcz33_4); (try clear hcz33_5); (try clear hcz33_6); (try clear hcz37_0); (try clear hcz37_1); (try clear hcz37_2); (try clear hcz37_3); (try clear hcz37_4); (try clear hcz37_5); (try clear hcz37_6); (try clear hcz38_0); (try clear hcz38_1); (try clear hcz38_2); (try clear hcz38_3); (try clear hcz38_4); (try clear hcz38_5); (try clear hcz38_6); (try clear hcz39_0); (try clear hcz39_1); (try clear hcz39_2); (try clear hcz39_3); (try clear hcz39_4); (try clear hcz39_5); (try clear hcz39_6); (try clear hcz42_0); (try clear hcz42_1); (try clear hcz42_2); (try clear hcz42_3); (try clear hcz42_4); (try clear hcz42_5); (try clear hcz42_6); (try clear hcz46_0); (try clear hcz46_1); (try clear hcz46_2); (try clear hcz46_3); (try clear hcz46_4); (try clear hcz46_5); (try clear hcz46_6); (try clear hcz47_0); (try clear hcz47_1); (try clear hcz47_2); (try clear hcz47_3); (try clear hcz47_4); (try clear hcz47_5); (try clear hcz47_6); (try clear hcz48_0); (try clear hcz48_1); (try clear hcz48_2); (try clear hcz48_3); (try clear hcz48_4); (try clear hcz48_5); (try clear hcz48_6); (try clear hcz49_0); (try clear hcz49_1); (try clear hcz49_2); (try clear hcz49_3); (try clear hcz49_4); (try clear hcz49_5); (try clear hcz49_6); (try clear hcz54_0); (try clear hcz54_1); (try clear hcz54_2); (try clear hcz54_3); (try clear hcz54_4); (try clear hcz54_5); (try clear hcz54_6); (try clear hcz58_0); (try clear hcz58_1); (try clear hcz58_2); (try clear hcz58_3); (try clear hcz58_4); (try clear hcz58_5); (try clear hcz58_6); (try clear hcz59_0); (try clear hcz59_1); (try clear hcz59_2); (try clear hcz59_3); (try clear hcz59_4); (try clear hcz59_5); (try clear hcz59_6); (try clear hcz60_0); (try clear hcz60_1); (try clear hcz60_2); (try clear hcz60_3); (try clear hcz60_4); (try clear hcz60_5); (try clear hcz60_6); (try clear hcz63_0); (try clear hcz63_1); (try clear hcz63_2); (try clear hcz63_3); (try clear hcz63_4); (try clear hcz63_5); (try clear hcz63_6); (try clear hcz67_0); (try clear hcz67_1); (try clear hcz67_2); (try clear hcz67_3); (try clear hcz67_4); (try clear hcz67_5); (try clear hcz67_6); (try clear hcz68_0); (try clear hcz68_1); (try clear hcz68_2); (try clear hcz68_3); (try clear hcz68_4); (try clear hcz68_5); (try clear hcz68_6); (try clear hcz69_0); (try clear hcz69_1); (try clear hcz69_2); (try clear hcz69_3); (try clear hcz69_4); (try clear hcz69_5); (try clear hcz69_6); (try clear hcz70_0); (try clear hcz70_1); (try clear hcz70_2); (try clear hcz70_3); (try clear hcz70_4); (try clear hcz70_5); (try clear hcz70_6); (try clear hcz71_0); (try clear hcz71_1); (try clear hcz71_2); (try clear hcz71_3); (try clear hcz71_4); (try clear hcz71_5); (try clear hcz71_6); (try clear hcz72_0); (try clear hcz72_1); (try clear hcz72_2); (try clear hcz72_3); (try clear hcz72_4); (try clear hcz72_5); (try clear hcz72_6); (try clear hfz29_0); (try clear hfz29_1); (try clear hfz29_2); (try clear hfz29_3); (try clear hfz29_4); (try clear hfz29_5); (try clear hfz29_6); (try clear hfz33_0); (try clear hfz33_1); (try clear hfz33_2); (try clear hfz33_3); (try clear hfz33_4); (try clear hfz33_5); (try clear hfz33_6); (try clear hfz37_0); (try clear hfz37_1); (try clear hfz37_2); (try clear hfz37_3); (try clear hfz37_4); (try clear hfz37_5); (try clear hfz37_6); (try clear hfz38_0); (try clear hfz38_1); (try clear hfz38_2); (try clear hfz38_3); (try clear hfz38_4); (try clear hfz38_5); (try clear hfz38_6); (try clear hfz39_0); (try clear hfz39_1); (try clear hfz39_2); (try clear hfz39_3); (try clear hfz39_4); (try clear hfz39_5); (try clear hfz39_6); (try clear hfz42_0); (try clear hfz42_1); (try clear hfz42_2); (try clear hfz42_3); (try clear hfz42_4); (try clear hfz42_5); (try clear hfz42_6); (try clear hfz46_0); (try clear hfz46_1); (try clear hfz46_2); (try clear hfz46_3); (try clear hfz46_4); (try clear hfz46_5); (try clear hfz46_6); (try clear hfz47_0); (try clear hfz47_1); (try clear hfz47_2); (try clear hfz47_3); (try clear hfz47_4); (try clear hfz47_5); (try clear hfz47_6); (try clear hfz48_0); (try clear hfz48_1); (try clear hfz48_2); (try clear hfz48_3); (try clear hfz48_4); (try clear hfz48_5); (try clear hfz48_6); (try clear hfz49_0); (try clear hfz49_1); (try clear hfz49_2); (try clear hfz49_3); (try clear hfz49_4); (try clear hfz49_5); (try clear hfz49_6); (try clear hfz54_0); (try clear hfz54_1); (try clear hfz54_2); (try clear hfz54_3); (try clear hfz54_4); (try clear hfz54_5); (try clear hfz54_6); (try clear hfz58_0); (try clear hfz58_1); (try clear hfz58_2); (try clear hfz58_3); (try clear hfz58_4); (try clear hfz58_5); (try clear hfz58_6); (try clear hfz59_0); (try clear hfz59_1); (try clear hfz59_2); (try clear hfz59_3); (try clear hfz59_4); (try clear hfz59_5); (try clear hfz59_6); (try clear hfz60_0); (try clear hfz60_1); (try clear hfz60_2); (try clear hfz60_3); (try clear hfz60_4); (try clear hfz60_5); (try clear hfz60_6); (try clear hfz63_0); (try clear hfz63_1); (try clear hfz63_2); (try clear hfz63_3); (try clear hfz63_4); (try clear hfz63_5); (try clear hfz63_6); (try clear hfz67_0); (try clear hfz67_1); (try clear hfz67_2); (try clear hfz67_3); (try clear hfz67_4); (try clear hfz67_5); (try clear hfz67_6); (try clear hfz68_0); (try clear hfz68_1); (try clear hfz68_2); (try clear hfz68_3); (try clear hfz68_4); (try clear hfz68_5); (try clear hfz68_6); (try clear hfz69_0); (try clear hfz69_1); (try clear hfz69_2); (try clear hfz69_3); (try clear hfz69_4); (try clear hfz69_5); (try clear hfz69_6); (try clear hfz70_0); (try clear hfz70_1); (try clear hfz70_2); (try clear hfz70_3); (try clear hfz70_4); (try clear hfz70_5); (try clear hfz70_6); (try clear hfz71_0); (try clear hfz71_1); (try clear hfz71_2); (try clear hfz71_3); (try clear hfz71_4); (try clear hfz71_5); (try clear hfz71_6); (try clear hfz72_0); (try clear hfz72_1); (try clear hfz72_2); (try clear hfz72_3); (try clear hfz72_4); (try clear hfz72_5); (try clear hfz72_6); (obtain ⟨kq, x85_27, rfl, HA, HJ27, BK219, HB⟩ := hcut)
       cases kq with
       | zero => exact absurd HA.out (by simp [spec_ReqText.j2])
       | succ kj27 =>
        (have H := HA.out); clear HA; (simp only [spec_ReqText.j2] at H)
        by_cases c73 : x85_27 = true
        ·subst c73
         (have H1 : (some (⟨#[]⟩ : ByteArray)) = some r := by rw [if_pos rfl] at H; exact H); clear H; (have H := H1); clear H1; (obtain rfl := Option.some.inj H)
         go_wp2
         go_ret
         exact ⟨qE, qS1 HB GE219⟩
        ·replace c73 := Bool.eq_false_iff.mpr c73
         (subst c73); (have H1 : (if a0_0 = 1 then (if 6 + a0_1.size ≤ 9223372036854775807 then (some ((⟨#[99, 104, 101, 99, 107, 32]⟩ : ByteArray) ++ a0_1)) else (none)) else (if a0_0 = 2 then (if 4 + a0_1.size ≤ 9223372036854775807 then (if ((⟨#[116, 111, 112, 32]⟩ : ByteArray) ++ a0_1).size + 1 ≤ 9223372036854775807 then ((spec_l04Num.f kj27 a0_3).bind fun t228 => (if (((⟨#[116, 111, 112, 32]⟩ : ByteArray) ++ a0_1) ++ (⟨#[32]⟩ : ByteArray)).size + t228.size ≤ 9223372036854775807 then (if ((((⟨#[116, 111, 112, 32]⟩ : ByteArray) ++ a0_1) ++ (⟨#[32]⟩ : ByteArray)) ++ t228).size + 1 ≤ 9223372036854775807 then ((spec_l04Num.f kj27 a0_4).bind fun t229 => (if (((((⟨#[116, 111, 112, 32]⟩ : ByteArray) ++ a0_1) ++ (⟨#[32]⟩ : ByteArray)) ++ t228) ++ (⟨#[32]⟩ : ByteArray)).size + t229.size ≤ 9223372036854775807 then (some ((((((⟨#[116, 111, 112, 32]⟩ : ByteArray) ++ a0_1) ++ (⟨#[32]⟩ : ByteArray)) ++ t228) ++ (⟨#[32]⟩ : ByteArray)) ++ t229)) else (none))) else (none)) else (none))) else (none)) else (none)) else (if a0_0 = 3 then (if 4 + a0_1.size ≤ 9223372036854775807 then (if ((⟨#[97, 100, 100, 32]⟩ : ByteArray) ++ a0_1).size + 1 ≤ 9223372036854775807 then ((spec_l04Num.f kj27 a0_2).bind fun t230 => (if (((⟨#[97, 100, 100, 32]⟩ : ByteArray) ++ a0_1) ++ (⟨#[32]⟩ : ByteArray)).size + t230.size ≤ 9223372036854775807 then (some ((((⟨#[97, 100, 100, 32]⟩ : ByteArray) ++ a0_1) ++ (⟨#[32]⟩ : ByteArray)) ++ t230)) else (none))) else (none)) else (none)) else (if a0_0 = 4 then (if 5 + a0_1.size ≤ 9223372036854775807 then (some ((⟨#[100, 114, 111, 112, 32]⟩ : ByteArray) ++ a0_1)) else (none)) else (if a0_0 = 5 then (if 4 + a0_1.size ≤ 9223372036854775807 then (if ((⟨#[115, 101, 116, 32]⟩ : ByteArray) ++ a0_1).size + 1 ≤ 9223372036854775807 then ((spec_l04Num.f kj27 a0_2).bind fun t231 => (if (((⟨#[115, 101, 116, 32]⟩ : ByteArray) ++ a0_1) ++ (⟨#[32]⟩ : ByteArray)).size + t231.size ≤ 9223372036854775807 then (some ((((⟨#[115, 101, 116, 32]⟩ : ByteArray) ++ a0_1) ++ (⟨#[32]⟩ : ByteArray)) ++ t231)) else (none))) else (none)) else (none)) else (spec_ReqText.l0 kj27 0 a0_0 a0_1 a0_2 a0_3 a0_4 a0_5 a0_6)))))) = some r := by rw [if_neg (show ¬ (false = true) by decide)] at H; exact H); clear H; (have H := H1); clear H1
         rcases qJ H with ⟨c74, H⟩ | ⟨c74, H⟩
         ·have c74b0 : (a0_0 == 1) = true := beq_iff_eq.mpr c74
          (have c74b1 : (a0_0 != 1) = false := bne_eq_false_iff_eq.mpr c74); clear c74; (obtain ⟨c75, H⟩ := qU H); (have c75b0 := eq_true c75); (have c75b1 : decide (6 + a0_1.size ≤ 9223372036854775807) = true := decide_eq_true c75)
          try have c75b2 : (9223372036854775807 < 6 + a0_1.size) = False := eq_false (Nat.not_lt.2 c75)
          (obtain rfl := Option.some.inj H); (obtain ⟨hcz76_0, hcz76_1, hcz76_2, hcz76_3, hcz76_4, hcz76_5, hcz76_6, hfz76_0, hfz76_1, hfz76_2, hfz76_3, hfz76_4, hfz76_5, hfz76_6⟩ := qC7 BK219)
          go_wp2
          go_ret
          exact ⟨qE, qS1 HB GE219⟩
         ·have c74b0 : (a0_0 == 1) = false := beq_eq_false_iff_ne.mpr c74
          have c74b1 : (a0_0 != 1) = true := bne_iff_ne.mpr c74
          rcases qJ H with ⟨c77, H⟩ | ⟨c77, H⟩
          ·have c77b0 : (a0_0 == 2) = true := beq_iff_eq.mpr c77
           (have c77b1 : (a0_0 != 2) = false := bne_eq_false_iff_eq.mpr c77); clear c77; (obtain ⟨c78, H⟩ := qU H); (have c78b0 := eq_true c78); (have c78b1 : decide (4 + a0_1.size ≤ 9223372036854775807) = true := decide_eq_true c78)
           try have c78b2 : (9223372036854775807 < 4 + a0_1.size) = False := eq_false (Nat.not_lt.2 c78)
           (obtain ⟨c79, H⟩ := qU H); (have c79b0 := eq_true c79); (have c79b1 : decide (((⟨#[116, 111, 112, 32]⟩ : ByteArray) ++ a0_1).size + 1 ≤ 9223372036854775807) = true := decide_eq_true c79)
           try have c79b2 : (9223372036854775807 < ((⟨#[116, 111, 112, 32]⟩ : ByteArray) ++ a0_1).size + 1) = False := eq_false (Nat.not_lt.2 c79)
           try have c79b3 := c79b2
           try simp only [ByteArray.size_append, show (⟨#[116, 111, 112, 32]⟩ : ByteArray).size = 4 from rfl] at c79b3
           obtain ⟨t228, A80, H⟩ := qX H
           try dsimp only at H
           (obtain ⟨c81, H⟩ := qU H); (have c81b0 := eq_true c81); (have c81b1 : decide ((((⟨#[116, 111, 112, 32]⟩ : ByteArray) ++ a0_1) ++ (⟨#[32]⟩ : ByteArray)).size + t228.size ≤ 9223372036854775807) = true := decide_eq_true c81)
           try have c81b2 : (9223372036854775807 < (((⟨#[116, 111, 112, 32]⟩ : ByteArray) ++ a0_1) ++ (⟨#[32]⟩ : ByteArray)).size + t228.size) = False := eq_false (Nat.not_lt.2 c81)
           try have c81b3 := c81b2
           try simp only [ByteArray.size_append, show (⟨#[116, 111, 112, 32]⟩ : ByteArray).size = 4 from rfl, show (⟨#[32]⟩ : ByteArray).size = 1 from rfl] at c81b3
           (obtain ⟨c82, H⟩ := qU H); (have c82b0 := eq_true c82); (have c82b1 : decide (((((⟨#[116, 111, 112, 32]⟩ : ByteArray) ++ a0_1) ++ (⟨#[32]⟩ : ByteArray)) ++ t228).size + 1 ≤ 9223372036854775807) = true := decide_eq_true c82)
           try have c82b2 : (9223372036854775807 < ((((⟨#[116, 111, 112, 32]⟩ : ByteArray) ++ a0_1) ++ (⟨#[32]⟩ : ByteArray)) ++ t228).size + 1) = False := eq_false (Nat.not_lt.2 c82)
           try have c82b3 := c82b2
           try simp only [ByteArray.size_append, show (⟨#[116, 111, 112, 32]⟩ : ByteArray).size = 4 from rfl, show (⟨#[32]⟩ : ByteArray).size = 1 from rfl] at c82b3
           obtain ⟨t229, A83, H⟩ := qX H
           try dsimp only at H
           (obtain ⟨c84, H⟩ := qU H); (have c84b0 := eq_true c84); (have c84b1 : decide ((((((⟨#[116, 111, 112, 32]⟩ : ByteArray) ++ a0_1) ++ (⟨#[32]⟩ : ByteArray)) ++ t228) ++ (⟨#[32]⟩ : ByteArray)).size + t229.size ≤ 9223372036854775807) = true := decide_eq_true c84)
           try have c84b2 : (9223372036854775807 < (((((⟨#[116, 111, 112, 32]⟩ : ByteArray) ++ a0_1) ++ (⟨#[32]⟩ : ByteArray)) ++ t228) ++ (⟨#[32]⟩ : ByteArray)).size + t229.size) = False := eq_false (Nat.not_lt.2 c84)
           try have c84b3 := c84b2
           try simp only [ByteArray.size_append, show (⟨#[116, 111, 112, 32]⟩ : ByteArray).size = 4 from rfl, show (⟨#[32]⟩ : ByteArray).size = 1 from rfl] at c84b3
           (obtain rfl := Option.some.inj H); (obtain ⟨hcz85_0, hcz85_1, hcz85_2, hcz85_3, hcz85_4, hcz85_5, hcz85_6, hfz85_0, hfz85_1, hfz85_2, hfz85_3, hfz85_4, hfz85_5, hfz85_6⟩ := qC7 BK219)
           try go_wp2
           (replace BK219 := Aside0.mk (blk_drew BK219.out)); (replace HB := Aside0.mk (below_drew1 HB.out))
           refine start_ (n := 14) (S := fun w' => w'.cell? ⟨gb219, 0, none⟩ = some (.int .i64 a0_0) ∧ w'.cell? ⟨gb219, 1, none⟩ = some (.string a0_1) ∧ w'.cell? ⟨gb219, 2, none⟩ = some (.int .i64 a0_2) ∧ w'.cell? ⟨gb219, 3, none⟩ = some (.int .i64 a0_3) ∧ w'.cell? ⟨gb219, 4, none⟩ = some (.int .i64 a0_4) ∧ w'.cell? ⟨gb219, 5, none⟩ = some (.int .i64 a0_5) ∧ w'.cell? ⟨gb219, 6, none⟩ = some (.string a0_6)) (ds := []) #[false, false, false, false, false, false, false, false, false, false, false, false, false, false] (by kernel_rfl) rfl rfl ⟨(blk_cell BK219.out 0).trans rfl, (blk_cell BK219.out 1).trans rfl, (blk_cell BK219.out 2).trans rfl, (blk_cell BK219.out 3).trans rfl, (blk_cell BK219.out 4).trans rfl, (blk_cell BK219.out 5).trans rfl, (blk_cell BK219.out 6).trans rfl⟩ (fun hHeld => ?_); refine with_tabW spec_ReqText.tab12 spec_ReqText.bits12 (fun HT_ HW_ => ?_)
           generalize wc.drew = w86 at BK219 HB hHeld ⊢
           refine pure_ (i := 0) (N := some 95) (v := ?_) (a' := ?_) #[true, false, false, false, false, false, false, false, false, false, false, false, false, false] rfl rfl (any_of HT_.out (by kernel_rfl)) (fun _ _ _ h => h) (Or.inl ⟨by rfl, ?_⟩) ?_ ?_
           rotate_left
           ·intro w'
            go_simp
            with_reducible rfl
           rotate_left
           ·exact qPu
           refine pure_ (i := 4) (N := some 99) (v := ?_) (a' := ?_) #[true, false, false, false, true, false, false, false, false, false, false, false, false, false] rfl rfl (any_of HT_.out (by kernel_rfl)) (fun _ _ _ h => h) (Or.inl ⟨by rfl, ?_⟩) ?_ ?_
           rotate_left
           ·intro w'
            go_simp
            with_reducible rfl
           rotate_left
           ·exact qPu
           refine pure_ (i := 9) (N := some 104) (v := ?_) (a' := ?_) #[true, false, false, false, true, false, false, false, false, true, false, false, false, false] rfl rfl (any_of HT_.out (by kernel_rfl)) (fun _ _ _ h => h) (Or.inl ⟨by rfl, ?_⟩) ?_ ?_
           rotate_left
           ·intro w'
            go_simp
            with_reducible rfl
           rotate_left
           ·exact qPu
           refine take_ (i := 1) (N := some 96) (v := ?_) (a' := ?_) #[true, true, false, false, true, false, false, false, false, true, false, false, false, false] rfl rfl (take_ofW HT_.out HW_.out (by kernel_rfl)) (fun _ _ _ h => h) (Or.inl ⟨by rfl, ?_⟩) hHeld ?_ ?_
           rotate_left
           ·rintro w' ⟨s0, s1, s2, s3, s4, s5, s6⟩
            go_simp
            with_reducible rfl
           rotate_left
           ·exact qPu
           refine pure_ (i := 2) (N := some 97) (v := ?_) (a' := ?_) #[true, true, true, false, true, false, false, false, false, true, false, false, false, false] rfl rfl (any_of HT_.out (by kernel_rfl)) (fun _ _ _ h => h) (Or.inl ⟨by rfl, ?_⟩) ?_ ?_
           rotate_left
           ·intro w'
            go_simp
            with_reducible rfl
           rotate_left
           ·exact qPu
           refine pure_ (i := 3) (N := some 98) (v := ?_) (a' := ?_) #[true, true, true, true, true, false, false, false, false, true, false, false, false, false] rfl rfl (any_of HT_.out (by kernel_rfl)) (fun _ _ _ h => h) (Or.inl ⟨by rfl, ?_⟩) ?_ ?_
           rotate_left
           ·intro w'
            go_simp
            with_reducible rfl
           rotate_left
           ·exact qPu
           refine take_ (i := 5) (N := some 100) (v := ?_) (a' := ?_) #[true, true, true, true, true, true, false, false, false, true, false, false, false, false] rfl rfl (take_ofW HT_.out HW_.out (by kernel_rfl)) (fun _ _ _ h => h) (Or.inl ⟨by rfl, ?_⟩) hHeld ?_ ?_
           rotate_left
           ·rintro w' ⟨s0, s1, s2, s3, s4, s5, s6⟩
            go_simp
            with_reducible rfl
           rotate_left
           ·exact qPu
           refine take_ (i := 10) (N := some 105) (v := ?_) (a' := ?_) #[true, true, true, true, true, true, false, false, false, true, true, false, false, false] rfl rfl (take_ofW HT_.out HW_.out (by kernel_rfl)) (fun _ _ _ h => h) (Or.inl ⟨by rfl, ?_⟩) hHeld ?_ ?_
           rotate_left
           ·rintro w' ⟨s0, s1, s2, s3, s4, s5, s6⟩
            go_simp
            with_reducible rfl
           rotate_left
           ·exact qPu
           refine one_ (i := 6) (N := some 101) #[true, true, true, true, true, true, true, false, false, true, true, false, false, false] rfl rfl (one_of HT_.out (by kernel_rfl)) (by decide) (fun K hK => ?_)
           refine goes_ Tryd.func28 (by kernel_rfl) rfl #[.int .i64 a0_3] (by rfl) rfl rfl qL ?_
           with_reducible refine (spec_l04Num.calls kj27 a0_3 t228 _ A80.out).mono ?_
           rintro e w87 ⟨rfl, hb⟩
           refine ⟨_, rfl, ?_⟩
           (replace BK219 := qD BK219 hb); (replace HB := Aside0.mk (below_step (qS1 HB GE219) hb)); (try clear hb); (try clear hb2); (try clear hk); (try clear hi)
           refine hK.out _ _ ⟨(blk_cell BK219.out 0).trans rfl, (blk_cell BK219.out 1).trans rfl, (blk_cell BK219.out 2).trans rfl, (blk_cell BK219.out 3).trans rfl, (blk_cell BK219.out 4).trans rfl, (blk_cell BK219.out 5).trans rfl, (blk_cell BK219.out 6).trans rfl⟩ (fun hHeld => ?_)
           clear hK K
           refine norm_ (a' := ?_) ?_ ?_
           rotate_left
           ·show Act.put _ (some 101) _ = _
            exact qPu
           refine pure_ (i := 7) (N := some 102) (v := ?_) (a' := ?_) #[true, true, true, true, true, true, true, true, false, true, true, false, false, false] rfl rfl (any_of HT_.out (by kernel_rfl)) (fun _ _ _ h => h) (Or.inl ⟨by rfl, ?_⟩) ?_ ?_
           rotate_left
           ·intro w'
            go_simp
            with_reducible rfl
           rotate_left
           ·exact qPu
           refine pure_ (i := 8) (N := some 103) (v := ?_) (a' := ?_) #[true, true, true, true, true, true, true, true, true, true, true, false, false, false] rfl rfl (any_of HT_.out (by kernel_rfl)) (fun _ _ _ h => h) (Or.inl ⟨by rfl, ?_⟩) ?_ ?_
           rotate_left
           ·intro w'
            go_simp
            with_reducible rfl
           rotate_left
           ·exact qPu
           refine one_ (i := 11) (N := some 106) #[true, true, true, true, true, true, true, true, true, true, true, true, false, false] rfl rfl (one_of HT_.out (by kernel_rfl)) (by decide) (fun K hK => ?_)
           refine goes_ Tryd.func28 (by kernel_rfl) rfl #[.int .i64 a0_4] (by rfl) rfl rfl qL ?_
           with_reducible refine (spec_l04Num.calls kj27 a0_4 t229 _ A83.out).mono ?_
           rintro e w88 ⟨rfl, hb⟩
           refine ⟨_, rfl, ?_⟩
           (replace BK219 := qD BK219 hb); (replace HB := Aside0.mk (below_step (qS1 HB GE219) hb)); (try clear hb); (try clear hb2); (try clear hk); (try clear hi)
           refine hK.out _ _ ⟨(blk_cell BK219.out 0).trans rfl, (blk_cell BK219.out 1).trans rfl, (blk_cell BK219.out 2).trans rfl, (blk_cell BK219.out 3).trans rfl, (blk_cell BK219.out 4).trans rfl, (blk_cell BK219.out 5).trans rfl, (blk_cell BK219.out 6).trans rfl⟩ (fun hHeld => ?_)
           clear hK K
           refine norm_ (a' := ?_) ?_ ?_
           rotate_left
           ·show Act.put _ (some 106) _ = _
            exact qPu
           refine pure_ (i := 12) (N := some 107) (v := ?_) (a' := ?_) #[true, true, true, true, true, true, true, true, true, true, true, true, true, false] rfl rfl (any_of HT_.out (by kernel_rfl)) (fun _ _ _ h => h) (Or.inl ⟨by rfl, ?_⟩) ?_ ?_
           rotate_left
           ·intro w'
            go_simp
            with_reducible rfl
           rotate_left
           ·exact qPu
           refine pure_ (i := 13) (N := some 2) (v := ?_) (a' := ?_) #[true, true, true, true, true, true, true, true, true, true, true, true, true, true] rfl rfl (any_of HT_.out (by kernel_rfl)) (fun _ _ _ h => h) (Or.inl ⟨by rfl, ?_⟩) ?_ ?_
           rotate_left
           ·intro w'
            go_simp
            with_reducible rfl
           rotate_left
           ·exact qPu
           refine done_ (done_of HT_.out (by kernel_rfl)) ?_
           try go_wp2
           go_ret
           exact ⟨qE, qS1 HB GE219⟩
          ·have c77b0 : (a0_0 == 2) = false := beq_eq_false_iff_ne.mpr c77
           have c77b1 : (a0_0 != 2) = true := bne_iff_ne.mpr c77
           rcases qJ H with ⟨c89, H⟩ | ⟨c89, H⟩
           ·have c89b0 : (a0_0 == 3) = true := beq_iff_eq.mpr c89
            (have c89b1 : (a0_0 != 3) = false := bne_eq_false_iff_eq.mpr c89); clear c89; (obtain ⟨c90, H⟩ := qU H); (have c90b0 := eq_true c90); (have c90b1 : decide (4 + a0_1.size ≤ 9223372036854775807) = true := decide_eq_true c90)
            try have c90b2 : (9223372036854775807 < 4 + a0_1.size) = False := eq_false (Nat.not_lt.2 c90)
            (obtain ⟨c91, H⟩ := qU H); (have c91b0 := eq_true c91); (have c91b1 : decide (((⟨#[97, 100, 100, 32]⟩ : ByteArray) ++ a0_1).size + 1 ≤ 9223372036854775807) = true := decide_eq_true c91)
            try have c91b2 : (9223372036854775807 < ((⟨#[97, 100, 100, 32]⟩ : ByteArray) ++ a0_1).size + 1) = False := eq_false (Nat.not_lt.2 c91)
            try have c91b3 := c91b2
            try simp only [ByteArray.size_append, show (⟨#[97, 100, 100, 32]⟩ : ByteArray).size = 4 from rfl] at c91b3
            obtain ⟨t230, A92, H⟩ := qX H
            try dsimp only at H
            (obtain ⟨c93, H⟩ := qU H); (have c93b0 := eq_true c93); (have c93b1 : decide ((((⟨#[97, 100, 100, 32]⟩ : ByteArray) ++ a0_1) ++ (⟨#[32]⟩ : ByteArray)).size + t230.size ≤ 9223372036854775807) = true := decide_eq_true c93)
            try have c93b2 : (9223372036854775807 < (((⟨#[97, 100, 100, 32]⟩ : ByteArray) ++ a0_1) ++ (⟨#[32]⟩ : ByteArray)).size + t230.size) = False := eq_false (Nat.not_lt.2 c93)
            try have c93b3 := c93b2
            try simp only [ByteArray.size_append, show (⟨#[32]⟩ : ByteArray).size = 1 from rfl, show (⟨#[97, 100, 100, 32]⟩ : ByteArray).size = 4 from rfl] at c93b3
            (obtain rfl := Option.some.inj H); (obtain ⟨hcz94_0, hcz94_1, hcz94_2, hcz94_3, hcz94_4, hcz94_5, hcz94_6, hfz94_0, hfz94_1, hfz94_2, hfz94_3, hfz94_4, hfz94_5, hfz94_6⟩ := qC7 BK219)
            try go_wp2
            (replace BK219 := Aside0.mk (blk_drew BK219.out)); (replace HB := Aside0.mk (below_drew1 HB.out))
            refine start_ (n := 9) (S := fun w' => w'.cell? ⟨gb219, 0, none⟩ = some (.int .i64 a0_0) ∧ w'.cell? ⟨gb219, 1, none⟩ = some (.string a0_1) ∧ w'.cell? ⟨gb219, 2, none⟩ = some (.int .i64 a0_2) ∧ w'.cell? ⟨gb219, 3, none⟩ = some (.int .i64 a0_3) ∧ w'.cell? ⟨gb219, 4, none⟩ = some (.int .i64 a0_4) ∧ w'.cell? ⟨gb219, 5, none⟩ = some (.int .i64 a0_5) ∧ w'.cell? ⟨gb219, 6, none⟩ = some (.string a0_6)) (ds := []) #[false, false, false, false, false, false, false, false, false] (by kernel_rfl) rfl rfl ⟨(blk_cell BK219.out 0).trans rfl, (blk_cell BK219.out 1).trans rfl, (blk_cell BK219.out 2).trans rfl, (blk_cell BK219.out 3).trans rfl, (blk_cell BK219.out 4).trans rfl, (blk_cell BK219.out 5).trans rfl, (blk_cell BK219.out 6).trans rfl⟩ (fun hHeld => ?_); refine with_tabW spec_ReqText.tab14 spec_ReqText.bits14 (fun HT_ HW_ => ?_)
            generalize wc.drew = w95 at BK219 HB hHeld ⊢
            refine pure_ (i := 0) (N := some 110) (v := ?_) (a' := ?_) #[true, false, false, false, false, false, false, false, false] rfl rfl (any_of HT_.out (by kernel_rfl)) (fun _ _ _ h => h) (Or.inl ⟨by rfl, ?_⟩) ?_ ?_
            rotate_left
            ·intro w'
             go_simp
             with_reducible rfl
            rotate_left
            ·exact qPu
            refine pure_ (i := 4) (N := some 114) (v := ?_) (a' := ?_) #[true, false, false, false, true, false, false, false, false] rfl rfl (any_of HT_.out (by kernel_rfl)) (fun _ _ _ h => h) (Or.inl ⟨by rfl, ?_⟩) ?_ ?_
            rotate_left
            ·intro w'
             go_simp
             with_reducible rfl
            rotate_left
            ·exact qPu
            refine take_ (i := 1) (N := some 111) (v := ?_) (a' := ?_) #[true, true, false, false, true, false, false, false, false] rfl rfl (take_ofW HT_.out HW_.out (by kernel_rfl)) (fun _ _ _ h => h) (Or.inl ⟨by rfl, ?_⟩) hHeld ?_ ?_
            rotate_left
            ·rintro w' ⟨s0, s1, s2, s3, s4, s5, s6⟩
             go_simp
             with_reducible rfl
            rotate_left
            ·exact qPu
            refine pure_ (i := 2) (N := some 112) (v := ?_) (a' := ?_) #[true, true, true, false, true, false, false, false, false] rfl rfl (any_of HT_.out (by kernel_rfl)) (fun _ _ _ h => h) (Or.inl ⟨by rfl, ?_⟩) ?_ ?_
            rotate_left
            ·intro w'
             go_simp
             with_reducible rfl
            rotate_left
            ·exact qPu
            refine pure_ (i := 3) (N := some 113) (v := ?_) (a' := ?_) #[true, true, true, true, true, false, false, false, false] rfl rfl (any_of HT_.out (by kernel_rfl)) (fun _ _ _ h => h) (Or.inl ⟨by rfl, ?_⟩) ?_ ?_
            rotate_left
            ·intro w'
             go_simp
             with_reducible rfl
            rotate_left
            ·exact qPu
            refine take_ (i := 5) (N := some 115) (v := ?_) (a' := ?_) #[true, true, true, true, true, true, false, false, false] rfl rfl (take_ofW HT_.out HW_.out (by kernel_rfl)) (fun _ _ _ h => h) (Or.inl ⟨by rfl, ?_⟩) hHeld ?_ ?_
            rotate_left
            ·rintro w' ⟨s0, s1, s2, s3, s4, s5, s6⟩
             go_simp
             with_reducible rfl
            rotate_left
            ·exact qPu
            refine one_ (i := 6) (N := some 116) #[true, true, true, true, true, true, true, false, false] rfl rfl (one_of HT_.out (by kernel_rfl)) (by decide) (fun K hK => ?_)
            refine goes_ Tryd.func28 (by kernel_rfl) rfl #[.int .i64 a0_2] (by rfl) rfl rfl qL ?_
            with_reducible refine (spec_l04Num.calls kj27 a0_2 t230 _ A92.out).mono ?_
            rintro e w96 ⟨rfl, hb⟩
            refine ⟨_, rfl, ?_⟩
            (replace BK219 := qD BK219 hb); (replace HB := Aside0.mk (below_step (qS1 HB GE219) hb)); (try clear hb); (try clear hb2); (try clear hk); (try clear hi)
            refine hK.out _ _ ⟨(blk_cell BK219.out 0).trans rfl, (blk_cell BK219.out 1).trans rfl, (blk_cell BK219.out 2).trans rfl, (blk_cell BK219.out 3).trans rfl, (blk_cell BK219.out 4).trans rfl, (blk_cell BK219.out 5).trans rfl, (blk_cell BK219.out 6).trans rfl⟩ (fun hHeld => ?_)
            clear hK K
            refine norm_ (a' := ?_) ?_ ?_
            rotate_left
            ·show Act.put _ (some 116) _ = _
             exact qPu
            refine pure_ (i := 7) (N := some 117) (v := ?_) (a' := ?_) #[true, true, true, true, true, true, true, true, false] rfl rfl (any_of HT_.out (by kernel_rfl)) (fun _ _ _ h => h) (Or.inl ⟨by rfl, ?_⟩) ?_ ?_
            rotate_left
            ·intro w'
             go_simp
             with_reducible rfl
            rotate_left
            ·exact qPu
            refine pure_ (i := 8) (N := some 2) (v := ?_) (a' := ?_) #[true, true, true, true, true, true, true, true, true] rfl rfl (any_of HT_.out (by kernel_rfl)) (fun _ _ _ h => h) (Or.inl ⟨by rfl, ?_⟩) ?_ ?_
            rotate_left
            ·intro w'
             go_simp
             with_reducible rfl
            rotate_left
            ·exact qPu
            refine done_ (done_of HT_.out (by kernel_rfl)) ?_
            try go_wp2
            go_ret
            exact ⟨qE, qS1 HB GE219⟩
           ·have c89b0 : (a0_0 == 3) = false := beq_eq_false_iff_ne.mpr c89
            have c89b1 : (a0_0 != 3) = true := bne_iff_ne.mpr c89
            rcases qJ H with ⟨c97, H⟩ | ⟨c97, H⟩
            ·have c97b0 : (a0_0 == 4) = true := beq_iff_eq.mpr c97
             (have c97b1 : (a0_0 != 4) = false := bne_eq_false_iff_eq.mpr c97); clear c97; (obtain ⟨c98, H⟩ := qU H); (have c98b0 := eq_true c98); (have c98b1 : decide (5 + a0_1.size ≤ 9223372036854775807) = true := decide_eq_true c98)
             try have c98b2 : (9223372036854775807 < 5 + a0_1.size) = False := eq_false (Nat.not_lt.2 c98)
             (obtain rfl := Option.some.inj H); (obtain ⟨hcz99_0, hcz99_1, hcz99_2, hcz99_3, hcz99_4, hcz99_5, hcz99_6, hfz99_0, hfz99_1, hfz99_2, hfz99_3, hfz99_4, hfz99_5, hfz99_6⟩ := qC7 BK219)
             go_wp2
             go_ret
             exact ⟨qE, qS1 HB GE219⟩
            ·have c97b0 : (a0_0 == 4) = false := beq_eq_false_iff_ne.mpr c97
             have c97b1 : (a0_0 != 4) = true := bne_iff_ne.mpr c97
             rcases qJ H with ⟨c100, H⟩ | ⟨c100, H⟩
             ·have c100b0 : (a0_0 == 5) = true := beq_iff_eq.mpr c100
              (have c100b1 : (a0_0 != 5) = false := bne_eq_false_iff_eq.mpr c100); clear c100; (obtain ⟨c101, H⟩ := qU H); (have c101b0 := eq_true c101); (have c101b1 : decide (4 + a0_1.size ≤ 9223372036854775807) = true := decide_eq_true c101)
              try have c101b2 : (9223372036854775807 < 4 + a0_1.size) = False := eq_false (Nat.not_lt.2 c101)
              (obtain ⟨c102, H⟩ := qU H); (have c102b0 := eq_true c102); (have c102b1 : decide (((⟨#[115, 101, 116, 32]⟩ : ByteArray) ++ a0_1).size + 1 ≤ 9223372036854775807) = true := decide_eq_true c102)
              try have c102b2 : (9223372036854775807 < ((⟨#[115, 101, 116, 32]⟩ : ByteArray) ++ a0_1).size + 1) = False := eq_false (Nat.not_lt.2 c102)
              try have c102b3 := c102b2
              try simp only [ByteArray.size_append, show (⟨#[115, 101, 116, 32]⟩ : ByteArray).size = 4 from rfl] at c102b3
              obtain ⟨t231, A103, H⟩ := qX H
              try dsimp only at H
              (obtain ⟨c104, H⟩ := qU H); (have c104b0 := eq_true c104); (have c104b1 : decide ((((⟨#[115, 101, 116, 32]⟩ : ByteArray) ++ a0_1) ++ (⟨#[32]⟩ : ByteArray)).size + t231.size ≤ 9223372036854775807) = true := decide_eq_true c104)
              try have c104b2 : (9223372036854775807 < (((⟨#[115, 101, 116, 32]⟩ : ByteArray) ++ a0_1) ++ (⟨#[32]⟩ : ByteArray)).size + t231.size) = False := eq_false (Nat.not_lt.2 c104)
              try have c104b3 := c104b2
              try simp only [ByteArray.size_append, show (⟨#[115, 101, 116, 32]⟩ : ByteArray).size = 4 from rfl, show (⟨#[32]⟩ : ByteArray).size = 1 from rfl] at c104b3
              (obtain rfl := Option.some.inj H); (obtain ⟨hcz105_0, hcz105_1, hcz105_2, hcz105_3, hcz105_4, hcz105_5, hcz105_6, hfz105_0, hfz105_1, hfz105_2, hfz105_3, hfz105_4, hfz105_5, hfz105_6⟩ := qC7 BK219)
              try go_wp2
              (replace BK219 := Aside0.mk (blk_drew BK219.out)); (replace HB := Aside0.mk (below_drew1 HB.out))
              refine start_ (n := 9) (S := fun w' => w'.cell? ⟨gb219, 0, none⟩ = some (.int .i64 a0_0) ∧ w'.cell? ⟨gb219, 1, none⟩ = some (.string a0_1) ∧ w'.cell? ⟨gb219, 2, none⟩ = some (.int .i64 a0_2) ∧ w'.cell? ⟨gb219, 3, none⟩ = some (.int .i64 a0_3) ∧ w'.cell? ⟨gb219, 4, none⟩ = some (.int .i64 a0_4) ∧ w'.cell? ⟨gb219, 5, none⟩ = some (.int .i64 a0_5) ∧ w'.cell? ⟨gb219, 6, none⟩ = some (.string a0_6)) (ds := []) #[false, false, false, false, false, false, false, false, false] (by kernel_rfl) rfl rfl ⟨(blk_cell BK219.out 0).trans rfl, (blk_cell BK219.out 1).trans rfl, (blk_cell BK219.out 2).trans rfl, (blk_cell BK219.out 3).trans rfl, (blk_cell BK219.out 4).trans rfl, (blk_cell BK219.out 5).trans rfl, (blk_cell BK219.out 6).trans rfl⟩ (fun hHeld => ?_); refine with_tabW spec_ReqText.tab18 spec_ReqText.bits18 (fun HT_ HW_ => ?_)
              generalize wc.drew = w106 at BK219 HB hHeld ⊢
              refine pure_ (i := 0) (N := some 125) (v := ?_) (a' := ?_) #[true, false, false, false, false, false, false, false, false] rfl rfl (any_of HT_.out (by kernel_rfl)) (fun _ _ _ h => h) (Or.inl ⟨by rfl, ?_⟩) ?_ ?_
              rotate_left
              ·intro w'
               go_simp
               with_reducible rfl
              rotate_left
              ·exact qPu
              refine pure_ (i := 4) (N := some 129) (v := ?_) (a' := ?_) #[true, false, false, false, true, false, false, false, false] rfl rfl (any_of HT_.out (by kernel_rfl)) (fun _ _ _ h => h) (Or.inl ⟨by rfl, ?_⟩) ?_ ?_
              rotate_left
              ·intro w'
               go_simp
               with_reducible rfl
              rotate_left
              ·exact qPu
              refine take_ (i := 1) (N := some 126) (v := ?_) (a' := ?_) #[true, true, false, false, true, false, false, false, false] rfl rfl (take_ofW HT_.out HW_.out (by kernel_rfl)) (fun _ _ _ h => h) (Or.inl ⟨by rfl, ?_⟩) hHeld ?_ ?_
              rotate_left
              ·rintro w' ⟨s0, s1, s2, s3, s4, s5, s6⟩
               go_simp
               with_reducible rfl
              rotate_left
              ·exact qPu
              refine pure_ (i := 2) (N := some 127) (v := ?_) (a' := ?_) #[true, true, true, false, true, false, false, false, false] rfl rfl (any_of HT_.out (by kernel_rfl)) (fun _ _ _ h => h) (Or.inl ⟨by rfl, ?_⟩) ?_ ?_
              rotate_left
              ·intro w'
               go_simp
               with_reducible rfl
              rotate_left
              ·exact qPu
              refine pure_ (i := 3) (N := some 128) (v := ?_) (a' := ?_) #[true, true, true, true, true, false, false, false, false] rfl rfl (any_of HT_.out (by kernel_rfl)) (fun _ _ _ h => h) (Or.inl ⟨by rfl, ?_⟩) ?_ ?_
              rotate_left
              ·intro w'
               go_simp
               with_reducible rfl
              rotate_left
              ·exact qPu
              refine take_ (i := 5) (N := some 130) (v := ?_) (a' := ?_) #[true, true, true, true, true, true, false, false, false] rfl rfl (take_ofW HT_.out HW_.out (by kernel_rfl)) (fun _ _ _ h => h) (Or.inl ⟨by rfl, ?_⟩) hHeld ?_ ?_
              rotate_left
              ·rintro w' ⟨s0, s1, s2, s3, s4, s5, s6⟩
               go_simp
               with_reducible rfl
              rotate_left
              ·exact qPu
              refine one_ (i := 6) (N := some 131) #[true, true, true, true, true, true, true, false, false] rfl rfl (one_of HT_.out (by kernel_rfl)) (by decide) (fun K hK => ?_)
              refine goes_ Tryd.func28 (by kernel_rfl) rfl #[.int .i64 a0_2] (by rfl) rfl rfl qL ?_
              with_reducible refine (spec_l04Num.calls kj27 a0_2 t231 _ A103.out).mono ?_
              rintro e w107 ⟨rfl, hb⟩
              refine ⟨_, rfl, ?_⟩
              (replace BK219 := qD BK219 hb); (replace HB := Aside0.mk (below_step (qS1 HB GE219) hb)); (try clear hb); (try clear hb2); (try clear hk); (try clear hi)
              refine hK.out _ _ ⟨(blk_cell BK219.out 0).trans rfl, (blk_cell BK219.out 1).trans rfl, (blk_cell BK219.out 2).trans rfl, (blk_cell BK219.out 3).trans rfl, (blk_cell BK219.out 4).trans rfl, (blk_cell BK219.out 5).trans rfl, (blk_cell BK219.out 6).trans rfl⟩ (fun hHeld => ?_)
              clear hK K
              refine norm_ (a' := ?_) ?_ ?_
              rotate_left
              ·show Act.put _ (some 131) _ = _
               exact qPu
              refine pure_ (i := 7) (N := some 132) (v := ?_) (a' := ?_) #[true, true, true, true, true, true, true, true, false] rfl rfl (any_of HT_.out (by kernel_rfl)) (fun _ _ _ h => h) (Or.inl ⟨by rfl, ?_⟩) ?_ ?_
              rotate_left
              ·intro w'
               go_simp
               with_reducible rfl
              rotate_left
              ·exact qPu
              refine pure_ (i := 8) (N := some 2) (v := ?_) (a' := ?_) #[true, true, true, true, true, true, true, true, true] rfl rfl (any_of HT_.out (by kernel_rfl)) (fun _ _ _ h => h) (Or.inl ⟨by rfl, ?_⟩) ?_ ?_
              rotate_left
              ·intro w'
               go_simp
               with_reducible rfl
              rotate_left
              ·exact qPu
              refine done_ (done_of HT_.out (by kernel_rfl)) ?_
              try go_wp2
              go_ret
              exact ⟨qE, qS1 HB GE219⟩
             ·have c100b0 : (a0_0 == 5) = false := beq_eq_false_iff_ne.mpr c100
              (have c100b1 : (a0_0 != 5) = true := bne_iff_ne.mpr c100); (have H' := Aside0.mk H); clear H; (obtain ⟨hcz108_0, hcz108_1, hcz108_2, hcz108_3, hcz108_4, hcz108_5, hcz108_6, hfz108_0, hfz108_1, hfz108_2, hfz108_3, hfz108_4, hfz108_5, hfz108_6⟩ := qC7 BK219)
              go_wp2
              go_loopg [6] kj27 (fun kq v6 w' => ∃ (x6_4 : Int), v6 = .int .i64 x6_4 ∧ Aside0 (spec_ReqText.l0 kq x6_4 a0_0 a0_1 a0_2 a0_3 a0_4 a0_5 a0_6 = some r) ∧ Aside0 (kq ≤ kj27) ∧ Aside0 (w'.heap[gb219]? = some (.cells #[.int .i64 a0_0, .string a0_1, .int .i64 a0_2, .int .i64 a0_3, .int .i64 a0_4, .int .i64 a0_5, .string a0_6] 23 (0, 0))) ∧ Aside0 (Below w.heap.size w w'))
              case atStart => exact ⟨(0), qV, H', ⟨Nat.le_refl _⟩, ⟨qB BK219⟩, ⟨qS1 HB GE219⟩⟩
              case round =>
               clear H'; (try clear c74b0); (try clear c74b1); (try clear c75); (try clear c77b0); (try clear c77b1); (try clear c78); (try clear c78b0); (try clear c78b1); (try clear c78b2); (try clear c79); (try clear c79b0); (try clear c79b1); (try clear c79b2); (try clear c81); (try clear c81b0); (try clear c81b1); (try clear c81b2); (try clear c82); (try clear c82b0); (try clear c82b1); (try clear c82b2); (try clear c84); (try clear c84b0); (try clear c84b1); (try clear c84b2); (try clear c89b0); (try clear c89b1); (try clear c90); (try clear c90b0); (try clear c90b1); (try clear c90b2); (try clear c91); (try clear c91b0); (try clear c91b1); (try clear c91b2); (try clear c93); (try clear c93b0); (try clear c93b1); (try clear c93b2); (try clear c97b0); (try clear c97b1); (try clear c98); (try clear c98b0); (try clear c98b1); (try clear c98b2); (try clear c100b0); (try clear c100b1); (try clear c101); (try clear c101b0); (try clear c101b1); (try clear c101b2); (try clear c102); (try clear c102b0); (try clear c102b1); (try clear c102b2); (try clear c104); (try clear c104b0); (try clear c104b1); (try clear c104b2); (try clear hcz105_0); (try clear hcz105_1); (try clear hcz105_2); (try clear hcz105_3); (try clear hcz105_4); (try clear hcz105_5); (try clear hcz105_6); (try clear hcz108_0); (try clear hcz108_1); (try clear hcz108_2); (try clear hcz108_3); (try clear hcz108_4); (try clear hcz108_5); (try clear hcz108_6); (try clear hcz76_0); (try clear hcz76_1); (try clear hcz76_2); (try clear hcz76_3); (try clear hcz76_4); (try clear hcz76_5); (try clear hcz76_6); (try clear hcz85_0); (try clear hcz85_1); (try clear hcz85_2); (try clear hcz85_3); (try clear hcz85_4); (try clear hcz85_5); (try clear hcz85_6); (try clear hcz94_0); (try clear hcz94_1); (try clear hcz94_2); (try clear hcz94_3); (try clear hcz94_4); (try clear hcz94_5); (try clear hcz94_6); (try clear hcz99_0); (try clear hcz99_1); (try clear hcz99_2); (try clear hcz99_3); (try clear hcz99_4); (try clear hcz99_5); (try clear hcz99_6); (try clear hfz105_0); (try clear hfz105_1); (try clear hfz105_2); (try clear hfz105_3); (try clear hfz105_4); (try clear hfz105_5); (try clear hfz105_6); (try clear hfz108_0); (try clear hfz108_1); (try clear hfz108_2); (try clear hfz108_3); (try clear hfz108_4); (try clear hfz108_5); (try clear hfz108_6); (try clear hfz76_0); (try clear hfz76_1); (try clear hfz76_2); (try clear hfz76_3); (try clear hfz76_4); (try clear hfz76_5); (try clear hfz76_6); (try clear hfz85_0); (try clear hfz85_1); (try clear hfz85_2); (try clear hfz85_3); (try clear hfz85_4); (try clear hfz85_5); (try clear hfz85_6); (try clear hfz94_0); (try clear hfz94_1); (try clear hfz94_2); (try clear hfz94_3); (try clear hfz94_4); (try clear hfz94_5); (try clear hfz94_6); (try clear hfz99_0); (try clear hfz99_1); (try clear hfz99_2); (try clear hfz99_3); (try clear hfz99_4); (try clear hfz99_5); (try clear hfz99_6); (obtain ⟨x6_4, rfl, HA, HK4, BK219, HB⟩ := hrel)
               cases gk with
               | zero => exact absurd HA.out (by simp [spec_ReqText.l0])
               | succ k4 =>
                (have H := HA.out); clear HA; (simp only [spec_ReqText.l0] at H)
                rcases qI H with ⟨c109b0, H⟩ | ⟨c109b0, H⟩
                ·obtain ⟨c110b0, H⟩ := qT H
                 rcases qJ H with ⟨c112, H⟩ | ⟨c112, H⟩
                 ·have c112b0 : ((bt a0_6 x6_4) == 10) = true := beq_iff_eq.mpr c112
                  (have c112b1 : ((bt a0_6 x6_4) != 10) = false := bne_eq_false_iff_eq.mpr c112); clear c112; (obtain rfl := Option.some.inj H); (obtain ⟨hcz113_0, hcz113_1, hcz113_2, hcz113_3, hcz113_4, hcz113_5, hcz113_6, hfz113_0, hfz113_1, hfz113_2, hfz113_3, hfz113_4, hfz113_5, hfz113_6⟩ := qC7 BK219); (have p111 : 0 ≤ (x6_4 : Int) := qO); (have q111 : x6_4 < (a0_6.size : Int) := qO); (have hx111 := bt_at a0_6 x6_4); (replace p111 := eq_true p111); (replace q111 := eq_true q111)
                  go_wp2
                  go_ret
                  exact ⟨qE, qS1 HB GE219⟩
                 ·have c112b0 : ((bt a0_6 x6_4) == 10) = false := beq_eq_false_iff_ne.mpr c112
                  (have c112b1 : ((bt a0_6 x6_4) != 10) = true := bne_iff_ne.mpr c112); (have H' := Aside0.mk H); clear H; (obtain ⟨hcz114_0, hcz114_1, hcz114_2, hcz114_3, hcz114_4, hcz114_5, hcz114_6, hfz114_0, hfz114_1, hfz114_2, hfz114_3, hfz114_4, hfz114_5, hfz114_6⟩ := qC7 BK219); (have p111 : 0 ≤ (x6_4 : Int) := qO); (have q111 : x6_4 < (a0_6.size : Int) := qO); (have hx111 := bt_at a0_6 x6_4); (replace p111 := eq_true p111); (replace q111 := eq_true q111)
                  go_wp2
                  go_roundg k4
                  case measure => have := HJ1.out; have := HJ22.out; have := HJ27.out; have := HK4.out; omega
                  case rel => exact ⟨(wrap64 (x6_4 + 1)), qV, H', ⟨by have := HJ1.out; have := HJ22.out; have := HJ27.out; have := HK4.out; omega⟩, ⟨qB BK219⟩, ⟨qS1 HB GE219⟩⟩
                ·obtain ⟨t232, A115, H⟩ := qX H
                 try dsimp only at H
                 (obtain ⟨c116, H⟩ := qU H); (have c116b0 := eq_true c116); (have c116b1 : decide (5 + t232.size ≤ 9223372036854775807) = true := decide_eq_true c116)
                 try have c116b2 : (9223372036854775807 < 5 + t232.size) = False := eq_false (Nat.not_lt.2 c116)
                 (obtain ⟨c117, H⟩ := qU H); (have c117b0 := eq_true c117); (have c117b1 : decide (((⟨#[116, 101, 120, 116, 32]⟩ : ByteArray) ++ t232).size + 1 ≤ 9223372036854775807) = true := decide_eq_true c117)
                 try have c117b2 : (9223372036854775807 < ((⟨#[116, 101, 120, 116, 32]⟩ : ByteArray) ++ t232).size + 1) = False := eq_false (Nat.not_lt.2 c117)
                 try have c117b3 := c117b2
                 try simp only [ByteArray.size_append, show (⟨#[116, 101, 120, 116, 32]⟩ : ByteArray).size = 5 from rfl] at c117b3
                 (obtain ⟨c118, H⟩ := qU H); (have c118b0 := eq_true c118); (have c118b1 : decide ((((⟨#[116, 101, 120, 116, 32]⟩ : ByteArray) ++ t232) ++ (⟨#[32]⟩ : ByteArray)).size + a0_6.size ≤ 9223372036854775807) = true := decide_eq_true c118)
                 try have c118b2 : (9223372036854775807 < (((⟨#[116, 101, 120, 116, 32]⟩ : ByteArray) ++ t232) ++ (⟨#[32]⟩ : ByteArray)).size + a0_6.size) = False := eq_false (Nat.not_lt.2 c118)
                 try have c118b3 := c118b2
                 try simp only [ByteArray.size_append, show (⟨#[116, 101, 120, 116, 32]⟩ : ByteArray).size = 5 from rfl, show (⟨#[32]⟩ : ByteArray).size = 1 from rfl] at c118b3
                 (obtain rfl := Option.some.inj H); (obtain ⟨hcz119_0, hcz119_1, hcz119_2, hcz119_3, hcz119_4, hcz119_5, hcz119_6, hfz119_0, hfz119_1, hfz119_2, hfz119_3, hfz119_4, hfz119_5, hfz119_6⟩ := qC7 BK219)
                 try go_wp2
                 (replace BK219 := Aside0.mk (blk_drew BK219.out)); (replace HB := Aside0.mk (below_drew1 HB.out))
                 refine start_ (n := 9) (S := fun w' => w'.cell? ⟨gb219, 0, none⟩ = some (.int .i64 a0_0) ∧ w'.cell? ⟨gb219, 1, none⟩ = some (.string a0_1) ∧ w'.cell? ⟨gb219, 2, none⟩ = some (.int .i64 a0_2) ∧ w'.cell? ⟨gb219, 3, none⟩ = some (.int .i64 a0_3) ∧ w'.cell? ⟨gb219, 4, none⟩ = some (.int .i64 a0_4) ∧ w'.cell? ⟨gb219, 5, none⟩ = some (.int .i64 a0_5) ∧ w'.cell? ⟨gb219, 6, none⟩ = some (.string a0_6)) (ds := []) #[false, false, false, false, false, false, false, false, false] (by kernel_rfl) rfl rfl ⟨(blk_cell BK219.out 0).trans rfl, (blk_cell BK219.out 1).trans rfl, (blk_cell BK219.out 2).trans rfl, (blk_cell BK219.out 3).trans rfl, (blk_cell BK219.out 4).trans rfl, (blk_cell BK219.out 5).trans rfl, (blk_cell BK219.out 6).trans rfl⟩ (fun hHeld => ?_); refine with_tabW spec_ReqText.tab24 spec_ReqText.bits24 (fun HT_ HW_ => ?_)
                 generalize wr.drew = w120 at BK219 HB hHeld ⊢
                 refine pure_ (i := 0) (N := some 145) (v := ?_) (a' := ?_) #[true, false, false, false, false, false, false, false, false] rfl rfl (any_of HT_.out (by kernel_rfl)) (fun _ _ _ h => h) (Or.inl ⟨by rfl, ?_⟩) ?_ ?_
                 rotate_left
                 ·intro w'
                  go_simp
                  with_reducible rfl
                 rotate_left
                 ·exact qPu
                 refine pure_ (i := 5) (N := some 150) (v := ?_) (a' := ?_) #[true, false, false, false, false, true, false, false, false] rfl rfl (any_of HT_.out (by kernel_rfl)) (fun _ _ _ h => h) (Or.inl ⟨by rfl, ?_⟩) ?_ ?_
                 rotate_left
                 ·intro w'
                  go_simp
                  with_reducible rfl
                 rotate_left
                 ·exact qPu
                 refine take_ (i := 1) (N := some 146) (v := ?_) (a' := ?_) #[true, true, false, false, false, true, false, false, false] rfl rfl (take_ofW HT_.out HW_.out (by kernel_rfl)) (fun _ _ _ h => h) (Or.inl ⟨by rfl, ?_⟩) hHeld ?_ ?_
                 rotate_left
                 ·rintro w' ⟨s0, s1, s2, s3, s4, s5, s6⟩
                  go_simp
                  with_reducible rfl
                 rotate_left
                 ·exact qPu
                 refine take_ (i := 6) (N := some 151) (v := ?_) (a' := ?_) #[true, true, false, false, false, true, true, false, false] rfl rfl (take_ofW HT_.out HW_.out (by kernel_rfl)) (fun _ _ _ h => h) (Or.inl ⟨by rfl, ?_⟩) hHeld ?_ ?_
                 rotate_left
                 ·rintro w' ⟨s0, s1, s2, s3, s4, s5, s6⟩
                  go_simp
                  with_reducible rfl
                 rotate_left
                 ·exact qPu
                 refine one_ (i := 2) (N := some 147) #[true, true, true, false, false, true, true, false, false] rfl rfl (one_of HT_.out (by kernel_rfl)) (by decide) (fun K hK => ?_)
                 refine goes_ Tryd.func28 (by kernel_rfl) rfl #[.int .i64 a0_5] (by rfl) rfl rfl qL ?_
                 with_reducible refine (spec_l04Num.calls k4 a0_5 t232 _ A115.out).mono ?_
                 rintro e w121 ⟨rfl, hb⟩
                 refine ⟨_, rfl, ?_⟩
                 (replace BK219 := qD BK219 hb); (replace HB := Aside0.mk (below_step (qS1 HB GE219) hb)); (try clear hb); (try clear hb2); (try clear hk); (try clear hi)
                 refine hK.out _ _ ⟨(blk_cell BK219.out 0).trans rfl, (blk_cell BK219.out 1).trans rfl, (blk_cell BK219.out 2).trans rfl, (blk_cell BK219.out 3).trans rfl, (blk_cell BK219.out 4).trans rfl, (blk_cell BK219.out 5).trans rfl, (blk_cell BK219.out 6).trans rfl⟩ (fun hHeld => ?_)
                 clear hK K
                 refine norm_ (a' := ?_) ?_ ?_
                 rotate_left
                 ·show Act.put _ (some 147) _ = _
                  exact qPu
                 refine pure_ (i := 3) (N := some 148) (v := ?_) (a' := ?_) #[true, true, true, true, false, true, true, false, false] rfl rfl (any_of HT_.out (by kernel_rfl)) (fun _ _ _ h => h) (Or.inl ⟨by rfl, ?_⟩) ?_ ?_
                 rotate_left
                 ·intro w'
                  go_simp
                  with_reducible rfl
                 rotate_left
                 ·exact qPu
                 refine pure_ (i := 4) (N := some 149) (v := ?_) (a' := ?_) #[true, true, true, true, true, true, true, false, false] rfl rfl (any_of HT_.out (by kernel_rfl)) (fun _ _ _ h => h) (Or.inl ⟨by rfl, ?_⟩) ?_ ?_
                 rotate_left
                 ·intro w'
                  go_simp
                  with_reducible rfl
                 rotate_left
                 ·exact qPu
                 refine pure_ (i := 7) (N := some 152) (v := ?_) (a' := ?_) #[true, true, true, true, true, true, true, true, false] rfl rfl (any_of HT_.out (by kernel_rfl)) (fun _ _ _ h => h) (Or.inl ⟨by rfl, ?_⟩) ?_ ?_
                 rotate_left
                 ·intro w'
                  go_simp
                  with_reducible rfl
                 rotate_left
                 ·exact qPu
                 refine pure_ (i := 8) (N := some 2) (v := ?_) (a' := ?_) #[true, true, true, true, true, true, true, true, true] rfl rfl (any_of HT_.out (by kernel_rfl)) (fun _ _ _ h => h) (Or.inl ⟨by rfl, ?_⟩) ?_ ?_
                 rotate_left
                 ·intro w'
                  go_simp
                  with_reducible rfl
                 rotate_left
                 ·exact qPu
                 refine done_ (done_of HT_.out (by kernel_rfl)) ?_
                 try go_wp2
                 go_ret
                 exact ⟨qE, qS1 HB GE219⟩
end Go.Proofs.YtgnbfmoifnfneaaDoor.QA
