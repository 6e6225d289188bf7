/- Part of the proof of the law FnExactReplyLine: what it uses of the texts that this session and the kit's print wrote. -/
import Derived.Test.YtbpffdhkeinmcaaDoorZFnExactReplyLinex1
import Derived.Test.YtbpffdhkeinmcaaDoorZFnExactReplyLinex2
import Derived.Test.YtbpffdhkeinmcaaDoorZFnExactReplyLinex3
import Derived.Test.YtbpffdhkeinmcaaDoorZFnExactReplyLinex4
import Derived.Test.YtbpffdhkeinmcaaDoorZFnExactReplyLinex5
import Derived.Test.YtbpffdhkeinmcaaDoorZFnExactReplyLinex6
import Derived.Test.YtbpffdhkeinmcaaDoorZFnExactReplyLinex7
import Derived.Test.YtbpffdhkeinmcaaDoorZFnExactReplyLinex8
import Derived.Test.YtbpffdhkeinmcaaDoorZFnExactReplyLinex9
import Derived.Test.YtbpffdhkeinmcaaDoorZFnExactReplyLinex10
import Derived.Test.YtbpffdhkeinmcaaDoorZFnExactReplyLinex11
import Derived.Test.YtbpffdhkeinmcaaDoorZFnExactReplyLinex12
import Derived.Lib.ItoaNum
import Derived.Lib.ItoaLen
import Derived.Laws.Strings
namespace Go.Proofs.YtbpffdhkeinmcaaDoor.L
open Go.RowKit Go.Proofs.YtbpffdhkeinmcaaDoor.QD Go.Proofs.YtbpffdhkeinmcaaDoorW.PrintWords Go.Proofs.YtbpffdhkeinmcaaDoorW.PrintLast Go.Proofs.YtbpffdhkeinmcaaDoorW.PrintMore
set_option linter.unusedVariables false
set_option linter.unusedSimpArgs false
theorem idxF_some_t {α : Type} {p : α → Option Bool} {q : α → Bool} : ∀ (l : List α) (i : Nat), (∀ x, x ∈ l → p x = some (q x)) → ∃ j : Int, idxF p l i = some j ∧ (decide (0 ≤ j) = l.any q)
 | [], _, _ => ⟨-1, rfl, rfl⟩
 | x :: xs, i, h => by
  unfold idxF
  rw [h x (List.mem_cons_self ..), Option.bind_some]
  cases hq : q x with
  | true => exact ⟨i, by simp, by simp [hq]⟩
  | false =>
   obtain ⟨j, h1, h2⟩ := idxF_some_t xs (i + 1) (fun y hy => h y (List.mem_cons_of_mem _ hy))
   exact ⟨j, by simpa using h1, by simpa [hq] using h2⟩
theorem contF_some_t {α : Type} {p : α → Option Bool} {q : α → Bool} (l : List α) (h : ∀ x, x ∈ l → p x = some (q x)) : contF p l = some (l.any q) := by
 obtain ⟨j, h1, h2⟩ := idxF_some_t l 0 h
 unfold contF
 rw [h1, Option.bind_some, h2]
abbrev Rec' := S78
abbrev zRec : Rec' := z78
def emptyB (r : Rec') : Bool := !r.f0 && (r.f1 == 0 && (r.f2 == 0 && (r.f3.toList == ([] : List UInt8))))
def recB (r : Rec') : Bool := emptyB r || (r.f0 && (decide (0 ≤ r.f1 ∧ r.f1 ≤ 7) && (decide (0 ≤ r.f2 ∧ r.f2 ≤ 65535) && wordB r.f3)))
theorem isRec_ev (r : Rec') (h : r.f3.size ≤ 9223372036854775807) : Ev (fun k => impl_isRec.f k r.f0 r.f1 r.f2 r.f3) (recB r) := by
 unfold impl_isRec.f recB
 cases he : emptyB r with
 | true => unfold emptyB at he; simp only [he, if_true, Bool.true_or]; exact Ev.now _
 | false =>
  unfold emptyB at he
  simp only [he, Bool.false_eq_true, if_false, Bool.false_or, within_eq, Option.bind_some]
  cases r.f0 with
  | false => simp only [Bool.false_eq_true, if_false, Bool.false_and]; exact Ev.now _
  | true =>
   simp only [if_true, Bool.true_and]
   cases decide (0 ≤ r.f1 ∧ r.f1 ≤ 7) with
   | false => simp only [Bool.false_eq_true, if_false, Bool.false_and]; exact Ev.now _
   | true =>
    simp only [if_true, Bool.true_and]
    cases decide (0 ≤ r.f2 ∧ r.f2 ≤ 65535) with
    | false => simp only [Bool.false_eq_true, if_false, Bool.false_and]; exact Ev.now _
    | true => simp only [if_true, Bool.true_and]; exact Ev.bind (isWord_ev _ h) (Ev.now _)
theorem recOk_ev (r : Rec') (h : r.f3.size ≤ 9223372036854775807) : Ev (fun k => spec_RecOk.f k r.f0 r.f1 r.f2 r.f3) (recB r) := by
 unfold spec_RecOk.f spec_l09Empty.f recB
 simp only [Option.bind_some]
 cases he : emptyB r with
 | true => unfold emptyB at he; simp only [he, if_true, Bool.true_or]; exact Ev.now _
 | false =>
  unfold emptyB at he
  simp only [he, Bool.false_eq_true, if_false, Bool.false_or]
  cases r.f0 with
  | false => simp only [Bool.false_eq_true, if_false, Bool.false_and]; exact Ev.now _
  | true =>
   simp only [if_true, Bool.true_and]
   by_cases h1 : r.f1 ≥ 0
   ·by_cases h2 : r.f1 ≤ 7
    ·rw [decide_eq_true (show 0 ≤ r.f1 ∧ r.f1 ≤ 7 from ⟨h1, h2⟩)]
     simp only [if_pos h1, if_pos h2, Bool.true_and]
     by_cases h3 : r.f2 ≥ 0
     ·by_cases h4 : r.f2 ≤ 65535
      ·rw [decide_eq_true (show 0 ≤ r.f2 ∧ r.f2 ≤ 65535 from ⟨h3, h4⟩)]
       simp only [if_pos h3, if_pos h4, Bool.true_and]
       exact Ev.bind (specWordOk_ev _ h) (Ev.now _)
      ·rw [decide_eq_false (show ¬ (0 ≤ r.f2 ∧ r.f2 ≤ 65535) by omega)]
       simp only [if_pos h3, if_neg h4, Bool.false_and]
       exact Ev.now _
     ·rw [decide_eq_false (show ¬ (0 ≤ r.f2 ∧ r.f2 ≤ 65535) by omega)]
      simp only [if_neg h3, Bool.false_and]
      exact Ev.now _
    ·rw [decide_eq_false (show ¬ (0 ≤ r.f1 ∧ r.f1 ≤ 7) by omega)]
     simp only [if_pos h1, if_neg h2, Bool.false_and]
     exact Ev.now _
   ·rw [decide_eq_false (show ¬ (0 ≤ r.f1 ∧ r.f1 ≤ 7) by omega)]
    simp only [if_neg h1, Bool.false_and]
    exact Ev.now _
theorem rec_live {r : Rec'} (h : recB r = true) (hl : r.f0 = true) : 0 ≤ r.f1 ∧ r.f1 ≤ 7 ∧ 0 ≤ r.f2 ∧ r.f2 ≤ 65535 ∧ r.f3.size ≤ 32 := by
 unfold recB emptyB at h
 (rw [hl] at h); (simp only [Bool.not_true, Bool.false_and, Bool.false_or, Bool.true_and, Bool.and_eq_true, decide_eq_true_eq] at h); (have := wordB_size h.2.2)
 omega
def aheadB (a b : Rec') : Bool := if (a.f0 && b.f0) = true then (if a.f1 = b.f1 then (if a.f2 = b.f2 then decide (cmpL a.f3.toList b.f3.toList < 0) else decide (b.f2 < a.f2)) else decide (a.f1 < b.f1)) else a.f0 && !b.f0
theorem cmpL_anti : ∀ x y : List UInt8, cmpL y x = - cmpL x y
 | [], [] => rfl
 | [], _ :: _ => rfl
 | _ :: _, [] => rfl
 | a :: x, b :: y => by
  unfold cmpL
  by_cases h : a < b
  ·have h' : ¬ b < a := fun hh => by
    (have h1 := UInt8.lt_iff_toNat_lt.mp h); (have h2 := UInt8.lt_iff_toNat_lt.mp hh)
    omega
   rw [if_pos h, if_neg h', if_pos h]
   rfl
  ·by_cases h' : b < a
   ·simp [h, h']
   ·rw [if_neg h, if_neg h', if_neg h', if_neg h]
    exact cmpL_anti x y
theorem cmpL_trans : ∀ x y z : List UInt8, 0 ≤ cmpL x y → 0 ≤ cmpL y z → 0 ≤ cmpL x z
 | _, _, [], _, _ => by rename_i x _ _ _; cases x <;> simp [cmpL]
 | [], [], _ :: _, _, h => by simp [cmpL] at h
 | [], _ :: _, _ :: _, h, _ => by simp [cmpL] at h
 | _ :: _, [], _ :: _, _, h => by simp [cmpL] at h
 | a :: x, b :: y, c :: z, h1, h2 => by
  unfold cmpL at h1 h2 ⊢
  (have tl : ∀ u v : UInt8, u < v ↔ u.toNat < v.toNat := fun u v => UInt8.lt_iff_toNat_lt); (simp only [tl] at h1 h2 ⊢)
  by_cases e1 : a.toNat < b.toNat
  ·rw [if_pos e1] at h1; omega
  ·by_cases e2 : b.toNat < c.toNat
   ·rw [if_pos e2] at h2; omega
   ·rw [if_neg e1] at h1
    (rw [if_neg e2] at h2); (rw [if_neg (by omega)])
    by_cases e3 : c.toNat < a.toNat
    ·rw [if_pos e3]; omega
    ·rw [if_neg e3]
     rw [if_neg (by omega)] at h1 h2
     exact cmpL_trans x y z h1 h2
theorem compareInt_eq (a b : Int) : cmp_Compare_int.f a b = some (if a < b then -1 else if a > b then 1 else 0) := by
 unfold cmp_Compare_int.f cmp_isNaN_int.f
 simp only [Option.bind_some, bne_self_eq_false, Bool.false_eq_true, if_false]
 split
 ·rfl
 ·split <;> rfl
theorem compareString_eq (a b : ByteArray) : cmp_Compare_string.f a b = some (cmpL a.toList b.toList) := by
 unfold cmp_Compare_string.f cmp_isNaN_string.f
 (simp only [Option.bind_some, bne_self_eq_false, Bool.false_eq_true, if_false]); (have h1 := cmpL_less a.toList b.toList); (have h2 := cmpL_less b.toList a.toList); (have h3 := cmpL_anti a.toList b.toList); (have h4 := cmpL_range a.toList b.toList)
 generalize cmpL a.toList b.toList = c at h1 h2 h3 h4 ⊢
 rw [h3] at h2
 cases hx : Op.bytesLess a.toList b.toList with
 | true => rw [hx] at h1; rw [if_pos rfl]; congr 1; simp at h1; omega
 | false =>
  (rw [if_neg (by decide)]); (rw [hx] at h1)
  cases hy : Op.bytesLess b.toList a.toList with
  | true => rw [hy] at h2; rw [if_pos rfl]; congr 1; simp at h1 h2; omega
  | false => rw [hy] at h2; rw [if_neg (by decide)]; congr 1; simp at h1 h2; omega
theorem or3_ev (a b c : Int) : Ev (fun k => cmp_Or_int.f k [a, b, c]) (if a = 0 then (if b = 0 then c else b) else a) := by
 unfold cmp_Or_int.f
 (have e0 : rd [a, b, c] ((0 : Nat) : Int) = a := rfl); (have e1 : rd [a, b, c] ((1 : Nat) : Int) = b := rfl); (have e2 : rd [a, b, c] ((2 : Nat) : Int) = c := rfl); (have w1 : wrap64 (((0 : Nat) : Int) + 1) = ((1 : Nat) : Int) := wrap_nat_succ (by omega)); (have w2 : wrap64 (((1 : Nat) : Int) + 1) = ((2 : Nat) : Int) := wrap_nat_succ (by omega)); (have w3 : wrap64 (((2 : Nat) : Int) + 1) = ((3 : Nat) : Int) := wrap_nat_succ (by omega))
 show Ev (fun k => cmp_Or_int.l0 k 0 [a, b, c] ((3 : Nat) : Int) ((0 : Nat) : Int)) _
 refine Ev.step (fun k => rfl) ?_
 simp only [cmp_Or_int.l0, if_pos (show ((0 : Nat) : Int) < ((3 : Nat) : Int) by omega), if_pos (show (0 : Int) ≤ ((0 : Nat) : Int) by omega), if_pos (show ((0 : Nat) : Int) < (([a, b, c] : List Int).length : Int) from by simp only [List.length_cons, List.length_nil]; omega), e0, w1]
 by_cases ha : a = 0
 ·simp only [if_pos ha]
  refine Ev.step (fun k => rfl) ?_
  simp only [cmp_Or_int.l0, if_pos (show ((1 : Nat) : Int) < ((3 : Nat) : Int) by omega), if_pos (show (0 : Int) ≤ ((1 : Nat) : Int) by omega), if_pos (show ((1 : Nat) : Int) < (([a, b, c] : List Int).length : Int) from by simp only [List.length_cons, List.length_nil]; omega), e1, w2]
  by_cases hb : b = 0
  ·simp only [if_pos hb]
   refine Ev.step (fun k => rfl) ?_
   simp only [cmp_Or_int.l0, if_pos (show ((2 : Nat) : Int) < ((3 : Nat) : Int) by omega), if_pos (show (0 : Int) ≤ ((2 : Nat) : Int) by omega), if_pos (show ((2 : Nat) : Int) < (([a, b, c] : List Int).length : Int) from by simp only [List.length_cons, List.length_nil]; omega), e2, w3]
   by_cases hc : c = 0
   ·simp only [if_pos hc]
    refine Ev.step (f := fun _ => some 0) (fun k => ?_) (evVal (Ev.now _) hc.symm)
    simp only [cmp_Or_int.l0, if_neg (show ¬ ((3 : Nat) : Int) < ((3 : Nat) : Int) by omega)]
   ·simp only [if_neg hc]; exact Ev.now _
  ·simp only [if_neg hb]; exact Ev.now _
 ·simp only [if_neg ha]; exact Ev.now _
theorem isAhead_ev (a b : Rec') : Ev (fun k => impl_isAhead.f k a.f0 a.f1 a.f2 a.f3 b.f0 b.f1 b.f2 b.f3) (aheadB a b) := by
 unfold impl_isAhead.f aheadB
 cases ha : a.f0 with
 | false =>
  simp only [Bool.false_eq_true, if_false, Bool.false_and]
  refine Ev.step (fun k => rfl) ?_
  simp only [impl_isAhead.j0, Bool.false_eq_true, if_false, if_true]
  exact Ev.now _
 | true =>
  simp only [if_true, Bool.true_and]
  cases hb : b.f0 with
  | false =>
   simp only [Bool.not_false, Bool.false_eq_true, if_false]
   refine Ev.step (fun k => rfl) ?_
   simp only [impl_isAhead.j0, if_true]
   exact Ev.now _
  | true =>
   simp only [Bool.not_true, if_true]
   refine Ev.step (fun k => rfl) ?_
   simp only [impl_isAhead.j0, Bool.false_eq_true, if_false]
   refine Ev.bind (evConst (compareInt_eq _ _)) (Ev.bind (evConst (compareInt_eq _ _)) (Ev.bind (evConst (compareString_eq _ _)) (Ev.bind (or3_ev _ _ _) (evVal (Ev.now _) ?_))))
   have hr := cmpL_range a.f3.toList b.f3.toList
   generalize cmpL a.f3.toList b.f3.toList = c at hr
   by_cases h1 : a.f1 = b.f1
   ·rw [if_pos h1, if_neg (show ¬ a.f1 < b.f1 by omega), if_neg (show ¬ a.f1 > b.f1 by omega), if_pos rfl]
    by_cases h2 : a.f2 = b.f2
    ·rw [if_pos h2, if_neg (show ¬ b.f2 < a.f2 by omega), if_neg (show ¬ b.f2 > a.f2 by omega), if_pos rfl]
    ·rw [if_neg h2]
     by_cases h3 : b.f2 < a.f2
     ·rw [if_pos h3, if_neg (by omega)]; simp [h3]
     ·rw [if_neg h3, if_pos (show b.f2 > a.f2 by omega), if_neg (by omega)]; simp [h3]
   ·rw [if_neg h1]
    by_cases h3 : a.f1 < b.f1
    ·rw [if_pos h3, if_neg (by omega)]; simp [h3]
    ·rw [if_neg h3, if_pos (show a.f1 > b.f1 by omega), if_neg (by omega)]; simp [h3]
theorem recAhead_ev (a b : Rec') (ha : recB a = true) (hb : recB b = true) (h1 : a.f3.size ≤ 1048576) (h2 : b.f3.size ≤ 1048576) : Ev (fun k => spec_RecAhead.f k a.f0 a.f1 a.f2 a.f3 b.f0 b.f1 b.f2 b.f3) (aheadB a b) := by
 unfold spec_RecAhead.f
 refine Ev.bind (recOk_ev a (by omega)) ?_
 simp only [ha, if_true]
 refine Ev.bind (recOk_ev b (by omega)) ?_
 simp only [hb, if_true]
 refine Ev.step (fun k => rfl) ?_
 unfold aheadB
 cases hla : a.f0 with
 | false => simp only [spec_RecAhead.j0, Bool.not_false, if_true, Bool.false_and, Bool.false_eq_true, if_false]; exact Ev.now _
 | true =>
  cases hlb : b.f0 with
  | false => simp only [spec_RecAhead.j0, Bool.not_true, Bool.false_eq_true, if_false, Bool.true_and, Bool.not_false]; exact Ev.now _
  | true =>
   simp only [spec_RecAhead.j0, Bool.not_true, Bool.false_eq_true, if_false, if_true, Bool.true_and]
   by_cases e1 : a.f1 = b.f1
   ·simp only [if_pos e1]
    by_cases e2 : a.f2 = b.f2
    ·simp only [if_pos e2]
     exact Ev.bind (wordCmp_ev _ _ (by omega) (by omega)) (Ev.now _)
    ·simp only [if_neg e2]; exact Ev.now _
   ·simp only [if_neg e1]; exact Ev.now _
theorem ahead_trans {a b c : Rec'} (h1 : aheadB c b = false) (h2 : aheadB b a = false) : aheadB c a = false := by
 unfold aheadB at *
 cases ha : a.f0 <;> cases hb : b.f0 <;> cases hc : c.f0 <;> simp only [ha, hb, hc, Bool.and_self, Bool.and_true, Bool.true_and, Bool.and_false, Bool.false_and, Bool.not_true, Bool.not_false, Bool.false_eq_true, if_false, if_true] at h1 h2 ⊢
 all_goals first
  | (cases h1; done)
  | (cases h2; done)
  | rfl
  | skip
 have ht := cmpL_trans c.f3.toList b.f3.toList a.f3.toList
 generalize cmpL c.f3.toList b.f3.toList = u at *
 generalize cmpL b.f3.toList a.f3.toList = v at *
 generalize cmpL c.f3.toList a.f3.toList = w at *
 generalize c.f1 = c1 at *
 generalize b.f1 = b1 at *
 generalize a.f1 = a1 at *
 generalize c.f2 = c2 at *
 generalize b.f2 = b2 at *
 generalize a.f2 = a2 at *
 have k1 : b1 < c1 ∨ (c1 = b1 ∧ (c2 < b2 ∨ (c2 = b2 ∧ 0 ≤ u))) := by
  by_cases e : c1 = b1
  ·rw [if_pos e] at h1
   by_cases e' : c2 = b2
   ·rw [if_pos e', decide_eq_false_iff_not] at h1; omega
   ·rw [if_neg e', decide_eq_false_iff_not] at h1; omega
  ·rw [if_neg e, decide_eq_false_iff_not] at h1; omega
 have k2 : a1 < b1 ∨ (b1 = a1 ∧ (b2 < a2 ∨ (b2 = a2 ∧ 0 ≤ v))) := by
  by_cases e : b1 = a1
  ·rw [if_pos e] at h2
   by_cases e' : b2 = a2
   ·rw [if_pos e', decide_eq_false_iff_not] at h2; omega
   ·rw [if_neg e', decide_eq_false_iff_not] at h2; omega
  ·rw [if_neg e, decide_eq_false_iff_not] at h2; omega
 by_cases e : c1 = a1
 ·rw [if_pos e]
  by_cases e' : c2 = a2
  ·rw [if_pos e', decide_eq_false_iff_not]
   (have h3 : 0 ≤ u ∧ 0 ≤ v := by omega); (have := ht h3.1 h3.2)
   omega
  ·rw [if_neg e', decide_eq_false_iff_not]; omega
 ·rw [if_neg e, decide_eq_false_iff_not]; omega
theorem search_inv {ρ : Type} (n : Nat) (G : Nat → Int → Option ρ) (p : Nat → Bool) (rno ryes : ρ)
  (hgo : ∀ i, i < n → (∀ j, j < i → p j = true) → p i = true → ∀ r, Ev (fun k => G k ((i + 1 : Nat) : Int)) r → Ev (fun k => G k (i : Int)) r)
  (hstop : ∀ i, i < n → (∀ j, j < i → p j = true) → p i = false → Ev (fun k => G k (i : Int)) rno)
  (hend : Ev (fun k => G k (n : Int)) ryes) : Ev (fun k => G k 0) (if (List.range n).all p then ryes else rno) := by
 have key : ∀ d i, i + d = n → (∀ j, j < i → p j = true) → Ev (fun k => G k (i : Int)) (if ((List.range n).drop i).all p then ryes else rno) := by
  intro d
  induction d with
  | zero =>
   intro i h _
   (obtain rfl : i = n := by omega); (rw [List.drop_of_length_le (by simp)])
   exact hend
  | succ d ih =>
   intro i h hp0
   (have hi : i < n := by omega); (rw [List.drop_eq_getElem_cons (by simpa using hi), List.getElem_range, List.all_cons])
   cases hp : p i with
   | true => simpa using hgo i hi hp0 hp _ (ih (i + 1) (by omega) (fun j hj => by
     by_cases e : j = i
     ·subst e; exact hp
     ·exact hp0 j (by omega)))
   | false => simpa using hstop i hi hp0 hp
 have := key n 0 (by omega) (fun j hj => absurd hj (Nat.not_lt_zero _))
 simpa using this
theorem search_fail {ρ : Type} (n : Nat) (G : Nat → Int → Option ρ) (p : Nat → Bool) (rno : ρ) (hall : (List.range n).all p = false)
  (hgo : ∀ i, i < n → p i = true → ∀ r, Ev (fun k => G k ((i + 1 : Nat) : Int)) r → Ev (fun k => G k (i : Int)) r)
  (hstop : ∀ i, i < n → p i = false → Ev (fun k => G k (i : Int)) rno) : Ev (fun k => G k 0) rno := by
 have key : ∀ d i, i + d = n → ((List.range n).drop i).all p = false → Ev (fun k => G k (i : Int)) rno := by
  intro d
  induction d with
  | zero =>
   intro i h hf
   rw [List.drop_of_length_le (by simp; omega)] at hf
   cases hf
  | succ d ih =>
   intro i h hf
   (have hi : i < n := by omega); (rw [List.drop_eq_getElem_cons (by simpa using hi), List.getElem_range, List.all_cons] at hf)
   cases hp : p i with
   | true => rw [hp, Bool.true_and] at hf; exact hgo i hi hp _ (ih (i + 1) (by omega) hf)
   | false => exact hstop i hi hp
 exact key n 0 (by omega) (by simpa using hall)
def at_ (l : List Rec') (i : Nat) : Rec' := l.getD i zRec
def sameW (a b : Rec') : Bool := a.f3.toList == b.f3.toList
def topI (l : List Rec') (i : Nat) : Bool := recB (at_ l i) && (decide ((at_ l i).f1 ≤ 3) && (!(decide (0 < i) && aheadB (at_ l i) (at_ l (i - 1))) && !((at_ l i).f0 && (l.take i).any (fun p => sameW p (at_ l i)))))
def topS (l : List Rec') (i : Nat) : Bool := recB (at_ l i) && (decide ((at_ l i).f1 ≤ 3) && (!(decide (0 < i) && ((at_ l i).f0 && !(at_ l (i - 1)).f0)) && (List.range i).all (fun j => !aheadB (at_ l i) (at_ l j) && !((at_ l i).f0 && sameW (at_ l i) (at_ l j)))))
def topB (l : List Rec') : Bool := decide (l.length = 8) && (List.range l.length).all (topI l)
theorem take_any (l : List Rec') (q : Rec' → Bool) (i : Nat) (h : i ≤ l.length) : (l.take i).any q = (List.range i).any (fun j => q (at_ l j)) := by
 rw [Bool.eq_iff_iff, List.any_eq_true, List.any_eq_true]
 constructor
 ·rintro ⟨x, hx, hq⟩
  (obtain ⟨j, hj, rfl⟩ := List.getElem_of_mem hx); (rw [List.length_take] at hj)
  refine ⟨j, List.mem_range.2 (by omega), ?_⟩
  unfold at_
  rw [getD_lt _ (by omega)]
  simpa using hq
 ·rintro ⟨j, hj, hq⟩
  have hj := List.mem_range.1 hj
  refine ⟨at_ l j, ?_, hq⟩
  unfold at_
  rw [getD_lt _ (by omega), List.mem_take_iff_getElem]
  exact ⟨j, by omega, rfl⟩
theorem tops_same (l : List Rec') : (List.range l.length).all (topI l) = (List.range l.length).all (topS l) := by
 rw [Bool.eq_iff_iff, List.all_eq_true, List.all_eq_true]
 constructor
 ·intro h i hi
  (have hi' := List.mem_range.1 hi); (have hg := h i hi)
  unfold topI at hg
  (simp only [Bool.and_eq_true, Bool.not_eq_true', Bool.and_eq_false_iff, decide_eq_true_eq] at hg); (obtain ⟨h1, h2, h3, h4⟩ := hg)
  have hadj : ∀ m, m < l.length → 0 < m → aheadB (at_ l m) (at_ l (m - 1)) = false := by
   intro m hm h0
   have := h m (List.mem_range.2 hm)
   unfold topI at this
   simp only [Bool.and_eq_true, Bool.not_eq_true', Bool.and_eq_false_iff, decide_eq_true_eq] at this
   rcases this.2.2.1 with hh | hh
   ·rw [decide_eq_false_iff_not] at hh; omega
   ·exact hh
  have hall : ∀ d j, j + d + 1 = i → aheadB (at_ l i) (at_ l j) = false := by
   intro d
   induction d with
   | zero => intro j hj; have := hadj i hi' (by omega); rwa [show i - 1 = j by omega] at this
   | succ d ih =>
    intro j hj
    refine ahead_trans (ih (j + 1) (by omega)) ?_
    have := hadj (j + 1) (by omega) (by omega)
    rwa [Nat.add_sub_cancel] at this
  unfold topS
  simp only [Bool.and_eq_true, Bool.not_eq_true', Bool.and_eq_false_iff, decide_eq_true_eq, List.all_eq_true]
  refine ⟨h1, h2, ?_, fun j hj => ⟨?_, ?_⟩⟩
  ·by_cases h0 : 0 < i
   ·right
    have ha := hadj i hi' h0
    cases hl : (at_ l i).f0 with
    | false => exact .inl rfl
    | true =>
     right
     cases hp : (at_ l (i - 1)).f0 with
     | true => rfl
     | false => unfold aheadB at ha; rw [hl, hp] at ha; simp at ha
   ·left; simpa using h0
  ·have := List.mem_range.1 hj
   exact hall (i - 1 - j) j (by omega)
  ·have hj' := List.mem_range.1 hj
   rcases h4 with hh | hh
   ·exact .inl hh
   ·right
    (rw [take_any l _ i (by omega), List.any_eq_false] at hh); (have := hh j hj)
    unfold sameW at this ⊢
    (simp only [Bool.not_eq_true] at this); (rw [beq_eq_false_iff_ne] at this ⊢)
    exact fun e => this e.symm
 ·intro h i hi
  (have hi' := List.mem_range.1 hi); (have hg := h i hi)
  unfold topS at hg
  (simp only [Bool.and_eq_true, Bool.not_eq_true', Bool.and_eq_false_iff, decide_eq_true_eq, List.all_eq_true] at hg); (obtain ⟨h1, h2, h3, h4⟩ := hg)
  unfold topI
  simp only [Bool.and_eq_true, Bool.not_eq_true', Bool.and_eq_false_iff, decide_eq_true_eq]
  refine ⟨h1, h2, ?_, ?_⟩
  ·by_cases h0 : 0 < i
   ·exact .inr (h4 (i - 1) (List.mem_range.2 (by omega))).1
   ·left; simpa using h0
  ·cases hl : (at_ l i).f0 with
   | false => exact .inl rfl
   | true =>
    right
    rw [take_any l _ i (by omega), List.any_eq_false]
    intro j hj
    (have := (h4 j hj).2); (rw [hl] at this)
    unfold sameW at this ⊢
    rcases this with hh | hh
    ·cases hh
    ·simp only [Bool.not_eq_true]
     rw [beq_eq_false_iff_ne] at hh ⊢
     exact fun e => hh e.symm
theorem top_rec {l : List Rec'} (h : topB l = true) : l.length = 8 ∧ ∀ x, x ∈ l → recB x = true := by
 unfold topB at h
 simp only [Bool.and_eq_true, decide_eq_true_eq, List.all_eq_true] at h
 refine ⟨h.1, fun x hx => ?_⟩
 (obtain ⟨j, hj, rfl⟩ := List.getElem_of_mem hx); (have := h.2 j (List.mem_range.2 hj))
 unfold topI at this
 (rw [Bool.and_eq_true] at this); (have e : at_ l j = l[j] := by unfold at_; rw [getD_lt _ hj]); (rw [e] at this)
 exact this.1
theorem rd_at (l : List Rec') (i : Nat) : rd_T78 l (i : Int) = at_ l i := by unfold rd_T78 at_; rw [Int.toNat_natCast]
theorem isTop_ev (l : List Rec') (hl : l.length ≤ 1048576) (hs : ∀ x, x ∈ l → x.f3.size ≤ 1048576) : Ev (fun k => impl_isTop.f k l) (topB l) := by
 unfold impl_isTop.f topB
 have hat : ∀ i, i < l.length → (at_ l i).f3.size ≤ 1048576 := fun i hi => by unfold at_; rw [getD_lt _ hi]; exact hs _ (List.getElem_mem hi)
 refine evVal (search_ev l.length (fun k i => impl_isTop.l0 k l l (l.length : Int) i) (topI l) false ((l.length : Int) == 8) ?_ ?_ ?_) ?_
 ·intro i hi hp r hr
  unfold topI at hp
  (simp only [Bool.and_eq_true, Bool.not_eq_true', Bool.and_eq_false_iff, decide_eq_true_eq] at hp); (obtain ⟨h1, h2, h3, h4⟩ := hp)
  have hj1 : Ev (fun k => impl_isTop.j1 k l (i : Int) l (l.length : Int) (i : Int) false (at_ l i).f0 (at_ l i).f1 (at_ l i).f2 (at_ l i).f3) r := by
   refine Ev.step (fun k => rfl) ?_
   simp only [impl_isTop.j1, Bool.false_eq_true, if_false]
   cases hlv : (at_ l i).f0 with
   | false => simp only [Bool.false_eq_true, if_false, wrap_nat_succ (show i < 9223372036854775807 by omega)]; exact hr
   | true =>
    (rw [hlv] at h4); (simp only [if_true, if_pos (show (0 : Int) ≤ (i : Int) by omega), if_pos (show (i : Int) ≤ (l.length : Int) by omega), Int.toNat_natCast])
    have e : impl_Rec_124.f (l.take i) true (at_ l i).f1 (at_ l i).f2 (at_ l i).f3 = some ((l.take i).any (fun p => sameW p (at_ l i))) := by
     unfold impl_Rec_124.f
     exact contF_some_t _ (fun x _ => by unfold impl_isTop_1.f sameW; rfl)
    refine Ev.bind (evConst e) ?_
    rcases h4 with hh | hh
    ·cases hh
    ·simp only [hh, Bool.false_eq_true, if_false, wrap_nat_succ (show i < 9223372036854775807 by omega)]; exact hr
  refine Ev.step (fun k => rfl) ?_
  (simp only [impl_isTop.l0, rd_at]); (simp only [if_pos (show (i : Int) < (l.length : Int) by omega), if_pos (show (0 : Int) ≤ (i : Int) by omega)])
  refine Ev.bind (isRec_ev (at_ l i) (by have := hat i hi; omega)) ?_
  (simp only [h1, if_true]); (simp only [if_neg (show ¬ (at_ l i).f1 > 3 by omega)])
  by_cases h0 : 0 < i
  ·have ew : wrap64 ((i : Int) - 1) = ((i - 1 : Nat) : Int) := by rw [wrap_id (by omega) (by omega)]; omega
   simp only [if_pos (show (i : Int) > 0 by omega), ew, if_pos (show (0 : Int) ≤ ((i - 1 : Nat) : Int) by omega), if_pos (show ((i - 1 : Nat) : Int) < (l.length : Int) by omega), rd_at]
   refine Ev.bind (isAhead_ev (at_ l i) (at_ l (i - 1))) ?_
   rcases h3 with hh | hh
   ·rw [decide_eq_false_iff_not] at hh; omega
   ·rw [hh]; exact hj1
  ·simp only [if_neg (show ¬ (i : Int) > 0 by omega)]
   exact hj1
 ·intro i hi hp
  have hjt : Ev (fun k => impl_isTop.j1 k l (i : Int) l (l.length : Int) (i : Int) true (at_ l i).f0 (at_ l i).f1 (at_ l i).f2 (at_ l i).f3) false := by
   refine Ev.step (fun k => rfl) ?_
   simp only [impl_isTop.j1, if_true]
   exact Ev.now _
  refine Ev.step (fun k => rfl) ?_
  (simp only [impl_isTop.l0, rd_at]); (simp only [if_pos (show (i : Int) < (l.length : Int) by omega), if_pos (show (0 : Int) ≤ (i : Int) by omega)])
  refine Ev.bind (isRec_ev (at_ l i) (by have := hat i hi; omega)) ?_
  cases h1 : recB (at_ l i) with
  | false => simp only [Bool.false_eq_true, if_false]; exact hjt
  | true =>
   simp only [if_true]
   by_cases h2 : (at_ l i).f1 > 3
   ·simp only [if_pos h2]; exact hjt
   ·simp only [if_neg h2]
    unfold topI at hp
    rw [h1, decide_eq_true (show (at_ l i).f1 ≤ 3 by omega), Bool.true_and, Bool.true_and] at hp
    have hjf : (!((at_ l i).f0 && (l.take i).any (fun p => sameW p (at_ l i)))) = false → Ev (fun k => impl_isTop.j1 k l (i : Int) l (l.length : Int) (i : Int) false (at_ l i).f0 (at_ l i).f1 (at_ l i).f2 (at_ l i).f3) false := by
     intro hh
     simp only [Bool.not_eq_false', Bool.and_eq_true] at hh
     refine Ev.step (fun k => rfl) ?_
     (rw [hh.1]); (simp only [impl_isTop.j1, Bool.false_eq_true, if_false, if_true, if_pos (show (0 : Int) ≤ (i : Int) by omega), if_pos (show (i : Int) ≤ (l.length : Int) by omega), Int.toNat_natCast])
     have e : impl_Rec_124.f (l.take i) true (at_ l i).f1 (at_ l i).f2 (at_ l i).f3 = some true := by
      unfold impl_Rec_124.f
      rw [contF_some_t (q := fun p => sameW p (at_ l i)) _ (fun x _ => by unfold impl_isTop_1.f sameW; rfl), hh.2]
     refine Ev.bind (evConst e) ?_
     simp only [if_true]
     exact Ev.now _
    by_cases h0 : 0 < i
    ·have ew : wrap64 ((i : Int) - 1) = ((i - 1 : Nat) : Int) := by rw [wrap_id (by omega) (by omega)]; omega
     simp only [if_pos (show (i : Int) > 0 by omega), ew, if_pos (show (0 : Int) ≤ ((i - 1 : Nat) : Int) by omega), if_pos (show ((i - 1 : Nat) : Int) < (l.length : Int) by omega), rd_at]
     refine Ev.bind (isAhead_ev (at_ l i) (at_ l (i - 1))) ?_
     cases h3 : aheadB (at_ l i) (at_ l (i - 1)) with
     | true => exact hjt
     | false => rw [h3, Bool.and_false] at hp; exact hjf (by simpa using hp)
    ·rw [decide_eq_false h0, Bool.false_and] at hp
     simp only [if_neg (show ¬ (i : Int) > 0 by omega)]
     exact hjf (by simpa using hp)
 ·refine Ev.step (f := fun _ => some _) (fun k => ?_) (Ev.now _)
  (simp only [impl_isTop.l0]); (rw [if_neg (by omega)])
 ·cases (List.range l.length).all (topI l) with
  | true =>
   (simp only [if_true, Bool.and_true]); (rw [Bool.eq_iff_iff])
   simp
   omega
  | false => simp
theorem specTop_ev (l : List Rec') (hl : l.length ≤ 1048576) (hs : ∀ x, x ∈ l → x.f3.size ≤ 1048576) : Ev (fun k => spec_l18Top.f k l) (topB l) := by
 unfold spec_l18Top.f topB
 have hat : ∀ i, i < l.length → (at_ l i).f3.size ≤ 1048576 := fun i hi => by unfold at_; rw [getD_lt _ hi]; exact hs _ (List.getElem_mem hi)
 by_cases h8 : l.length = 8
 ·simp only [if_pos (show (l.length : Int) = 8 by omega), decide_eq_true h8, Bool.true_and]
  (rw [tops_same]); (have rec_of : ∀ i, topS l i = true → recB (at_ l i) = true := fun i h => by unfold topS at h; rw [Bool.and_eq_true] at h; exact h.1)
  refine evVal (search_inv l.length (fun k i => spec_l18Top.l0 k l i) (topS l) false true ?_ ?_ ?_) ?_
  ·intro i hi hpre hp r hr
   have hp2 := hp
   unfold topS at hp
   (simp only [Bool.and_eq_true, Bool.not_eq_true', Bool.and_eq_false_iff, decide_eq_true_eq, List.all_eq_true] at hp); (obtain ⟨h1, h2, h3, h4⟩ := hp)
   have hj1 : Ev (fun k => spec_l18Top.j1 k l (i : Int) false) r := by
    refine Ev.step (fun k => rfl) ?_
    (simp only [spec_l18Top.j1, Bool.false_eq_true, if_false]); (have := search_ev i (fun k j => spec_l18Top.l1 k l (i : Int) j) (fun _ => true) r r ?_ (fun _ _ h => by cases h) ?_)
    ·simpa using this
    ·intro j hj _ r' hr'
     have hx := h4 j (List.mem_range.2 hj)
     refine Ev.step (fun k => rfl) ?_
     (simp only [spec_l18Top.l1, rd_at]); (simp only [if_pos (show (j : Int) < (i : Int) by omega), if_pos (show (0 : Int) ≤ (i : Int) by omega), if_pos (show (i : Int) < (l.length : Int) by omega), if_pos (show (0 : Int) ≤ (j : Int) by omega), if_pos (show (j : Int) < (l.length : Int) by omega)])
     refine Ev.bind (recAhead_ev (at_ l i) (at_ l j) h1 (rec_of j (hpre j hj)) (hat i hi) (hat j (by omega))) ?_
     simp only [hx.1, Bool.false_eq_true, if_false]
     cases hlv : (at_ l i).f0 with
     | false => simp only [Bool.false_eq_true, if_false, wrap_nat_succ (show j < 9223372036854775807 by omega)]; exact hr'
     | true =>
      simp only [if_true]
      rcases hx.2 with hh | hh
      ·rw [hlv] at hh; cases hh
      ·unfold sameW at hh
       (rw [beq_eq_false_iff_ne] at hh); (simp only [if_neg hh]); (simp only [wrap_nat_succ (show j < 9223372036854775807 by omega)])
       exact hr'
    ·refine Ev.step (fun k => ?_) hr
     simp only [spec_l18Top.l1, if_neg (show ¬ (i : Int) < (i : Int) by omega), wrap_nat_succ (show i < 9223372036854775807 by omega)]
   refine Ev.step (fun k => rfl) ?_
   (simp only [spec_l18Top.l0, rd_at]); (simp only [if_pos (show (i : Int) < (l.length : Int) by omega), if_pos (show (0 : Int) ≤ (i : Int) by omega)])
   refine Ev.bind (recOk_ev (at_ l i) (by have := hat i hi; omega)) ?_
   (simp only [h1, if_true]); (simp only [if_neg (show ¬ (at_ l i).f1 > 3 by omega)])
   by_cases h0 : 0 < i
   ·have ew : wrap64 ((i : Int) - 1) = ((i - 1 : Nat) : Int) := by rw [wrap_id (by omega) (by omega)]; omega
    simp only [if_pos (show (i : Int) > 0 by omega), ew, if_pos (show (0 : Int) ≤ ((i - 1 : Nat) : Int) by omega), if_pos (show ((i - 1 : Nat) : Int) < (l.length : Int) by omega), rd_at]
    cases hlv : (at_ l i).f0 with
    | false => simp only [Bool.false_eq_true, if_false]; exact hj1
    | true =>
     simp only [if_true]
     rcases h3 with hh | hh | hh
     ·rw [decide_eq_false_iff_not] at hh; omega
     ·rw [hlv] at hh; cases hh
     ·have hh : (at_ l (i - 1)).f0 = true := by simpa using hh
      rw [hh]; exact hj1
   ·simp only [if_neg (show ¬ (i : Int) > 0 by omega)]
    exact hj1
  ·intro i hi hpre hp
   have hjt : Ev (fun k => spec_l18Top.j1 k l (i : Int) true) false := by
    refine Ev.step (fun k => rfl) ?_
    simp only [spec_l18Top.j1, if_true]
    exact Ev.now _
   refine Ev.step (fun k => rfl) ?_
   (simp only [spec_l18Top.l0, rd_at]); (simp only [if_pos (show (i : Int) < (l.length : Int) by omega), if_pos (show (0 : Int) ≤ (i : Int) by omega)])
   refine Ev.bind (recOk_ev (at_ l i) (by have := hat i hi; omega)) ?_
   cases h1 : recB (at_ l i) with
   | false => simp only [Bool.false_eq_true, if_false]; exact hjt
   | true =>
    simp only [if_true]
    by_cases h2 : (at_ l i).f1 > 3
    ·simp only [if_pos h2]; exact hjt
    ·simp only [if_neg h2]
     unfold topS at hp
     rw [h1, decide_eq_true (show (at_ l i).f1 ≤ 3 by omega), Bool.true_and, Bool.true_and] at hp
     have hjf : (List.range i).all (fun j => !aheadB (at_ l i) (at_ l j) && !((at_ l i).f0 && sameW (at_ l i) (at_ l j))) = false → Ev (fun k => spec_l18Top.j1 k l (i : Int) false) false := by
      intro hh
      refine Ev.step (fun k => rfl) ?_
      simp only [spec_l18Top.j1, Bool.false_eq_true, if_false]
      refine search_fail i (fun k j => spec_l18Top.l1 k l (i : Int) j) (fun j => !aheadB (at_ l i) (at_ l j) && !((at_ l i).f0 && sameW (at_ l i) (at_ l j))) false hh ?_ ?_
      ·intro j hj hx r' hr'
       simp only [Bool.and_eq_true, Bool.not_eq_true', Bool.and_eq_false_iff] at hx
       refine Ev.step (fun k => rfl) ?_
       (simp only [spec_l18Top.l1, rd_at]); (simp only [if_pos (show (j : Int) < (i : Int) by omega), if_pos (show (0 : Int) ≤ (i : Int) by omega), if_pos (show (i : Int) < (l.length : Int) by omega), if_pos (show (0 : Int) ≤ (j : Int) by omega), if_pos (show (j : Int) < (l.length : Int) by omega)])
       refine Ev.bind (recAhead_ev (at_ l i) (at_ l j) h1 (rec_of j (hpre j hj)) (hat i hi) (hat j (by omega))) ?_
       simp only [hx.1, Bool.false_eq_true, if_false]
       cases hlv : (at_ l i).f0 with
       | false => simp only [Bool.false_eq_true, if_false, wrap_nat_succ (show j < 9223372036854775807 by omega)]; exact hr'
       | true =>
        simp only [if_true]
        rcases hx.2 with hh | hh
        ·rw [hlv] at hh; cases hh
        ·unfold sameW at hh
         (rw [beq_eq_false_iff_ne] at hh); (simp only [if_neg hh]); (simp only [wrap_nat_succ (show j < 9223372036854775807 by omega)])
         exact hr'
      ·intro j hj hx
       refine Ev.step (fun k => rfl) ?_
       (simp only [spec_l18Top.l1, rd_at]); (simp only [if_pos (show (j : Int) < (i : Int) by omega), if_pos (show (0 : Int) ≤ (i : Int) by omega), if_pos (show (i : Int) < (l.length : Int) by omega), if_pos (show (0 : Int) ≤ (j : Int) by omega), if_pos (show (j : Int) < (l.length : Int) by omega)])
       refine Ev.bind (recAhead_ev (at_ l i) (at_ l j) h1 (rec_of j (hpre j hj)) (hat i hi) (hat j (by omega))) ?_
       cases ha : aheadB (at_ l i) (at_ l j) with
       | true => simp only [if_true]; exact Ev.now _
       | false =>
        (rw [ha] at hx); (simp only [Bool.not_false, Bool.true_and, Bool.not_eq_false', Bool.and_eq_true] at hx); (simp only [Bool.false_eq_true, if_false]); (simp only [if_pos hx.1]); (have h3 := hx.2)
        unfold sameW at h3
        simp only [if_pos (show (at_ l i).f3.toList = (at_ l j).f3.toList by simpa using h3)]
        exact Ev.now _
     by_cases h0 : 0 < i
     ·have ew : wrap64 ((i : Int) - 1) = ((i - 1 : Nat) : Int) := by rw [wrap_id (by omega) (by omega)]; omega
      (simp only [if_pos (show (i : Int) > 0 by omega), ew, if_pos (show (0 : Int) ≤ ((i - 1 : Nat) : Int) by omega), if_pos (show ((i - 1 : Nat) : Int) < (l.length : Int) by omega), rd_at]); (rw [decide_eq_true h0, Bool.true_and] at hp)
      cases hlv : (at_ l i).f0 with
      | false => rw [hlv] at hp; simp only [Bool.false_eq_true, if_false]; exact hjf (by rw [hlv]; simpa using hp)
      | true =>
       simp only [if_true]
       cases hpl : (at_ l (i - 1)).f0 with
       | false => exact hjt
       | true => rw [hlv, hpl] at hp; exact hjf (by rw [hlv]; simpa using hp)
     ·rw [decide_eq_false h0, Bool.false_and] at hp
      simp only [if_neg (show ¬ (i : Int) > 0 by omega)]
      exact hjf (by simpa using hp)
  ·refine Ev.step (f := fun _ => some _) (fun k => ?_) (Ev.now _)
   (simp only [spec_l18Top.l0]); (rw [if_neg (by omega)])
  ·cases (List.range l.length).all (topS l) <;> rfl
 ·simp only [if_neg (show ¬ (l.length : Int) = 8 by omega), decide_eq_false h8, Bool.false_and]
  exact Ev.now _
end Go.Proofs.YtbpffdhkeinmcaaDoor.L
namespace Go.Proofs.YtbpffdhkeinmcaaDoor.L
open Go.RowKit Go.Proofs.YtbpffdhkeinmcaaDoorW.PrintWords Go.Proofs.YtbpffdhkeinmcaaDoorW.PrintMore
theorem evIf {α : Type} {p : Prop} [Decidable p] {g h : Nat → Option α} {r : α} (hp : p) (hg : Ev g r) : Ev (fun k => if p then g k else h k) r := by simp only [if_pos hp]; exact hg
theorem strOf_nums (l : List UInt8) : strOfNums (l.map fun b => (b.toNat : Int)) = ⟨l.toArray⟩ := by
 unfold strOfNums
 congr 1
 rw [List.map_map]
 have : (fun n : Int => UInt8.ofNat n.toNat) ∘ (fun b : UInt8 => (b.toNat : Int)) = id := by
  funext b
  simp
 rw [this]
 simp
end Go.Proofs.YtbpffdhkeinmcaaDoor.L
namespace Go.Proofs.YtbpffdhkeinmcaaDoor.L
open Go.RowKit Go.Proofs.YtbpffdhkeinmcaaDoor.QD Go.Proofs.YtbpffdhkeinmcaaDoorW.PrintWords Go.Proofs.YtbpffdhkeinmcaaDoorW.PrintLast Go.Proofs.YtbpffdhkeinmcaaDoorW.PrintMore
set_option linter.unusedVariables false
set_option linter.unusedSimpArgs false
def digI (u : Nat) : List Int := (Lib.decDigits u).map fun b => (b.toNat : Int)
theorem digI_small {u : Nat} (h : u < 10) : digI u = [((48 + u : Nat) : Int)] := by
 unfold digI
 rw [Lib.decDigits, dif_pos h, List.map_cons, List.map_nil, UInt8.toNat_ofNat']
 congr 2
 omega
theorem digI_big {u : Nat} (h : ¬ u < 10) : digI u = digI (u / 10) ++ [((48 + u % 10 : Nat) : Int)] := by
 unfold digI
 rw [Lib.decDigits, dif_neg h, List.map_append, List.map_cons, List.map_nil, UInt8.toNat_ofNat']
 congr 3
 omega
def numS (n : Int) : ByteArray := ⟨(Lib.itoa n).toArray⟩
theorem numS_pos {n : Int} (h : 0 ≤ n) : numS n = strOfNums (digI n.toNat) := by
 unfold numS Lib.itoa digI
 rw [if_neg (by omega), strOf_nums]
theorem numLoop_ev (n : Int) (hn : 0 ≤ n) : ∀ (u : Nat) (acc : List Int), 0 < u → u < 1000000000000000000 → acc.length + u < 140737488355320 → Ev (fun k => spec_l04Num.l0 k n acc (u : Int)) (strOfNums (digI u ++ acc)) := by
 intro u
 induction u using Nat.strongRecOn with
 | _ u ih =>
  intro acc h0 hu hl
  refine Ev.step (fun k => rfl) ?_
  (have e1 : Int.tmod (u : Int) 10 = ((u % 10 : Nat) : Int) := by rw [Int.tmod_eq_emod_of_nonneg (by omega)]; omega); (have e2 : wrap64 (Int.tdiv (u : Int) 10) = ((u / 10 : Nat) : Int) := by rw [Int.tdiv_eq_ediv_of_nonneg (by omega), wrap_id (by omega) (by omega)]; omega); (have e3 : (wrap64 (48 + ((u % 10 : Nat) : Int))) % 256 = ((48 + u % 10 : Nat) : Int) := by rw [wrap_id (by omega) (by omega)]; omega); (simp only [spec_l04Num.l0, if_neg (show ¬ (u : Int) = 0 by omega), e1, e2, e3, if_neg (show ¬ ((u % 10 : Nat) : Int) < 0 by omega), Option.bind_some, List.length_cons, List.length_nil, if_pos (show 0 + 1 + acc.length < 140737488355328 by omega)])
  by_cases hs : u < 10
  ·rw [digI_small hs, show u / 10 = 0 by omega, show u % 10 = u by omega]
   refine Ev.step (fun k => rfl) ?_
   simp only [spec_l04Num.l0, show ((0 : Nat) : Int) = 0 from rfl, if_true, if_neg (show ¬ n < 0 by omega)]
   exact Ev.now _
  ·have := ih (u / 10) (by omega) ([((48 + u % 10 : Nat) : Int)] ++ acc) (by omega) (by omega) (by simp only [List.length_append, List.length_cons, List.length_nil]; omega)
   rw [digI_big hs, List.append_assoc]
   exact this
theorem specNum_ev (n : Int) (h0 : 0 ≤ n) (h1 : n ≤ 100000000000000) : Ev (fun k => spec_l04Num.f k n) (numS n) := by
 unfold spec_l04Num.f
 by_cases h : n = 0
 ·subst h
  simp only [if_true]
  exact evVal (Ev.now _) (by rw [numS_pos (by omega), show (0 : Int).toNat = 0 from rfl, digI_small (by omega)]; rfl)
 ·simp only [if_neg h]
  (have := numLoop_ev n h0 n.toNat [] (by omega) (by omega) (by simp only [List.length_nil]; omega)); (rw [Int.toNat_of_nonneg h0] at this); (rw [numS_pos h0])
  simpa using this
theorem itoa_eq (n : Int) (h0 : 0 ≤ n) (h1 : n ≤ 100000000000000) : strconv_Itoa_79.f n = some (numS n) := by
 unfold strconv_Itoa_79.f numS
 rw [if_pos (by omega)]
end Go.Proofs.YtbpffdhkeinmcaaDoor.L
namespace Go.Proofs.YtbpffdhkeinmcaaDoor.L
open Go.RowKit Go.Proofs.YtbpffdhkeinmcaaDoor.QD Go.Proofs.YtbpffdhkeinmcaaDoorW.PrintWords Go.Proofs.YtbpffdhkeinmcaaDoorW.PrintLast
set_option linter.unusedVariables false
set_option linter.unusedSimpArgs false
def shapeB (a b : Int) : Bool := if a = 6 then decide (1 ≤ b ∧ b ≤ 16) else decide (1 ≤ a ∧ a ≤ 5 ∧ b = 0)
theorem isShape_eq (a b : Int) : impl_isShape.f a b = some (shapeB a b) := by
 unfold impl_isShape.f shapeB
 simp only [within_eq, Option.bind_some]
 by_cases h6 : a = 6
 ·simp [h6]
 ·by_cases h1 : 1 ≤ a ∧ a ≤ 5
  ·simp [h6, h1]
   by_cases hb : b = 0 <;> simp [hb]
  ·simp [h6, h1]
   omega
theorem l18Shape_eq (a b : Int) : spec_l18Shape.f a b = some (shapeB a b) := by
 unfold spec_l18Shape.f shapeB
 by_cases h6 : a = 6
 ·simp only [h6, if_true]
  by_cases h1 : b ≥ 1
  ·have h1' : 1 ≤ b := h1
   by_cases h2 : b ≤ 16 <;> simp [h1', h2]
  ·have h1' : ¬ 1 ≤ b := h1
   simp [h1']
 ·rw [if_neg h6, if_neg h6]
  by_cases h1 : a ≥ 1
  ·rw [if_pos h1]
   by_cases h2 : a ≤ 6
   ·rw [if_pos h2]
    (have h3 : a ≤ 5 := by omega); (have h1' : 1 ≤ a := h1)
    by_cases hb : b = 0 <;> simp [hb, h1', h3]
   ·rw [if_neg h2]
    have h3 : ¬ a ≤ 5 := by omega
    simp [h3]
  ·rw [if_neg h1]
   have h1' : ¬ 1 ≤ a := h1
   simp [h1']
end Go.Proofs.YtbpffdhkeinmcaaDoor.L
namespace Go.Proofs.YtbpffdhkeinmcaaDoor.L
open Go.RowKit Go.Proofs.YtbpffdhkeinmcaaDoor.QD Go.Proofs.YtbpffdhkeinmcaaDoorW.PrintWords Go.Proofs.YtbpffdhkeinmcaaDoorW.PrintLast Go.Proofs.YtbpffdhkeinmcaaDoorW.PrintMore
set_option linter.unusedVariables false
set_option linter.unusedSimpArgs false
def markB (x : Int) : Bool := decide (0 ≤ x ∧ x ≤ 3)
def marksB (l : List Int) (n : Int) : Bool := decide ((l.length : Int) = n) && l.all markB
theorem marksC_eq (l : List Int) : slices_ContainsFunc_int_int.f l = some (!l.all markB) := by
 unfold slices_ContainsFunc_int_int.f
 rw [contF_some_t (q := fun x => !markB x) l (fun x _ => by unfold impl_isReply_1.f markB; rw [within_eq]; rfl)]
 congr 1
 rw [List.not_all_eq_any_not]
theorem specMarks_ev (l : List Int) (n : Int) (h : l.length ≤ 1048576) : Ev (fun k => spec_l18Marks.f k l n) (marksB l n) := by
 unfold spec_l18Marks.f marksB
 by_cases hl : (l.length : Int) = n
 ·simp only [if_pos hl, decide_eq_true hl, Bool.true_and]
  rw [← all_range l 0 markB]
  refine evVal (search_ev l.length (fun k i => spec_l18Marks.l0 k l i) (fun i => markB (l.getD i 0)) false true ?_ ?_ ?_) ?_
  ·intro i hi hp r hr
   unfold markB at hp
   have hp := of_decide_eq_true hp
   refine Ev.step (fun k => ?_) hr
   (have er : rd l (i : Int) = l.getD i 0 := by unfold rd; rw [Int.toNat_natCast]); (simp only [spec_l18Marks.l0, er]); (rw [if_pos (by omega), if_pos (by omega), if_neg (by omega), if_neg (by omega), wrap_nat_succ (by omega)])
  ·intro i hi hp
   unfold markB at hp
   have hp := of_decide_eq_false hp
   refine Ev.step (f := fun _ => some false) (fun k => ?_) (Ev.now _)
   (have er : rd l (i : Int) = l.getD i 0 := by unfold rd; rw [Int.toNat_natCast]); (simp only [spec_l18Marks.l0, er]); (rw [if_pos (by omega), if_pos (by omega)])
   by_cases h0 : l.getD i 0 < 0
   ·rw [if_pos h0]
   ·rw [if_neg h0, if_pos (by omega)]
  ·refine Ev.step (f := fun _ => some true) (fun k => ?_) (Ev.now _)
   (simp only [spec_l18Marks.l0]); (rw [if_neg (by omega)])
  ·cases (List.range l.length).all _ <;> rfl
 ·simp only [if_neg hl, decide_eq_false hl, Bool.false_and]
  exact Ev.now _
def wOk (weight : Int) : Bool := decide (0 ≤ weight ∧ weight ≤ 65535)
def r5 (slots : Int) (top : List Rec') (marks : List Int) (x9 x10 : Bool) : Bool := (!x9 || topB top) && (!x10 || marksB marks slots)
def r4 (slots : Int) (found : Bool) (weight : Int) (top : List Rec') (marks : List Int) (x8 x9 x10 : Bool) : Bool := (!x8 || (wOk weight && (found || weight == 0))) && r5 slots top marks x9 x10
def r3 (slots : Int) (found : Bool) (weight : Int) (top : List Rec') (marks : List Int) (x8 x9 x10 : Bool) : Bool := (x8 || (!found && weight == 0)) && ((x9 || (top.length : Int) == 0) && ((x10 || (marks.length : Int) == 0) && r4 slots found weight top marks x8 x9 x10))
def replyB (kind slots code : Int) (found : Bool) (weight : Int) (top : List Rec') (marks : List Int) : Bool := shapeB kind slots && (decide (0 ≤ code ∧ code ≤ 8) && r3 slots found weight top marks (decide (code = 0 ∧ kind = 1)) (decide (code = 0 ∧ kind = 2)) (decide (code = 0 ∧ kind = 6)))
theorem j5_ev (slots code : Int) (found : Bool) (weight : Int) (top : List Rec') (marks : List Int) (ht : top.length ≤ 1048576) (hs : ∀ x, x ∈ top → x.f3.size ≤ 1048576) (hm : marks.length ≤ 1048576) (x9 x10 bad : Bool) : Ev (fun k => spec_ReplyOk.j5 k slots x9 x10 bad code found weight top marks) (!bad && r5 slots top marks x9 x10) := by
 refine Ev.step (fun k => rfl) ?_
 unfold r5
 cases bad with
 | true => simp only [spec_ReplyOk.j5, if_true, Bool.not_true, Bool.false_and]; exact Ev.now _
 | false =>
  simp only [spec_ReplyOk.j5, Bool.false_eq_true, if_false, Bool.not_false, Bool.true_and]
  cases x9 with
  | true =>
   simp only [if_true, Bool.not_true, Bool.false_or]
   refine Ev.bind (specTop_ev top ht hs) ?_
   cases topB top with
   | false => simp only [Bool.false_eq_true, if_false, Bool.false_and]; exact Ev.now _
   | true =>
    simp only [if_true, Bool.true_and]
    cases x10 with
    | true => simp only [if_true, Bool.not_true, Bool.false_or]; exact Ev.bind (specMarks_ev marks slots hm) (Ev.now _)
    | false => simp only [Bool.false_eq_true, if_false, Bool.not_false, Bool.true_or]; exact Ev.now _
  | false =>
   simp only [Bool.false_eq_true, if_false, Bool.not_false, Bool.true_or, Bool.true_and]
   cases x10 with
   | true => simp only [if_true, Bool.not_true, Bool.false_or]; exact Ev.bind (specMarks_ev marks slots hm) (Ev.now _)
   | false => simp only [Bool.false_eq_true, if_false, Bool.not_false, Bool.true_or]; exact Ev.now _
theorem j4_ev (slots code : Int) (found : Bool) (weight : Int) (top : List Rec') (marks : List Int) (ht : top.length ≤ 1048576) (hs : ∀ x, x ∈ top → x.f3.size ≤ 1048576) (hm : marks.length ≤ 1048576) (x8 x9 x10 bad : Bool) : Ev (fun k => spec_ReplyOk.j4 k slots x8 x9 x10 bad code found weight top marks) (!bad && r4 slots found weight top marks x8 x9 x10) := by
 refine Ev.step (fun k => rfl) ?_
 unfold r4 wOk
 cases bad with
 | true => simp only [spec_ReplyOk.j4, if_true, Bool.not_true, Bool.false_and]; exact Ev.now _
 | false =>
  simp only [spec_ReplyOk.j4, Bool.false_eq_true, if_false, Bool.not_false, Bool.true_and]
  cases x8 with
  | false => simp only [Bool.false_eq_true, if_false]; exact evVal (j5_ev slots code found weight top marks ht hs hm _ _ _) (by simp)
  | true =>
   simp only [if_true]
   by_cases h0 : weight < 0
   ·simp only [if_pos h0, decide_eq_false (show ¬ (0 ≤ weight ∧ weight ≤ 65535) by omega)]
    exact evVal (j5_ev slots code found weight top marks ht hs hm _ _ _) (by simp)
   ·by_cases h1 : weight > 65535
    ·simp only [if_neg h0, if_pos h1, decide_eq_false (show ¬ (0 ≤ weight ∧ weight ≤ 65535) by omega)]
     exact evVal (j5_ev slots code found weight top marks ht hs hm _ _ _) (by simp)
    ·simp only [if_neg h0, if_neg h1, decide_eq_true (show (0 ≤ weight ∧ weight ≤ 65535) by omega)]
     cases found with
     | true => simp only [if_true]; exact evVal (j5_ev slots code true weight top marks ht hs hm _ _ _) (by simp)
     | false => simp only [Bool.false_eq_true, if_false]; exact evVal (j5_ev slots code false weight top marks ht hs hm _ _ _) (by simp [bne])
theorem j3_ev (slots code : Int) (found : Bool) (weight : Int) (top : List Rec') (marks : List Int) (ht : top.length ≤ 1048576) (hs : ∀ x, x ∈ top → x.f3.size ≤ 1048576) (hm : marks.length ≤ 1048576) (x8 x9 x10 : Bool) : Ev (fun k => spec_ReplyOk.j3 k slots x8 x9 x10 code found weight top marks) (r3 slots found weight top marks x8 x9 x10) := by
 refine Ev.step (fun k => rfl) ?_
 unfold r3
 (have j := fun b => j4_ev slots code found weight top marks ht hs hm x8 x9 x10 b); (have e10 : decide ((marks.length : Int) > 0) = !((marks.length : Int) == 0) := by rw [Bool.eq_iff_iff, decide_eq_true_eq, Bool.not_eq_true', beq_eq_false_iff_ne]; omega)
 by_cases h9 : (top.length : Int) > 0
 ·have e9 : ((top.length : Int) == 0) = false := by rw [beq_eq_false_iff_ne]; omega
  cases x8 with
  | true =>
   cases x9 with
   | true =>
    cases x10 with
    | true => simp only [spec_ReplyOk.j3, if_true]; exact evVal (j false) (by simp)
    | false => simp only [spec_ReplyOk.j3, if_true, Bool.false_eq_true, if_false, e10]; exact evVal (j _) (by simp)
   | false => simp only [spec_ReplyOk.j3, if_true, Bool.false_eq_true, if_false, if_pos h9]; exact evVal (j true) (by simp [e9])
  | false =>
   cases found with
   | true => simp only [spec_ReplyOk.j3, if_true, Bool.false_eq_true, if_false]; exact evVal (j true) (by simp)
   | false =>
    by_cases hw : weight = 0
    ·cases x9 with
     | true =>
      cases x10 with
      | true => simp only [spec_ReplyOk.j3, if_true, Bool.false_eq_true, if_false, if_pos hw]; exact evVal (j false) (by simp [hw])
      | false => simp only [spec_ReplyOk.j3, if_true, Bool.false_eq_true, if_false, if_pos hw, e10]; exact evVal (j _) (by simp [hw])
     | false => simp only [spec_ReplyOk.j3, if_true, Bool.false_eq_true, if_false, if_pos hw, if_pos h9]; exact evVal (j true) (by simp [e9])
    ·simp only [spec_ReplyOk.j3, Bool.false_eq_true, if_false, if_neg hw]; exact evVal (j true) (by simp [hw])
 ·have e9 : ((top.length : Int) == 0) = true := by rw [beq_iff_eq]; omega
  cases x8 with
  | true =>
   cases x9 with
   | true =>
    cases x10 with
    | true => simp only [spec_ReplyOk.j3, if_true]; exact evVal (j false) (by simp)
    | false => simp only [spec_ReplyOk.j3, if_true, Bool.false_eq_true, if_false, e10]; exact evVal (j _) (by simp)
   | false =>
    cases x10 with
    | true => simp only [spec_ReplyOk.j3, if_true, Bool.false_eq_true, if_false, if_neg h9]; exact evVal (j false) (by simp [e9])
    | false => simp only [spec_ReplyOk.j3, if_true, Bool.false_eq_true, if_false, if_neg h9, e10]; exact evVal (j _) (by simp [e9])
  | false =>
   cases found with
   | true => simp only [spec_ReplyOk.j3, if_true, Bool.false_eq_true, if_false]; exact evVal (j true) (by simp)
   | false =>
    by_cases hw : weight = 0
    ·cases x9 with
     | true =>
      cases x10 with
      | true => simp only [spec_ReplyOk.j3, if_true, Bool.false_eq_true, if_false, if_pos hw]; exact evVal (j false) (by simp [hw])
      | false => simp only [spec_ReplyOk.j3, if_true, Bool.false_eq_true, if_false, if_pos hw, e10]; exact evVal (j _) (by simp [hw])
     | false =>
      cases x10 with
      | true => simp only [spec_ReplyOk.j3, if_true, Bool.false_eq_true, if_false, if_pos hw, if_neg h9]; exact evVal (j false) (by simp [hw, e9])
      | false => simp only [spec_ReplyOk.j3, if_true, Bool.false_eq_true, if_false, if_pos hw, if_neg h9, e10]; exact evVal (j _) (by simp [hw, e9])
    ·simp only [spec_ReplyOk.j3, Bool.false_eq_true, if_false, if_neg hw]; exact evVal (j true) (by simp [hw])
theorem replyOk_ev (kind slots code : Int) (found : Bool) (weight : Int) (top : List Rec') (marks : List Int) (ht : top.length ≤ 1048576) (hs : ∀ x, x ∈ top → x.f3.size ≤ 1048576) (hm : marks.length ≤ 1048576) : Ev (fun k => spec_ReplyOk.f k kind slots code found weight top marks) (replyB kind slots code found weight top marks) := by
 unfold spec_ReplyOk.f replyB
 have hno : Ev (fun k => spec_ReplyOk.j0 k kind slots true code found weight top marks) false := by
  refine Ev.step (fun k => rfl) ?_
  simp only [spec_ReplyOk.j0, if_true]
  exact Ev.now _
 simp only [l18Shape_eq, Option.bind_some]
 cases shapeB kind slots with
 | false => simp only [Bool.false_eq_true, if_false, Bool.false_and]; exact hno
 | true =>
  simp only [if_true, Bool.true_and]
  by_cases h0 : code < 0
  ·simp only [if_pos h0, decide_eq_false (show ¬ (0 ≤ code ∧ code ≤ 8) by omega), Bool.false_and]; exact hno
  ·by_cases h8 : code > 8
   ·simp only [if_neg h0, h8, decide_true, decide_eq_false (show ¬ (0 ≤ code ∧ code ≤ 8) by omega), Bool.false_and]; exact hno
   ·simp only [if_neg h0, decide_eq_false h8, decide_eq_true (show (0 ≤ code ∧ code ≤ 8) by omega), Bool.true_and]
    have j := fun a b c => j3_ev slots code found weight top marks ht hs hm a b c
    refine Ev.step (fun k => rfl) ?_
    (simp only [spec_ReplyOk.j0, Bool.false_eq_true, if_false]); (have c0 : (code == 0) = decide (code = 0) := by rw [Bool.eq_iff_iff]; simp); (rw [show (decide (code = 0 ∧ kind = 1)) = (decide (code = 0) && decide (kind = 1)) by simp, show (decide (code = 0 ∧ kind = 2)) = (decide (code = 0) && decide (kind = 2)) by simp, show (decide (code = 0 ∧ kind = 6)) = (decide (code = 0) && decide (kind = 6)) by simp]); (simp only [c0])
    generalize decide (code = 0) = c
    by_cases k1 : kind = 1
    ·simp only [if_pos k1]
     refine Ev.step (fun k => rfl) ?_
     simp only [spec_ReplyOk.j1, if_neg (show ¬ kind = 2 by omega)]
     refine Ev.step (fun k => rfl) ?_
     simp only [spec_ReplyOk.j2, if_neg (show ¬ kind = 6 by omega)]
     exact evVal (j _ _ _) (by rw [decide_eq_true k1, decide_eq_false (show ¬ kind = 2 by omega), decide_eq_false (show ¬ kind = 6 by omega), Bool.and_true, Bool.and_false])
    ·simp only [if_neg k1]
     by_cases k2 : kind = 2
     ·refine Ev.step (fun k => rfl) ?_
      simp only [spec_ReplyOk.j1, if_pos k2]
      refine Ev.step (fun k => rfl) ?_
      simp only [spec_ReplyOk.j2, if_neg (show ¬ kind = 6 by omega)]
      exact evVal (j _ _ _) (by rw [decide_eq_false k1, decide_eq_true k2, decide_eq_false (show ¬ kind = 6 by omega), Bool.and_true, Bool.and_false])
     ·refine Ev.step (fun k => rfl) ?_
      simp only [spec_ReplyOk.j1, if_neg k2]
      refine Ev.step (fun k => rfl) ?_
      by_cases k6 : kind = 6
      ·simp only [spec_ReplyOk.j2, if_pos k6]
       exact evVal (j _ _ _) (by rw [decide_eq_false k1, decide_eq_false k2, decide_eq_true k6, Bool.and_true, Bool.and_false])
      ·simp only [spec_ReplyOk.j2, if_neg k6]
       exact evVal (j _ _ _) (by rw [decide_eq_false k1, decide_eq_false k2, decide_eq_false k6, Bool.and_false])
theorem isReply_ev (kind slots code : Int) (found : Bool) (weight : Int) (top : List Rec') (marks : List Int) (ht : top.length ≤ 1048576) (hs : ∀ x, x ∈ top → x.f3.size ≤ 1048576) (hm : marks.length ≤ 1048576) : Ev (fun k => impl_isReply.f k kind slots code found weight top marks) (replyB kind slots code found weight top marks) := by
 unfold impl_isReply.f replyB
 have hno : Ev (fun k => impl_isReply.j0 k kind slots true code found weight top marks) false := by
  refine Ev.step (fun k => rfl) ?_
  simp only [impl_isReply.j0, if_true]
  exact Ev.now _
 simp only [isShape_eq, within_eq, Option.bind_some]
 cases shapeB kind slots with
 | false => simp only [Bool.false_eq_true, if_false, Bool.false_and]; exact hno
 | true =>
  simp only [if_true, Bool.true_and]
  cases decide (0 ≤ code ∧ code ≤ 8) with
  | false => simp only [Bool.not_false, Bool.false_and]; exact hno
  | true =>
   simp only [Bool.not_true, Bool.true_and]
   refine Ev.step (fun k => rfl) ?_
   simp only [impl_isReply.j0, Bool.false_eq_true, if_false]
   have e8 : ∀ r, Ev (fun k => impl_isReply.j1 k kind slots (code == 0) (!found && weight == 0) ((top.length : Int) == 0) ((marks.length : Int) == 0) code found weight top marks) r → Ev (fun k => if found = true then impl_isReply.j1 k kind slots (code == 0) false ((top.length : Int) == 0) ((marks.length : Int) == 0) code found weight top marks else impl_isReply.j1 k kind slots (code == 0) (weight == 0) ((top.length : Int) == 0) ((marks.length : Int) == 0) code found weight top marks) r := by
    intro r h
    cases found with
    | true => simpa using h
    | false => simpa using h
   refine e8 _ ?_
   clear e8; (have c0 : (code == 0) = decide (code = 0) := by rw [Bool.eq_iff_iff]; simp)
   unfold r3 r4 r5 wOk marksB
   (rw [show (decide (code = 0 ∧ kind = 1)) = (decide (code = 0) && decide (kind = 1)) by simp, show (decide (code = 0 ∧ kind = 2)) = (decide (code = 0) && decide (kind = 2)) by simp, show (decide (code = 0 ∧ kind = 6)) = (decide (code = 0) && decide (kind = 6)) by simp, c0]); (have cm := marksC_eq marks); (have ct := isTop_ev top ht hs)
   generalize hE9 : ((top.length : Int) == 0) = E9
   generalize hE10 : ((marks.length : Int) == 0) = E10
   generalize hx8 : (!found && weight == 0) = x8
   by_cases hc : code = 0
   ·rw [decide_eq_true hc]
    refine Ev.step (fun k => rfl) ?_
    simp only [impl_isReply.j1, if_true, Bool.true_and]
    refine Ev.step (fun k => rfl) ?_
    by_cases k1 : kind = 1
    ·rw [show (kind == 1) = true by simp [k1]]
     simp only [impl_isReply.j2, if_true, within_eq, Option.bind_some, decide_eq_true k1, decide_eq_false (show ¬ kind = 2 by omega), decide_eq_false (show ¬ kind = 6 by omega)]
     cases decide (0 ≤ weight ∧ weight ≤ 65535) with
     | false => simp only [Bool.false_eq_true, if_false]; exact evVal (Ev.now _) (by simp)
     | true =>
      simp only [if_true]
      cases found with
      | true => cases E9 <;> simp only [Bool.false_eq_true, if_false, if_true] <;> exact evVal (Ev.now _) (by simp)
      | false =>
       simp only [Bool.false_eq_true, if_false]
       by_cases hw : weight = 0
       ·simp only [if_pos hw]
        cases E9 <;> simp only [Bool.false_eq_true, if_false, if_true] <;> exact evVal (Ev.now _) (by simp [hw])
       ·simp only [if_neg hw]
        exact evVal (Ev.now _) (by simp [hw])
    ·rw [show (kind == 1) = false by simp [k1]]
     simp only [impl_isReply.j2, Bool.false_eq_true, if_false, if_true]
     refine Ev.step (fun k => rfl) ?_
     by_cases k2 : kind = 2
     ·rw [show (kind == 2) = true by simp [k2]]
      simp only [impl_isReply.j3, if_true, decide_eq_false k1, decide_eq_true k2, decide_eq_false (show ¬ kind = 6 by omega)]
      refine Ev.bind ct ?_
      cases x8 with
      | false => simp only [Bool.false_eq_true, if_false]; exact evVal (Ev.now _) (by simp)
      | true =>
       simp only [if_true]
       cases topB top <;> simp only [Bool.false_eq_true, if_false, if_true] <;> exact evVal (Ev.now _) (by simp)
     ·rw [show (kind == 2) = false by simp [k2]]
      simp only [impl_isReply.j3, Bool.false_eq_true, if_false, if_true, decide_eq_false k1, decide_eq_false k2]
      by_cases k6 : kind = 6
      ·simp only [if_pos k6, decide_eq_true k6]
       by_cases hl : (marks.length : Int) = slots
       ·simp only [if_pos hl, cm, Option.bind_some, decide_eq_true hl]
        cases x8 <;> cases E9 <;> simp only [Bool.false_eq_true, if_false, if_true] <;> exact evVal (Ev.now _) (by simp)
       ·simp only [if_neg hl, decide_eq_false hl]
        cases x8 <;> cases E9 <;> simp only [Bool.false_eq_true, if_false, if_true] <;> exact evVal (Ev.now _) (by simp)
      ·simp only [if_neg k6, decide_eq_false k6]
       cases x8 <;> cases E9 <;> simp only [Bool.false_eq_true, if_false, if_true] <;> exact evVal (Ev.now _) (by simp)
   ·rw [decide_eq_false hc]
    refine Ev.step (fun k => rfl) ?_
    simp only [impl_isReply.j1, Bool.false_eq_true, if_false, Bool.false_and]
    refine Ev.step (fun k => rfl) ?_
    simp only [impl_isReply.j2, Bool.false_eq_true, if_false]
    refine Ev.step (fun k => rfl) ?_
    simp only [impl_isReply.j3, Bool.false_eq_true, if_false]
    cases x8 <;> cases E9 <;> simp only [Bool.false_eq_true, if_false, if_true] <;> exact evVal (Ev.now _) (by simp)
def sp : ByteArray := ⟨#[32]⟩
def colon : ByteArray := ⟨#[58]⟩
def entryS (r : Rec') : ByteArray := ((((sp ++ r.f3) ++ colon) ++ numS r.f1) ++ colon) ++ numS r.f2
def addTop (s : ByteArray) (r : Rec') : ByteArray := if r.f0 = true then s ++ entryS r else s
def addMark (s : ByteArray) (n : Int) : ByteArray := s ++ numS n
def lineS (kind code : Int) (found : Bool) (weight : Int) (top : List Rec') (marks : List Int) : ByteArray :=
 if code = 0 then (if kind = 1 then (if found = true then (numS code ++ (⟨#[32, 121, 101, 115, 32]⟩ : ByteArray)) ++ numS weight else numS code ++ (⟨#[32, 110, 111]⟩ : ByteArray))
  else if kind = 2 then top.foldl addTop (numS code) else if kind = 6 then marks.foldl addMark (numS code ++ (⟨#[32, 58]⟩ : ByteArray)) else numS code)
 else numS code
theorem numS_len (n : Int) (h0 : 0 ≤ n) (h1 : n ≤ 100000000000000) : (numS n).size ≤ 21 := by
 have := Lib.itoa_length_le n (by omega) (by omega)
 unfold numS
 simpa [ByteArray.size] using this
theorem sp_size : sp.size = 1 := rfl
theorem colon_size : colon.size = 1 := rfl
theorem entry_size {r : Rec'} (h : recB r = true) (hl : r.f0 = true) : (entryS r).size ≤ 100 := by
 (have hr := rec_live h hl); (have h1 := numS_len r.f1 (by omega) (by omega)); (have h2 := numS_len r.f2 (by omega) (by omega))
 unfold entryS
 simp only [ByteArray.size_append, sp_size, colon_size]
 omega
theorem top_size (l : List Rec') (h : ∀ x, x ∈ l → recB x = true) : ∀ s : ByteArray, (l.foldl addTop s).size ≤ s.size + 100 * l.length := by
 induction l with
 | nil => intro s; simp
 | cons x xs ih =>
  intro s
  (rw [List.foldl_cons, List.length_cons]); (have := ih (fun y hy => h y (List.mem_cons_of_mem _ hy)) (addTop s x))
  have h2 : (addTop s x).size ≤ s.size + 100 := by
   unfold addTop
   split
   ·rename_i hl
    (rw [ByteArray.size_append]); (have := entry_size (h x (List.mem_cons_self ..)) hl)
    omega
   ·omega
  omega
theorem mark_size (l : List Int) (h : ∀ x, x ∈ l → 0 ≤ x ∧ x ≤ 3) : ∀ s : ByteArray, (l.foldl addMark s).size ≤ s.size + 21 * l.length := by
 induction l with
 | nil => intro s; simp
 | cons x xs ih =>
  intro s
  (rw [List.foldl_cons, List.length_cons]); (have := ih (fun y hy => h y (List.mem_cons_of_mem _ hy)) (addMark s x)); (have hx := h x (List.mem_cons_self ..))
  have h2 : (addMark s x).size ≤ s.size + 21 := by
   unfold addMark
   (rw [ByteArray.size_append]); (have := numS_len x (by omega) (by omega))
   omega
  omega
theorem take_foldl {α σ : Type} (l : List α) (f : σ → α → σ) (s : σ) {i : Nat} (h : i < l.length) : (l.take (i + 1)).foldl f s = f ((l.take i).foldl f s) l[i] := by
 rw [List.take_succ_eq_append_getElem h, List.foldl_append]
 rfl
theorem specTopLine_ev (kind a1 : Int) (a2 : Bool) (a3 : Int) (marks : List Int) (l : List Rec') (s : ByteArray) (r : ByteArray) (hl : l.length ≤ 1048576) (hs : s.size ≤ 1000) (h : ∀ x, x ∈ l → recB x = true)
  (hend : Ev (fun k => if kind = 6 then (if (l.foldl addTop s).size + 2 ≤ 9223372036854775807 then spec_ReplyLine.j1 k ((l.foldl addTop s) ++ (⟨#[32, 58]⟩ : ByteArray)) a1 a2 a3 l marks else none) else spec_ReplyLine.j1 k (l.foldl addTop s) a1 a2 a3 l marks) r) :
  Ev (fun k => spec_ReplyLine.l0 k kind s 0 a1 a2 a3 l marks) r := by
 refine loop_ev l.length (fun k x i => spec_ReplyLine.l0 k kind x i a1 a2 a3 l marks) (fun i => (l.take i).foldl addTop s) r ?_ ?_
 ·intro i hi hr
  (have hx := h _ (List.getElem_mem hi)); (have hz := top_size (l.take i) (fun x hx => h x (List.mem_of_mem_take hx)) s); (rw [List.length_take] at hz); (rw [take_foldl l addTop s hi] at hr)
  generalize (l.take i).foldl addTop s = t at hz hr
  refine Ev.step (fun k => rfl) ?_
  (have ea : at_ l i = l[i] := by unfold at_; rw [getD_lt _ hi]); (simp only [spec_ReplyLine.l0, rd_at, ea, if_pos (show (i : Int) < (l.length : Int) by omega), if_pos (show (0 : Int) ≤ (i : Int) by omega)])
  unfold addTop at hr
  by_cases hlv : l[i].f0 = true
  ·rw [if_pos hlv] at hr
   (simp only [if_pos hlv]); (have hq := rec_live hx hlv); (have h1 := numS_len l[i].f1 (by omega) (by omega)); (have h2 := numS_len l[i].f2 (by omega) (by omega)); (have e1 : (⟨#[32]⟩ : ByteArray).size = 1 := rfl); (have e2 : (⟨#[58]⟩ : ByteArray).size = 1 := rfl)
   refine evIf (by omega) (evIf (by simp only [ByteArray.size_append, e1]; omega) (evIf (by simp only [ByteArray.size_append, e1]; omega) ?_))
   refine Ev.bind (specNum_ev _ (by omega) (by omega)) ?_
   refine evIf (by simp only [ByteArray.size_append, e1, e2]; omega) (evIf (by simp only [ByteArray.size_append, e1, e2]; omega) ?_)
   refine Ev.bind (specNum_ev _ (by omega) (by omega)) ?_
   refine evIf (by simp only [ByteArray.size_append, e1, e2]; omega) ?_
   simp only [wrap_nat_succ (show i < 9223372036854775807 by omega)]
   have e : (((((t ++ (⟨#[32]⟩ : ByteArray)) ++ l[i].f3) ++ (⟨#[58]⟩ : ByteArray)) ++ numS l[i].f1) ++ (⟨#[58]⟩ : ByteArray)) ++ numS l[i].f2 = t ++ entryS l[i] := by
    unfold entryS sp colon
    simp only [ByteArray.append_assoc]
   rw [e]
   exact hr
  ·rw [if_neg hlv] at hr
   simp only [if_neg hlv, wrap_nat_succ (show i < 9223372036854775807 by omega)]
   exact hr
 ·refine Ev.step (fun k => ?_) hend
  simp only [spec_ReplyLine.l0, if_neg (show ¬ (l.length : Int) < (l.length : Int) by omega), List.take_length]
theorem specMarkLine_ev (a1 : Int) (a2 : Bool) (a3 : Int) (top : List Rec') (l : List Int) (s : ByteArray) (hl : l.length ≤ 1048576) (hs : s.size ≤ 1000000) (h : ∀ x, x ∈ l → 0 ≤ x ∧ x ≤ 3) :
  Ev (fun k => spec_ReplyLine.j1 k s a1 a2 a3 top l) (l.foldl addMark s) := by
 refine Ev.step (fun k => rfl) ?_
 simp only [spec_ReplyLine.j1]
 refine loop_ev l.length (fun k x i => spec_ReplyLine.l1 k x i a1 a2 a3 top l) (fun i => (l.take i).foldl addMark s) _ ?_ ?_
 ·intro i hi hr
  (have hx := h _ (List.getElem_mem hi)); (have hz := mark_size (l.take i) (fun x hx => h x (List.mem_of_mem_take hx)) s); (rw [List.length_take] at hz); (rw [take_foldl l addMark s hi] at hr)
  generalize (l.take i).foldl addMark s = t at hz hr
  (have h1 := numS_len l[i] (by omega) (by omega)); (have er : rd l (i : Int) = l[i] := by unfold rd; rw [Int.toNat_natCast, getD_lt _ hi])
  refine Ev.step (fun k => rfl) ?_
  simp only [spec_ReplyLine.l1, er, if_pos (show (i : Int) < (l.length : Int) by omega), if_pos (show (0 : Int) ≤ (i : Int) by omega)]
  refine Ev.bind (specNum_ev _ (by omega) (by omega)) ?_
  refine evIf (by omega) ?_
  simp only [wrap_nat_succ (show i < 9223372036854775807 by omega)]
  exact hr
 ·refine Ev.step (f := fun _ => some _) (fun k => ?_) (Ev.now _)
  simp only [spec_ReplyLine.l1, if_neg (show ¬ (l.length : Int) < (l.length : Int) by omega), List.take_length]
theorem reply_facts {kind slots code : Int} {found : Bool} {weight : Int} {top : List Rec'} {marks : List Int} (h : replyB kind slots code found weight top marks = true) :
  (0 ≤ code ∧ code ≤ 8) ∧ (code = 0 → kind = 1 → 0 ≤ weight ∧ weight ≤ 65535) ∧ (∀ x, x ∈ top → recB x = true) ∧ top.length ≤ 8 ∧ (¬ (code = 0 ∧ kind = 2) → top = []) ∧ (∀ x, x ∈ marks → 0 ≤ x ∧ x ≤ 3) ∧ (¬ (code = 0 ∧ kind = 6) → marks = []) := by
 unfold replyB r3 r4 r5 at h
 (simp only [Bool.and_eq_true, Bool.or_eq_true, Bool.not_eq_true', decide_eq_true_eq, decide_eq_false_iff_not, beq_iff_eq] at h); (obtain ⟨_, hc, h8, h9, h10, hw, ht, hm⟩ := h)
 have hte : ¬ (code = 0 ∧ kind = 2) → top = [] := fun hn => by
  rcases h9 with hh | hh
  ·exact absurd hh hn
  ·exact List.eq_nil_of_length_eq_zero (by omega)
 have hme : ¬ (code = 0 ∧ kind = 6) → marks = [] := fun hn => by
  rcases h10 with hh | hh
  ·exact absurd hh hn
  ·exact List.eq_nil_of_length_eq_zero (by omega)
 refine ⟨hc, fun c k => ?_, ?_, ?_, hte, ?_, hme⟩
 ·rcases hw with hh | hh
  ·exact absurd ⟨c, k⟩ hh
  ·unfold wOk at hh; exact of_decide_eq_true hh.1
 ·by_cases hk : code = 0 ∧ kind = 2
  ·rcases ht with hh | hh
   ·exact absurd hk hh
   ·exact (top_rec hh).2
  ·rw [hte hk]; intro x hx; cases hx
 ·by_cases hk : code = 0 ∧ kind = 2
  ·rcases ht with hh | hh
   ·exact absurd hk hh
   ·rw [(top_rec hh).1]; omega
  ·rw [hte hk]; exact Nat.zero_le _
 ·by_cases hk : code = 0 ∧ kind = 6
  ·rcases hm with hh | hh
   ·exact absurd hk hh
   ·unfold marksB at hh
    simp only [Bool.and_eq_true, List.all_eq_true] at hh
    exact fun x hx => of_decide_eq_true (hh.2 x hx)
  ·rw [hme hk]; intro x hx; cases hx
theorem specLine_ev (kind slots code : Int) (found : Bool) (weight : Int) (top : List Rec') (marks : List Int) (ht : top.length ≤ 1048576) (hs : ∀ x, x ∈ top → x.f3.size ≤ 1048576) (hm : marks.length ≤ 1048576) :
  Ev (fun k => spec_ReplyLine.f k kind slots code found weight top marks) (if replyB kind slots code found weight top marks = true then lineS kind code found weight top marks else ⟨#[]⟩) := by
 unfold spec_ReplyLine.f
 refine Ev.bind (replyOk_ev kind slots code found weight top marks ht hs hm) ?_
 cases hb : replyB kind slots code found weight top marks with
 | false => simp only [Bool.false_eq_true, if_false]; exact Ev.now _
 | true =>
  (obtain ⟨hc, hw, hr, h8, hte, hmk, hme⟩ := reply_facts hb); (have hn := numS_len code (by omega) (by omega)); (simp only [if_true])
  refine Ev.bind (specNum_ev _ (by omega) (by omega)) ?_
  unfold lineS
  by_cases hc0 : code = 0
  ·simp only [if_pos hc0]
   by_cases k1 : kind = 1
   ·simp only [if_pos k1]
    (have hw := hw hc0 k1); (have hwn := numS_len weight (by omega) (by omega))
    cases found with
    | true =>
     simp only [if_true]
     refine evIf (by omega) ?_
     refine Ev.bind (specNum_ev _ (by omega) (by omega)) ?_
     exact evIf (by rw [ByteArray.size_append, show (⟨#[32, 121, 101, 115, 32]⟩ : ByteArray).size = 5 from rfl]; omega) (Ev.now _)
    | false =>
     simp only [Bool.false_eq_true, if_false]
     exact evIf (by omega) (Ev.now _)
   ·simp only [if_neg k1]
    refine specTopLine_ev kind code found weight marks top (numS code) _ (by omega) (by omega) hr ?_
    by_cases k2 : kind = 2
    ·have hz := top_size top hr (numS code)
     (rw [hme (by omega)]); (simp only [if_neg (show ¬ kind = 6 by omega), if_pos k2])
     exact evVal (specMarkLine_ev code found weight top [] _ (by simp) (by omega) (fun x hx => by cases hx)) rfl
    ·rw [hte (by omega)]
     simp only [if_neg k2, List.foldl_nil]
     by_cases k6 : kind = 6
     ·simp only [if_pos k6]
      refine evIf (by omega) ?_
      exact specMarkLine_ev code found weight [] marks _ (by omega) (by rw [ByteArray.size_append, show (⟨#[32, 58]⟩ : ByteArray).size = 2 from rfl]; omega) hmk
     ·simp only [if_neg k6]
      rw [hme (by omega)]
      exact specMarkLine_ev code found weight [] [] _ (by simp) (by omega) (fun x hx => by cases hx)
  ·simp only [if_neg hc0]; exact Ev.now _
theorem implLine_ev (kind slots code : Int) (found : Bool) (weight : Int) (top : List Rec') (marks : List Int) (ht : top.length ≤ 1048576) (hs : ∀ x, x ∈ top → x.f3.size ≤ 1048576) (hm : marks.length ≤ 1048576) :
  Ev (fun k => impl_ReplyLine.f k kind slots code found weight top marks) (if replyB kind slots code found weight top marks = true then lineS kind code found weight top marks else ⟨#[]⟩) := by
 unfold impl_ReplyLine.f
 refine Ev.bind (isReply_ev kind slots code found weight top marks ht hs hm) ?_
 cases hb : replyB kind slots code found weight top marks with
 | false => simp only [Bool.false_eq_true, if_false]; exact Ev.now _
 | true =>
  (obtain ⟨hc, hw, hr, h8, hte, hmk, hme⟩ := reply_facts hb); (have hn := numS_len code (by omega) (by omega)); (simp only [if_true])
  refine Ev.bind (a := lineS kind code found weight top marks) ?_ (Ev.now _)
  unfold impl_replyLine.f
  refine Ev.bind (evConst (itoa_eq _ (by omega) (by omega))) ?_
  unfold lineS
  by_cases hc0 : code = 0
  ·simp only [if_pos hc0]
   by_cases k1 : kind = 1
   ·simp only [if_pos k1]
    (have hw := hw hc0 k1); (have hwn := numS_len weight (by omega) (by omega))
    cases found with
    | true =>
     simp only [if_true]
     refine evIf (by omega) ?_
     refine Ev.bind (evConst (itoa_eq _ (by omega) (by omega))) ?_
     exact evIf (by rw [ByteArray.size_append, show (⟨#[32, 121, 101, 115, 32]⟩ : ByteArray).size = 5 from rfl]; omega) (Ev.now _)
    | false =>
     simp only [Bool.false_eq_true, if_false]
     exact evIf (by omega) (Ev.now _)
   ·simp only [if_neg k1]
    by_cases k2 : kind = 2
    ·simp only [if_pos k2]
     generalize numS code = s at hn
     refine loop_ev top.length (fun k x i => impl_replyLine.l0 k x top (top.length : Int) i) (fun i => (top.take i).foldl addTop s) _ ?_ ?_
     ·intro i hi hrr
      (have hx := hr _ (List.getElem_mem hi)); (have hz := top_size (top.take i) (fun x hx => hr x (List.mem_of_mem_take hx)) s); (rw [List.length_take] at hz); (rw [take_foldl top addTop s hi] at hrr)
      generalize (top.take i).foldl addTop s = t at hz hrr
      refine Ev.step (fun k => rfl) ?_
      (have ea : at_ top i = top[i] := by unfold at_; rw [getD_lt _ hi]); (simp only [impl_replyLine.l0, rd_at, ea, if_pos (show (i : Int) < (top.length : Int) by omega), if_pos (show (0 : Int) ≤ (i : Int) by omega)])
      unfold addTop at hrr
      by_cases hlv : top[i].f0 = true
      ·rw [if_pos hlv] at hrr
       (simp only [if_pos hlv]); (have hq := rec_live hx hlv); (have h1 := numS_len top[i].f1 (by omega) (by omega)); (have h2 := numS_len top[i].f2 (by omega) (by omega)); (have e1 : (⟨#[32]⟩ : ByteArray).size = 1 := rfl); (have e2 : (⟨#[58]⟩ : ByteArray).size = 1 := rfl)
       refine evIf (by omega) (evIf (by simp only [ByteArray.size_append, e1]; omega) ?_)
       refine Ev.bind (evConst (itoa_eq _ (by omega) (by omega))) ?_
       refine evIf (by simp only [ByteArray.size_append, e1, e2]; omega) (evIf (by simp only [ByteArray.size_append, e1, e2]; omega) ?_)
       refine Ev.bind (evConst (itoa_eq _ (by omega) (by omega))) ?_
       refine evIf (by simp only [ByteArray.size_append, e1, e2]; omega) (evIf (by simp only [ByteArray.size_append, e1, e2]; omega) ?_)
       simp only [wrap_nat_succ (show i < 9223372036854775807 by omega)]
       exact hrr
      ·rw [if_neg hlv] at hrr
       simp only [if_neg hlv, wrap_nat_succ (show i < 9223372036854775807 by omega)]
       exact hrr
     ·refine Ev.step (f := fun _ => some _) (fun k => ?_) (Ev.now _)
      simp only [impl_replyLine.l0, if_neg (show ¬ (top.length : Int) < (top.length : Int) by omega), List.take_length]
    ·simp only [if_neg k2]
     by_cases k6 : kind = 6
     ·simp only [if_pos k6]
      refine evIf (by omega) ?_
      have hn2 : (numS code ++ (⟨#[32, 58]⟩ : ByteArray)).size ≤ 23 := by rw [ByteArray.size_append, show (⟨#[32, 58]⟩ : ByteArray).size = 2 from rfl]; omega
      generalize numS code ++ (⟨#[32, 58]⟩ : ByteArray) = s at hn2
      refine loop_ev marks.length (fun k x i => impl_replyLine.l1 k x marks (marks.length : Int) i) (fun i => (marks.take i).foldl addMark s) _ ?_ ?_
      ·intro i hi hrr
       (have hx := hmk _ (List.getElem_mem hi)); (have hz := mark_size (marks.take i) (fun x hx => hmk x (List.mem_of_mem_take hx)) s); (rw [List.length_take] at hz); (rw [take_foldl marks addMark s hi] at hrr)
       generalize (marks.take i).foldl addMark s = t at hz hrr
       (have h1 := numS_len marks[i] (by omega) (by omega)); (have er : rd marks (i : Int) = marks[i] := by unfold rd; rw [Int.toNat_natCast, getD_lt _ hi])
       refine Ev.step (fun k => rfl) ?_
       simp only [impl_replyLine.l1, er, if_pos (show (i : Int) < (marks.length : Int) by omega), if_pos (show (0 : Int) ≤ (i : Int) by omega)]
       refine Ev.bind (evConst (itoa_eq _ (by omega) (by omega))) ?_
       refine evIf (by omega) ?_
       simp only [wrap_nat_succ (show i < 9223372036854775807 by omega)]
       exact hrr
      ·refine Ev.step (f := fun _ => some _) (fun k => ?_) (Ev.now _)
       simp only [impl_replyLine.l1, if_neg (show ¬ (marks.length : Int) < (marks.length : Int) by omega), List.take_length]
     ·simp only [if_neg k6]; exact Ev.now _
  ·simp only [if_neg hc0]; exact Ev.now _
end Go.Proofs.YtbpffdhkeinmcaaDoor.L
namespace Go.Proofs.YtbpffdhkeinmcaaDoor.L
open Go.RowKit Go.Proofs.YtbpffdhkeinmcaaDoor.QD Go.Proofs.YtbpffdhkeinmcaaDoorW.PrintWords Go.Proofs.YtbpffdhkeinmcaaDoorW.PrintLast Go.Proofs.YtbpffdhkeinmcaaDoorW.PrintMore
set_option linter.unusedVariables false
set_option linter.unusedSimpArgs false
theorem eqIntS_ev (l : List Int) (h : l.length ≤ 9223372036854775807) : Ev (fun k => laws_eqIntS.f k l l) true := by
 unfold laws_eqIntS.f
 simp only [if_true]
 refine loop_ev l.length (fun k (_ : Unit) i => laws_eqIntS.l0 k l l i) (fun _ => ()) true ?_ ?_
 ·intro i hi hr
  refine Ev.step (fun k => ?_) hr
  (simp only [laws_eqIntS.l0, bne_self_eq_false, Bool.false_eq_true, if_false, if_true, Option.bind_some]); (rw [if_pos (by omega), if_pos (by omega), if_pos (by omega), wrap_nat_succ (by omega)])
 ·refine Ev.step (f := fun _ => some true) (fun k => ?_) (Ev.now _)
  (simp only [laws_eqIntS.l0]); (rw [if_neg (by omega)])
theorem eqRecS_ev (l : List S78) (h : l.length ≤ 9223372036854775807) : Ev (fun k => laws_eqRecS.f k l l) true := by
 unfold laws_eqRecS.f
 simp only [if_true]
 refine loop_ev l.length (fun k (_ : Unit) i => laws_eqRecS.l0 k l l i) (fun _ => ()) true ?_ ?_
 ·intro i hi hr
  refine Ev.step (fun k => ?_) hr
  (simp only [laws_eqRecS.l0, laws_eqRec.f, bne_self_eq_false, Bool.false_eq_true, if_false, if_true, Option.bind_some]); (rw [if_pos (by omega), if_pos (by omega), if_pos (by omega), wrap_nat_succ (by omega)])
 ·refine Ev.step (f := fun _ => some true) (fun k => ?_) (Ev.now _)
  (simp only [laws_eqRecS.l0]); (rw [if_neg (by omega)])
def toInt_ (x : Int) : Int := x
theorem toIntS_ev (l : List Int) (h : l.length ≤ 1048576) : Ev (fun k => laws_toIntS.f k l) (l.map toInt_) := by
 unfold laws_toIntS.f
 (simp only [Int.natCast_nonneg, if_true, Int.toNat_natCast, show l.length ≤ 35184372088832 by omega]); (rw [← map_range l (0 : Int) toInt_])
 refine fill_ev l.length (0 : Int) (fun k x3 i => laws_toIntS.l0 k l x3 i) (fun i => toInt_ (l.getD i (0 : Int))) ?_ ?_
 ·intro i x3 hi hl r hr
  refine Ev.step (fun k => ?_) hr
  (simp only [laws_toIntS.l0, Option.bind_some]); (rw [if_pos (by omega), if_pos (by omega), if_pos (by omega), wrap_nat_succ (by omega)])
  rfl
 ·intro x3 hl
  refine Ev.step (f := fun _ => some x3) (fun k => ?_) (Ev.now _)
  (simp only [laws_toIntS.l0]); (rw [if_neg (by omega)])
def toRec_ (x : S105) : S78 := (⟨x.f0, x.f1, x.f2, x.f3⟩ : S78)
theorem toRecS_ev (l : List S105) (h : l.length ≤ 1048576) : Ev (fun k => laws_toRecS.f k l) (l.map toRec_) := by
 unfold laws_toRecS.f
 (simp only [Int.natCast_nonneg, if_true, Int.toNat_natCast, show l.length ≤ 7036874417766 by omega]); (rw [← map_range l z105 toRec_])
 refine fill_ev l.length z78 (fun k x3 i => laws_toRecS.l0 k l x3 i) (fun i => toRec_ (l.getD i z105)) ?_ ?_
 ·intro i x3 hi hl r hr
  refine Ev.step (fun k => ?_) hr
  (simp only [laws_toRecS.l0, laws_toRec.f, Option.bind_some]); (rw [if_pos (by omega), if_pos (by omega), if_pos (by omega), wrap_nat_succ (by omega)])
  rfl
 ·intro x3 hl
  refine Ev.step (f := fun _ => some x3) (fun k => ?_) (Ev.now _)
  (simp only [laws_toRecS.l0]); (rw [if_neg (by omega)])
end Go.Proofs.YtbpffdhkeinmcaaDoor.L
namespace Go.Proofs.YtbpffdhkeinmcaaDoor.Pure
open Go.RowKit Go.Proofs.YtbpffdhkeinmcaaDoor.QD Go.Proofs.YtbpffdhkeinmcaaDoorW.PrintWords Go.Proofs.YtbpffdhkeinmcaaDoorW.PrintLast Go.Proofs.YtbpffdhkeinmcaaDoor.L
set_option linter.unusedVariables false
set_option linter.unusedSimpArgs false
theorem szRec_eq (x : S105) (left : Int) (h0 : 0 ≤ left) (hl : left ≤ 1048576) (h3 : x.f3.size ≤ 9223372036854775807) :
  ∃ r : Int, laws_szRec.f x.f0 x.f1 x.f2 x.f3 left = some r ∧ (r = -1 ∨ (0 ≤ r ∧ r ≤ left ∧ (x.f3.size : Int) ≤ left)) := by
 unfold laws_szRec.f
 rw [wrap_id (x := left - (x.f3.size : Int)) (by omega) (by omega)]
 by_cases h : left - (x.f3.size : Int) < 0
 ·rw [if_pos h]; exact ⟨_, rfl, .inl rfl⟩
 ·rw [if_neg h]; exact ⟨_, rfl, .inr ⟨by omega, by omega, by omega⟩⟩
theorem szRecS_ev (l : List S105) (left : Int) (h0 : 0 ≤ left) (hl : left ≤ 1048576) (hn : l.length ≤ 9223372036854775807) (hx : ∀ x, x ∈ l → x.f3.size ≤ 9223372036854775807) :
  ∃ r : Int, Ev (fun k => laws_szRecS.f k l left) r ∧ (r = -1 ∨ (0 ≤ r ∧ r ≤ left ∧ (l.length : Int) ≤ left ∧ ∀ x, x ∈ l → (x.f3.size : Int) ≤ left)) := by
 unfold laws_szRecS.f
 rw [wrap_id (x := left - (l.length : Int)) (by omega) (by omega)]
 by_cases h : left - (l.length : Int) < 0
 ·simp only [if_pos h]; exact ⟨_, Ev.now _, .inl rfl⟩
 simp only [if_neg h]
 have key : ∀ d i (left' : Int), i + d = l.length → 0 ≤ left' → left' ≤ left → ∃ r : Int, Ev (fun k => laws_szRecS.l0 k l left' (i : Int)) r ∧ (r = -1 ∨ (0 ≤ r ∧ r ≤ left' ∧ ∀ j, i ≤ j → ∀ x, l[j]? = some x → (x.f3.size : Int) ≤ left')) := by
  intro d
  induction d with
  | zero =>
   intro i left' hi h1 h2
   refine ⟨left', Ev.step (f := fun _ => some left') (fun k => ?_) (Ev.now _), .inr ⟨h1, Int.le_refl _, fun j hj x hx => ?_⟩⟩
   ·simp only [laws_szRecS.l0]; rw [if_neg (by omega)]
   ·rw [List.getElem?_eq_none (by omega)] at hx; cases hx
  | succ d ih =>
   intro i left' hi h1 h2
   (have hlt : i < l.length := by omega); (have hmem : l.getD i z105 ∈ l := by rw [getD_lt _ hlt]; exact List.getElem_mem _); (obtain ⟨r1, e1, c1⟩ := szRec_eq (l.getD i z105) left' h1 (by omega) (hx _ hmem))
   rcases c1 with rfl | ⟨c1, c2, c3⟩
   ·refine ⟨-1, Ev.step (f := fun _ => some (-1)) (fun k => ?_) (Ev.now _), .inl rfl⟩
    (simp only [laws_szRecS.l0, rd_T105, Int.toNat_natCast, e1, Option.bind_some]); (rw [if_pos (by omega), if_pos (by omega), if_pos (by omega)])
   ·obtain ⟨r, hr, hc⟩ := ih (i + 1) r1 (by omega) c1 (by omega)
    refine ⟨r, Ev.step (fun k => ?_) hr, ?_⟩
    ·simp only [laws_szRecS.l0, rd_T105, Int.toNat_natCast, e1, Option.bind_some]
     rw [if_pos (by omega), if_pos (by omega), if_neg (by omega), wrap_nat_succ (by omega)]
    ·rcases hc with rfl | ⟨b0, b1, b2⟩
     ·exact .inl rfl
     ·refine .inr ⟨b0, by omega, fun j hj x hx => ?_⟩
      by_cases e : j = i
      ·subst e
       rw [List.getElem?_eq_getElem hlt] at hx
       injection hx with hx
       rw [getD_lt _ hlt, hx] at c3
       exact c3
      ·have := b2 j (by omega) x hx
       omega
 obtain ⟨r, hr, hc⟩ := key l.length 0 (left - (l.length : Int)) (by omega) (by omega) (by omega)
 refine ⟨r, hr, ?_⟩
 rcases hc with rfl | ⟨b0, b1, b2⟩
 ·exact .inl rfl
 ·refine .inr ⟨b0, by omega, by omega, fun x hx => ?_⟩
  (obtain ⟨j, hj, rfl⟩ := List.getElem_of_mem hx); (have := b2 j (Nat.zero_le _) _ (List.getElem?_eq_getElem hj))
  omega
theorem FnExactReplyLine : laws_FnExactReplyLine.Pure := by
 rintro kind slots y _ _ ⟨_, _, _, ⟨hl, hx⟩, ⟨hm, _⟩⟩
 apply Ev.rounds
 unfold laws_FnExactReplyLine.f
 have hsz : ∃ r : Int, Ev (fun k => laws_szReply.f k y.f0 y.f1 y.f2 y.f3 y.f4 1048576) r ∧ (r = -1 ∨ (0 ≤ r ∧ y.f3.length ≤ 1048576 ∧ y.f4.length ≤ 1048576 ∧ ∀ x, x ∈ y.f3 → x.f3.size ≤ 1048576)) := by
  obtain ⟨r0, e0, c0⟩ := szRecS_ev y.f3 1048576 (by omega) (by omega) hl (fun x h => (hx x h).2.2.2)
  unfold laws_szReply.f
  rcases c0 with rfl | ⟨c0, c1, c2, c3⟩
  ·exact ⟨-1, Ev.bind e0 (by simp only [show ((-1 : Int) < 0) by omega, if_true]; exact Ev.now _), .inl rfl⟩
  ·have e1 : laws_szIntS.f y.f4 r0 = some (if r0 - (y.f4.length : Int) < 0 then -1 else r0 - (y.f4.length : Int)) := by
    unfold laws_szIntS.f
    rw [wrap_id (x := r0 - (y.f4.length : Int)) (by omega) (by omega)]
    split <;> rfl
   by_cases h : r0 - (y.f4.length : Int) < 0
   ·rw [if_pos h] at e1
    exact ⟨-1, Ev.bind e0 (by simp only [if_neg (show ¬ r0 < 0 by omega)]; exact Ev.bind (evConst e1) (by simp only [show ((-1 : Int) < 0) by omega, if_true]; exact Ev.now _)), .inl rfl⟩
   ·rw [if_neg h] at e1
    exact ⟨r0 - (y.f4.length : Int), Ev.bind e0 (by simp only [if_neg (show ¬ r0 < 0 by omega)]; exact Ev.bind (evConst e1) (by simp only [if_neg h]; exact Ev.now _)), .inr ⟨by omega, by omega, by omega, fun x hx => by have := c3 x hx; omega⟩⟩
 obtain ⟨r0, e0, c0⟩ := hsz
 refine Ev.bind e0 ?_
 rcases c0 with rfl | ⟨c0, c1, c2, c3⟩
 ·simp only [show ((-1 : Int) < 0) by omega, if_true]; exact Ev.now _
 simp only [if_neg (show ¬ r0 < 0 by omega)]
 have t0 : Ev (fun k => laws_toReply.f k y.f0 y.f1 y.f2 y.f3 y.f4) (y.f0, y.f1, y.f2, y.f3.map toRec_, y.f4.map toInt_) := by
  unfold laws_toReply.f
  exact Ev.bind (toRecS_ev y.f3 (by omega)) (Ev.bind (toIntS_ev y.f4 (by omega)) (Ev.now _))
 (have ht : (y.f3.map toRec_).length ≤ 1048576 := by simpa using c1); (have hmm : (y.f4.map toInt_).length ≤ 1048576 := by simpa using c2)
 have hs : ∀ x, x ∈ y.f3.map toRec_ → x.f3.size ≤ 1048576 := by
  intro x hx
  obtain ⟨z, hz, rfl⟩ := List.mem_map.1 hx
  exact c3 z hz
 refine Ev.bind t0 (Ev.bind (specLine_ev kind slots y.f0 y.f1 y.f2 _ _ ht hs hmm) (Ev.bind t0 (Ev.bind (implLine_ev kind slots y.f0 y.f1 y.f2 _ _ ht hs hmm) ?_)))
 simp only [if_true]
 refine Ev.bind t0 ?_
 refine Ev.bind (a := true) ?_ (by simp only [if_true]; exact Ev.now _)
 unfold laws_eqReply.f
 simp only [if_true, bne_self_eq_false, Bool.false_eq_true, if_false]
 refine Ev.bind (eqRecS_ev _ (by omega)) ?_
 simp only [if_true]
 refine Ev.bind (eqIntS_ev _ (by omega)) ?_
 simp only [if_true]
 exact Ev.now _
end Go.Proofs.YtbpffdhkeinmcaaDoor.Pure
