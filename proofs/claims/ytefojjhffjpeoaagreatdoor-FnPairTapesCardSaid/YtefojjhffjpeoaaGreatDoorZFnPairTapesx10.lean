/- Part of the proof of the law FnPairTapes: what it uses of the texts that this session and the kit's print wrote. -/
import Derived.Test.YtefojjhffjpeoaaGreatDoorZFnPairTapesx9
namespace Go.Proofs.YtefojjhffjpeoaaGreatDoor.V
open Go Go.RowKit Go.Proofs.YtefojjhffjpeoaaGreatDoor.L Go.Proofs.YtefojjhffjpeoaaGreatDoorW.PrintWords Go.Proofs.YtefojjhffjpeoaaGreatDoorW.PrintLast Go.Proofs.YtefojjhffjpeoaaGreatDoorW.PrintMore
set_option linter.unusedVariables false
set_option linter.unusedSimpArgs false
section
variable {α β : Type} {F G : Nat → Nat → Nat → Nat → Option α} {h : Nat → Option β} {r : α} {v d : β} {b : Bool}
theorem E4.gc {f : Nat → Nat → Nat → Nat → β → Option α} (hg : b = true → Ev h v) (hf : E4 (fun k m n p => f k m n p (cond b v d)) r) : E4 (fun k m n p => (gcall b (h k) d).bind (f k m n p)) r := by
  cases b
  · exact hf
  · exact E4.bind (hg rfl) hf
theorem find4 (n : Nat) (F : Nat → Nat → Nat → Nat → Nat → Option Int) (p : Nat → Bool) (hgo : ∀ i, i < n → p i = false → ∀ r, E4 (F (i + 1)) r → E4 (F i) r) (hstop : ∀ i, i < n → p i = true → E4 (F i) (i : Int)) (hend : E4 (F n) (-1)) :
    ∃ j : Int, E4 (F 0) j ∧ decide (j ≥ 0) = (List.range n).any p := by
  have key : ∀ d i, i + d = n → ∃ j : Int, E4 (F i) j ∧ decide (j ≥ 0) = ((List.range n).drop i).any p := by
    intro d
    induction d with
    | zero =>
      intro i h
      obtain rfl : i = n := by omega
      exact ⟨-1, hend, by rw [List.drop_of_length_le (by simp)]; rfl⟩
    | succ d ih =>
      intro i h
      have hi : i < n := by omega
      rw [List.drop_eq_getElem_cons (by simpa using hi), List.getElem_range, List.any_cons]
      cases hp : p i with
      | true => exact ⟨i, hstop i hi hp, by simp⟩
      | false =>
        obtain ⟨j, h1, h2⟩ := ih (i + 1) (by omega)
        exact ⟨j, hgo i hi hp _ h1, by simpa using h2⟩
  simpa using key n 0 (by omega)
theorem any_range {α : Type} (l : List α) (z : α) (q : α → Bool) : (List.range l.length).any (fun i => q (l.getD i z)) = l.any q := by
  induction l with
  | nil => rfl
  | cons x xs ih =>
    rw [List.length_cons, List.range_succ_eq_map, List.any_cons, List.any_map, List.any_cons, ← ih]
    rfl
end
abbrev rqA (x : S68) : SV DD := .agg [.v (.int .i64 x.f0), .v (.string x.f1), .v (.int .i64 x.f2), .v (.int .i64 x.f3), .v (.int .i64 x.f4), .v (.int .i64 x.f5), .v (.string x.f6)]
abbrev cfA (a b c d : Int) : SV DD := .agg [.v (.int .i64 a), .v (.int .i64 b), .v (.int .i64 c), .v (.int .i64 d)]
theorem within_ev (n lo hi : Int) : Ev (fun k => c56 k [.v (.int .i64 n), .v (.int .i64 lo), .v (.int .i64 hi)]) (decide (lo ≤ n ∧ n ≤ hi)) :=
  Ev.st (fun k => g56_eq k n lo hi) (E4.now.val (by rw [Bool.eq_iff_iff]; simp only [Bool.and_eq_true, decide_eq_true_eq] <;> omega))
theorem deepLog_ev (b : Int) : Ev (fun k => c57 k [.v (.int .i64 b)]) (decide (2 ≤ b ∧ b ≤ 6)) :=
  Ev.st (fun k => g57_eq k b) (E4.bind (within_ev b 2 6) E4.now)
theorem isLog_ev (b : Int) : Ev (fun k => c97 k [.v (.int .i64 b)]) (decide (0 ≤ b ∧ b ≤ 6)) :=
  Ev.st (fun k => g97_eq k b) (E4.bind (within_ev b 0 6) E4.now)
theorem isConf_ev (a b c d : Int) : Ev (fun k => c25 k [cfA a b c d]) (confB a b c d) := by
  refine Ev.st (fun k => g25_eq k a b c d) ?_
  refine E4.bind (within_ev a 0 4294967295) (E4.gc (fun _ => deepLog_ev b) (E4.gc (fun _ => within_ev c 0 64) (E4.gc (fun _ => within_ev d 1 64) (E4.now.val ?_))))
  unfold confB
  generalize decide (0 ≤ a ∧ a ≤ 4294967295) = d1
  generalize decide (2 ≤ b ∧ b ≤ 6) = d2
  generalize decide (0 ≤ c ∧ c ≤ 64) = d3
  generalize decide (1 ≤ d ∧ d ≤ 64) = d4
  cases d1 <;> cases d2 <;> cases d3 <;> cases d4 <;> rfl
theorem l16Log_ev (b : Int) : Ev (fun k => c55 k [.v (.int .i64 b)]) (decide (2 ≤ b ∧ b ≤ 6)) :=
  Ev.st (fun k => g55_eq k b) (E4.now.val (by rw [Bool.eq_iff_iff]; simp only [Bool.and_eq_true, decide_eq_true_eq] <;> omega))
theorem confOk_ev (a b c d : Int) : Ev (fun k => c48 k [cfA a b c d]) (confB a b c d) := by
  refine Ev.st (fun k => g48_eq k a b c d) ?_
  refine E4.gc (fun _ => l16Log_ev b) (E4.now.val ?_)
  unfold confB
  by_cases h1 : 0 ≤ a <;> by_cases h1' : a ≤ 4294967295 <;> by_cases h2 : 2 ≤ b <;> by_cases h2' : b ≤ 6 <;> by_cases h3 : 0 ≤ c <;> by_cases h3' : c ≤ 64 <;> by_cases h4 : 1 ≤ d <;> by_cases h4' : d ≤ 64 <;>
    simp [h1, h1', h2, h2', h3, h3', h4, h4']
theorem isShape_ev (a b : Int) : Ev (fun k => c96 k [.v (.int .i64 a), .v (.int .i64 b)]) (shapeB a b) := by
  refine Ev.st (fun k => g96_eq k a b) ?_
  unfold shapeB
  by_cases h6 : a = 6
  · rw [if_pos h6]
    exact E4.ct (by simp [h6]) (E4.bind (within_ev b 1 16) E4.now)
  · rw [if_neg h6]
    refine E4.cf (by simp [h6]) (E4.bind (within_ev a 1 5) (E4.now.val ?_))
    rw [Bool.eq_iff_iff]; simp only [Bool.and_eq_true, decide_eq_true_eq, beq_iff_eq] <;> omega
theorem l18Shape_ev (a b : Int) : Ev (fun k => c98 k [.v (.int .i64 a), .v (.int .i64 b)]) (shapeB a b) := by
  refine Ev.st (fun k => g98_eq k a b) ?_
  unfold shapeB
  by_cases h6 : a = 6
  · rw [if_pos h6]
    exact E4.ct (by simp [h6]) (E4.now.val (by rw [Bool.eq_iff_iff]; simp only [Bool.and_eq_true, decide_eq_true_eq] <;> omega))
  · rw [if_neg h6]
    refine E4.cf (by simp [h6]) (E4.now.val ?_)
    rw [Bool.eq_iff_iff]; simp only [Bool.and_eq_true, decide_eq_true_eq, beq_iff_eq] <;> omega
theorem isReq_ev (x : S68) : Ev (fun k => c74 k [rqA x]) (reqB x) := by
  refine Ev.st (fun k => g74_eq k x.f0 x.f1 x.f2 x.f3 x.f4 x.f5 x.f6) (E4.bind (isShape_ev x.f0 x.f5) (E4.now.val ?_))
  unfold reqB
  rw [Bool.and_assoc]
  congr 2 <;> (rw [decide_eq_decide]; omega)
theorem reqOk_ev (x : S68) : Ev (fun k => c79 k [rqA x]) (reqB x) := by
  refine Ev.st (fun k => g79_eq k x.f0 x.f1 x.f2 x.f3 x.f4 x.f5 x.f6) (E4.bind (l18Shape_ev x.f0 x.f5) (E4.now.val ?_))
  unfold reqB
  rw [Bool.and_assoc]
  congr 2 <;> (rw [decide_eq_decide]; omega)
theorem isChange_ev (a : Int) : Ev (fun k => c69 k [.v (.int .i64 a)]) (decide (a = 3 ∨ a = 4 ∨ a = 5)) :=
  Ev.st (fun k => g69_eq k a) (E4.now.val (by rw [Bool.eq_iff_iff]; simp only [Bool.or_eq_true, decide_eq_true_eq, beq_iff_eq] <;> omega))
theorem takes_ev (a b : Int) : Ev (fun k => c88 k [.v (.int .i64 a), .v (.int .i64 b)]) (takesI a b) := by
  refine Ev.st (fun k => g88_eq k a b) ?_
  unfold takesI
  by_cases h1 : a = 1
  · rw [if_pos h1]; exact E4.ct (by simp [h1]) E4.now
  · rw [if_neg h1]
    refine E4.cf (by simp [h1]) (E4.bind (isChange_ev a) ?_)
    by_cases h : a = 3 ∨ a = 4 ∨ a = 5
    · rw [if_pos h]; exact E4.ct (decide_eq_true h) E4.now
    · rw [if_neg h]; exact E4.cf (decide_eq_false h) E4.now
theorem l22Takes_ev {a b : Int} (h : shapeB a b = true) : Ev (fun k => c109 k [.v (.int .i64 a), .v (.int .i64 b)]) (takesI a b) := by
  refine Ev.st (fun k => g109_eq k a b) ?_
  have hr := shape_range h
  unfold takesI
  obtain h1 | h1 | h1 | h1 | h1 | h1 : a = 1 ∨ a = 2 ∨ a = 3 ∨ a = 4 ∨ a = 5 ∨ a = 6 := by omega
  all_goals subst h1
  · exact E4.now
  · exact E4.now.val (by have := hr.2.2.2.2.1 (by decide); rw [this]; rfl)
  · exact E4.now
  · exact E4.now
  · exact E4.now
  · exact E4.now
theorem shapeTakes_ev {a b : Int} (h : shapeB a b = true) : Ev (fun k => c99 k [.agg [.v (.int .i64 a), .v (.int .i64 b)]]) (takesI a b) :=
  Ev.st (fun k => g99_eq k a b) (E4.bind (l18Shape_ev a b) (E4.cf (by rw [h]; rfl) (E4.bind (l22Takes_ev h) E4.now)))
theorem weight_ev (a : Int) : Ev (fun k => c81 k [.v (.int .i64 a)]) (decide (0 ≤ a ∧ a ≤ 65535)) :=
  Ev.st (fun k => g81_eq k a) (E4.now.val (by rw [Bool.eq_iff_iff]; simp only [Bool.and_eq_true, decide_eq_true_eq] <;> omega))
theorem pow_ev (n : Nat) (hn : n ≤ 61) : Ev (fun k => c22 k [.v (.int .i64 (n : Int))]) (2 ^ n) := by
  have key : ∀ m : Nat, m ≤ 61 → ∀ x : Int, 1 ≤ x → x * 2 ^ m ≤ 2305843009213693952 → E4 (fun k q _ _ => L22_1 k q (m : Int) x) (x * 2 ^ m) := by
    intro m
    induction m with
    | zero =>
      intro hm x h1 h2
      exact E4.s1 (fun k m n p => L22_1_eq k m _ _) (E4.cf (by simp) (E4.now.val (by simp)))
    | succ m ih =>
      intro hm x h1 h2
      have e : x * 2 ^ (m + 1) = (2 * x) * 2 ^ m := by rw [Int.pow_succ, Int.mul_comm (2 ^ m) 2, ← Int.mul_assoc, Int.mul_comm x 2]
      have hp := pow2_pos m
      have hx : 2 * x ≤ (2 * x) * 2 ^ m := by have := Int.mul_le_mul_of_nonneg_left hp (show 0 ≤ 2 * x by omega); omega
      have := ih (by omega) (2 * x) (by omega) (by rw [← e]; exact h2)
      rw [e]
      refine E4.s1 (fun k m n p => L22_1_eq k m _ _) (E4.ct (by simp) ?_)
      rw [w64_id (by omega) (by omega), w64_id (by omega) (by omega), show ((m + 1 : Nat) : Int) - 1 = (m : Int) by omega]
      exact this
  have hle : (1 : Int) * 2 ^ n ≤ 2305843009213693952 := by
    have : (2 : Int) ^ n ≤ 2 ^ 61 := pow2_le hn
    omega
  have := key n hn 1 (by omega) hle
  rw [Int.one_mul] at this
  exact Ev.st (fun k => g22_eq k n) this.e1
theorem shlI_pow (x : Int) (n : Nat) (hn : n ≤ 64) : shlI .i64 x (n : Int) = w64 (x * 2 ^ n) := by
  unfold shlI w64
  rw [Int.toNat_natCast, Nat.min_eq_left (by exact hn)]
theorem deepDraws_ev (m : Nat) (hm : m ≤ 4) : Ev (fun k => c24 k [.v (.int .i64 ((m : Int) + 2))]) (6 * 2 ^ m) := by
  have hp : (1 : Int) ≤ 2 ^ m ∧ (2 : Int) ^ m ≤ 16 := ⟨pow2_pos _, by have : (2 : Int) ^ m ≤ 2 ^ 4 := pow2_le hm; omega⟩
  refine Ev.st (fun k => g24_eq k _) (E4.bind (l16Log_ev _) (E4.cf (by rw [decide_eq_true (by omega)]; rfl) ?_))
  rw [w64_id (x := (m : Int) + 2 - 2) (by omega) (by omega), show (m : Int) + 2 - 2 = m by omega]
  exact E4.bind (pow_ev m (by omega)) (E4.now.val (w64_id (by omega) (by omega)))
theorem areDraws_ev (l : List Int) (c : Int) (hl : l.length ≤ 9223372036854775806) : Ev (fun k => c27 k [.ro 3 l, .v (.int .i64 c)]) (drawsB l c) := by
  refine Ev.st (fun k => g27_eq k l c) ?_
  by_cases h : (l.length : Int) = c
  · have hf := find4 l.length (fun i k m n p => L87_1_1 k m l (l.length : Int) (i : Int)) (fun i => !drawB (l.getD i 0)) ?_ ?_ ?_
    · obtain ⟨j, h1, h2⟩ := hf
      refine E4.gt (beq_iff_eq.2 h) (Ev.st (fun k => g59_1_eq k l) (E4.bind (Ev.st (fun k => g87_1_eq k l) h1.e1) E4.now)) (E4.now.val ?_)
      rw [h2, any_range l 0 (fun x => !drawB x)]
      unfold drawsB
      rw [List.not_any_eq_all_not, decide_eq_true h, beq_iff_eq.2 h]
      simp
    · intro i hi hp r hr
      refine E4.s1 (fun k m n p => L87_1_1_eq k m _ _ _) (E4.ct (decide_eq_true (by omega)) (E4.ck (inB_of (by omega) (by omega)) (E4.bind (Ev.st (fun k => g60_eq k _) (E4.bind (within_ev _ 0 65535) E4.now)) (E4.cf ?_ ?_))))
      · simpa [drawB] using hp
      · rw [w64_succ (by omega)]; exact hr
    · intro i hi hp
      refine E4.s1 (fun k m n p => L87_1_1_eq k m _ _ _) (E4.ct (decide_eq_true (by omega)) (E4.ck (inB_of (by omega) (by omega)) (E4.bind (Ev.st (fun k => g60_eq k _) (E4.bind (within_ev _ 0 65535) E4.now)) (E4.ct ?_ E4.now))))
      simpa [drawB] using hp
    · exact E4.s1 (fun k m n p => L87_1_1_eq k m _ _ _) (E4.cf (decide_eq_false (by omega)) E4.now)
  · refine E4.gf (by simpa using h) (E4.now.val ?_)
    unfold drawsB
    rw [decide_eq_false h, show ((l.length : Int) == c) = false by simpa using h]
    rfl
theorem isSeq_ev (n : Int) (ids : List Int) : Ev (fun k => c89 k [.v (.int .i64 n), .ro 3 ids]) (seqB n ids) := by
  refine Ev.st (fun k => g89_eq k n ids) (E4.bind (within_ev n 0 256) ?_)
  by_cases h : 0 ≤ n ∧ n ≤ 256 ∧ ids.length ≤ 700
  · have hw : w64 (n - 1) = n - 1 := w64_id (by omega) (by omega)
    have he : (decide (0 ≤ n ∧ n ≤ 256) && decide ((ids.length : Int) ≤ 700)) = true := by rw [Bool.and_eq_true, decide_eq_true_eq, decide_eq_true_eq]; omega
    have h103 : ∀ x : Int, Ev (fun k => c103 k [.v (.int .i64 x), .rb [.v (.int .i64 n)] 0]) (!decide (-1 ≤ x ∧ x ≤ n - 1)) := fun x => by
      have := within_ev x (-1) (n - 1)
      rw [← hw] at this
      rw [← hw]
      exact Ev.st (fun k => g103_1_eq k x n) (E4.bind this E4.now)
    have hf := find4 ids.length (fun i k m _ p => L87_2_1 k m ids n (ids.length : Int) (i : Int)) (fun i => !decide (-1 ≤ ids.getD i 0 ∧ ids.getD i 0 ≤ n - 1)) ?_ ?_ ?_
    · obtain ⟨j, h1, h2⟩ := hf
      refine E4.gt he (Ev.st (fun k => g59_2_eq k ids n) (E4.bind (Ev.st (fun k => g87_2_eq k ids n) h1.e1) E4.now)) (E4.now.val ?_)
      rw [h2, any_range ids 0 (fun x => !decide (-1 ≤ x ∧ x ≤ n - 1)), he, List.not_any_eq_all_not]
      unfold seqB
      rw [decide_eq_true (show 0 ≤ n ∧ n ≤ 256 by omega), decide_eq_true (show ids.length ≤ 700 by omega)]
      simp
    · intro i hi hp r hr
      refine E4.s1 (fun k m n p => L87_2_1_eq k m _ _ _ _) (E4.ct (decide_eq_true (by omega)) (E4.ck (inB_of (by omega) (by omega)) (E4.bind (h103 _) (E4.cf hp ?_))))
      rw [w64_succ (by omega)]; exact hr
    · intro i hi hp
      exact E4.s1 (fun k m n p => L87_2_1_eq k m _ _ _ _) (E4.ct (decide_eq_true (by omega)) (E4.ck (inB_of (by omega) (by omega)) (E4.bind (h103 _) (E4.ct hp E4.now))))
    · exact E4.s1 (fun k m n p => L87_2_1_eq k m _ _ _ _) (E4.cf (decide_eq_false (by omega)) E4.now)
  · have he : (decide (0 ≤ n ∧ n ≤ 256) && decide ((ids.length : Int) ≤ 700)) = false := by rw [Bool.and_eq_false_iff, decide_eq_false_iff_not, decide_eq_false_iff_not]; omega
    refine E4.gf he (E4.now.val ?_)
    rw [he]
    unfold seqB
    by_cases h0 : 0 ≤ n ∧ n ≤ 256
    · rw [decide_eq_false (show ¬ ids.length ≤ 700 by omega)]; simp
    · rw [decide_eq_false h0]; rfl
theorem l15Right_ev (n : Int) (ids : List Int) (hl : ids.length ≤ 9223372036854775806) : Ev (fun k => c85 k [.v (.int .i64 n), .ro 3 ids]) (seqB n ids) := by
  refine Ev.st (fun k => g85_eq k n ids) ?_
  by_cases h : 0 ≤ n ∧ n ≤ 256 ∧ ids.length ≤ 700
  · refine E4.cf (by rw [Bool.or_eq_false_iff, Bool.or_eq_false_iff, decide_eq_false_iff_not, decide_eq_false_iff_not, decide_eq_false_iff_not]; omega) ?_
    have := search4 (α := Bool) ids.length (fun i k m _ p => L85_1 k m n ids (i : Int)) (fun i => decide (-1 ≤ ids.getD i 0 ∧ ids.getD i 0 ≤ n - 1)) false true ?_ ?_ ?_
    · refine this.e1.val ?_
      rw [all_range ids 0 (fun x => decide (-1 ≤ x ∧ x ≤ n - 1))]
      unfold seqB
      rw [decide_eq_true (show 0 ≤ n ∧ n ≤ 256 by omega), decide_eq_true (show ids.length ≤ 700 by omega)]
      cases ids.all _ <;> rfl
    · intro i hi hp r hr
      have hp := of_decide_eq_true hp
      refine E4.s1 (fun k m n p => L85_1_eq k m _ _ _) (E4.ct (decide_eq_true (by omega)) (E4.ck (inB_of (by omega) (by omega)) (E4.ckg (fun _ => inB_of (by omega) (by omega)) (E4.cf ?_ ?_))))
      · rw [Bool.or_eq_false_iff, decide_eq_false_iff_not, decide_eq_false_iff_not, Int.toNat_natCast]; omega
      · rw [w64_succ (by omega)]; exact hr
    · intro i hi hp
      have hp := of_decide_eq_false hp
      refine E4.s1 (fun k m n p => L85_1_eq k m _ _ _) (E4.ct (decide_eq_true (by omega)) (E4.ck (inB_of (by omega) (by omega)) (E4.ckg (fun _ => inB_of (by omega) (by omega)) (E4.ct ?_ E4.now))))
      rw [Bool.or_eq_true, decide_eq_true_eq, decide_eq_true_eq, Int.toNat_natCast]; omega
    · exact E4.s1 (fun k m n p => L85_1_eq k m _ _ _) (E4.cf (decide_eq_false (by omega)) E4.now)
  · refine E4.ct (by rw [Bool.or_eq_true, Bool.or_eq_true, decide_eq_true_eq, decide_eq_true_eq, decide_eq_true_eq]; omega) (E4.now.val ?_)
    unfold seqB
    by_cases h0 : 0 ≤ n ∧ n ≤ 256
    · rw [decide_eq_false (show ¬ ids.length ≤ 700 by omega)]; simp
    · rw [decide_eq_false h0]; rfl
theorem l15Draws_ev (n : Int) (ids l : List Int) (hl : l.length ≤ 9223372036854775806) : Ev (fun k => c52 k [.v (.int .i64 n), .ro 3 ids, .ro 3 l]) (drawsB l (wrap64 (n + (ids.length : Int)))) := by
  refine Ev.st (fun k => g52_eq k n ids l) ?_
  rw [← w64_def]
  unfold drawsB
  by_cases h : (l.length : Int) = w64 (n + (ids.length : Int))
  · refine E4.cf (by simp [h]) ?_
    have := search4 (α := Bool) l.length (fun i k m _ p => L52_1 k m l (i : Int)) (fun i => drawB (l.getD i 0)) false true ?_ ?_ ?_
    · refine this.e1.val ?_
      rw [all_range l 0 drawB, decide_eq_true h]
      cases l.all _ <;> rfl
    · intro i hi hp r hr
      have hp := of_decide_eq_true hp
      refine E4.s1 (fun k m n p => L52_1_eq k m _ _) (E4.ct (decide_eq_true (by omega)) (E4.ck (inB_of (by omega) (by omega)) (E4.ckg (fun _ => inB_of (by omega) (by omega)) (E4.cf ?_ ?_))))
      · rw [Bool.or_eq_false_iff, decide_eq_false_iff_not, decide_eq_false_iff_not, Int.toNat_natCast]; omega
      · rw [w64_succ (by omega)]; exact hr
    · intro i hi hp
      have hp := of_decide_eq_false hp
      refine E4.s1 (fun k m n p => L52_1_eq k m _ _) (E4.ct (decide_eq_true (by omega)) (E4.ck (inB_of (by omega) (by omega)) (E4.ckg (fun _ => inB_of (by omega) (by omega)) (E4.ct ?_ E4.now))))
      rw [Bool.or_eq_true, decide_eq_true_eq, decide_eq_true_eq, Int.toNat_natCast]; omega
    · exact E4.s1 (fun k m n p => L52_1_eq k m _ _) (E4.cf (decide_eq_false (by omega)) E4.now)
  · refine E4.ct (by simpa using h) (E4.now.val ?_)
    rw [decide_eq_false h]; rfl
theorem leafOf_ev {d : Int} {m : Nat} (hd : 0 ≤ d ∧ d ≤ 65535) (hm : m ≤ 6) : Ev (fun k => c75 k [.v (.int .i64 d), .v (.int .i64 (m : Int))]) (d % 2 ^ m) := by
  have hp : (1 : Int) ≤ 2 ^ m ∧ (2 : Int) ^ m ≤ 64 := ⟨pow2_pos _, by have : (2 : Int) ^ m ≤ 2 ^ 6 := pow2_le hm; omega⟩
  refine Ev.st (fun k => g75_eq k d m) (E4.bind (within_ev d 0 65535) (E4.gt (by rw [decide_eq_true hd]; rfl) (within_ev _ 0 6) (E4.cf (by rw [decide_eq_true hd, decide_eq_true (by omega)]; rfl) (E4.ck (decide_eq_true (by omega)) (E4.now.val ?_)))))
  rw [shlI_pow 1 m (by omega), Int.one_mul, w64_id (x := (2 : Int) ^ m) (by omega) (by omega), w64_id (by omega) (by omega)]
  have := bits_mask .i64 32 (by decide) wraps_i64 m (by omega) d (by omega) (by omega)
  exact this
end Go.Proofs.YtefojjhffjpeoaaGreatDoor.V
namespace Go.Proofs.YtefojjhffjpeoaaGreatDoor.V
open Go Go.RowKit Go.Proofs.YtefojjhffjpeoaaGreatDoor.L Go.Proofs.YtefojjhffjpeoaaGreatDoor.QA Go.Proofs.YtefojjhffjpeoaaGreatDoorW.PrintWords Go.Proofs.YtefojjhffjpeoaaGreatDoorW.PrintLast Go.Proofs.YtefojjhffjpeoaaGreatDoorW.PrintMore
set_option linter.unusedVariables false
set_option linter.unusedSimpArgs false
theorem areReqs_ev (l : List S68) : Ev (fun k => c33 k [.ro 68 l]) (reqsB l) := by
  refine Ev.st (fun k => g33_eq k l) ?_
  by_cases h : (l.length : Int) ≤ 40
  · have h73 : ∀ x : S68, Ev (fun k => c73 k [rqA x]) (!reqB x) := fun x => Ev.st (fun k => g73_eq k x.f0 x.f1 x.f2 x.f3 x.f4 x.f5 x.f6) (E4.bind (isReq_ev x) E4.now)
    have hf := find4 l.length (fun i k m _ p => L95_1_1 k m l (l.length : Int) (i : Int)) (fun i => !reqB (l.getD i z68)) ?_ ?_ ?_
    · obtain ⟨j, h1, h2⟩ := hf
      refine E4.gt (decide_eq_true h) (Ev.st (fun k => g72_1_eq k l) (E4.bind (Ev.st (fun k => g95_1_eq k l) h1.e1) E4.now)) (E4.now.val ?_)
      rw [h2, any_range l z68 (fun x => !reqB x), decide_eq_true h, List.not_any_eq_all_not]
      unfold reqsB
      rw [decide_eq_true (show l.length ≤ 40 by omega)]
      simp
    · intro i hi hp r hr
      refine E4.s1 (fun k m n p => L95_1_1_eq k m _ _ _) (E4.ct (decide_eq_true (by omega)) (E4.ck (inB_of (by omega) (by omega)) (E4.bind (h73 _) (E4.cf hp ?_))))
      rw [w64_succ (by omega)]; exact hr
    · intro i hi hp
      exact E4.s1 (fun k m n p => L95_1_1_eq k m _ _ _) (E4.ct (decide_eq_true (by omega)) (E4.ck (inB_of (by omega) (by omega)) (E4.bind (h73 _) (E4.ct hp E4.now))))
    · exact E4.s1 (fun k m n p => L95_1_1_eq k m _ _ _) (E4.cf (decide_eq_false (by omega)) E4.now)
  · refine E4.gf (decide_eq_false h) (E4.now.val ?_)
    unfold reqsB
    rw [decide_eq_false h, decide_eq_false (show ¬ l.length ≤ 40 by omega)]
    rfl
theorem reqsOk_ev (l : List S68) : Ev (fun k => c49 k [.ro 68 l]) (reqsB l) := by
  refine Ev.st (fun k => g49_eq k l) ?_
  unfold reqsB
  by_cases h : (l.length : Int) > 40
  · exact E4.ct (decide_eq_true h) (E4.now.val (by rw [decide_eq_false (show ¬ l.length ≤ 40 by omega)]; rfl))
  · refine E4.cf (decide_eq_false h) ?_
    have := search4 (α := Bool) l.length (fun i k m _ p => L49_1 k m l (i : Int)) (fun i => reqB (l.getD i z68)) false true ?_ ?_ ?_
    · refine this.e1.val ?_
      rw [all_range l z68 reqB, decide_eq_true (show l.length ≤ 40 by omega)]
      cases l.all _ <;> rfl
    · intro i hi hp r hr
      refine E4.s1 (fun k m n p => L49_1_eq k m _ _) (E4.ct (decide_eq_true (by omega)) (E4.ck (inB_of (by omega) (by omega)) (E4.bind (reqOk_ev (l.getD i z68)) (E4.cf (by rw [hp]; rfl) ?_))))
      rw [w64_succ (by omega)]; exact hr
    · intro i hi hp
      exact E4.s1 (fun k m n p => L49_1_eq k m _ _) (E4.ct (decide_eq_true (by omega)) (E4.ck (inB_of (by omega) (by omega)) (E4.bind (reqOk_ev (l.getD i z68)) (E4.ct (by rw [hp]; rfl) E4.now))))
    · exact E4.s1 (fun k m n p => L49_1_eq k m _ _) (E4.cf (decide_eq_false (by omega)) E4.now)
theorem shapesOk_ev (l : List S59) : Ev (fun k => c77 k [.ro 59 l]) (shapesB l) := by
  refine Ev.st (fun k => g77_eq k l) ?_
  unfold shapesB
  by_cases h : (l.length : Int) > 40
  · exact E4.ct (decide_eq_true h) (E4.now.val (by rw [decide_eq_false (show ¬ l.length ≤ 40 by omega)]; rfl))
  · refine E4.cf (decide_eq_false h) ?_
    have := search4 (α := Bool) l.length (fun i k m _ p => L77_1 k m l (i : Int)) (fun i => shapeB (l.getD i z59).f0 (l.getD i z59).f1) false true ?_ ?_ ?_
    · refine this.e1.val ?_
      rw [all_range l z59 (fun x => shapeB x.f0 x.f1), decide_eq_true (show l.length ≤ 40 by omega)]
      cases l.all _ <;> rfl
    · intro i hi hp r hr
      refine E4.s1 (fun k m n p => L77_1_eq k m _ _) (E4.ct (decide_eq_true (by omega)) (E4.ck (inB_of (by omega) (by omega)) (E4.ck (inB_of (by omega) (by omega)) (E4.bind (l18Shape_ev _ _) (E4.cf (congrArg Bool.not hp) ?_)))))
      rw [w64_succ (by omega)]; exact hr
    · intro i hi hp
      exact E4.s1 (fun k m n p => L77_1_eq k m _ _) (E4.ct (decide_eq_true (by omega)) (E4.ck (inB_of (by omega) (by omega)) (E4.ck (inB_of (by omega) (by omega)) (E4.bind (l18Shape_ev _ _) (E4.ct (congrArg Bool.not hp) E4.now)))))
    · exact E4.s1 (fun k m n p => L77_1_eq k m _ _) (E4.cf (decide_eq_false (by omega)) E4.now)
theorem mem_getD {α : Type} {l : List α} {i : Nat} (z : α) (h : i < l.length) : l.getD i z ∈ l := by rw [L.getD_lt z h]; exact List.getElem_mem _
theorem sumTakes_ev (l : List S59) (hs : shapesB l = true) : Ev (fun k => c61 k [.ro 59 l]) (takesS l) := by
  refine Ev.st (fun k => g61_eq k l) ?_
  obtain ⟨h40, ha⟩ := shapes_all hs
  have hb := sumN_range (fun x => takesI x.f0 x.f1) 16 (by omega) l (fun x hx => by have := takesI_range (ha x hx); omega)
  have := loop4 (r := takesS l) l.length (fun i k m _ p => L61_1 k m (sumN (fun x => takesI x.f0 x.f1) l i) l (l.length : Int) (i : Int)) ?_ ?_
  · exact this.e1
  · intro i hi hr
    have h1 := hb i (by omega)
    have h2 := takesI_range (ha _ (mem_getD (⟨(0 : Int), (0 : Int)⟩ : S59) hi))
    refine E4.s1 (fun k m n p => L61_1_eq k m _ _ _ _) (E4.ct (decide_eq_true (by omega)) (E4.ck (inB_of (by omega) (by omega)) (E4.bind (takes_ev _ _) ?_)))
    rw [w64_succ (by omega)]
    simp only [Int.toNat_natCast]
    rw [w64_id (by omega) (by omega), ← sumN_succ (fun x => takesI x.f0 x.f1) l i hi]
    exact hr
  · exact E4.s1 (fun k m n p => L61_1_eq k m _ _ _ _) (E4.cf (decide_eq_false (by omega)) E4.now)
theorem l23Takes_ev (l : List S59) (hs : shapesB l = true) : Ev (fun k => c78 k [.ro 59 l]) (takesS l) := by
  refine Ev.st (fun k => g78_eq k l) ?_
  obtain ⟨h40, ha⟩ := shapes_all hs
  have hb := sumN_range (fun x => takesI x.f0 x.f1) 16 (by omega) l (fun x hx => by have := takesI_range (ha x hx); omega)
  have := loop4 (r := takesS l) l.length (fun i k m _ p => L78_1 k m l (sumN (fun x => takesI x.f0 x.f1) l i) (i : Int)) ?_ ?_
  · exact this.e1
  · intro i hi hr
    have h1 := hb i (by omega)
    have h0 := ha _ (mem_getD (⟨(0 : Int), (0 : Int)⟩ : S59) hi)
    have h2 := takesI_range h0
    refine E4.s1 (fun k m n p => L78_1_eq k m _ _ _) (E4.ct (decide_eq_true (by omega)) (E4.ck (inB_of (by omega) (by omega)) (E4.bind (shapeTakes_ev h0) ?_)))
    simp only [Int.toNat_natCast]
    rw [w64_succ (by omega), w64_id (by omega) (by omega), ← sumN_succ (fun x => takesI x.f0 x.f1) l i hi]
    exact hr
  · exact E4.s1 (fun k m n p => L78_1_eq k m _ _ _) (E4.cf (decide_eq_false (by omega)) E4.now)
theorem shapeDraws_ev (a c d : Int) (m : Nat) (l : List S59) (hm : m ≤ 4) (hs : shapesB l = true) : Ev (fun k => c28 k [cfA a ((m : Int) + 2) c d, .ro 59 l]) (drawsI ((m : Int) + 2) l) := by
  have ht := takesS_range hs
  have hp : (1 : Int) ≤ 2 ^ m ∧ (2 : Int) ^ m ≤ 16 := ⟨pow2_pos _, by have : (2 : Int) ^ m ≤ 2 ^ 4 := pow2_le hm; omega⟩
  refine Ev.st (fun k => g28_eq k a _ c d l) ?_
  rw [w64_id (x := (m : Int) + 2 - 2) (by omega) (by omega), show (m : Int) + 2 - 2 = m by omega]
  refine E4.ck (decide_eq_true (by omega)) (E4.bind (sumTakes_ev l hs) (E4.now.val ?_))
  unfold drawsI
  rw [show ((m : Int) + 2 - 2).toNat = m by omega, shlI_pow 6 m (by omega), w64_id (x := 6 * 2 ^ m) (by omega) (by omega), w64_id (x := 2 * takesS l) (by omega) (by omega), w64_id (by omega) (by omega)]
theorem specShapeDraws_ev (a c d : Int) (m : Nat) (l : List S59) (hm : m ≤ 4) (hc : confB a ((m : Int) + 2) c d = true) (hs : shapesB l = true) : Ev (fun k => c47 k [cfA a ((m : Int) + 2) c d, .ro 59 l]) (drawsI ((m : Int) + 2) l) := by
  have ht := takesS_range hs
  have hp : (1 : Int) ≤ 2 ^ m ∧ (2 : Int) ^ m ≤ 16 := ⟨pow2_pos _, by have : (2 : Int) ^ m ≤ 2 ^ 4 := pow2_le hm; omega⟩
  refine Ev.st (fun k => g47_eq k a _ c d l) ?_
  refine E4.bind (confOk_ev _ _ _ _) (E4.gt (by rw [hc]; rfl) (shapesOk_ev l) (E4.cf (by rw [hc, hs]; rfl) (E4.bind (deepDraws_ev m hm) (E4.bind (l23Takes_ev l hs) (E4.now.val ?_)))))
  unfold drawsI
  rw [show ((m : Int) + 2 - 2).toNat = m by omega, w64_id (x := 2 * takesS l) (by omega) (by omega), w64_id (by omega) (by omega)]
theorem shapesOf_ev (l : List S68) (h : l.length ≤ 40) : Ev (fun k => c29 k [.ro 68 l]) (l.map shOf) := by
  refine Ev.st (fun k => g29_eq k l) ?_
  have := loop4 (r := l.map shOf) l.length (fun i k m _ p => L29_1 k m l (l.length : Int) (i : Int) ((l.take i).map shOf)) ?_ ?_
  · exact this.e1
  · intro i hi hr
    refine E4.s1 (fun k m n p => L29_1_eq k m _ _ _ _) (E4.ct (decide_eq_true (by omega)) (E4.ck (inB_of (by omega) (by omega)) (E4.ck (appOk_of (by simp only [List.length_map, List.length_take, List.length_cons, List.length_nil]; omega)) ?_)))
    rw [w64_succ (by omega)]
    rw [List.take_succ_eq_append_getElem hi, List.map_append] at hr
    simp only [Int.toNat_natCast, L.getD_lt _ hi]
    exact hr
  · exact E4.s1 (fun k m n p => L29_1_eq k m _ _ _ _) (E4.cf (decide_eq_false (by omega)) (E4.now.val (by rw [List.take_length])))
theorem specShapesOf_ev (l : List S68) : Ev (fun k => c32 k [.ro 68 l]) (if reqsB l then (l.map shOf, true) else ([], false)) := by
  refine Ev.st (fun k => g32_eq k l) (E4.bind (reqsOk_ev l) ?_)
  cases hb : reqsB l with
  | false => exact E4.ct rfl E4.now
  | true =>
    obtain ⟨h40, _⟩ := reqs_all hb
    refine E4.cf rfl ?_
    have := loop4 (r := (l.map shOf, true)) l.length (fun i k m _ p => L32_1 k m l (i : Int) ((l.take i).map shOf)) ?_ ?_
    · exact this.e1
    · intro i hi hr
      refine E4.s1 (fun k m n p => L32_1_eq k m _ _ _) (E4.ct (decide_eq_true (by omega)) (E4.ck (inB_of (by omega) (by omega)) (E4.ck (inB_of (by omega) (by omega)) (E4.ck (appOk_of (by simp only [List.length_map, List.length_take, List.length_cons, List.length_nil]; omega)) ?_))))
      rw [w64_succ (by omega)]
      rw [List.take_succ_eq_append_getElem hi, List.map_append] at hr
      simp only [Int.toNat_natCast, L.getD_lt _ hi]
      exact hr
    · exact E4.s1 (fun k m n p => L32_1_eq k m _ _ _) (E4.cf (decide_eq_false (by omega)) (E4.now.val (by rw [List.take_length])))
theorem sameAt_eq {p q : List S59} {i : Nat} : sameAt p q i = (((p.getD i z59).f0 == (q.getD i z59).f0) && ((p.getD i z59).f1 == (q.getD i z59).f1)) := by
  unfold sameAt rd_T59
  rw [Int.toNat_natCast]
  cases (p.getD i z59).f0 == (q.getD i z59).f0 <;> cases (p.getD i z59).f1 == (q.getD i z59).f1 <;> rfl
theorem equal_ev (p q : List S59) (hp : p.length ≤ 40) : Ev (fun k => c58 k [.ro 59 p, .ro 59 q]) (sameShB p q) := by
  refine Ev.st (fun k => g58_eq k p q) ?_
  unfold sameShB
  by_cases h : p.length = q.length
  · refine E4.cf (by simp [h]) ?_
    have := search4 (α := Bool) p.length (fun i k m _ _ => L58_1 k m p q (p.length : Int) (i : Int)) (sameAt p q) false true ?_ ?_ ?_
    · refine this.e1.val ?_
      rw [decide_eq_true h]
      cases (List.range p.length).all (sameAt p q) <;> rfl
    · intro i hi hs r hr
      rw [sameAt_eq] at hs
      refine E4.s1 (fun k m n p => L58_1_eq k m _ _ _ _) (E4.ct (decide_eq_true (by omega)) (E4.ck (inB_of (by omega) (by omega)) (E4.ck (inB_of (by omega) (by omega)) (E4.cf (congrArg Bool.not hs) ?_))))
      rw [w64_succ (by omega)]; exact hr
    · intro i hi hs
      rw [sameAt_eq] at hs
      exact E4.s1 (fun k m n p => L58_1_eq k m _ _ _ _) (E4.ct (decide_eq_true (by omega)) (E4.ck (inB_of (by omega) (by omega)) (E4.ck (inB_of (by omega) (by omega)) (E4.ct (congrArg Bool.not hs) E4.now))))
    · exact E4.s1 (fun k m n p => L58_1_eq k m _ _ _ _) (E4.cf (decide_eq_false (by omega)) E4.now)
  · refine E4.ct (by simp; omega) (E4.now.val ?_)
    rw [decide_eq_false h]; rfl
theorem sameShape_ev (a b : List S68) : Ev (fun k => c26 k [.ro 68 a, .ro 68 b]) (reqsB a && (reqsB b && sameShB (a.map shOf) (b.map shOf))) := by
  refine Ev.st (fun k => g26_eq k a b) (E4.bind (areReqs_ev a) (E4.gc (fun _ => areReqs_ev b) ?_))
  cases h1 : reqsB a with
  | false => exact E4.gf rfl (E4.gf rfl (E4.gf rfl E4.now))
  | true =>
    cases h2 : reqsB b with
    | false => exact E4.gf rfl (E4.gf rfl (E4.gf rfl E4.now))
    | true => exact E4.gt rfl (shapesOf_ev a (reqs_all h1).1) (E4.gt rfl (shapesOf_ev b (reqs_all h2).1) (E4.gt rfl (equal_ev _ _ (by rw [List.length_map]; exact (reqs_all h1).1)) E4.now))
theorem implSameShape_ev (a b : List S68) : Ev (fun k => c8 k [.ro 68 a, .ro 68 b]) (reqsB a && (reqsB b && sameShB (a.map shOf) (b.map shOf))) :=
  Ev.st (fun k => g8_eq k a b) (E4.bind (sameShape_ev a b) E4.now)
theorem specSameShape_ev (a b : List S68) : Ev (fun k => c9 k [.ro 68 a, .ro 68 b]) (reqsB a && (reqsB b && sameShB (a.map shOf) (b.map shOf))) := by
  refine Ev.st (fun k => g9_eq k a b) (E4.bind (specShapesOf_ev a) (E4.bind (specShapesOf_ev b) ?_))
  cases h1 : reqsB a with
  | false => exact E4.ct rfl E4.now
  | true =>
    cases h2 : reqsB b with
    | false => exact E4.ct rfl E4.now
    | true =>
      simp only [if_true, Bool.not_true, Bool.or_self, Bool.false_or, Bool.true_and]
      have hp := (reqs_all h1).1
      have hpl : (a.map shOf).length = a.length := List.length_map ..
      generalize a.map shOf = p at hpl
      generalize b.map shOf = q
      unfold sameShB
      by_cases h : p.length = q.length
      · refine E4.cf (by simp [h]) ?_
        have := search4 (α := Bool) p.length (fun i k m _ _ => L9_1 k m (i : Int) p q) (sameAt p q) false true ?_ ?_ ?_
        · refine this.e1.val ?_
          rw [decide_eq_true h]
          cases (List.range p.length).all (sameAt p q) <;> rfl
        · intro i hi hs r hr
          rw [sameAt_eq] at hs
          refine E4.s1 (fun k m n p => L9_1_eq k m _ _ _) (E4.ct (decide_eq_true (by omega)) (E4.ck (inB_of (by omega) (by omega)) (E4.ck (inB_of (by omega) (by omega)) (E4.cf (congrArg Bool.not hs) ?_))))
          rw [w64_succ (by omega)]; exact hr
        · intro i hi hs
          rw [sameAt_eq] at hs
          exact E4.s1 (fun k m n p => L9_1_eq k m _ _ _) (E4.ct (decide_eq_true (by omega)) (E4.ck (inB_of (by omega) (by omega)) (E4.ck (inB_of (by omega) (by omega)) (E4.ct (congrArg Bool.not hs) E4.now))))
        · exact E4.s1 (fun k m n p => L9_1_eq k m _ _ _) (E4.cf (decide_eq_false (by omega)) E4.now)
      · refine E4.ct (by simp; omega) (E4.now.val ?_)
        rw [decide_eq_false h]; rfl
theorem fold_ev (s : ByteArray) (hs : s.size ≤ 1048576) : Ev (fun k => c91 k [.v (.string s)]) (foldS s) := Ev.step (f := fun k => impl_Fold.f k s) (fun k => by kernel_rfl) (implFold_ev s hs)
theorem sfold_ev (s : ByteArray) (hs : s.size ≤ 1048576) : Ev (fun k => c80 k [.v (.string s)]) (foldS s) := Ev.step (f := fun k => spec_Fold.f k s) (fun k => by kernel_rfl) (specFold_ev s hs)
theorem tokens_ev (s : ByteArray) (n : Int) : Ev (fun k => c92 k [.v (.string s), .v (.int .i64 n)]) (tokensS s n) := Ev.step (f := fun k => impl_Tokens.f k s n) (fun k => by kernel_rfl) (implTokens_ev s n)
theorem stokens_ev (s : ByteArray) (n : Int) : Ev (fun k => c82 k [.v (.string s), .v (.int .i64 n)]) (tokensS s n) := Ev.step (f := fun k => spec_Tokens.f k s n) (fun k => by kernel_rfl) (specTokens_ev s n)
theorem shelf_ev (key log : Int) (s : ByteArray) (hs : s.size ≤ 9223372036854775807) : Ev (fun k => c93 k [.v (.int .i64 key), .v (.string s), .v (.int .i64 log)]) (shelfS key log s) := Ev.step (f := fun k => impl_ShelfFor.f k key s log) (fun k => by kernel_rfl) (implShelf_ev key log s hs)
theorem sshelf_ev (key log : Int) (s : ByteArray) (hs : s.size ≤ 9223372036854775807) : Ev (fun k => c51 k [.v (.int .i64 key), .v (.string s), .v (.int .i64 log)]) (shelfS key log s) := Ev.step (f := fun k => spec_ShelfFor.f k key s log) (fun k => by kernel_rfl) (specShelf_ev key log s hs)
theorem bucketOf_ev (a b c d : Int) (s : ByteArray) (hs : s.size ≤ 9223372036854775807) : Ev (fun k => c68 k [cfA a b c d, .v (.string s)]) (shelfS a b s) := Ev.st (fun k => g68_eq k a b c d s) (E4.bind (shelf_ev a b s hs) E4.now)
theorem isWord_ev' (s : ByteArray) (hs : s.size ≤ 1000000) : Ev (fun k => c94 k [.v (.string s)]) (wordB s) := by
  refine Ev.st (fun k => g94_eq k s) ?_
  have := search4 (α := Bool) s.size (fun i k m _ _ => L94_1 k m s (s.size : Int) (i : Int)) (letB s) false (decide (1 ≤ s.size ∧ s.size ≤ 32)) ?_ ?_ ?_
  · refine this.e1.val ?_
    unfold wordB lettersB
    cases (List.range s.size).all (letB s) <;> simp
  · intro i hi hp r hr
    unfold letB at hp
    simp only [Bool.and_eq_true, decide_eq_true_eq] at hp
    have hb : byteAt s (i : Int) = bt s (i : Int) := by rw [bt_getD]; rfl
    refine E4.s1 (fun k m n p => L94_1_eq k m _ _ _) (E4.ct (decide_eq_true (by omega)) (E4.ck (inB_of (by omega) (by omega)) (E4.ckg (fun _ => inB_of (by omega) (by omega)) (E4.cf ?_ ?_))))
    · rw [hb, Bool.or_eq_false_iff, decide_eq_false_iff_not, decide_eq_false_iff_not]; omega
    · rw [w64_succ (by omega)]; exact hr
  · intro i hi hp
    unfold letB at hp
    simp only [Bool.and_eq_false_iff, decide_eq_false_iff_not] at hp
    have hb : byteAt s (i : Int) = bt s (i : Int) := by rw [bt_getD]; rfl
    refine E4.s1 (fun k m n p => L94_1_eq k m _ _ _) (E4.ct (decide_eq_true (by omega)) (E4.ck (inB_of (by omega) (by omega)) (E4.ckg (fun _ => inB_of (by omega) (by omega)) (E4.ct ?_ E4.now))))
    rw [hb, Bool.or_eq_true, decide_eq_true_eq, decide_eq_true_eq]; omega
  · refine E4.s1 (fun k m n p => L94_1_eq k m _ _ _) (E4.cf (decide_eq_false (by omega)) (E4.bind (within_ev _ 1 32) (E4.now.val ?_)))
    rw [decide_eq_decide]; omega
theorem entry_ev (s : ByteArray) (n : Int) (hs : s.size ≤ 1000000) : Ev (fun k => c71 k [.agg [.v (.string s), .v (.int .i64 n)]]) (wordB s && decide (0 ≤ n ∧ n ≤ 65535)) := by
  refine Ev.st (fun k => g71_eq k s n) (E4.bind (isWord_ev' s hs) (E4.gc (fun _ => within_ev n 0 65535) (E4.now.val ?_)))
  cases wordB s <;> rfl
theorem reqB_parts {x : Req'} (h : reqB x = true) : shapeB x.f0 x.f5 = true ∧ x.f1.size ≤ 100 ∧ x.f6.size ≤ 2000 := by
  unfold reqB at h
  simpa only [Bool.and_eq_true, decide_eq_true_eq] using h
theorem looks_ev (x : Req') (h : reqB x = true) : Ev (fun k => c67 k [rqA x]) (looksS x) := by
  obtain ⟨hsh, hw, ht⟩ := reqB_parts h
  refine Ev.st (fun k => g67_eq k x.f0 x.f1 x.f2 x.f3 x.f4 x.f5 x.f6) ?_
  unfold looksS
  by_cases h1 : x.f0 = 1
  · rw [if_pos h1]
    exact E4.ct (by simp [h1]) (E4.bind (fold_ev x.f1 (by omega)) E4.now)
  · rw [if_neg h1]
    refine E4.cf (by simpa using h1) ?_
    by_cases h6 : x.f0 = 6
    · rw [if_pos h6]
      have hs := shape_slots hsh h6
      refine E4.ct (by simp [h6]) (E4.bind (tokens_ev x.f6 x.f5) ?_)
      unfold tokWords
      by_cases hb : (tokensS x.f6 x.f5).2 = true
      · rw [if_pos hb]; exact E4.cf (by rw [hb]; rfl) E4.now
      · rw [if_neg hb]; exact E4.ct (by simpa using hb) (E4.ck (mkOk_of (by omega) (by omega) (by omega)) E4.now)
    · rw [if_neg h6]; exact E4.cf (by simpa using h6) E4.now
theorem change_ev (x : Req') (h : reqB x = true) : Ev (fun k => c70 k [rqA x]) (changeS x) := by
  obtain ⟨hsh, hw, ht⟩ := reqB_parts h
  refine Ev.st (fun k => g70_eq k x.f0 x.f1 x.f2 x.f3 x.f4 x.f5 x.f6) (E4.bind (fold_ev x.f1 (by omega)) ?_)
  unfold changeS
  by_cases h4 : x.f0 = 4
  · rw [if_pos h4]; exact E4.ct (by simp [h4]) E4.now
  · rw [if_neg h4]; exact E4.cf (by simpa using h4) E4.now
theorem words_ev (x : Req') (h : reqB x = true) : Ev (fun k => c50 k [rqA x]) (wordsS x) := by
  obtain ⟨hsh, hw, ht⟩ := reqB_parts h
  refine Ev.st (fun k => g50_eq k x.f0 x.f1 x.f2 x.f3 x.f4 x.f5 x.f6) (E4.bind (sfold_ev x.f1 (by omega)) ?_)
  have hr := shape_range hsh
  unfold wordsS
  by_cases h1 : x.f0 = 1
  · rw [if_pos h1]; exact E4.ct (by simp [h1]) E4.now
  · rw [if_neg h1]
    refine E4.cf (by simpa using h1) ?_
    have key : ∀ b : Bool, b = decide (x.f0 = 3 ∨ x.f0 = 5) → E4 (fun k _ _ _ => J50_1 k (foldS x.f1) x.f0 b x.f1 x.f2 x.f3 x.f4 x.f5 x.f6) (if x.f0 = 3 ∨ x.f0 = 5 then (if 0 ≤ x.f2 ∧ x.f2 ≤ 65535 then [foldS x.f1, foldS x.f1] else [⟨#[]⟩, ⟨#[]⟩]) else if x.f0 = 4 then [foldS x.f1, foldS x.f1] else if x.f0 = 6 then tokWords x else []) := by
      intro b hb
      refine E4.eq (fun k _ _ _ => J50_1_eq k _ _ _ _ _ _ _ _ _) ?_
      by_cases h35 : x.f0 = 3 ∨ x.f0 = 5
      · rw [if_pos h35]
        refine E4.ct (by rw [hb, decide_eq_true h35]) (E4.bind (weight_ev x.f2) ?_)
        by_cases hw : 0 ≤ x.f2 ∧ x.f2 ≤ 65535
        · rw [if_pos hw]; exact E4.cf (by rw [decide_eq_true hw]; rfl) E4.now
        · rw [if_neg hw]; exact E4.ct (by rw [decide_eq_false hw]; rfl) E4.now
      · rw [if_neg h35]
        refine E4.cf (by rw [hb, decide_eq_false h35]) ?_
        by_cases h4 : x.f0 = 4
        · rw [if_pos h4]; exact E4.ct (by simp [h4]) E4.now
        · rw [if_neg h4]
          refine E4.cf (by simpa using h4) ?_
          by_cases h6 : x.f0 = 6
          · rw [if_pos h6]
            have hs := shape_slots hsh h6
            refine E4.ct (by simp [h6]) (E4.bind (stokens_ev x.f6 x.f5) ?_)
            unfold tokWords
            by_cases hb : (tokensS x.f6 x.f5).2 = true
            · rw [if_pos hb]; exact E4.cf (by rw [hb]; rfl) E4.now
            · rw [if_neg hb]; exact E4.ct (by simpa using hb) (E4.ck (mkOk_of (by omega) (by omega) (by omega)) E4.now)
          · rw [if_neg h6]; exact E4.cf (by simpa using h6) E4.now
    by_cases h3 : x.f0 = 3
    · exact E4.ct (by simp [h3]) (key _ (by rw [Bool.eq_iff_iff]; simp [h3]))
    · exact E4.cf (by simpa using h3) (key _ (by rw [Bool.eq_iff_iff]; simp [h3]))
theorem ids_full {a b : Int} {l : List Req'} (hall : ∀ x, x ∈ l → reqB x = true) (h40 : l.length ≤ 40) (i : Nat) : (idsS a b (l.take i)).length ≤ 640 := by
  have := ids_len (key := a) (log := b) (l := l.take i) (fun x hx => hall x (List.mem_of_mem_take hx))
  rw [List.length_take] at this
  omega
theorem specIds_ev (a b c d : Int) (l : List Req') : Ev (fun k => c18 k [cfA a b c d, .ro 68 l]) (if confB a b c d && reqsB l then (idsS a b l, true) else ([], false)) := by
  refine Ev.st (fun k => g18_eq k a b c d l) (E4.bind (confOk_ev a b c d) (E4.gc (fun _ => reqsOk_ev l) ?_))
  cases hc : confB a b c d with
  | false => exact E4.ct rfl E4.now
  | true =>
    cases hb : reqsB l with
    | false => exact E4.ct rfl E4.now
    | true =>
      refine E4.cf rfl ?_
      obtain ⟨h40, hall⟩ := reqs_all hb
      have := loop4 (r := (idsS a b l, true)) l.length (fun i k m _ _ => L18_1 k m l (i : Int) a b c d (idsS a b (l.take i))) ?_ ?_
      · exact this.e1
      · intro i hi hr
        have hx : reqB l[i] = true := hall _ (List.getElem_mem hi)
        obtain ⟨hsh, _, _⟩ := reqB_parts hx
        have hlen := ids_full (a := a) (b := b) hall h40 i
        rw [ids_take hi] at hr
        have hwl := words_len hsh
        have hws := @words_size l[i]
        have hwv := words_ev l[i] hx
        refine E4.s1 (fun k m n p => L18_1_eq k m _ _ _ _ _ _ _) (E4.ct (decide_eq_true (by omega)) (E4.ck (inB_of (by omega) (by omega)) ?_))
        simp only [Int.toNat_natCast, L.getD_lt _ hi]
        refine E4.bind hwv ?_
        unfold idsOf at hr
        generalize wordsS l[i] = ws at hr hwl hws
        have := loop4 (r := (idsS a b l, true)) ws.length (fun j k m n _ => L18_2 k m n l (i : Int) (j : Int) a b c d (idsS a b (l.take i) ++ (ws.take j).map (shelfS a b)) ws) ?_ ?_
        · simpa using this.e2
        · intro j hj hn
          refine E4.s2 (fun k m n p => L18_2_eq k m n _ _ _ _ _ _ _ _ _) (E4.ct (decide_eq_true (by omega)) (E4.ck (inB_of (by omega) (by omega)) ?_))
          simp only [Int.toNat_natCast, L.getD_lt _ hj]
          refine E4.bind (sshelf_ev a b ws[j] (by have := hws _ (List.getElem_mem hj); omega)) (E4.ck (appOk_of (by simp only [List.length_append, List.length_map, List.length_take, List.length_cons, List.length_nil]; omega)) ?_)
          rw [w64_succ (by omega)]
          rw [List.take_succ_eq_append_getElem hj, List.map_append, ← List.append_assoc] at hn
          exact hn
        · refine E4.s2 (fun k m n p => L18_2_eq k m n _ _ _ _ _ _ _ _ _) (E4.cf (decide_eq_false (by omega)) ?_)
          rw [w64_succ (by omega), List.take_length]
          exact hr
      · exact E4.s1 (fun k m n p => L18_1_eq k m _ _ _ _ _ _ _) (E4.cf (decide_eq_false (by omega)) (E4.now.val (by rw [List.take_length])))
theorem looks_len {x : Req'} (hsh : shapeB x.f0 x.f5 = true) : (looksS x).length ≤ 16 ∧ ∀ t, t ∈ looksS x → t.size ≤ 32 := by
  unfold looksS
  refine ⟨?_, fun t ht => ?_⟩
  · split
    · show 1 ≤ 16; omega
    · split
      · rename_i h6
        unfold tokWords
        split
        · exact tokens_len _ _
        · have := shape_slots hsh h6; rw [List.length_replicate]; omega
      · exact Nat.zero_le _
  · split at ht
    · obtain rfl := List.mem_singleton.1 ht; exact foldS_size _
    · split at ht
      · unfold tokWords at ht
        split at ht
        · exact tokens_size _ _ t ht
        · rw [(List.mem_replicate.1 ht).2]; exact Nat.zero_le _
      · cases ht
theorem implIds_ev (a b c d : Int) (l : List Req') (hb : reqsB l = true) : Ev (fun k => c31 k [cfA a b c d, .ro 68 l]) (idsS a b l) := by
  refine Ev.st (fun k => g31_eq k a b c d l) ?_
  obtain ⟨h40, hall⟩ := reqs_all hb
  have := loop4 (r := idsS a b l) l.length (fun i k m _ _ => L31_1 k m l (l.length : Int) (i : Int) a b c d (idsS a b (l.take i))) ?_ ?_
  · exact this.e1
  · intro i hi hr
    have hx : reqB l[i] = true := hall _ (List.getElem_mem hi)
    obtain ⟨hsh, _, _⟩ := reqB_parts hx
    have hlen := ids_full (a := a) (b := b) hall h40 i
    rw [ids_take hi, ids_split a b l[i] hsh, ← List.append_assoc] at hr
    obtain ⟨hlk, hls⟩ := looks_len hsh
    have hce := change_ev l[i] hx
    have hcs : (changeS l[i]).1.size ≤ 32 := foldS_size _
    refine E4.s1 (fun k m n p => L31_1_eq k m _ _ _ _ _ _ _ _) (E4.ct (decide_eq_true (by omega)) (E4.ck (inB_of (by omega) (by omega)) ?_))
    simp only [Int.toNat_natCast, L.getD_lt _ hi]
    refine E4.bind (looks_ev l[i] hx) ?_
    generalize looksS l[i] = ws at hr hlk hls
    have := loop4 (r := idsS a b l) ws.length (fun j k m n _ => L31_2 k m n l (l.length : Int) (i : Int) (ws.length : Int) (j : Int) a b c d l[i].f0 l[i].f1 l[i].f2 l[i].f3 l[i].f4 l[i].f5 l[i].f6 (idsS a b (l.take i) ++ (ws.take j).map (shelfS a b)) ws) ?_ ?_
    · simpa using this.e2
    · intro j hj hn
      refine E4.s2 (fun k m n p => L31_2_eq k m n _ _ _ _ _ _ _ _ _ _ _ _ _ _ _ _ _ _) (E4.ct (decide_eq_true (by omega)) (E4.ck (inB_of (by omega) (by omega)) ?_))
      simp only [Int.toNat_natCast, L.getD_lt _ hj]
      refine E4.bind (bucketOf_ev a b c d ws[j] (by have := hls _ (List.getElem_mem hj); omega)) (E4.ck (appOk_of (by simp only [List.length_append, List.length_map, List.length_take, List.length_cons, List.length_nil]; omega)) ?_)
      rw [w64_succ (by omega)]
      rw [List.take_succ_eq_append_getElem hj, List.map_append, ← List.append_assoc] at hn
      exact hn
    · have hl2 : (idsS a b (l.take i) ++ (ws.take ws.length).map (shelfS a b)).length ≤ 700 := by rw [List.length_append, List.length_map, List.take_length]; omega
      rw [List.take_length] at hl2 ⊢
      refine E4.s2 (fun k m n p => L31_2_eq k m n _ _ _ _ _ _ _ _ _ _ _ _ _ _ _ _ _ _) (E4.cf (decide_eq_false (by omega)) (E4.bind (isChange_ev _) ?_))
      rw [w64_succ (by omega)]
      by_cases hch : l[i].f0 = 3 ∨ l[i].f0 = 4 ∨ l[i].f0 = 5
      · rw [if_pos hch] at hr
        refine E4.ct (decide_eq_true hch) (E4.bind hce (E4.bind (entry_ev _ _ (by omega)) ?_))
        cases hE : (wordB (changeS l[i]).1 && decide (0 ≤ (changeS l[i]).2 ∧ (changeS l[i]).2 ≤ 65535)) with
        | true =>
          rw [hE, if_pos rfl] at hr
          exact E4.ct rfl (E4.bind (bucketOf_ev a b c d _ (by omega)) (E4.ck (appOk_of (by simp only [List.length_cons, List.length_nil]; omega)) hr))
        | false =>
          rw [hE, if_neg (by decide)] at hr
          exact E4.cf rfl (E4.ck (appOk_of (by simp only [List.length_cons, List.length_nil]; omega)) hr)
      · rw [if_neg hch, List.append_nil] at hr
        exact E4.cf (decide_eq_false hch) hr
  · exact E4.s1 (fun k m n p => L31_1_eq k m _ _ _ _ _ _ _ _) (E4.cf (decide_eq_false (by omega)) (E4.now.val (by rw [List.take_length])))
theorem fill4 {β : Type} (n : Nat) (z : β) (G : Nat → List β → Nat → Nat → Nat → Nat → Option (List β)) (b : Nat → β)
    (hstep : ∀ i x3, i < n → x3.length = n → ∀ r, E4 (G (i + 1) (x3.set i (b i))) r → E4 (G i x3) r) (hend : ∀ x3 : List β, x3.length = n → E4 (G n x3) x3) : E4 (G 0 (List.replicate n z)) ((List.range n).map b) := by
  have key : ∀ d i x3, i + d = n → x3.length = n → (∀ j, j < i → x3[j]? = some (b j)) → E4 (G i x3) ((List.range n).map b) := by
    intro d
    induction d with
    | zero =>
      intro i x3 h hl hx
      obtain rfl : i = n := by omega
      refine (hend x3 hl).val ?_
      apply List.ext_getElem?
      intro j
      by_cases hj : j < i
      · rw [hx j hj]; simp [hj]
      · rw [List.getElem?_eq_none (by omega), List.getElem?_eq_none (by simp; omega)]
    | succ d ih =>
      intro i x3 h hl hx
      refine hstep i x3 (by omega) hl _ (ih (i + 1) _ (by omega) (by simpa using hl) (fun j hj => ?_))
      by_cases e : j = i
      · subst e; rw [List.getElem?_set_self (by omega)]
      · rw [List.getElem?_set_ne (by omega)]; exact hx j (by omega)
  exact key n 0 _ (by omega) (by simp) (fun j hj => absurd hj (Nat.not_lt_zero _))
theorem clone_ev (xs : List Int) (h : xs.length ≤ 1000000) : Ev (fun k => c62 k [.ro 3 xs]) xs := by
  refine Ev.step (f := fun _ => slices_Clone_int_int.f xs) (fun k => ?_) (evConst ?_)
  · have : c62 (k + 1) [.ro 3 xs] = (if xs.length ≤ 9223372036854775807 then slices_Clone_int_int.f xs else none) := by kernel_rfl
    rw [this, if_pos (by omega)]
  · unfold slices_Clone_int_int.f
    simp only [Option.bind_some, List.nil_append, List.length_nil, if_pos (show 0 + xs.length < 17592186044416 by omega)]
theorem shl_pw (m : Nat) (hm : m ≤ 6) : shlI .i64 1 (m : Int) = ((2 ^ m : Nat) : Int) := by
  have e : ((2 ^ m : Nat) : Int) = (2 : Int) ^ m := by rw [Int.natCast_pow]; rfl
  have h1 := pow2_pos m
  have h2 : (2 : Int) ^ m ≤ 2 ^ 6 := pow2_le hm
  rw [shlI_pow 1 m (by omega), Int.one_mul, ← e, w64_id (by omega) (by omega)]
theorem shl_pw4 (m : Nat) (hm : m ≤ 4) : shlI .i64 1 ((m : Int) + 2) = ((2 ^ (m + 2) : Nat) : Int) := by
  have := shl_pw (m + 2) (by omega)
  rwa [show ((m + 2 : Nat) : Int) = (m : Int) + 2 by omega] at this
theorem coords_ev (N : Nat) (ids : List Int) (hN : N ≤ 256) (hl : ids.length ≤ 700) (hs : seqOk N ids) : Ev (fun k => c90 k [.v (.int .i64 (N : Int)), .ro 3 ids]) (natI (coordsL N ids)) := by
  refine Ev.st (fun k => g90_eq k N ids) (E4.ck (mkOk_of (by omega) (by omega) (by omega)) ?_)
  have h2 : E4 (fun k m _ _ => L90_2 k m (N : Int) ids (ids.length : Int) 0 (natI (List.range N)) (List.replicate ids.length 0)) (natI (coordsL N ids)) := by
    have := loop4 (r := natI (coordsL N ids)) ids.length (fun i k m _ _ => L90_2 k m (N : Int) ids (ids.length : Int) (i : Int) (natI (ownAt N ids i)) (natI ((List.range i).map (coordAt N ids)) ++ List.replicate (ids.length - i) 0)) ?_ ?_
    · simpa [ownAt, natI] using this
    · intro i hi hr
      have hb := seqOk_get hs hi
      have hg : ids.getD i 0 = ids.getD i (-1) := by rw [L.getD_lt _ hi, L.getD_lt _ hi]
      have hlen : (natI ((List.range i).map (coordAt N ids))).length = i := by rw [natI_length, List.length_map, List.length_range]
      have hx7 : (natI ((List.range i).map (coordAt N ids)) ++ List.replicate (ids.length - i) (0 : Int)).length = ids.length := rep_len _ _ _ _ hlen (by omega)
      have hset : ∀ v : Int, (natI ((List.range i).map (coordAt N ids)) ++ List.replicate (ids.length - i) 0).set i v = (natI ((List.range i).map (coordAt N ids)) ++ [v]) ++ List.replicate (ids.length - (i + 1)) 0 := by
        intro v
        rw [show ids.length - i = (ids.length - (i + 1)) + 1 by omega]
        exact set_next _ _ _ _ _ hlen.symm
      have hnext : natI ((List.range (i + 1)).map (coordAt N ids)) = natI ((List.range i).map (coordAt N ids)) ++ [((coordAt N ids i : Nat) : Int)] := by
        unfold natI; rw [coords_take hi, List.map_append]; rfl
      have hw : w64 ((N : Int) + (i : Int)) = ((N + i : Nat) : Int) := by rw [w64_id (by omega) (by omega)]; omega
      have hset2 : ∀ v v' : Int, (((natI ((List.range i).map (coordAt N ids)) ++ [v]) ++ List.replicate (ids.length - (i + 1)) (0 : Int)).set i v') = (natI ((List.range i).map (coordAt N ids)) ++ [v']) ++ List.replicate (ids.length - (i + 1)) 0 := by
        intro v v'
        rw [List.append_assoc, List.append_assoc, List.set_append_right _ _ (by omega), hlen, Nat.sub_self]
        rfl
      rw [hnext] at hr
      refine E4.s1 (fun k m n p => L90_2_eq k m _ _ _ _ _ _) (E4.ct (decide_eq_true (by omega)) (E4.ck (inB_of (by omega) (by omega)) (E4.ck (inB_of (by omega) (by rw [hx7]; omega)) ?_)))
      simp only [Int.toNat_natCast, hg, hw, hset]
      by_cases h0 : 0 ≤ ids.getD i (-1)
      · obtain ⟨x, hx⟩ := Int.eq_ofNat_of_zero_le h0
        have hxl : x < (ownAt N ids i).length := by rw [ownAt_length]; omega
        have hon : ((natI (ownAt N ids i)).length : Int) = (N : Int) := by rw [natI_length, ownAt_length]
        have ec : coordAt N ids i = (ownAt N ids i).getD x 0 := by unfold coordAt; rw [if_pos h0, hx, Int.toNat_natCast]
        have eo : natI (ownAt N ids (i + 1)) = (natI (ownAt N ids i)).set x ((N + i : Nat) : Int) := by
          unfold natI
          rw [show ownAt N ids (i + 1) = (ownAt N ids i).set x (N + i) by rw [ownAt, if_pos h0, hx, Int.toNat_natCast], List.map_set]
        rw [eo, ec, ← natI_get _ hxl] at hr
        refine E4.ct (decide_eq_true h0) (E4.ck (inB_of h0 (by omega)) (E4.ck (inB_of (by omega) (by simp [hlen]; omega)) (E4.ck (inB_of h0 (by omega)) ?_)))
        refine E4.eq (fun k m _ _ => J90_3_eq k m _ _ _ _ _ _) ?_
        simp only [hx, Int.toNat_natCast, hset2, w64_succ (show i < 9223372036854775807 by omega)]
        exact hr
      · have ec : coordAt N ids i = N + i := by unfold coordAt; rw [if_neg h0]
        have eo : ownAt N ids (i + 1) = ownAt N ids i := by rw [ownAt, if_neg h0]
        rw [eo, ec] at hr
        refine E4.cf (decide_eq_false h0) (E4.eq (fun k m _ _ => J90_4_eq k m _ _ _ _ _ _ _) ?_)
        simp only [w64_succ (show i < 9223372036854775807 by omega)]
        exact hr
    · refine E4.s1 (fun k m n p => L90_2_eq k m _ _ _ _ _ _) (E4.cf (decide_eq_false (by omega)) (E4.now.val ?_))
      rw [Nat.sub_self]
      unfold coordsL
      simp
  have := loop4 (r := natI (coordsL N ids)) N (fun i k m _ _ => L90_1 k m (N : Int) ids (N : Int) (i : Int) (natI (List.range i) ++ List.replicate (N - i) 0)) ?_ ?_
  · simpa [natI] using this.e1
  · intro i hi hr
    have hlen : (natI (List.range i)).length = i := by rw [natI_length, List.length_range]
    have hx : (natI (List.range i) ++ List.replicate (N - i) (0 : Int)).length = N := rep_len _ _ _ _ hlen (by omega)
    refine E4.s1 (fun k m n p => L90_1_eq k m _ _ _ _ _) (E4.ct (decide_eq_true (by omega)) (E4.ck (inB_of (by omega) (by rw [hx]; omega)) ?_))
    rw [w64_succ (by omega), Int.toNat_natCast, show N - i = (N - (i + 1)) + 1 by omega, set_next _ _ _ _ _ hlen.symm]
    have e : natI (List.range (i + 1)) = natI (List.range i) ++ [(i : Int)] := by unfold natI; rw [List.range_succ, List.map_append]; rfl
    rw [e] at hr
    exact hr
  · refine E4.s1 (fun k m n p => L90_1_eq k m _ _ _ _ _) (E4.cf (decide_eq_false (by omega)) (E4.ck (mkOk_of (by omega) (by omega) (by omega)) ?_))
    simp only [Nat.sub_self, List.replicate_zero, List.append_nil, Int.toNat_natCast]
    exact h2.e1
theorem coord_ev (N : Nat) (ids : List Int) (hN : N ≤ 256) (hl : ids.length ≤ 700) (hs : seqOk N ids) (i : Nat) (hi : i < ids.length) : Ev (fun k => c86 k [.v (.int .i64 (N : Int)), .ro 3 ids, .v (.int .i64 (i : Int))]) ((coordAt N ids i : Nat) : Int) := by
  have hb := seqOk_get hs hi
  have hg : ∀ j, j < ids.length → ids.getD j 0 = ids.getD j (-1) := fun j hj => by rw [L.getD_lt _ hj, L.getD_lt _ hj]
  have hw : ∀ j : Nat, j ≤ 700 → w64 ((N : Int) + (j : Int)) = ((N + j : Nat) : Int) := fun j hj => by rw [w64_id (by omega) (by omega)]; omega
  refine Ev.st (fun k => g86_eq k N ids i) (E4.ck (inB_of (by omega) (by omega)) ?_)
  simp only [Int.toNat_natCast, hg i hi, hw i (by omega)]
  by_cases h0 : 0 ≤ ids.getD i (-1)
  · obtain ⟨x, hx⟩ := Int.eq_ofNat_of_zero_le h0
    have ec : coordAt N ids i = lastC N ids x i := by
      unfold coordAt
      rw [if_pos h0, hx, Int.toNat_natCast, own_last N ids hs x (by omega) i (by omega)]
    refine E4.cf (decide_eq_false (by omega)) ?_
    rw [ec]
    have key : ∀ j : Nat, j ≤ i → E4 (fun k m _ _ => L86_1 k m (N : Int) ids (i : Int) (w64 ((j : Int) - 1))) ((lastC N ids x j : Nat) : Int) := by
      intro j
      induction j with
      | zero =>
        intro _
        have e : w64 (((0 : Nat) : Int) - 1) = -1 := by rw [w64_id (by omega) (by omega)]; rfl
        rw [e]
        refine E4.s1 (fun k m n p => L86_1_eq k m _ _ _ _) (E4.cf (by decide) (E4.ck (inB_of (by omega) (by omega)) (E4.now.val ?_)))
        rw [Int.toNat_natCast, hg i hi, hx]
        rfl
      | succ j ih =>
        intro hj
        have e : w64 (((j + 1 : Nat) : Int) - 1) = (j : Int) := by rw [w64_id (by omega) (by omega)]; omega
        have hgj := hg j (by omega)
        rw [e]
        unfold lastC
        refine E4.s1 (fun k m n p => L86_1_eq k m _ _ _ _) (E4.ct (decide_eq_true (by omega)) (E4.ck (inB_of (by omega) (by omega)) (E4.ck (inB_of (by omega) (by omega)) ?_)))
        simp only [Int.toNat_natCast, hgj, hg i hi, hx, hw j (by omega)]
        by_cases he : ids.getD j (-1) = (x : Int)
        · rw [if_pos he]; exact E4.ct (beq_iff_eq.2 he) E4.now
        · rw [if_neg he]; exact E4.cf (by simpa using he) (ih (by omega))
    exact (key i (Nat.le_refl _)).e1
  · have ec : coordAt N ids i = N + i := by unfold coordAt; rw [if_neg h0]
    rw [ec]
    exact E4.ct (decide_eq_true (by omega)) E4.now
theorem specCoords_ev (n : Int) (ids : List Int) (hl : ids.length ≤ 1000000) : Ev (fun k => c53 k [.v (.int .i64 n), .ro 3 ids]) (if seqB n ids = true then (natI (coordsL n.toNat ids), true) else ([], false)) := by
  refine Ev.st (fun k => g53_eq k n ids) (E4.bind (l15Right_ev n ids (by omega)) ?_)
  cases hq : seqB n ids with
  | false => exact E4.ct rfl E4.now
  | true =>
    obtain ⟨h0, h1, h2, hs⟩ := seqB_all hq
    obtain ⟨N, rfl⟩ := Int.eq_ofNat_of_zero_le h0
    rw [Int.toNat_natCast] at hs ⊢
    rw [if_pos rfl]
    refine E4.cf rfl ?_
    have := loop4 (r := (natI (coordsL N ids), true)) ids.length (fun i k m _ _ => L53_1 k m (N : Int) ids (i : Int) (natI ((List.range i).map (coordAt N ids)))) ?_ ?_
    · exact this.e1
    · intro i hi hr
      have hlen : (natI ((List.range i).map (coordAt N ids))).length = i := by rw [natI_length, List.length_map, List.length_range]
      have hnext : natI ((List.range (i + 1)).map (coordAt N ids)) = natI ((List.range i).map (coordAt N ids)) ++ [((coordAt N ids i : Nat) : Int)] := by
        unfold natI; rw [coords_take hi, List.map_append]; rfl
      rw [hnext] at hr
      refine E4.s1 (fun k m n p => L53_1_eq k m _ _ _ _) (E4.ct (decide_eq_true (by omega)) (E4.bind (coord_ev N ids (by omega) h2 hs i hi) (E4.ck (appOk_of (by rw [hlen]; simp only [List.length_cons, List.length_nil]; omega)) ?_)))
      rw [w64_succ (by omega)]
      exact hr
    · exact E4.s1 (fun k m n p => L53_1_eq k m _ _ _ _) (E4.cf (decide_eq_false (by omega)) E4.now)
theorem path_ev (n : Int) (m : Nat) (ids draws : List Int) (hm : m ≤ 6) (hdl0 : draws.length ≤ 1000000) : Ev (fun k => c76 k [.v (.int .i64 n), .v (.int .i64 (m : Int)), .ro 3 ids, .ro 3 draws]) (pathS n m ids draws) := by
  refine Ev.st (fun k => g76_eq k n m ids draws) (E4.bind (isSeq_ev n ids) (E4.gc (fun _ => isLog_ev m) ?_))
  have hlog : decide (0 ≤ (m : Int) ∧ (m : Int) ≤ 6) = true := decide_eq_true (by omega)
  unfold pathS
  rw [hlog, ← w64_def]
  cases hq : seqB n ids with
  | false => exact E4.gf rfl (E4.ct rfl E4.now)
  | true =>
    refine E4.gt rfl (areDraws_ev draws _ (by omega)) ?_
    cases hd : drawsB draws (w64 (n + (ids.length : Int))) with
    | false => exact E4.ct rfl E4.now
    | true =>
      obtain ⟨h0, h1, h2, hs⟩ := seqB_all hq
      obtain ⟨N, rfl⟩ := Int.eq_ofNat_of_zero_le h0
      rw [Int.toNat_natCast] at hs
      obtain ⟨hdl, hda⟩ := drawsB_all hd
      rw [w64_id (by omega) (by omega)] at hdl
      simp only [Bool.and_self, if_true, Int.toNat_natCast]
      refine E4.cf rfl (E4.bind (coords_ev N ids (by omega) h2 hs) ?_)
      have hlt := coordsL_lt hs
      have hfin : (natI (coordsL N ids)).map (fun x => draws.getD x.toNat 0 % 2 ^ m) = leavesS N m ids draws := by
        unfold natI leavesS
        rw [List.map_map]
        congr 1
      have hcn : (natI (coordsL N ids)).length = ids.length := by rw [natI_length, coordsL_length]
      have hmem : ∀ i, (h : i < (natI (coordsL N ids)).length) → ∃ x : Nat, (natI (coordsL N ids))[i] = (x : Int) ∧ x < N + ids.length := by
        intro i h
        refine ⟨(coordsL N ids)[i]'(by rw [natI_length] at h; exact h), hlt' i h, hlt _ (List.getElem_mem _)⟩
      rw [← hfin]
      generalize natI (coordsL N ids) = L at hcn hmem
      have := loop4 (r := (L.map (fun x => draws.getD x.toNat 0 % 2 ^ m), true)) L.length (fun i k q _ _ => L76_1 k q (m : Int) draws (L.length : Int) (i : Int) ((L.take i).map (fun x => draws.getD x.toNat 0 % 2 ^ m) ++ L.drop i)) ?_ ?_
      · simpa using this.e1
      · intro i hi hr
        obtain ⟨x, hx, hxl⟩ := hmem i hi
        have hmid := map_mid L (fun x => draws.getD x.toNat 0 % 2 ^ m) (0 : Int) hi
        have hml := map_len L (fun x => draws.getD x.toNat 0 % 2 ^ m) i
        have hD := draw_get hda x
        refine E4.s1 (fun k m n p => L76_1_eq k m _ _ _ _ _) (E4.ct (decide_eq_true (by omega)) (E4.ck (inB_of (by omega) (by rw [hml]; omega)) ?_))
        simp only [Int.toNat_natCast, hmid, hx, hml]
        refine E4.ck (inB_of (by omega) (by omega)) (E4.bind (leafOf_ev hD hm) (E4.ck (inB_of (by omega) (by omega)) ?_))
        have := set_map L (fun x => draws.getD x.toNat 0 % 2 ^ m) hi
        rw [hx, Int.toNat_natCast] at this
        rw [w64_succ (by omega), this]
        exact hr
      · exact E4.s1 (fun k m n p => L76_1_eq k m _ _ _ _ _) (E4.cf (decide_eq_false (by omega)) (E4.now.val (by simp)))
  where hlt' {N : Nat} {ids : List Int} (i : Nat) (h : i < (natI (coordsL N ids)).length) : (natI (coordsL N ids))[i] = (((coordsL N ids)[i]'(by rw [natI_length] at h; exact h) : Nat) : Int) := List.getElem_map ..
theorem rest_ev (n : Nat) (u : List Nat) (hn : n ≤ 4096) (hu : u.length ≤ 4096) : Ev (fun k => c54 k [.v (.int .i64 (n : Int)), .ro 3 (natI u)]) (natI (restL n u)) := by
  refine Ev.st (fun k => g54_eq k n (natI u)) ?_
  have hul := natI_length u
  have := loop4 (r := natI (restL n u)) n (fun i k m _ _ => L54_1 k m (n : Int) (natI u) (i : Int) (natI ((List.range i).filter (notIn u)))) ?_ ?_
  · exact this.e1
  · intro i hi hr
    have hlen : (natI ((List.range i).filter (notIn u))).length ≤ 4096 := by rw [natI_length]; have := List.length_filter_le (notIn u) (List.range i); rw [List.length_range] at this; omega
    have hnext : natI ((List.range (i + 1)).filter (notIn u)) = natI ((List.range i).filter (notIn u)) ++ (if u.contains i = true then [] else [(i : Int)]) := by
      rw [List.range_succ, List.filter_append, natI_append]
      congr 1
      have e : notIn u i = !u.contains i := rfl
      cases h : u.contains i <;> rw [h] at e <;> simp [List.filter, e, natI]
    rw [hnext] at hr
    refine E4.s1 (fun k m n p => L54_1_eq k m _ _ _ _) (E4.ct (decide_eq_true (by omega)) ?_)
    have := loop4 (r := natI (restL n u)) u.length (fun j k m q _ => L54_2 k m q (n : Int) (natI u) (i : Int) ((u.take j).contains i) (j : Int) (natI ((List.range i).filter (notIn u)))) ?_ ?_
    · simpa using this.e2
    · intro j hj hn'
      rw [take_contains u hj] at hn'
      have e : ((natI u).getD j 0 == (i : Int)) = (u.getD j 0 == i) := by
        rw [natI_get u hj, Bool.eq_iff_iff]
        simp only [beq_iff_eq]
        omega
      refine E4.s2 (fun k m n p => L54_2_eq k m n _ _ _ _ _ _) (E4.ct (decide_eq_true (by omega)) (E4.ckg (fun _ => inB_of (by omega) (by omega)) ?_))
      rw [w64_succ (by omega), Int.toNat_natCast, e]
      exact hn'
    · refine E4.s2 (fun k m n p => L54_2_eq k m n _ _ _ _ _ _) (E4.cf (decide_eq_false (by omega)) ?_)
      rw [List.take_length]
      cases h : u.contains i with
      | true =>
        rw [h, if_pos rfl, List.append_nil] at hr
        exact E4.cf rfl (by rw [w64_succ (by omega)]; exact hr)
      | false =>
        rw [h, if_neg (by decide)] at hr
        exact E4.ct rfl (E4.ck (appOk_of (by simp only [List.length_cons, List.length_nil]; omega)) (by rw [w64_succ (by omega)]; exact hr))
  · exact E4.s1 (fun k m n p => L54_1_eq k m _ _ _ _) (E4.cf (decide_eq_false (by omega)) E4.now)
theorem pair_ev (n : Int) (a b draws : List Int) (hd0 : draws.length ≤ 1000000) : Ev (fun k => c64 k [.v (.int .i64 n), .ro 3 a, .ro 3 b, .ro 3 draws]) (pairS n a b draws) := by
  refine Ev.st (fun k => g64_eq k n a b draws) (E4.bind (isSeq_ev n a) (E4.gc (fun _ => isSeq_ev n b) ?_))
  unfold pairS
  rw [← w64_def]
  cases hqa : seqB n a with
  | false => exact E4.gf rfl (E4.ct rfl E4.now)
  | true =>
  cases hqb : seqB n b with
  | false => exact E4.gf rfl (E4.ct rfl E4.now)
  | true =>
  by_cases hab : (a.length : Int) = (b.length : Int)
  · have hne : ((a.length : Int) != (b.length : Int)) = false := by simp [hab]
    refine E4.gt (by rw [hne]; rfl) (areDraws_ev draws _ (by omega)) ?_
    rw [decide_eq_true hab, hne]
    cases hd : drawsB draws (w64 (n + (a.length : Int))) with
    | false => exact E4.ct rfl E4.now
    | true =>
      obtain ⟨h0, h1, h2, hsa⟩ := seqB_all hqa
      obtain ⟨_, _, h2b, hsb⟩ := seqB_all hqb
      obtain ⟨N, rfl⟩ := Int.eq_ofNat_of_zero_le h0
      simp only [Bool.and_self, if_true]
      rw [Int.toNat_natCast] at hsa hsb ⊢
      obtain ⟨hdl, hda⟩ := drawsB_all hd
      rw [w64_id (by omega) (by omega)] at hdl
      have hxl := coordsL_length N a
      have hyl := coordsL_length N b
      have hxd := coords_nodup hsa
      have hyd := coords_nodup hsb
      have hxb : ∀ z, z ∈ coordsL N a → z < draws.length := fun z hz => by have := coordsL_lt hsa z hz; omega
      have hyb : ∀ z, z ∈ coordsL N b → z < draws.length := fun z hz => by have := coordsL_lt hsb z hz; omega
      refine E4.cf rfl (E4.ck (mkOk_of (by omega) (by omega) (by omega)) (E4.ck (mkOk_of (by omega) (by omega) (by omega)) (E4.ck (mkOk_of (by omega) (by omega) (by omega)) (E4.bind (coords_ev N a (by omega) h2 hsa) (E4.bind (coords_ev N b (by omega) h2b hsb) ?_)))))
      show E4 _ (pairV (coordsL N a) (coordsL N b) draws, true)
      generalize coordsL N a = x at hxl hxd hxb ⊢
      generalize coordsL N b = y at hyl hyd hyb ⊢
      have hrx := rest_length hxd hxb
      have hry := rest_length hyd hyb
      have hnx := natI_length x
      have hny := natI_length y
      have hgx : ∀ i, i < x.length → x.getD i 0 < draws.length := fun i hi => by rw [L.getD_lt _ hi]; exact hxb _ (List.getElem_mem hi)
      have hgy : ∀ i, i < y.length → y.getD i 0 < draws.length := fun i hi => by rw [L.getD_lt _ hi]; exact hyb _ (List.getElem_mem hi)
      have hcP : cnt (notIn x) draws.length = (restL draws.length x).length := rfl
      have hcQ : cnt (notIn y) draws.length = (restL draws.length y).length := rfl
      have hpass : ∀ (out1 : List Int), out1.length = draws.length → ∀ d i at_, i + d = draws.length → at_ ≤ draws.length → cnt (notIn x) at_ = cnt (notIn y) i →
          E4 (fun k m _ _ => L64_2 k m draws (at_ : Int) (draws.length : Int) (i : Int) (pairSet draws (restL draws.length x) (restL draws.length y) out1 (cnt (notIn y) i)) ((List.range draws.length).map fun j => x.contains j) ((List.range draws.length).map fun j => y.contains j))
            (pairSet draws (restL draws.length x) (restL draws.length y) out1 (restL draws.length x).length, true) := by
        intro out1 ho d
        have hpl := fun c => pairSet_length draws (restL draws.length x) (restL draws.length y) out1 c
        induction d with
        | zero =>
          intro i at_ hi hat hc
          obtain rfl : i = draws.length := by omega
          refine E4.s1 (fun k m n p => L64_2_eq k m _ _ _ _ _ _ _) (E4.cf (decide_eq_false (by omega)) (E4.now.val ?_))
          rw [hcQ, show (restL draws.length y).length = (restL draws.length x).length by omega]
        | succ d ih =>
          intro i at_ hi hat hc
          have hi' : i < draws.length := by omega
          have hcs := cnt_succ (notIn y) i
          have hny : notIn y i = !y.contains i := rfl
          refine E4.s1 (fun k m n p => L64_2_eq k m _ _ _ _ _ _ _) (E4.ct (decide_eq_true (by omega)) (E4.ck (inB_of (by omega) (by simp; omega)) ?_))
          simp only [Int.toNat_natCast, marks_get draws.length y hi', w64_succ (show i < 9223372036854775807 by omega)]
          cases hyi : y.contains i with
          | true =>
            rw [hny, hyi] at hcs
            simp only [Bool.not_true, Bool.false_eq_true, if_false, Nat.add_zero] at hcs
            have := ih (i + 1) at_ (by omega) hat (by rw [hcs]; exact hc)
            rw [hcs] at this
            exact E4.ct rfl this
          | false =>
            rw [hny, hyi] at hcs
            simp only [Bool.not_false, if_true] at hcs
            refine E4.cf rfl ?_
            have hlt : cnt (notIn y) i < (restL draws.length x).length := by
              have := cnt_mono (notIn y) (show i + 1 ≤ draws.length by omega)
              omega
            have hq : (restL draws.length y).getD (cnt (notIn y) i) 0 = i := filter_at (notIn y) hi' (by rw [hny, hyi]; rfl)
            have hin : ∀ e at2, at2 + e = draws.length → cnt (notIn x) at2 = cnt (notIn y) i →
                E4 (fun k m n _ => L64_3 k m n draws (at2 : Int) (i : Int) (draws.length : Int) (pairSet draws (restL draws.length x) (restL draws.length y) out1 (cnt (notIn y) i)) ((List.range draws.length).map fun j => x.contains j) ((List.range draws.length).map fun j => y.contains j))
                  (pairSet draws (restL draws.length x) (restL draws.length y) out1 (restL draws.length x).length, true) := by
              intro e
              induction e with
              | zero =>
                intro at2 h2 hc2
                obtain rfl : at2 = draws.length := by omega
                omega
              | succ e ihe =>
                intro at2 h2 hc2
                have ha' : at2 < draws.length := by omega
                have hcs2 := cnt_succ (notIn x) at2
                have hnx2 : notIn x at2 = !x.contains at2 := rfl
                refine E4.s2 (fun k m n p => L64_3_eq k m n _ _ _ _ _ _ _) (E4.ck (inB_of (by omega) (by simp; omega)) ?_)
                simp only [Int.toNat_natCast, marks_get draws.length x ha', w64_succ (show at2 < 9223372036854775807 by omega), w64_succ (show i < 9223372036854775807 by omega)]
                cases hxa : x.contains at2 with
                | true =>
                  rw [hnx2, hxa] at hcs2
                  simp only [Bool.not_true, Bool.false_eq_true, if_false, Nat.add_zero] at hcs2
                  exact E4.ct rfl (ihe (at2 + 1) (by omega) (by omega))
                | false =>
                  rw [hnx2, hxa] at hcs2
                  simp only [Bool.not_false, if_true] at hcs2
                  have hp : (restL draws.length x).getD (cnt (notIn x) at2) 0 = at2 := filter_at (notIn x) ha' (by rw [hnx2, hxa]; rfl)
                  have := ih (i + 1) (at2 + 1) (by omega) (by omega) (by omega)
                  rw [hcs, pairSet, hq, ← hc2, hp, hc2] at this
                  exact E4.cf rfl (E4.ck (inB_of (by omega) (by omega)) (E4.ck (inB_of (by omega) (by rw [hpl, ho]; omega)) this))
            exact (hin (draws.length - at_) at_ (by omega) hc).e2
      have := loop4 (r := (pairV x y draws, true)) x.length (fun i k m _ _ => L64_1 k m draws (x.length : Int) (i : Int) (pairSet draws x y (List.replicate draws.length 0) i) ((List.range draws.length).map (fun j => (x.take i).contains j)) ((List.range draws.length).map (fun j => (y.take i).contains j)) (natI x) (natI y)) ?_ ?_
      · have e : (List.range draws.length).map (fun _ => false) = List.replicate draws.length false := by rw [List.map_const', List.length_range]
        have h3 := this.e1
        rw [← hnx] at h3
        simpa [pairSet, e] using h3
      · intro i hi hr
        have hgi := hgx i hi
        have hgj := hgy i (by omega)
        have hs1 := marks_set draws.length x hi
        have hs2 := marks_set draws.length y (show i < y.length by omega)
        refine E4.s1 (fun k m n p => L64_1_eq k m _ _ _ _ _ _ _ _) (E4.ct (decide_eq_true (by omega)) ?_)
        simp only [Int.toNat_natCast, natI_get x hi, natI_get y (show i < y.length by omega), hnx, hny, pairSet_length, List.length_replicate, List.length_map, List.length_range, w64_succ (show i < 9223372036854775807 by omega), hs1, hs2]
        exact E4.ck (inB_of (by omega) (by omega)) (E4.ck (inB_of (by omega) (by omega)) (E4.ck (inB_of (by omega) (by omega)) (E4.ck (inB_of (by omega) (by omega)) (E4.ck (inB_of (by omega) (by omega)) (E4.ck (inB_of (by omega) (by omega)) (E4.ck (inB_of (by omega) (by omega)) (E4.ck (inB_of (by omega) (by omega)) hr)))))))
      · refine E4.s1 (fun k m n p => L64_1_eq k m _ _ _ _ _ _ _ _) (E4.cf (decide_eq_false (by omega)) ?_)
        simp only [List.take_length, pairSet_length, List.length_replicate]
        rw [show y.take x.length = y from by rw [show x.length = y.length by omega, List.take_length]]
        exact (hpass (pairSet draws x y (List.replicate draws.length 0) x.length) (by rw [pairSet_length, List.length_replicate]) draws.length 0 0 (by omega) (by omega) rfl).e1
  · have hne : ((a.length : Int) != (b.length : Int)) = true := by simpa using hab
    refine E4.gf (by rw [hne]; rfl) (E4.ct (by rw [hne]; rfl) (E4.now.val ?_))
    rw [decide_eq_false hab]; rfl
theorem specPair_ev (n : Int) (a b draws : List Int) (ha0 : a.length ≤ 1000000) (hb0 : b.length ≤ 1000000) (hd0 : draws.length ≤ 1000000) : Ev (fun k => c21 k [.v (.int .i64 n), .ro 3 a, .ro 3 b, .ro 3 draws]) (pairS n a b draws) := by
  refine Ev.st (fun k => g21_eq k n a b draws) (E4.bind (specCoords_ev n a ha0) (E4.bind (specCoords_ev n b hb0) ?_))
  unfold pairS
  cases hqa : seqB n a with
  | false => exact E4.gf rfl (E4.ct rfl E4.now)
  | true =>
  cases hqb : seqB n b with
  | false => exact E4.gf rfl (E4.ct rfl E4.now)
  | true =>
  by_cases hab : (a.length : Int) = (b.length : Int)
  · have hne : ((a.length : Int) != (b.length : Int)) = false := by simp [hab]
    refine E4.gt (by rw [hne]; rfl) (l15Draws_ev n a draws (by omega)) ?_
    rw [decide_eq_true hab, hne]
    cases hd : drawsB draws (wrap64 (n + (a.length : Int))) with
    | false => exact E4.ct rfl E4.now
    | true =>
      obtain ⟨h0, h1, h2, hsa⟩ := seqB_all hqa
      obtain ⟨_, _, h2b, hsb⟩ := seqB_all hqb
      obtain ⟨N, rfl⟩ := Int.eq_ofNat_of_zero_le h0
      simp only [Bool.and_self, if_true]
      rw [Int.toNat_natCast] at hsa hsb ⊢
      obtain ⟨hdl, hda⟩ := drawsB_all hd
      rw [wrap_id (by omega) (by omega)] at hdl
      have hxl := coordsL_length N a
      have hyl := coordsL_length N b
      have hxd := coords_nodup hsa
      have hyd := coords_nodup hsb
      have hxb : ∀ z, z ∈ coordsL N a → z < draws.length := fun z hz => by have := coordsL_lt hsa z hz; omega
      have hyb : ∀ z, z ∈ coordsL N b → z < draws.length := fun z hz => by have := coordsL_lt hsb z hz; omega
      refine E4.cf rfl (E4.ck (mkOk_of (by omega) (by omega) (by omega)) ?_)
      generalize coordsL N a = x at hxl hxd hxb ⊢
      generalize coordsL N b = y at hyl hyd hyb ⊢
      have hrx := rest_length hxd hxb
      have hry := rest_length hyd hyb
      have hnx := natI_length x
      have hny := natI_length y
      have hgx : ∀ i, i < x.length → x.getD i 0 < draws.length := fun i hi => by rw [L.getD_lt _ hi]; exact hxb _ (List.getElem_mem hi)
      have hgy : ∀ i, i < y.length → y.getD i 0 < draws.length := fun i hi => by rw [L.getD_lt _ hi]; exact hyb _ (List.getElem_mem hi)
      have := loop4 (r := (pairV x y draws, true)) x.length (fun i k m _ _ => L21_1 k m draws (i : Int) (natI x) (natI y) (pairSet draws x y (List.replicate draws.length 0) i)) ?_ ?_
      · exact this.e1
      · intro i hi hr
        have hgi := hgx i hi
        have hgj := hgy i (by omega)
        refine E4.s1 (fun k m n p => L21_1_eq k m _ _ _ _ _) ?_
        simp only [Int.toNat_natCast, natI_get x hi, natI_get y (show i < y.length by omega), hnx, hny, pairSet_length, List.length_replicate, w64_succ (show i < 9223372036854775807 by omega)]
        exact E4.ct (decide_eq_true (by omega)) (E4.ck (inB_of (by omega) (by omega)) (E4.ck (inB_of (by omega) (by omega)) (E4.ck (inB_of (by omega) (by omega)) (E4.ck (inB_of (by omega) (by omega)) hr))))
      · refine E4.s1 (fun k m n p => L21_1_eq k m _ _ _ _ _) (E4.cf (decide_eq_false (by omega)) (E4.bind (rest_ev draws.length x (by omega) (by omega)) (E4.bind (rest_ev draws.length y (by omega) (by omega)) ?_)))
        unfold pairV
        have ho : (pairSet draws x y (List.replicate draws.length 0) x.length).length = draws.length := by rw [pairSet_length, List.length_replicate]
        generalize pairSet draws x y (List.replicate draws.length 0) x.length = out1 at ho ⊢
        have hmx : ∀ i, i < (restL draws.length x).length → (restL draws.length x).getD i 0 < draws.length := fun i hi => (filter_back (notIn x) hi).2.1
        have hmy : ∀ i, i < (restL draws.length y).length → (restL draws.length y).getD i 0 < draws.length := fun i hi => (filter_back (notIn y) hi).2.1
        have hlx := natI_length (restL draws.length x)
        have hly := natI_length (restL draws.length y)
        have := loop4 (r := (pairSet draws (restL draws.length x) (restL draws.length y) out1 (restL draws.length x).length, true)) (restL draws.length x).length (fun i k m _ _ => L21_2 k m draws (i : Int) (pairSet draws (restL draws.length x) (restL draws.length y) out1 i) (natI (restL draws.length x)) (natI (restL draws.length y))) ?_ ?_
        · exact this.e1
        · intro i hi hr
          have hgi := hmx i hi
          have hgj := hmy i (by omega)
          refine E4.s1 (fun k m n p => L21_2_eq k m _ _ _ _ _) ?_
          simp only [Int.toNat_natCast, natI_get _ hi, natI_get _ (show i < (restL draws.length y).length by omega), hlx, hly, pairSet_length, ho, w64_succ (show i < 9223372036854775807 by omega)]
          exact E4.ct (decide_eq_true (by omega)) (E4.ck (inB_of (by omega) (by omega)) (E4.ck (inB_of (by omega) (by omega)) (E4.ck (inB_of (by omega) (by omega)) (E4.ck (inB_of (by omega) (by omega)) hr))))
        · exact E4.s1 (fun k m n p => L21_2_eq k m _ _ _ _ _) (E4.cf (decide_eq_false (by omega)) E4.now)
  · have hne : ((a.length : Int) != (b.length : Int)) = true := by simpa using hab
    refine E4.gf (by rw [hne]; rfl) (E4.ct (by rw [hne]; rfl) (E4.now.val ?_))
    rw [decide_eq_false hab]; rfl
theorem two_pow_le (m : Nat) (hm : m ≤ 4) : (2 ^ m : Nat) ≤ 16 := by have : (2 : Nat) ^ m ≤ 2 ^ 4 := Nat.pow_le_pow_right (by omega) hm; omega
theorem places_ev (a c d : Int) (m C : Nat) (hm : m ≤ 4) (hC : C ≤ 700) : Ev (fun k => c63 k [cfA a ((m : Int) + 2) c d, .v (.int .i64 (C : Int))]) (natI (onePl (2 ^ m) C), natI (twoPl (2 ^ m) C)) := by
  have e2 : w64 ((m : Int) + 2 - 2) = (m : Int) := by rw [w64_id (by omega) (by omega)]; omega
  have hB := two_pow_le m hm
  refine Ev.st (fun k => g63_eq k a _ c d C) ?_
  rw [e2, shl_pw m (by omega)]
  refine E4.ck (decide_eq_true (by omega)) ?_
  generalize (2 ^ m : Nat) = B at hB ⊢
  have h2 : E4 (fun k m _ _ => L63_2 k m (B : Int) (C : Int) 0 (natI (onePl B 0)) (natI (twoPl B 0))) (natI (onePl B C), natI (twoPl B C)) := by
    refine loop4 (r := (natI (onePl B C), natI (twoPl B C))) C (fun i k m _ _ => L63_2 k m (B : Int) (C : Int) (i : Int) (natI (onePl B i)) (natI (twoPl B i))) ?_ ?_
    · intro i hi hr
      have ew : w64 ((w64 (6 * (B : Int))) + (w64 (2 * (i : Int)))) = ((6 * B + 2 * i : Nat) : Int) := by
        rw [w64_id (x := 6 * (B : Int)) (by omega) (by omega), w64_id (x := 2 * (i : Int)) (by omega) (by omega), w64_id (by omega) (by omega)]
        omega
      rw [one_next B C i, two_next B C i] at hr
      refine E4.s1 (fun k m n p => L63_2_eq k m _ _ _ _ _) (E4.ct (decide_eq_true (by omega)) ?_)
      rw [ew, w64_succ (show 6 * B + 2 * i < 9223372036854775807 by omega), w64_succ (show i < 9223372036854775807 by omega)]
      exact E4.ck (appOk_of (by rw [natI_length, onePl_length]; simp only [List.length_cons, List.length_nil]; omega)) (E4.ck (appOk_of (by rw [natI_length, twoPl_length]; simp only [List.length_cons, List.length_nil]; omega)) hr)
    · exact E4.s1 (fun k m n p => L63_2_eq k m _ _ _ _ _) (E4.cf (decide_eq_false (by omega)) E4.now)
  have := loop4 (r := (natI (onePl B C), natI (twoPl B C))) B (fun i k m _ _ => L63_1 k m (C : Int) (B : Int) (i : Int) (natI ((List.range i).map fun k => 6 * k + 5)) (natI ((List.range i).flatMap fun k => [6 * k + 1, 6 * k + 2, 6 * k + 3, 6 * k + 4]))) ?_ ?_
  · exact this.e1
  · intro i hi hr
    have e6 : w64 (6 * (i : Int)) = 6 * (i : Int) := w64_id (by omega) (by omega)
    have n1 : natI ((List.range (i + 1)).map fun k => 6 * k + 5) = natI ((List.range i).map fun k => 6 * k + 5) ++ [6 * (i : Int) + 5] := by unfold natI; rw [List.range_succ, List.map_append, List.map_append]; rfl
    have n2 : natI ((List.range (i + 1)).flatMap fun k => [6 * k + 1, 6 * k + 2, 6 * k + 3, 6 * k + 4]) = natI ((List.range i).flatMap fun k => [6 * k + 1, 6 * k + 2, 6 * k + 3, 6 * k + 4]) ++ [6 * (i : Int) + 1, 6 * (i : Int) + 2, 6 * (i : Int) + 3, 6 * (i : Int) + 4] := by unfold natI; rw [List.range_succ, List.flatMap_append, List.map_append]; rfl
    rw [n1, n2] at hr
    refine E4.s1 (fun k m n p => L63_1_eq k m _ _ _ _ _) (E4.ct (decide_eq_true (by omega)) ?_)
    rw [e6, w64_succ (show i < 9223372036854775807 by omega), w64_id (x := 6 * (i : Int) + 1) (by omega) (by omega), w64_id (x := 6 * (i : Int) + 2) (by omega) (by omega), w64_id (x := 6 * (i : Int) + 3) (by omega) (by omega), w64_id (x := 6 * (i : Int) + 4) (by omega) (by omega), w64_id (x := 6 * (i : Int) + 5) (by omega) (by omega)]
    exact E4.ck (appOk_of (by rw [natI_length, List.length_map, List.length_range]; simp only [List.length_cons, List.length_nil]; omega)) (E4.ck (appOk_of (by rw [natI_length, four_length]; simp only [List.length_cons, List.length_nil]; omega)) hr)
  · refine E4.s1 (fun k m n p => L63_1_eq k m _ _ _ _ _) (E4.cf (decide_eq_false (by omega)) ?_)
    have e1 : onePl B 0 = (List.range B).map fun k => 6 * k + 5 := by unfold onePl; simp
    have e2 : twoPl B 0 = (List.range B).flatMap fun k => [6 * k + 1, 6 * k + 2, 6 * k + 3, 6 * k + 4] := by unfold twoPl; simp
    rw [e1, e2] at h2
    exact h2.e1
theorem at_ev (draws : List Int) (pl : List Nat) (hl : pl.length ≤ 4096) (hp : ∀ x, x ∈ pl → x < draws.length) : Ev (fun k => c66 k [.ro 3 draws, .ro 3 (natI pl)]) (atPl draws pl) := by
  have hn := natI_length pl
  refine Ev.st (fun k => g66_eq k draws (natI pl)) (E4.ck (mkOk_of (by omega) (by omega) (by omega)) ?_)
  rw [hn, Int.toNat_natCast]
  unfold atPl
  rw [← map_range pl 0 (fun i => draws.getD i 0)]
  have := fill4 pl.length (0 : Int) (fun i x3 k m _ _ => L66_1 k m draws (natI pl) (pl.length : Int) (i : Int) x3) (fun i => draws.getD (pl.getD i 0) 0) ?_ ?_
  · exact this.e1
  · intro i x3 hi hx r hr
    have hlt : pl.getD i 0 < draws.length := by rw [L.getD_lt _ hi]; exact hp _ (List.getElem_mem hi)
    refine E4.s1 (fun k m n p => L66_1_eq k m _ _ _ _ _) ?_
    simp only [Int.toNat_natCast, natI_get _ hi, hn, hx, w64_succ (show i < 9223372036854775807 by omega)]
    exact E4.ct (decide_eq_true (by omega)) (E4.ck (inB_of (by omega) (by omega)) (E4.ck (inB_of (by omega) (by omega)) (E4.ck (inB_of (by omega) (by omega)) hr)))
  · intro x3 hx
    exact E4.s1 (fun k m n p => L66_1_eq k m _ _ _ _ _) (E4.cf (decide_eq_false (by omega)) E4.now)
theorem small_ev (ids : List Int) (hl : ids.length ≤ 4096) (h : ∀ x, x ∈ ids → -1 ≤ x ∧ x ≤ 9223372036854775807) : Ev (fun k => c65 k [.ro 3 ids]) (ids.map quarter) := by
  refine Ev.st (fun k => g65_eq k ids) (E4.bind (clone_ev ids (by omega)) ?_)
  have := loop4 (r := ids.map quarter) ids.length (fun i k m _ _ => L65_1 k m (ids.length : Int) (i : Int) ((ids.take i).map quarter ++ ids.drop i)) ?_ ?_
  · simpa using this.e1
  · intro i hi hr
    have hx := h _ (List.getElem_mem hi)
    have hmid := map_mid ids quarter (0 : Int) hi
    have hml := map_len ids quarter i
    refine E4.s1 (fun k m n p => L65_1_eq k m _ _ _) ?_
    simp only [Int.toNat_natCast, hmid, hml, w64_succ (show i < 9223372036854775807 by omega)]
    refine E4.ct (decide_eq_true (by omega)) (E4.ck (inB_of (by omega) (by omega)) ?_)
    by_cases h0 : ids[i] ≥ 0
    · have e : w64 (Int.tdiv ids[i] 4) = quarter ids[i] := by
        unfold quarter
        rw [if_neg (by omega), Int.tdiv_eq_ediv_of_nonneg h0, w64_id (by omega) (by omega)]
      rw [e, set_map ids quarter hi]
      exact E4.ct (decide_eq_true h0) (E4.ck (inB_of (by omega) (by omega)) hr)
    · rw [map_same ids quarter hi (by unfold quarter; rw [if_pos (by omega)]; omega)]
      exact E4.cf (decide_eq_false h0) hr
  · exact E4.s1 (fun k m n p => L65_1_eq k m _ _ _) (E4.cf (decide_eq_false (by omega)) (E4.now.val (by simp)))
theorem quarter_ev (ids : List Int) (hl : ids.length ≤ 4096) (h : ∀ x, x ∈ ids → -1 ≤ x ∧ x ≤ 9223372036854775807) : Ev (fun k => c23 k [.ro 3 ids]) (ids.map quarter) := by
  refine Ev.st (fun k => g23_eq k ids) ?_
  have := loop4 (r := ids.map quarter) ids.length (fun i k m _ _ => L23_1 k m ids (i : Int) ((ids.take i).map quarter)) ?_ ?_
  · exact this.e1
  · intro i hi hr
    have hx := h _ (List.getElem_mem hi)
    rw [List.take_succ_eq_append_getElem hi, List.map_append] at hr
    refine E4.s1 (fun k m n p => L23_1_eq k m _ _ _) ?_
    simp only [Int.toNat_natCast, L.getD_lt _ hi, w64_succ (show i < 9223372036854775807 by omega)]
    refine E4.ct (decide_eq_true (by omega)) (E4.ck (inB_of (by omega) (by omega)) ?_)
    by_cases h0 : ids[i] < 0
    · have e : quarter ids[i] = -1 := by unfold quarter; rw [if_pos h0]
      rw [List.map_cons, List.map_nil, e] at hr
      exact E4.ct (decide_eq_true h0) (E4.ck (appOk_of (by rw [List.length_map, List.length_take]; simp only [List.length_cons, List.length_nil]; omega)) hr)
    · have e : w64 (Int.tdiv ids[i] 4) = quarter ids[i] := by
        unfold quarter
        rw [if_neg h0, Int.tdiv_eq_ediv_of_nonneg (by omega), w64_id (by omega) (by omega)]
      rw [e]
      exact E4.cf (decide_eq_false h0) (E4.ck (inB_of (by omega) (by omega)) (E4.ck (appOk_of (by rw [List.length_map, List.length_take]; simp only [List.length_cons, List.length_nil]; omega)) hr))
  · exact E4.s1 (fun k m n p => L23_1_eq k m _ _ _) (E4.cf (decide_eq_false (by omega)) (E4.now.val (by rw [List.take_length])))
theorem split_ev (a c d : Int) (draws : List Int) (m C : Nat) (hm : m ≤ 4) (hC : C ≤ 700) (hl : draws.length = 6 * 2 ^ m + 2 * C) : Ev (fun k => c20 k [cfA a ((m : Int) + 2) c d, .ro 3 draws]) (atPl draws (onePl (2 ^ m) C), atPl draws (twoPl (2 ^ m) C)) := by
  have hB := two_pow_le m hm
  have e0 : (6 * 2 ^ m : Int) = ((6 * 2 ^ m : Nat) : Int) := by rw [Int.natCast_mul, Int.natCast_pow]; rfl
  refine Ev.st (fun k => g20_eq k a _ c d draws) (E4.bind (deepDraws_ev m hm) ?_)
  rw [e0]
  generalize (2 ^ m : Nat) = B at hB hl ⊢
  have h2 : E4 (fun k m _ _ => L20_2 k m draws ((6 * B : Nat) : Int) (atPl draws (onePl B 0)) (atPl draws (twoPl B 0))) (atPl draws (onePl B C), atPl draws (twoPl B C)) := by
    refine loop4 (r := (atPl draws (onePl B C), atPl draws (twoPl B C))) C (fun j k m _ _ => L20_2 k m draws ((6 * B + 2 * j : Nat) : Int) (atPl draws (onePl B j)) (atPl draws (twoPl B j))) ?_ ?_
    · intro i hi hr
      have e1 : atPl draws (onePl B (i + 1)) = atPl draws (onePl B i) ++ [draws.getD (6 * B + 2 * i) 0] := by
        unfold onePl atPl
        rw [List.range_succ]
        simp only [List.map_append, List.map_cons, List.map_nil, List.append_assoc]
      have e2 : atPl draws (twoPl B (i + 1)) = atPl draws (twoPl B i) ++ [draws.getD (6 * B + 2 * i + 1) 0] := by
        unfold twoPl atPl
        rw [List.range_succ]
        simp only [List.map_append, List.map_cons, List.map_nil, List.append_assoc]
      have w1 : w64 (((6 * B + 2 * i : Nat) : Int) + 1) = ((6 * B + 2 * i + 1 : Nat) : Int) := w64_succ (by omega)
      have w2 : w64 (((6 * B + 2 * i : Nat) : Int) + 2) = ((6 * B + 2 * (i + 1) : Nat) : Int) := by rw [w64_id (by omega) (by omega)]; omega
      rw [e1, e2] at hr
      refine E4.s1 (fun k m n p => L20_2_eq k m _ _ _ _) ?_
      simp only [w1, w2, Int.toNat_natCast]
      exact E4.ct (decide_eq_true (by omega)) (E4.ck (inB_of (by omega) (by omega)) (E4.ck (appOk_of (by rw [atPl_length, onePl_length]; simp only [List.length_cons, List.length_nil]; omega)) (E4.ck (inB_of (by omega) (by omega)) (E4.ck (appOk_of (by rw [atPl_length, twoPl_length]; simp only [List.length_cons, List.length_nil]; omega)) hr))))
    · have w1 : w64 (((6 * B + 2 * C : Nat) : Int) + 1) = ((6 * B + 2 * C + 1 : Nat) : Int) := w64_succ (by omega)
      exact E4.s1 (fun k m n p => L20_2_eq k m _ _ _ _) (E4.cf (by rw [w1]; exact decide_eq_false (by omega)) E4.now)
  have := loop4 (r := (atPl draws (onePl B C), atPl draws (twoPl B C))) (6 * B) (fun i k m _ _ => L20_1 k m draws ((6 * B : Nat) : Int) (i : Int) (atPl draws ((List.range i).filter is5)) (atPl draws ((List.range i).filter is14))) ?_ ?_
  · exact this.e1
  · intro i hi hr
    have h1 : (atPl draws ((List.range i).filter is5)).length ≤ 1000 := by rw [atPl_length]; have := List.length_filter_le is5 (List.range i); rw [List.length_range] at this; omega
    have h2 : (atPl draws ((List.range i).filter is14)).length ≤ 1000 := by rw [atPl_length]; have := List.length_filter_le is14 (List.range i); rw [List.length_range] at this; omega
    have et : Int.tmod (i : Int) 6 = ((i % 6 : Nat) : Int) := by rw [Int.tmod_eq_emod_of_nonneg (by omega)]; omega
    have e1 : atPl draws ((List.range (i + 1)).filter is5) = atPl draws ((List.range i).filter is5) ++ (if is5 i = true then [draws.getD i 0] else []) := by
      unfold atPl
      rw [List.range_succ, List.filter_append, List.map_append]
      cases h : is5 i <;> simp [List.filter, h]
    have e2 : atPl draws ((List.range (i + 1)).filter is14) = atPl draws ((List.range i).filter is14) ++ (if is14 i = true then [draws.getD i 0] else []) := by
      unfold atPl
      rw [List.range_succ, List.filter_append, List.map_append]
      cases h : is14 i <;> simp [List.filter, h]
    rw [e1, e2] at hr
    refine E4.s1 (fun k m n p => L20_1_eq k m _ _ _ _ _) (E4.ct (decide_eq_true (by omega)) ?_)
    simp only [et, Int.toNat_natCast, w64_succ (show i < 9223372036854775807 by omega)]
    by_cases h5 : i % 6 = 5
    · have a1 : is5 i = true := by unfold is5; rw [beq_iff_eq]; exact h5
      have a2 : is14 i = false := by unfold is14; simp [h5]
      rw [a1, a2, if_pos rfl, if_neg (by decide), List.append_nil] at hr
      exact E4.ct (by rw [beq_iff_eq]; omega) (E4.ck (inB_of (by omega) (by omega)) (E4.ck (appOk_of (by simp only [List.length_cons, List.length_nil]; omega)) hr))
    · have a1 : is5 i = false := by unfold is5; rw [beq_eq_false_iff_ne]; exact h5
      refine E4.cf (by rw [beq_eq_false_iff_ne]; omega) ?_
      by_cases h0 : i % 6 = 0
      · have a2 : is14 i = false := by unfold is14; simp [h0]
        rw [a1, a2, if_neg (by decide), List.append_nil, List.append_nil] at hr
        exact E4.cf (decide_eq_false (by omega)) hr
      · have a2 : is14 i = true := by unfold is14; rw [Bool.and_eq_true, decide_eq_true_eq, decide_eq_true_eq]; omega
        rw [a1, a2, if_pos rfl, if_neg (by decide), List.append_nil] at hr
        exact E4.ct (decide_eq_true (by omega)) (E4.ck (inB_of (by omega) (by omega)) (E4.ck (appOk_of (by simp only [List.length_cons, List.length_nil]; omega)) hr))
  · refine E4.s1 (fun k m n p => L20_1_eq k m _ _ _ _ _) (E4.cf (decide_eq_false (by omega)) ?_)
    have e1 : onePl B 0 = (List.range (6 * B)).filter is5 := by rw [filter5]; unfold onePl; simp
    have e2 : twoPl B 0 = (List.range (6 * B)).filter is14 := by rw [filter14]; unfold twoPl; simp
    rw [e1, e2] at h2
    exact h2.e1
theorem implMix_ev (B C : Nat) (draws one two : List Int) (hB : B ≤ 16) (hC : C ≤ 640) (hd : draws.length = 6 * B + 2 * C) (ho : one.length = B + C) (ht : two.length = 4 * B + C) :
    E4 (fun k m _ _ => L30_1 k m ((natI (onePl B C)).length : Int) 0 draws (natI (twoPl B C)) one two (natI (onePl B C))) (mixV B draws one two) := by
  have e1 := one_filter B C
  have e2 := two_filter B C
  rw [← hd] at e1 e2
  have l1 := onePl_length B C
  have l2 := twoPl_length B C
  have b1 := onePl_lt B C
  have b2 := twoPl_lt B C
  have n1 := natI_length (onePl B C)
  have n2 := natI_length (twoPl B C)
  rw [n1]
  have h2 : E4 (fun k m _ _ => L30_2 k m ((twoPl B C).length : Int) 0 (placed draws.length (isTwoB B) (fun i => two.getD i 0) (fun j => if isOneB B j = true ∧ cnt (isOneB B) j < ((List.range draws.length).filter (isOneB B)).length then one.getD (cnt (isOneB B) j) 0 else draws.getD j 0) 0) two (natI (twoPl B C))) (mixV B draws one two) := by
    refine loop4 (r := mixV B draws one two) (twoPl B C).length (fun i k m _ _ => L30_2 k m ((twoPl B C).length : Int) (i : Int) (placed draws.length (isTwoB B) (fun i => two.getD i 0) (fun j => if isOneB B j = true ∧ cnt (isOneB B) j < ((List.range draws.length).filter (isOneB B)).length then one.getD (cnt (isOneB B) j) 0 else draws.getD j 0) i) two (natI (twoPl B C))) ?_ ?_
    · intro i hi hr
      have hlt : (twoPl B C).getD i 0 < draws.length := by rw [L.getD_lt _ hi, hd]; exact b2 _ (List.getElem_mem hi)
      have hs := placed_set draws.length (isTwoB B) (fun i => two.getD i 0) (fun j => if isOneB B j = true ∧ cnt (isOneB B) j < ((List.range draws.length).filter (isOneB B)).length then one.getD (cnt (isOneB B) j) 0 else draws.getD j 0) (i := i) (by rw [← e2]; exact hi)
      rw [← e2] at hs
      refine E4.s1 (fun k m n p => L30_2_eq k m _ _ _ _ _) ?_
      simp only [Int.toNat_natCast, natI_get _ hi, n2, placed_length, w64_succ (show i < 9223372036854775807 by omega), hs]
      exact E4.ct (decide_eq_true (by omega)) (E4.ck (inB_of (by omega) (by omega)) (E4.ck (inB_of (by omega) (by omega)) (E4.ck (inB_of (by omega) (by omega)) hr)))
    · refine E4.s1 (fun k m n p => L30_2_eq k m _ _ _ _ _) (E4.cf (decide_eq_false (by omega)) (E4.now.val ?_))
      unfold placed mixV mixF
      rw [← e2]
  have := loop4 (r := mixV B draws one two) (onePl B C).length (fun i k m _ _ => L30_1 k m ((onePl B C).length : Int) (i : Int) (placed draws.length (isOneB B) (fun i => one.getD i 0) (fun j => draws.getD j 0) i) (natI (twoPl B C)) one two (natI (onePl B C))) ?_ ?_
  · simp only [placed_zero] at this
    exact this
  · intro i hi hr
    have hlt : (onePl B C).getD i 0 < draws.length := by rw [L.getD_lt _ hi, hd]; exact b1 _ (List.getElem_mem hi)
    have hs := placed_set draws.length (isOneB B) (fun i => one.getD i 0) (fun j => draws.getD j 0) (i := i) (by rw [← e1]; exact hi)
    rw [← e1] at hs
    refine E4.s1 (fun k m n p => L30_1_eq k m _ _ _ _ _ _ _) ?_
    simp only [Int.toNat_natCast, natI_get _ hi, n1, placed_length, w64_succ (show i < 9223372036854775807 by omega), hs]
    exact E4.ct (decide_eq_true (by omega)) (E4.ck (inB_of (by omega) (by omega)) (E4.ck (inB_of (by omega) (by omega)) (E4.ck (inB_of (by omega) (by omega)) hr)))
  · refine E4.s1 (fun k m n p => L30_1_eq k m _ _ _ _ _ _ _) (E4.cf (decide_eq_false (by omega)) ?_)
    rw [n2]
    have e : placed draws.length (isTwoB B) (fun i => two.getD i 0) (fun j => if isOneB B j = true ∧ cnt (isOneB B) j < ((List.range draws.length).filter (isOneB B)).length then one.getD (cnt (isOneB B) j) 0 else draws.getD j 0) 0 = placed draws.length (isOneB B) (fun i => one.getD i 0) (fun j => draws.getD j 0) (onePl B C).length := by
      unfold placed
      apply List.map_congr_left
      intro j _
      rw [if_neg (fun h => absurd h.2 (Nat.not_lt_zero _)), ← e1]
    rw [e] at h2
    exact h2.e1
theorem specMix_ev (B C : Nat) (draws one two : List Int) (hB : B ≤ 16) (hC : C ≤ 640) (hd : draws.length = 6 * B + 2 * C) (ho : one.length = B + C) (ht : two.length = 4 * B + C) :
    E4 (fun k m _ _ => L6_1 k m ((6 * B : Nat) : Int) 0 0 0 one two draws) (mixV B draws one two, true) := by
  have e1 := one_filter B C
  have e2 := two_filter B C
  rw [← hd] at e1 e2
  have l1 := onePl_length B C
  have l2 := twoPl_length B C
  rw [e1] at l1
  rw [e2] at l2
  have hz : upTo draws.length (mixF draws.length B draws one two) (fun j => draws.getD j 0) 0 = draws := by
    unfold upTo
    have : (fun j => if j < 0 then mixF draws.length B draws one two j else draws.getD j 0) = fun j => draws.getD j 0 := by funext j; rw [if_neg (Nat.not_lt_zero _)]
    rw [this]
    have := map_range draws 0 id
    simpa using this
  have := loop4 (r := (mixV B draws one two, true)) draws.length (fun i k m _ _ => L6_1 k m ((6 * B : Nat) : Int) ((cnt (isOneB B) i : Nat) : Int) ((cnt (isTwoB B) i : Nat) : Int) (i : Int) one two (upTo draws.length (mixF draws.length B draws one two) (fun j => draws.getD j 0) i)) ?_ ?_
  · simp only [hz] at this
    exact this
  · intro i hi hr
    have hq : isOneB B i = true → cnt (isOneB B) i < ((List.range draws.length).filter (isOneB B)).length := fun h => cnt_lt _ hi h
    have hq2 : isTwoB B i = true → cnt (isTwoB B) i < ((List.range draws.length).filter (isTwoB B)).length := fun h => cnt_lt _ hi h
    have c1 := cnt_succ (isOneB B) i
    have c2 := cnt_succ (isTwoB B) i
    have et : Int.tmod (i : Int) 6 = ((i % 6 : Nat) : Int) := by rw [Int.tmod_eq_emod_of_nonneg (by omega)]; omega
    have b1 : (((decide ((i : Int) < ((6 * B : Nat) : Int))) && ((Int.tmod (i : Int) 6) == 5)) || ((decide ((i : Int) ≥ ((6 * B : Nat) : Int))) && ((Int.tmod (w64 ((i : Int) - ((6 * B : Nat) : Int))) 2) == 0))) = isOneB B i := by
      unfold isOneB
      by_cases hb : i < 6 * B
      · rw [if_pos hb, decide_eq_true (show (i : Int) < ((6 * B : Nat) : Int) by omega), decide_eq_false (show ¬ (i : Int) ≥ ((6 * B : Nat) : Int) by omega), et]
        unfold is5
        rw [Bool.true_and, Bool.false_and, Bool.or_false, Bool.eq_iff_iff, beq_iff_eq, beq_iff_eq]; omega
      · rw [if_neg hb, decide_eq_false (show ¬ (i : Int) < ((6 * B : Nat) : Int) by omega), decide_eq_true (show (i : Int) ≥ ((6 * B : Nat) : Int) by omega), w64_id (by omega) (by omega), Int.tmod_eq_emod_of_nonneg (by omega)]
        rw [Bool.true_and, Bool.false_and, Bool.false_or, Bool.eq_iff_iff, beq_iff_eq, beq_iff_eq]
        rw [show (i : Int) - ((6 * B : Nat) : Int) = ((i - 6 * B : Nat) : Int) by omega]
        generalize i - 6 * B = j
        rw [Int.tmod_eq_emod_of_nonneg (Int.natCast_nonneg j)]
        omega
    have b2 : ((((decide ((i : Int) < ((6 * B : Nat) : Int))) && (decide ((Int.tmod (i : Int) 6) > 0))) && (decide ((Int.tmod (i : Int) 6) < 5))) || ((decide ((i : Int) ≥ ((6 * B : Nat) : Int))) && ((Int.tmod (w64 ((i : Int) - ((6 * B : Nat) : Int))) 2) == 1))) = isTwoB B i := by
      unfold isTwoB
      by_cases hb : i < 6 * B
      · rw [if_pos hb, decide_eq_true (show (i : Int) < ((6 * B : Nat) : Int) by omega), decide_eq_false (show ¬ (i : Int) ≥ ((6 * B : Nat) : Int) by omega), et]
        unfold is14
        rw [Bool.true_and, Bool.false_and, Bool.or_false, Bool.eq_iff_iff, Bool.and_eq_true, Bool.and_eq_true, decide_eq_true_eq, decide_eq_true_eq, decide_eq_true_eq, decide_eq_true_eq]; omega
      · rw [if_neg hb, decide_eq_false (show ¬ (i : Int) < ((6 * B : Nat) : Int) by omega), decide_eq_true (show (i : Int) ≥ ((6 * B : Nat) : Int) by omega), w64_id (by omega) (by omega), Int.tmod_eq_emod_of_nonneg (by omega)]
        rw [Bool.true_and, Bool.false_and, Bool.false_and, Bool.false_or, Bool.eq_iff_iff, beq_iff_eq, beq_iff_eq]
        rw [show (i : Int) - ((6 * B : Nat) : Int) = ((i - 6 * B : Nat) : Int) by omega]
        generalize i - 6 * B = j
        rw [Int.tmod_eq_emod_of_nonneg (Int.natCast_nonneg j)]
        omega
    refine E4.s1 (fun k m n p => L6_1_eq k m _ _ _ _ _ _ _) ?_
    rw [b1, b2]
    refine E4.ct (decide_eq_true (by rw [upTo_length]; omega)) ?_
    cases h1 : isOneB B i with
    | true =>
      have h2 := one_not_two B i h1
      have hf : mixF draws.length B draws one two i = one.getD (cnt (isOneB B) i) 0 := by
        unfold mixF
        rw [if_neg (fun h => by rw [h2] at h; cases h.1), if_pos ⟨h1, hq h1⟩]
      rw [h1, if_pos rfl] at c1
      rw [h2, if_neg (by decide), Nat.add_zero] at c2
      have := hq h1
      rw [← upTo_set, hf, c1, c2] at hr
      refine E4.ct rfl (E4.ck (inB_of (by omega) (by omega)) (E4.ck (inB_of (by omega) (by rw [upTo_length]; omega)) (E4.eq (fun k m _ _ => J6_2_eq k m _ _ _ _ _ _ _ _) (E4.cf h2 ?_))))
      simp only [Int.toNat_natCast, w64_succ (show i < 9223372036854775807 by omega), w64_succ (show cnt (isOneB B) i < 9223372036854775807 by omega)]
      exact hr
    | false =>
      rw [h1, if_neg (by decide), Nat.add_zero] at c1
      refine E4.cf rfl (E4.eq (fun k m _ _ => J6_2_eq k m _ _ _ _ _ _ _ _) ?_)
      cases h2 : isTwoB B i with
      | true =>
        have hf : mixF draws.length B draws one two i = two.getD (cnt (isTwoB B) i) 0 := by
          unfold mixF
          rw [if_pos ⟨h2, hq2 h2⟩]
        rw [h2, if_pos rfl] at c2
        have := hq2 h2
        rw [← upTo_set, hf, c1, c2] at hr
        refine E4.ct rfl (E4.ck (inB_of (by omega) (by omega)) (E4.ck (inB_of (by omega) (by rw [upTo_length]; omega)) ?_))
        simp only [Int.toNat_natCast, w64_succ (show i < 9223372036854775807 by omega), w64_succ (show cnt (isTwoB B) i < 9223372036854775807 by omega)]
        exact hr
      | false =>
        have hf : mixF draws.length B draws one two i = draws.getD i 0 := by
          unfold mixF
          rw [if_neg (fun h => by rw [h2] at h; cases h.1), if_neg (fun h => by rw [h1] at h; cases h.1)]
        rw [h2, if_neg (by decide), Nat.add_zero] at c2
        rw [← upTo_same _ _ _ _ hf, c1, c2] at hr
        refine E4.cf rfl ?_
        simp only [w64_succ (show i < 9223372036854775807 by omega)]
        exact hr
  · refine E4.s1 (fun k m n p => L6_1_eq k m _ _ _ _ _ _ _) (E4.cf (decide_eq_false (by rw [upTo_length]; omega)) (E4.now.val ?_))
    unfold upTo mixV
    congr 1
    apply List.map_congr_left
    intro j hj
    rw [if_pos (List.mem_range.1 hj)]
theorem implSessP_ev (a c d : Int) (m : Nat) (p q draws : List Int) (hm : m ≤ 4) (hp : p.length ≤ 640) (hpq : p.length = q.length)
    (hrp : ∀ x, x ∈ p → -1 ≤ x ∧ x ≤ ((2 ^ (m + 2) : Nat) : Int) - 1) (hrq : ∀ x, x ∈ q → -1 ≤ x ∧ x ≤ ((2 ^ (m + 2) : Nat) : Int) - 1)
    (hd : draws.length = 6 * 2 ^ m + 2 * p.length) (hda : ∀ x, x ∈ draws → 0 ≤ x ∧ x ≤ 65535) :
    Ev (fun k => c30 k [cfA a ((m : Int) + 2) c d, .ro 3 p, .ro 3 q, .ro 3 draws]) (sessPV m p q draws) := by
  obtain ⟨p1, p2, p3, p4, e1, e2⟩ := pow_facts m hm
  have ew : w64 ((m : Int) + 2 - 2) = (m : Int) := by rw [w64_id (by omega) (by omega)]; omega
  obtain ⟨L1, L2⟩ := pair_lens m p q draws hm hp hpq hrp hrq hda
  have hrp' : ∀ x, x ∈ p → -1 ≤ x ∧ x ≤ 9223372036854775807 := fun x hx => by have := hrp x hx; omega
  have hrq' : ∀ x, x ∈ q → -1 ≤ x ∧ x ≤ 9223372036854775807 := fun x hx => by have := hrq x hx; omega
  have hpl := places_ev a c d m p.length hm (by omega)
  have ho := at_ev draws (onePl (2 ^ m) p.length) (by rw [onePl_length]; omega) (fun x hx => by have := onePl_lt _ _ x hx; omega)
  have ht := at_ev draws (twoPl (2 ^ m) p.length) (by rw [twoPl_length]; omega) (fun x hx => by have := twoPl_lt _ _ x hx; omega)
  have h1 := pair_ev ((2 ^ m : Nat) : Int) (p.map quarter) (q.map quarter) (atPl draws (onePl (2 ^ m) p.length)) (by rw [atPl_length, onePl_length]; omega)
  have h2 := pair_ev ((2 ^ (m + 2) : Nat) : Int) p q (atPl draws (twoPl (2 ^ m) p.length)) (by rw [atPl_length, twoPl_length]; omega)
  unfold sessPV
  generalize pairS ((2 ^ m : Nat) : Int) (p.map quarter) (q.map quarter) (atPl draws (onePl (2 ^ m) p.length)) = P1 at h1 L1 ⊢
  generalize pairS ((2 ^ (m + 2) : Nat) : Int) p q (atPl draws (twoPl (2 ^ m) p.length)) = P2 at h2 L2 ⊢
  have hx := implMix_ev (2 ^ m) p.length draws P1.1 P2.1 p2 hp hd L1 L2
  refine Ev.st (fun k => g30_eq k a _ c d p q draws) (E4.bind (clone_ev draws (by omega)) (E4.bind hpl ?_))
  rw [ew, shl_pw m (by omega), shl_pw4 m hm]
  exact E4.ck (decide_eq_true (by omega)) (E4.bind (small_ev p (by omega) hrp') (E4.bind (small_ev q (by omega) hrq') (E4.bind ho (E4.bind h1 (E4.ck (decide_eq_true (by omega)) (E4.bind ht (E4.bind h2 hx.e1)))))))
theorem implSessL_ev (a c d : Int) (m : Nat) (ids draws : List Int) (hm : m ≤ 4) (hids : ids.length ≤ 640) (hr : ∀ x, x ∈ ids → -1 ≤ x ∧ x ≤ 9223372036854775807) (hd : draws.length = 6 * 2 ^ m + 2 * ids.length) (hda : ∀ x, x ∈ draws → 0 ≤ x ∧ x ≤ 65535) :
    Ev (fun k => c34 k [cfA a ((m : Int) + 2) c d, .ro 3 ids, .ro 3 draws]) (sessLV m ids draws) := by
  obtain ⟨p1, p2, p3, p4, e1, e2⟩ := pow_facts m hm
  have ew : w64 ((m : Int) + 2 - 2) = (m : Int) := by rw [w64_id (by omega) (by omega)]; omega
  have hpl := places_ev a c d m ids.length hm (by omega)
  have ho := at_ev draws (onePl (2 ^ m) ids.length) (by rw [onePl_length]; omega) (fun x hx => by have := onePl_lt _ _ x hx; omega)
  have ht := at_ev draws (twoPl (2 ^ m) ids.length) (by rw [twoPl_length]; omega) (fun x hx => by have := twoPl_lt _ _ x hx; omega)
  have hs := small_ev ids (by omega) hr
  have h1 := path_ev ((2 ^ m : Nat) : Int) m (ids.map quarter) (atPl draws (onePl (2 ^ m) ids.length)) (by omega) (by rw [atPl_length, onePl_length]; omega)
  have h2 := path_ev ((2 ^ (m + 2) : Nat) : Int) (m + 2) ids (atPl draws (twoPl (2 ^ m) ids.length)) (by omega) (by rw [atPl_length, twoPl_length]; omega)
  rw [show ((m + 2 : Nat) : Int) = (m : Int) + 2 by omega] at h2
  have hl1 := pathS_len ((2 ^ m : Nat) : Int) (m : Int) (ids.map quarter) (atPl draws (onePl (2 ^ m) ids.length))
  unfold sessLV
  generalize pathS ((2 ^ m : Nat) : Int) (m : Int) (ids.map quarter) (atPl draws (onePl (2 ^ m) ids.length)) = P1 at h1 hl1 ⊢
  generalize pathS ((2 ^ (m + 2) : Nat) : Int) ((m : Int) + 2) ids (atPl draws (twoPl (2 ^ m) ids.length)) = P2 at h2 ⊢
  generalize atPl draws (onePl (2 ^ m) ids.length) = D1 at ho h1
  generalize atPl draws (twoPl (2 ^ m) ids.length) = D2 at ht h2
  generalize natI (onePl (2 ^ m) ids.length) = N1 at hpl ho
  generalize natI (twoPl (2 ^ m) ids.length) = N2 at hpl ht
  refine Ev.st (fun k => g34_eq k a _ c d ids draws) (E4.bind hpl ?_)
  have hB := shl_pw m (by omega)
  have hC := shl_pw4 m hm
  rw [ew, hB]
  refine E4.ck (decide_eq_true (by omega)) ?_
  generalize (2 ^ (m + 2) : Nat) = B4 at hC h2
  generalize (2 ^ m : Nat) = B at p1 p2 h1 hd hB ⊢
  have := loop4 (r := ((List.range B).map (fun k => draws.getD (6 * k) 0 % 2 ^ m) ++ P1.1, P2.1)) B (fun i k q _ _ => L34_1 k q ids draws (B : Int) (i : Int) a ((m : Int) + 2) c d N1 N2 ((List.range i).map fun k => draws.getD (6 * k) 0 % 2 ^ m)) ?_ ?_
  · exact this.e1
  · intro i hi hn
    have hD := draw_get hda (6 * i)
    have e6 : w64 (6 * (i : Int)) = ((6 * i : Nat) : Int) := by rw [w64_id (by omega) (by omega)]; omega
    rw [List.range_succ, List.map_append] at hn
    refine E4.s1 (fun k m n p => L34_1_eq k m _ _ _ _ _ _ _ _ _ _ _) ?_
    simp only [e6, ew, Int.toNat_natCast, w64_succ (show i < 9223372036854775807 by omega)]
    exact E4.ct (decide_eq_true (by omega)) (E4.ck (inB_of (by omega) (by omega)) (E4.bind (leafOf_ev hD (by omega)) (E4.ck (appOk_of (by rw [List.length_map, List.length_range]; simp only [List.length_cons, List.length_nil]; omega)) hn)))
  · refine E4.s1 (fun k m n p => L34_1_eq k m _ _ _ _ _ _ _ _ _ _ _) (E4.cf (decide_eq_false (by omega)) ?_)
    rw [ew, hB, hC]
    exact E4.ck (decide_eq_true (by omega)) (E4.bind hs (E4.bind ho (E4.bind h1 (E4.ck (decide_eq_true (by omega)) (E4.bind ht (E4.bind h2 (E4.ck (appOk_of (by rw [List.length_map, List.length_range]; omega)) E4.now)))))))
theorem right_ev (a c d : Int) (m : Nat) (l : List Req') (draws : List Int) (hm : m ≤ 4) (hdl0 : draws.length ≤ 1000000) (hc : confB a ((m : Int) + 2) c d = true) (hb : reqsB l = true) :
    Ev (fun k => c19 k [cfA a ((m : Int) + 2) c d, .ro 68 l, .ro 3 draws]) (drawsB draws (drawsI ((m : Int) + 2) (l.map shOf))) := by
  have hs := specShapesOf_ev l
  rw [hb, if_pos rfl] at hs
  have ht := takesS_range (reqs_shapes hb)
  have hp : (1 : Int) ≤ 2 ^ m ∧ (2 : Int) ^ m ≤ 16 := ⟨pow2_pos _, by have : (2 : Int) ^ m ≤ 2 ^ 4 := pow2_le hm; omega⟩
  have e0 : wrap64 (drawsI ((m : Int) + 2) (l.map shOf) + (([] : List Int).length : Int)) = drawsI ((m : Int) + 2) (l.map shOf) := by
    unfold drawsI
    rw [show ((m : Int) + 2 - 2).toNat = m by omega, wrap_id (by simp only [List.length_nil]; omega) (by simp only [List.length_nil]; omega)]
    simp
  have hd := l15Draws_ev (drawsI ((m : Int) + 2) (l.map shOf)) [] draws (by omega)
  rw [e0] at hd
  exact Ev.st (fun k => g19_eq k a _ c d l draws) (E4.bind hs (E4.gt rfl (confOk_ev _ _ _ _) (E4.gt (by rw [hc]; rfl) (specShapeDraws_ev a c d m _ hm hc (reqs_shapes hb)) (E4.gt (by rw [hc]; rfl) hd (E4.now.val (by rw [hc]; rfl))))))
theorem conf_m {a b c d : Int} (hc : confB a b c d = true) : ∃ m : Nat, b = (m : Int) + 2 ∧ m ≤ 4 := by
  have := confB_log hc
  exact ⟨(b - 2).toNat, by omega, by omega⟩
theorem implSessPair_ev (a b c d : Int) (l1 l2 : List Req') (draws : List Int) (hdl0 : draws.length ≤ 1000000) : Ev (fun k => c7 k [cfA a b c d, .ro 68 l1, .ro 68 l2, .ro 3 draws]) (sessPairS a b c d l1 l2 draws) := by
  refine Ev.st (fun k => g7_eq k a b c d l1 l2 draws) (E4.bind (isConf_ev a b c d) (E4.gc (fun _ => sameShape_ev l1 l2) ?_))
  unfold sessPairS
  cases hc : confB a b c d with
  | false => exact E4.gf rfl (E4.gf rfl (E4.gf rfl (E4.ct rfl E4.now)))
  | true =>
    cases hs : (reqsB l1 && (reqsB l2 && sameShB (l1.map shOf) (l2.map shOf))) with
    | false => exact E4.gf rfl (E4.gf rfl (E4.gf rfl (E4.ct rfl E4.now)))
    | true =>
      have hs' := hs
      simp only [Bool.and_eq_true] at hs'
      obtain ⟨hb, hb2, hsm⟩ := hs'
      obtain ⟨m, rfl, hm⟩ := conf_m hc
      refine E4.gt rfl (shapesOf_ev l1 (reqs_all hb).1) (E4.gt rfl (shapeDraws_ev a c d m _ hm (reqs_shapes hb)) (E4.gt rfl (areDraws_ev draws _ (by omega)) ?_))
      cases hd : drawsB draws (drawsI ((m : Int) + 2) (l1.map shOf)) with
      | false => exact E4.ct rfl E4.now
      | true =>
        obtain ⟨m', em, hm', em', hids, hdl, hda⟩ := sess_facts hc hb hd
        obtain rfl : m = m' := by omega
        simp only [Bool.and_self, if_true, em']
        exact E4.cf rfl (E4.bind (implIds_ev a ((m : Int) + 2) c d l1 hb) (E4.bind (implIds_ev a ((m : Int) + 2) c d l2 hb2) (E4.bind (implSessP_ev a c d m _ _ draws hm hids (same_ids hb hb2 hsm) (ids_lt _ _ _) (ids_lt _ _ _) hdl hda) E4.now)))
theorem specSessPair_ev (a b c d : Int) (l1 l2 : List Req') (draws : List Int) (hdl0 : draws.length ≤ 1000000) : Ev (fun k => c6 k [cfA a b c d, .ro 68 l1, .ro 68 l2, .ro 3 draws]) (sessPairS a b c d l1 l2 draws) := by
  refine Ev.st (fun k => g6_eq k a b c d l1 l2 draws) (E4.bind (specIds_ev a b c d l1) (E4.bind (specIds_ev a b c d l2) ?_))
  unfold sessPairS
  cases hc : confB a b c d with
  | false => exact E4.gf rfl (E4.gf rfl (E4.ct rfl E4.now))
  | true =>
    cases hb : reqsB l1 with
    | false => exact E4.gf rfl (E4.gf rfl (E4.ct rfl E4.now))
    | true =>
    cases hb2 : reqsB l2 with
    | false => exact E4.gf rfl (E4.gf rfl (E4.ct rfl E4.now))
    | true =>
      refine E4.gt rfl (specSameShape_ev l1 l2) ?_
      rw [hb, hb2]
      cases hsm : sameShB (l1.map shOf) (l2.map shOf) with
      | false => exact E4.gf rfl (E4.ct rfl E4.now)
      | true =>
        obtain ⟨m, rfl, hm⟩ := conf_m hc
        refine E4.gt rfl (right_ev a c d m l1 draws hm hdl0 hc hb) ?_
        cases hd : drawsB draws (drawsI ((m : Int) + 2) (l1.map shOf)) with
        | false => exact E4.ct rfl E4.now
        | true =>
          obtain ⟨m', em, hm', em', hids, hdl, hda⟩ := sess_facts hc hb hd
          obtain rfl : m = m' := by omega
          simp only [Bool.and_self, if_true, em']
          have hpq := same_ids (a := a) (b := (m : Int) + 2) hb hb2 hsm
          have hrp := ids_lt a m l1
          have hrq := ids_lt a m l2
          generalize idsS a ((m : Int) + 2) l1 = p at hids hdl hpq hrp ⊢
          generalize idsS a ((m : Int) + 2) l2 = q at hpq hrq ⊢
          obtain ⟨p1, p2, p3, p4, e1, e2⟩ := pow_facts m hm
          have ew : w64 ((m : Int) + 2 - 2) = (m : Int) := by rw [w64_id (by omega) (by omega)]; omega
          have hpow := pow_ev m (by omega)
          have hpow2 := pow_ev (m + 2) (by omega)
          rw [← e1] at hpow
          rw [← e2, show ((m + 2 : Nat) : Int) = (m : Int) + 2 by omega] at hpow2
          obtain ⟨L1, L2⟩ := pair_lens m p q draws hm hids hpq hrp hrq hda
          have hrp' : ∀ x, x ∈ p → -1 ≤ x ∧ x ≤ 9223372036854775807 := fun x hx => by have := hrp x hx; omega
          have hrq' : ∀ x, x ∈ q → -1 ≤ x ∧ x ≤ 9223372036854775807 := fun x hx => by have := hrq x hx; omega
          have hsp := split_ev a c d draws m p.length hm (by omega) hdl
          have h1 := specPair_ev ((2 ^ m : Nat) : Int) (p.map quarter) (q.map quarter) (atPl draws (onePl (2 ^ m) p.length)) (by rw [List.length_map]; omega) (by rw [List.length_map]; omega) (by rw [atPl_length, onePl_length]; omega)
          have h2 := specPair_ev ((2 ^ (m + 2) : Nat) : Int) p q (atPl draws (twoPl (2 ^ m) p.length)) (by omega) (by omega) (by rw [atPl_length, twoPl_length]; omega)
          unfold sessPV
          generalize pairS ((2 ^ m : Nat) : Int) (p.map quarter) (q.map quarter) (atPl draws (onePl (2 ^ m) p.length)) = P1 at h1 L1 ⊢
          generalize pairS ((2 ^ (m + 2) : Nat) : Int) p q (atPl draws (twoPl (2 ^ m) p.length)) = P2 at h2 L2 ⊢
          have hx := specMix_ev (2 ^ m) p.length draws P1.1 P2.1 p2 hids hdl L1 L2
          have hdd := deepDraws_ev m hm
          rw [show (6 * 2 ^ m : Int) = ((6 * 2 ^ m : Nat) : Int) by rw [Int.natCast_mul, Int.natCast_pow]; rfl] at hdd
          refine E4.cf rfl (E4.bind hsp ?_)
          rw [ew]
          exact E4.bind hpow (E4.bind (quarter_ev p (by omega) hrp') (E4.bind (quarter_ev q (by omega) hrq') (E4.bind h1 (E4.bind hpow2 (E4.bind h2 (E4.ck (appOk_of (by simp only [List.length_nil]; omega)) (E4.bind hdd hx.e1)))))))
theorem implSessLeaves_ev (a b c d : Int) (l : List Req') (draws : List Int) (hdl0 : draws.length ≤ 1000000) : Ev (fun k => c10 k [cfA a b c d, .ro 68 l, .ro 3 draws]) (sessLeavesS a b c d l draws) := by
  refine Ev.st (fun k => g10_eq k a b c d l draws) (E4.bind (isConf_ev a b c d) (E4.gc (fun _ => areReqs_ev l) ?_))
  unfold sessLeavesS
  cases hc : confB a b c d with
  | false => exact E4.gf rfl (E4.gf rfl (E4.gf rfl (E4.ct rfl E4.now)))
  | true =>
    cases hb : reqsB l with
    | false => exact E4.gf rfl (E4.gf rfl (E4.gf rfl (E4.ct rfl E4.now)))
    | true =>
      obtain ⟨m, rfl, hm⟩ := conf_m hc
      refine E4.gt rfl (shapesOf_ev l (reqs_all hb).1) (E4.gt rfl (shapeDraws_ev a c d m _ hm (reqs_shapes hb)) (E4.gt rfl (areDraws_ev draws _ (by omega)) ?_))
      cases hd : drawsB draws (drawsI ((m : Int) + 2) (l.map shOf)) with
      | false => exact E4.ct rfl E4.now
      | true =>
        obtain ⟨m', em, hm', em', hids, hdl, hda⟩ := sess_facts hc hb hd
        obtain rfl : m = m' := by omega
        simp only [Bool.and_self, if_true, em']
        exact E4.cf rfl (E4.bind (implIds_ev a ((m : Int) + 2) c d l hb) (E4.bind (implSessL_ev a c d m _ draws hm hids (ids_range _ _ _) hdl hda) E4.now))
end Go.Proofs.YtefojjhffjpeoaaGreatDoor.V
namespace Go.Proofs.YtefojjhffjpeoaaGreatDoor.V
open Go Go.RowKit Go.Proofs.YtefojjhffjpeoaaGreatDoorW.PrintWords Go.Proofs.YtefojjhffjpeoaaGreatDoorW.PrintLast Go.Proofs.YtefojjhffjpeoaaGreatDoorW.PrintMore
set_option linter.unusedVariables false
set_option linter.unusedSimpArgs false
def T4 {α : Type} (F : Nat → Nat → Nat → Nat → Option α) (Q : α → Prop) : Prop := ∃ r, Q r ∧ E4 F r
def Tt {α : Type} (f : Nat → Option α) (Q : α → Prop) : Prop := ∃ r, Q r ∧ Ev f r
section
variable {α β : Type} {F G : Nat → Nat → Nat → Nat → Option α} {c f : Nat → Option α} {h : Nat → Option β} {Q R : α → Prop} {S : β → Prop} {b g : Bool} {d : β}
theorem T4.now {r : α} (h : Q r) : T4 (fun _ _ _ _ => some r) Q := ⟨r, h, E4.now⟩
theorem T4.mono (h : T4 F Q) (hQ : ∀ r, Q r → R r) : T4 F R := h.elim fun r hr => ⟨r, hQ r hr.1, hr.2⟩
theorem Tt.mono (h : Tt f Q) (hQ : ∀ r, Q r → R r) : Tt f R := h.elim fun r hr => ⟨r, hQ r hr.1, hr.2⟩
theorem Tt.st (e : ∀ k, c (k + 1) = f k) (h : T4 (fun k _ _ _ => f k) Q) : Tt c Q := h.elim fun r hr => ⟨r, hr.1, Ev.st e hr.2⟩
theorem Tt.of {r : α} (h : Ev f r) (hQ : Q r) : Tt f Q := ⟨r, hQ, h⟩
theorem T4.eq (e : ∀ k m n p, F k m n p = G k m n p) (h : T4 G Q) : T4 F Q := h.elim fun r hr => ⟨r, hr.1, E4.eq e hr.2⟩
theorem T4.s1 (e : ∀ k m n p, F k (m + 1) n p = G k m n p) (h : T4 G Q) : T4 F Q := h.elim fun r hr => ⟨r, hr.1, E4.s1 e hr.2⟩
theorem T4.s2 (e : ∀ k m n p, F k m (n + 1) p = G k m n p) (h : T4 G Q) : T4 F Q := h.elim fun r hr => ⟨r, hr.1, E4.s2 e hr.2⟩
theorem T4.e1 (h : T4 F Q) : T4 (fun k m n p => F k k n p) Q := h.elim fun r hr => ⟨r, hr.1, hr.2.e1⟩
theorem T4.e2 (h : T4 F Q) : T4 (fun k m n p => F k m k p) Q := h.elim fun r hr => ⟨r, hr.1, hr.2.e2⟩
theorem T4.bind {f : Nat → Nat → Nat → Nat → β → Option α} (hg : Tt h S) (hf : ∀ r, S r → T4 (fun k m n p => f k m n p r) Q) : T4 (fun k m n p => (h k).bind (f k m n p)) Q := by
  obtain ⟨r, h1, h2⟩ := hg
  obtain ⟨x, h3, h4⟩ := hf r h1
  exact ⟨x, h3, E4.bind h2 h4⟩
theorem T4.gc {f : Nat → Nat → Nat → Nat → β → Option α} (hg : b = true → Tt h S) (hf : ∀ r, (b = true → S r) → (b = false → r = d) → T4 (fun k m n p => f k m n p r) Q) : T4 (fun k m n p => (gcall b (h k) d).bind (f k m n p)) Q := by
  cases b
  · exact hf d (fun h => by cases h) fun _ => rfl
  · exact T4.bind (hg rfl) fun r hr => hf r (fun _ => hr) fun h => by cases h
theorem T4.ite (h1 : b = true → T4 G Q) (h2 : b = false → T4 F Q) : T4 (fun k m n p => cond b (G k m n p) (F k m n p)) Q := by
  cases b
  · exact h2 rfl
  · exact h1 rfl
theorem T4.ck (e : b = true) (h : T4 G Q) : T4 (fun k m n p => chk true b (G k m n p)) Q := by subst e; exact h
end
def Byt (l : List Int) : Prop := ∀ x, x ∈ l → 0 ≤ x ∧ x ≤ 255
theorem getD_byt {l : List Int} (h : Byt l) (i : Nat) : 0 ≤ l.getD i 0 ∧ l.getD i 0 ≤ 255 := by
  rw [List.getD_eq_getElem?_getD]
  cases e : l[i]? with
  | none => simp
  | some x => exact h x (List.mem_of_getElem? e)
def Cur (p s b : Int) : Prop := 0 ≤ p ∧ p ≤ b ∧ 0 ≤ s ∧ s ≤ 65521
theorem Cur.le {p s b b' : Int} (h : Cur p s b) (hb : b ≤ b') : Cur p s b' := ⟨h.1, Int.le_trans h.2.1 hb, h.2.2⟩
theorem tmod_range {a n : Int} (ha : 0 ≤ a) (hn : 0 < n) : 0 ≤ Int.tmod a n ∧ Int.tmod a n < n := by
  rw [Int.tmod_eq_emod_of_nonneg ha]
  exact ⟨Int.emod_nonneg _ (by omega), Int.emod_lt_of_pos _ hn⟩
abbrev cuA (c : List Int) (p s : Int) : SV DD := .pb [.ro 5 c, .v (.int .i64 p), .v (.int .i64 s)]
section
variable {c : List Int}
theorem pick_tot (hc : Byt c) (hl : c.length ≤ 1048576) {p s b : Int} (h : Cur p s b) (hb : b ≤ 4611686018427387904) (n : Int) :
    Tt (fun k => c36 k [cuA c p s, .v (.int .i64 n)]) fun r => 0 ≤ r.1 ∧ (1 ≤ n → r.1 < n) ∧ r.2.1 = c ∧ Cur r.2.2.1 r.2.2.2 (b + 1) := by
  obtain ⟨h1, h2, h3, h4⟩ := h
  refine Tt.st (fun k => g36_eq k n c p s) ?_
  have e1 : w64 (p + 1) = p + 1 := w64_id (by omega) (by omega)
  have hs := tmod_range (a := w64 ((w64 (s * 1103)) + 12345)) (n := 65521) (by rw [w64_id (x := s * 1103) (by omega) (by omega), w64_id (by omega) (by omega)]; omega) (by omega)
  have key : ∀ x s' : Int, 0 ≤ x → 0 ≤ s' ∧ s' ≤ 65521 → 2 ≤ n → T4 (fun k _ _ _ => J36_1 k n x c p s') fun r => 0 ≤ r.1 ∧ (1 ≤ n → r.1 < n) ∧ r.2.1 = c ∧ Cur r.2.2.1 r.2.2.2 (b + 1) := fun x s' hx hs' hn => by
    have ht := tmod_range (a := x) (n := n) hx (by omega)
    refine T4.eq (fun k _ _ _ => J36_1_eq k n x c p s') (T4.ck (by simp; omega) (T4.now ⟨ht.1, fun _ => ht.2, rfl, by rw [e1]; simp; omega, by rw [e1]; simp; omega, hs'.1, hs'.2⟩))
  refine T4.ite (fun hn => ?_) (fun hn => ?_)
  · have hn := of_decide_eq_true hn
    exact T4.now ⟨by simp, by simp; omega, rfl, h1, by simp; omega, h3, h4⟩
  have hn := of_decide_eq_false hn
  refine T4.ite (fun h5 => ?_) (fun h5 => ?_)
  · have h5 := of_decide_eq_true h5
    have hr := getD_byt hc p.toNat
    exact T4.ck (inB_of h1 h5) (key _ _ (by rw [w64_id (by omega) (by omega)]; omega) ⟨h3, h4⟩ (by omega))
  have h5 := of_decide_eq_false h5
  refine T4.ite (fun h6 => ?_) (fun h6 => ?_)
  · have h6 := of_decide_eq_true h6
    have hq := tmod_range (a := p) (n := (c.length : Int)) h1 h6
    refine T4.ck (by simp; intro e; rw [e] at h6; simp at h6) (T4.ck (inB_of hq.1 hq.2) (key _ _ ?_ ⟨hs.1, by omega⟩ (by omega)))
    have hr := getD_byt hc (Int.tmod p (c.length : Int)).toNat
    generalize c.getD (Int.tmod p (c.length : Int)).toNat 0 = r at hr
    generalize Int.tmod (w64 ((w64 (s * 1103)) + 12345)) 65521 = t at hs
    rw [Int.tdiv_eq_ediv_of_nonneg hs.1]
    simp only [w64_def]
    unfold wrap64
    omega
  · exact key _ _ (Int.le_refl _) ⟨hs.1, by omega⟩ (by omega)
theorem wide_tot (hc : Byt c) (hl : c.length ≤ 1048576) {p s b : Int} (h : Cur p s b) (hb : b ≤ 4611686018427387000) (n : Int) (hn : 1 ≤ n) :
    Tt (fun k => c45 k [cuA c p s, .v (.int .i64 n)]) fun r => 0 ≤ r.1 ∧ r.1 < n ∧ r.2.1 = c ∧ Cur r.2.2.1 r.2.2.2 (b + 3) := by
  refine Tt.st (fun k => g45_eq k n c p s) ?_
  refine T4.bind (pick_tot hc hl h (by omega) 256) ?_
  rintro ⟨x1, _, p1, s1⟩ ⟨a1, b1, rfl, c1⟩
  refine T4.bind (pick_tot hc hl c1 (by omega) 256) ?_
  rintro ⟨x2, _, p2, s2⟩ ⟨a2, b2, rfl, c2⟩
  refine T4.bind (pick_tot hc hl c2 (by omega) 256) ?_
  rintro ⟨x3, _, p3, s3⟩ ⟨a3, b3, rfl, c3⟩
  try dsimp only at *
  have b1 := b1 (by omega); have b2 := b2 (by omega); have b3 := b3 (by omega)
  have hp : 0 ≤ w64 (w64 (w64 (65536 * x1) + w64 (256 * x2)) + x3) := by simp only [w64_def]; unfold wrap64; omega
  have ht := tmod_range (n := n) hp (by omega)
  exact T4.ck (by simp; omega) (T4.now ⟨ht.1, ht.2, rfl, c3.le (by omega)⟩)
theorem raw_tot (hc : Byt c) (hl : c.length ≤ 1048576) {p s b : Int} (h : Cur p s b) (hb : b ≤ 4611686018427387000) :
    Tt (fun k => c39 k [cuA c p s]) fun r => r.2.1 = c ∧ Cur r.2.2.1 r.2.2.2 (b + 2) := by
  refine Tt.st (fun k => g39_eq k c p s) ?_
  repeat' first
    | (refine T4.bind (pick_tot hc hl (by assumption) (by omega) _) ?_; rintro ⟨_, _, _, _⟩ ⟨_, hlt, rfl, _⟩; have hlt := hlt (by decide); dsimp only at *)
    | refine T4.ck (inB_of (by assumption) (by simp only [List.length_cons, List.length_nil]; omega)) ?_
    | refine T4.ite (fun _ => ?_) (fun _ => ?_)
    | exact T4.now ⟨rfl, Cur.le (by assumption) (by omega)⟩
theorem once_tot (hc : Byt c) (hl : c.length ≤ 1048576) {p s b : Int} (h : Cur p s b) (hb : b ≤ 4611686018427387000) (n : Int) :
    Tt (fun k => c16 k [cuA c p s, .v (.int .i64 n)]) fun r => r.2.1 = c ∧ Cur r.2.2.1 r.2.2.2 (b + 1) := by
  refine Tt.st (fun k => g16_eq k n c p s) ?_
  refine T4.bind (pick_tot hc hl h (by omega) _) ?_
  rintro ⟨_, _, _, _⟩ ⟨_, _, rfl, _⟩
  exact T4.now ⟨rfl, by assumption⟩
theorem conf_tot (hc : Byt c) (hl : c.length ≤ 1048576) {p s b : Int} (h : Cur p s b) (hb : b ≤ 4611686018427380000) :
    Tt (fun k => c35 k [cuA c p s]) fun r => r.2.2.2.2.1 = c ∧ Cur r.2.2.2.2.2.1 r.2.2.2.2.2.2 (b + 6) := by
  refine Tt.st (fun k => g35_eq k c p s) ?_
  repeat' first
    | (refine T4.bind (pick_tot hc hl (by assumption) (by omega) _) ?_; rintro ⟨_, _, _, _⟩ ⟨_, hlt, rfl, _⟩; have hlt := hlt (by decide); dsimp only at *)
    | (refine T4.bind (wide_tot hc hl (by assumption) (by omega) _ (by decide)) ?_; rintro ⟨_, _, _, _⟩ ⟨_, _, rfl, _⟩; dsimp only at *)
    | refine T4.ck (inB_of (by assumption) (by simp only [List.length_cons, List.length_nil]; omega)) ?_
    | refine T4.ite (fun _ => ?_) (fun _ => ?_)
    | exact T4.now ⟨rfl, Cur.le (by assumption) (by omega)⟩
theorem key_tot (hc : Byt c) (hl : c.length ≤ 1048576) {p s b : Int} (h : Cur p s b) (hb : b ≤ 4611686018427380000) :
    Tt (fun k => c37 k [cuA c p s]) fun r => r.2.1 = c ∧ Cur r.2.2.1 r.2.2.2 (b + 7) := by
  refine Tt.st (fun k => g37_eq k c p s) ?_
  repeat' first
    | (refine T4.bind (pick_tot hc hl (by assumption) (by omega) _) ?_; rintro ⟨_, _, _, _⟩ ⟨_, hlt, rfl, _⟩; have hlt := hlt (by decide); dsimp only at *)
    | (refine T4.bind (wide_tot hc hl (by assumption) (by omega) _ (by decide)) ?_; rintro ⟨_, _, _, _⟩ ⟨_, _, rfl, _⟩; dsimp only at *)
    | (refine T4.bind (raw_tot hc hl (by assumption) (by omega)) ?_; rintro ⟨_, _, _, _⟩ ⟨rfl, _⟩; dsimp only at *)
    | refine T4.ck (inB_of (by assumption) (by simp only [List.length_cons, List.length_nil]; omega)) ?_
    | refine T4.ite (fun _ => ?_) (fun _ => ?_)
    | exact T4.now ⟨rfl, Cur.le (by assumption) (by omega)⟩
theorem log_tot (hc : Byt c) (hl : c.length ≤ 1048576) {p s b : Int} (h : Cur p s b) (hb : b ≤ 4611686018427380000) :
    Tt (fun k => c38 k [cuA c p s]) fun r => r.2.1 = c ∧ Cur r.2.2.1 r.2.2.2 (b + 6) := by
  refine Tt.st (fun k => g38_eq k c p s) ?_
  repeat' first
    | (refine T4.bind (pick_tot hc hl (by assumption) (by omega) _) ?_; rintro ⟨_, _, _, _⟩ ⟨_, hlt, rfl, _⟩; have hlt := hlt (by decide); dsimp only at *)
    | (refine T4.bind (raw_tot hc hl (by assumption) (by omega)) ?_; rintro ⟨_, _, _, _⟩ ⟨rfl, _⟩; dsimp only at *)
    | refine T4.ck (inB_of (by assumption) (by simp only [List.length_cons, List.length_nil]; omega)) ?_
    | refine T4.ite (fun _ => ?_) (fun _ => ?_)
    | exact T4.now ⟨rfl, Cur.le (by assumption) (by omega)⟩
theorem badConf_tot (hc : Byt c) (hl : c.length ≤ 1048576) {p s b : Int} (h : Cur p s b) (hb : b ≤ 4611686018427370000) :
    Tt (fun k => c13 k [cuA c p s]) fun r => r.2.2.2.2.1 = c ∧ Cur r.2.2.2.2.2.1 r.2.2.2.2.2.2 (b + 20) := by
  refine Tt.st (fun k => g13_eq k c p s) ?_
  repeat' first
    | (refine T4.bind (conf_tot hc hl (by assumption) (by omega)) ?_; rintro ⟨_, _, _, _, _, _, _⟩ ⟨rfl, _⟩; dsimp only at *)
    | (refine T4.bind (pick_tot hc hl (by assumption) (by omega) _) ?_; rintro ⟨_, _, _, _⟩ ⟨_, hlt, rfl, _⟩; have hlt := hlt (by decide); dsimp only at *)
    | (refine T4.bind (key_tot hc hl (by assumption) (by omega)) ?_; rintro ⟨_, _, _, _⟩ ⟨rfl, _⟩; dsimp only at *)
    | (refine T4.bind (log_tot hc hl (by assumption) (by omega)) ?_; rintro ⟨_, _, _, _⟩ ⟨rfl, _⟩; dsimp only at *)
    | (refine T4.bind (raw_tot hc hl (by assumption) (by omega)) ?_; rintro ⟨_, _, _, _⟩ ⟨rfl, _⟩; dsimp only at *)
    | refine T4.ck (inB_of (by assumption) (by simp only [List.length_cons, List.length_nil]; omega)) ?_
    | refine T4.ite (fun _ => ?_) (fun _ => ?_)
    | exact T4.now ⟨rfl, Cur.le (by assumption) (by omega)⟩
theorem strB_size (xs : List Int) : (strB xs).size = xs.length := by
  show (List.toArray _).size = _
  simp
theorem getD_size {l : List ByteArray} {m : Nat} (h : ∀ x, x ∈ l → x.size ≤ m) (i : Nat) : (l.getD i (⟨#[]⟩ : ByteArray)).size ≤ m := by
  rw [List.getD_eq_getElem?_getD]
  cases e : l[i]? with
  | none => exact Nat.zero_le _
  | some x => exact h x (List.mem_of_getElem? e)
theorem extract_le (s : ByteArray) (a b : Nat) : (s.extract a b).size ≤ s.size := by rw [ByteArray.size_extract]; omega
theorem wordL_tot {c : List Int} (hc : Byt c) (hl : c.length ≤ 1048576) (n : Int) (hn : n ≤ 32) : ∀ (d : Nat) (xs : List Int) (p s b : Int), (xs.length : Int) + d = n → Cur p s b → b + 2 * d ≤ 4611686018427387000 →
    T4 (fun k m _ _ => L40_1 k m n c p s xs) fun r => r.1.size ≤ 32 ∧ r.2.1 = c ∧ Cur r.2.2.1 r.2.2.2 (b + 2 * d)
  | 0, xs, p, s, b, hd, h, hb => by
    refine T4.s1 (fun k m _ _ => L40_1_eq k m _ _ _ _ _) ?_
    exact T4.ite (fun hx => absurd (of_decide_eq_true hx) (by omega)) fun _ => T4.now ⟨by rw [strB_size]; omega, rfl, h.le (by omega)⟩
  | d + 1, xs, p, s, b, hd, h, hb => by
    refine T4.s1 (fun k m _ _ => L40_1_eq k m _ _ _ _ _) ?_
    refine T4.ite (fun _ => ?_) (fun hx => absurd (of_decide_eq_false hx) (by omega))
    refine T4.bind (pick_tot hc hl h (by omega) 3) ?_
    rintro ⟨x1, c1, p1, s1⟩ ⟨a1, b1, e1, h1⟩
    have b1 := b1 (by decide)
    try dsimp only at *
    subst e1
    refine T4.ck (inB_of a1 (by simp only [List.length_cons, List.length_nil]; omega)) ?_
    refine T4.bind (pick_tot hc hl h1 (by omega) _) ?_
    rintro ⟨x2, c2, p2, s2⟩ ⟨a2, b2, e2, h2⟩
    try dsimp only at *
    subst e2
    refine T4.ck (appOk_of (by simp only [List.length_cons, List.length_nil]; omega)) ?_
    exact (wordL_tot hc hl n hn d (xs ++ [wu8 (w64 (97 + x2))]) p2 s2 (b + 1 + 1) (by rw [List.length_append]; simp only [List.length_cons, List.length_nil]; omega) h2 (by omega)).mono fun r hr => ⟨hr.1, hr.2.1, hr.2.2.le (by omega)⟩
theorem word_tot (hc : Byt c) (hl : c.length ≤ 1048576) {p s b : Int} (h : Cur p s b) (hb : b ≤ 4611686018427380000) :
    Tt (fun k => c40 k [cuA c p s]) fun r => r.1.size ≤ 32 ∧ r.2.1 = c ∧ Cur r.2.2.1 r.2.2.2 (b + 66) := by
  refine Tt.st (fun k => g40_eq k c p s) ?_
  refine T4.bind (pick_tot hc hl h (by omega) 4) ?_
  rintro ⟨x1, c1, p1, s1⟩ ⟨a1, b1, e1, h1⟩
  have b1 := b1 (by decide)
  try dsimp only at *
  subst e1
  refine T4.ck (inB_of a1 (by simp only [List.length_cons, List.length_nil]; omega)) ?_
  have hg : 1 ≤ ([3, 5, 8, 32] : List Int).getD x1.toNat 0 ∧ ([3, 5, 8, 32] : List Int).getD x1.toNat 0 ≤ 32 := by
    obtain rfl | rfl | rfl | rfl : x1 = 0 ∨ x1 = 1 ∨ x1 = 2 ∨ x1 = 3 := by omega
    all_goals decide
  refine T4.bind (pick_tot hc hl h1 (by omega) _) ?_
  rintro ⟨x2, c2, p2, s2⟩ ⟨a2, b2, e2, h2⟩
  have b2 := b2 hg.1
  try dsimp only at *
  subst e2
  have ew : w64 (1 + x2) = 1 + x2 := w64_id (by omega) (by omega)
  rw [ew]
  obtain ⟨d, hd⟩ : ∃ d : Nat, (d : Int) = 1 + x2 := ⟨(1 + x2).toNat, by omega⟩
  exact (wordL_tot hc hl (1 + x2) (by omega) d [] p2 s2 (b + 1 + 1) (by simp only [List.length_nil]; omega) h2 (by omega)).e1.mono fun r hr => ⟨hr.1, hr.2.1, hr.2.2.le (by omega)⟩
theorem badWord_tot (hc : Byt c) (hl : c.length ≤ 1048576) {p s b : Int} (h : Cur p s b) (hb : b ≤ 4611686018427370000) :
    Tt (fun k => c43 k [cuA c p s]) fun r => r.1.size ≤ 96 ∧ r.2.1 = c ∧ Cur r.2.2.1 r.2.2.2 (b + 70) := by
  refine Tt.st (fun k => g43_eq k c p s) ?_
  refine T4.bind (word_tot hc hl h (by omega)) ?_
  rintro ⟨w, c1, p1, s1⟩ ⟨hw, e1, h1⟩
  try dsimp only at *
  subst e1
  refine T4.bind (pick_tot hc hl h1 (by omega) _) ?_
  rintro ⟨x1, c1, p1, s1⟩ ⟨a1, b1, e1, h1⟩
  have b1 := b1 (by decide)
  try dsimp only at *
  subst e1
  refine T4.ite (fun _ => ?_) fun _ => T4.ite (fun _ => ?_) fun _ => T4.ite (fun _ => ?_) fun _ => ?_
  · have ew : w64 ((w.size : Int) + 1) = w.size + 1 := w64_id (by omega) (by omega)
    rw [ew]
    refine T4.bind (pick_tot hc hl h1 (by omega) _) ?_
    rintro ⟨x2, c2, p2, s2⟩ ⟨a2, b2, e2, h2⟩
    have b2 := b2 (by omega)
    try dsimp only at *
    subst e2
    refine T4.ck (cutOk_of (by omega) a2 (by omega)) ?_
    refine T4.bind (pick_tot hc hl h2 (by omega) _) ?_
    rintro ⟨x3, c3, p3, s3⟩ ⟨a3, b3, e3, h3⟩
    have b3 := b3 (by decide)
    try dsimp only at *
    subst e3
    have z1 := extract_le w (0 : Int).toNat x2.toNat
    have z2 := extract_le w x2.toNat (w.size : Int).toNat
    have z3 := getD_size (l := [(⟨#[]⟩ : ByteArray), ⟨#[65]⟩, ⟨#[45]⟩, ⟨#[0]⟩, ⟨#[122, 122]⟩, ⟨#[123]⟩]) (m := 2) (by decide) x3.toNat
    refine T4.ck (inB_of a3 (by simp only [List.length_cons, List.length_nil]; omega)) ?_
    refine T4.ck (sumOk_of (by omega)) (T4.ck (cutOk_of a2 (by omega) (by omega)) (T4.ck (sumOk_of (by rw [ByteArray.size_append]; omega)) (T4.now ⟨?_, rfl, h3.le (by omega)⟩)))
    dsimp only
    rw [ByteArray.size_append, ByteArray.size_append]; omega
  · exact T4.now ⟨Nat.zero_le _, rfl, h1.le (by omega)⟩
  · refine T4.ck (sumOk_of (by omega)) ?_
    refine T4.bind (pick_tot hc hl h1 (by omega) _) ?_
    rintro ⟨x2, c2, p2, s2⟩ ⟨a2, b2, e2, h2⟩
    have b2 := b2 (by decide)
    try dsimp only at *
    subst e2
    have hz : (⟨#[97, 97, 97, 97, 97, 97, 97, 97, 97, 97, 97, 97, 97, 97, 97, 97, 97, 97, 97, 97, 97, 97, 97, 97, 97, 97, 97, 97, 97, 97, 97, 97]⟩ : ByteArray).size = 32 := rfl
    have z1 := extract_le (⟨#[97, 97, 97, 97, 97, 97, 97, 97, 97, 97, 97, 97, 97, 97, 97, 97, 97, 97, 97, 97, 97, 97, 97, 97, 97, 97, 97, 97, 97, 97, 97, 97]⟩ : ByteArray) (0 : Int).toNat x2.toNat
    rw [hz] at z1
    refine T4.ck (cutOk_of (by omega) a2 (by rw [hz]; omega)) (T4.ck (sumOk_of (by rw [ByteArray.size_append]; omega)) (T4.now ⟨?_, rfl, h2.le (by omega)⟩))
    dsimp only
    rw [ByteArray.size_append, ByteArray.size_append]; omega
  · exact T4.now ⟨by dsimp only; omega, rfl, h1.le (by omega)⟩
theorem textL_tot {c : List Int} (hc : Byt c) (hl : c.length ≤ 1048576) : ∀ (d : Nat) (t : ByteArray) (p s b : Int), t.size + 99 * d ≤ 1000000 → Cur p s b → b + 100 * d ≤ 4611686018427360000 →
    T4 (fun k m _ _ => L44_1 k m t (d : Int) c p s) fun r => r.1.size ≤ t.size + 99 * d ∧ r.2.1 = c ∧ Cur r.2.2.1 r.2.2.2 (b + 100 * d)
  | 0, t, p, s, b, hd, h, hb => by
    refine T4.s1 (fun k m _ _ => L44_1_eq k m _ _ _ _ _) ?_
    exact T4.ite (fun hx => absurd (of_decide_eq_true hx) (by simp)) fun _ => T4.now ⟨by dsimp only; omega, rfl, h.le (by omega)⟩
  | d + 1, t, p, s, b, hd, h, hb => by
    refine T4.s1 (fun k m _ _ => L44_1_eq k m _ _ _ _ _) ?_
    refine T4.ite (fun _ => ?_) (fun hx => absurd (of_decide_eq_false hx) (by omega))
    refine T4.bind (badWord_tot hc hl h (by omega)) ?_
    rintro ⟨w, c1, p1, s1⟩ ⟨z1, e1, h1⟩
    try dsimp only at *
    subst e1
    refine T4.ck (sumOk_of (by omega)) ?_
    refine T4.bind (pick_tot hc hl h1 (by omega) _) ?_
    rintro ⟨x2, c2, p2, s2⟩ ⟨a2, b2, e2, h2⟩
    have b2 := b2 (by decide)
    try dsimp only at *
    subst e2
    refine T4.ck (inB_of a2 (by simp only [List.length_cons, List.length_nil]; omega)) ?_
    have z3 := getD_size (l := [(⟨#[32]⟩ : ByteArray), ⟨#[10]⟩, ⟨#[32, 32]⟩, ⟨#[9, 32, 13]⟩, ⟨#[32]⟩]) (m := 3) (by decide) x2.toNat
    generalize ([(⟨#[32]⟩ : ByteArray), ⟨#[10]⟩, ⟨#[32, 32]⟩, ⟨#[9, 32, 13]⟩, ⟨#[32]⟩]).getD x2.toNat ⟨#[]⟩ = q at z3
    refine T4.ck (sumOk_of (by rw [ByteArray.size_append]; omega)) ?_
    have ew : w64 (((d + 1 : Nat) : Int) - 1) = (d : Int) := by rw [w64_id (by omega) (by omega)]; omega
    rw [ew]
    refine (textL_tot hc hl d ((t ++ w) ++ q) p2 s2 (b + 70 + 1) (by rw [ByteArray.size_append, ByteArray.size_append]; omega) h2 (by omega)).mono fun r hr => ?_
    rw [ByteArray.size_append, ByteArray.size_append] at hr
    exact ⟨by omega, hr.2.1, hr.2.2.le (by omega)⟩
theorem text_tot (hc : Byt c) (hl : c.length ≤ 1048576) {p s b : Int} (h : Cur p s b) (hb : b ≤ 4611686018427200000) (n : Int) (hn0 : 0 ≤ n) (hn : n ≤ 1000) :
    Tt (fun k => c44 k [cuA c p s, .v (.int .i64 n)]) fun r => r.1.size ≤ 99 * n.toNat ∧ r.2.1 = c ∧ Cur r.2.2.1 r.2.2.2 (b + 1 + 100 * n) := by
  refine Tt.st (fun k => g44_eq k n c p s) ?_
  have ew : w64 (n + 1) = n + 1 := w64_id (by omega) (by omega)
  rw [ew]
  refine T4.bind (pick_tot hc hl h (by omega) _) ?_
  rintro ⟨x1, c1, p1, s1⟩ ⟨a1, b1, e1, h1⟩
  have b1 := b1 (by omega)
  try dsimp only at *
  subst e1
  obtain ⟨d, rfl⟩ : ∃ d : Nat, x1 = (d : Int) := ⟨x1.toNat, by omega⟩
  refine (textL_tot hc hl d ⟨#[]⟩ p1 s1 (b + 1) (by show 0 + _ ≤ _; omega) h1 (by omega)).e1.mono fun r hr => ⟨?_, hr.2.1, hr.2.2.le (by omega)⟩
  have h0 : (⟨#[]⟩ : ByteArray).size = 0 := rfl
  have := hr.1
  rw [h0] at this
  omega
theorem req_tot (hc : Byt c) (hl : c.length ≤ 1048576) {p s b : Int} (h : Cur p s b) (hb : b ≤ 4611686018427100000) :
    Tt (fun k => c42 k [cuA c p s]) fun r => (r.2.1.size ≤ 1000 ∧ r.2.2.2.2.2.2.1.size ≤ 100000 ∧ 0 ≤ r.2.2.2.2.2.1 ∧ r.2.2.2.2.2.1 ≤ 16) ∧ r.2.2.2.2.2.2.2.1 = c ∧ Cur r.2.2.2.2.2.2.2.2.1 r.2.2.2.2.2.2.2.2.2 (b + 5000) := by
  refine Tt.st (fun k => g42_eq k c p s) ?_
  simp only [J42_1_eq, J42_2_eq, J42_3_eq, J42_4_eq]
  repeat' first
    | (refine T4.bind (pick_tot hc hl (by assumption) (by omega) _) ?_; rintro ⟨_, _, _, _⟩ ⟨_, hlt, rfl, _⟩; have hlt := hlt (by decide); try dsimp only at *)
    | (refine T4.bind (wide_tot hc hl (by assumption) (by omega) _ (by decide)) ?_; rintro ⟨_, _, _, _⟩ ⟨_, _, rfl, _⟩; try dsimp only at *)
    | (refine T4.bind (word_tot hc hl (by assumption) (by omega)) ?_; rintro ⟨_, _, _, _⟩ ⟨_, rfl, _⟩; try dsimp only at *)
    | (refine T4.bind (badWord_tot hc hl (by assumption) (by omega)) ?_; rintro ⟨_, _, _, _⟩ ⟨_, rfl, _⟩; try dsimp only at *)
    | (refine T4.bind (once_tot hc hl (by assumption) (by omega) _) ?_; rintro ⟨_, _, _, _⟩ ⟨rfl, _⟩; try dsimp only at *)
    | (rw [w64_id (by omega) (by omega)]; refine T4.bind (text_tot hc hl (by assumption) (by omega) _ (by omega) (by omega)) ?_; rintro ⟨_, _, _, _⟩ ⟨_, rfl, _⟩; try dsimp only at *)
    | refine T4.ck (inB_of (by assumption) (by simp only [List.length_cons, List.length_nil]; omega)) ?_
    | refine T4.ite (fun _ => ?_) (fun _ => ?_)
    | exact T4.now ⟨⟨by first | (dsimp only; omega) | exact Nat.zero_le _, by first | (dsimp only; omega) | exact Nat.zero_le _, by dsimp only; omega, by dsimp only; omega⟩, rfl, Cur.le (by assumption) (by omega)⟩
theorem cur_open (hl : c.length ≤ 1048576) : Tt (fun k => c12 k [.ro 5 c]) fun r => r.1 = c ∧ Cur r.2.1 r.2.2 0 := by
  refine Tt.st (fun k => g12_eq k c) (T4.now ⟨rfl, ?_⟩)
  have ht := tmod_range (a := (c.length : Int)) (n := 1000) (by omega) (by omega)
  have e : w64 (59 + Int.tmod (c.length : Int) 1000) = 59 + Int.tmod (c.length : Int) 1000 := w64_id (by omega) (by omega)
  dsimp only
  rw [e]
  exact ⟨by omega, by omega, by omega, by omega⟩
end
end Go.Proofs.YtefojjhffjpeoaaGreatDoor.V
