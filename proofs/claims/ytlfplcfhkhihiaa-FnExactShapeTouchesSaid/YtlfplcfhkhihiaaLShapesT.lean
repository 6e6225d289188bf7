/- Plain facts on ShapeTouches and ShapeDraws: configurations, powers of two, sums of accesses. -/
import Derived.Test.YtlfplcfhkhihiaaLShapesB
import Derived.Test.YtlfplcfhkhihiaaQBx3
import Derived.Test.YtlfplcfhkhihiaaQBx4
import Derived.Test.YtlfplcfhkhihiaaQBx5
namespace Go.Proofs.Ytlfplcfhkhihiaa.L
open Go.RowKit Go.Proofs.Ytlfplcfhkhihiaa.QB Go.Proofs.YtlfplcfhkhihiaaW.PrintWords Go.Proofs.YtlfplcfhkhihiaaW.PrintLast Go.Proofs.YtlfplcfhkhihiaaW.PrintMore
set_option linter.unusedVariables false
set_option linter.unusedSimpArgs false

def confB (a b c d : Int) : Bool := decide (0 ≤ a ∧ a ≤ 4294967295) && (decide (2 ≤ b ∧ b ≤ 6) && (decide (0 ≤ c ∧ c ≤ 64) && decide (1 ≤ d ∧ d ≤ 64)))
theorem isConf_eq (a b c d : Int) : impl_isConf.f a b c d = some (confB a b c d) := by
  unfold impl_isConf.f impl_isDeepLog.f confB
  simp only [within_eq, Option.bind_some]
  by_cases h1 : 0 ≤ a ∧ a ≤ 4294967295 <;> by_cases h2 : 2 ≤ b ∧ b ≤ 6 <;> by_cases h3 : 0 ≤ c ∧ c ≤ 64 <;> simp [h1, h2, h3]
theorem confOk_eq (a b c d : Int) : spec_ConfOk.f a b c d = some (confB a b c d) := by
  unfold spec_ConfOk.f spec_l16Log.f confB
  by_cases h1 : 0 ≤ a <;> by_cases h1' : a ≤ 4294967295 <;> by_cases h2 : 2 ≤ b <;> by_cases h2' : b ≤ 6 <;> by_cases h3 : 0 ≤ c <;> by_cases h3' : c ≤ 64 <;> by_cases h4 : 1 ≤ d <;> by_cases h4' : d ≤ 64 <;>
    simp [h1, h1', h2, h2', h3, h3', h4, h4']
theorem confB_log {a b c d : Int} (h : confB a b c d = true) : 0 ≤ a ∧ a ≤ 4294967295 ∧ 2 ≤ b ∧ b ≤ 6 ∧ 0 ≤ c ∧ c ≤ 64 ∧ 1 ≤ d ∧ d ≤ 64 := by
  unfold confB at h
  simp only [Bool.and_eq_true, decide_eq_true_eq] at h
  omega

theorem pow2_le {n m : Nat} (h : n ≤ m) : (2 : Int) ^ n ≤ 2 ^ m := by
  have : (2 : Nat) ^ n ≤ 2 ^ m := Nat.pow_le_pow_right (by omega) h
  exact_mod_cast this
theorem pow2_pos (n : Nat) : (1 : Int) ≤ 2 ^ n := by
  have : (1 : Nat) ≤ 2 ^ n := Nat.one_le_two_pow
  exact_mod_cast this
/-- The reference's power of two, by doubling. -/
theorem pow_ev (n : Nat) (hn : n ≤ 61) : Ev (fun k => spec_l02Pow.f k (n : Int)) (2 ^ n) := by
  have key : ∀ m : Nat, m ≤ 61 → ∀ x : Int, 1 ≤ x → x * 2 ^ m ≤ 2305843009213693952 → Ev (fun k => spec_l02Pow.l0 k (m : Int) x) (x * 2 ^ m) := by
    intro m
    induction m with
    | zero =>
      intro hm x h1 h2
      refine Ev.step (f := fun _ => some _) (fun k => ?_) (Ev.now _)
      simp [spec_l02Pow.l0]
    | succ m ih =>
      intro hm x h1 h2
      have e : x * 2 ^ (m + 1) = (2 * x) * 2 ^ m := by rw [Int.pow_succ, Int.mul_comm (2 ^ m) 2, ← Int.mul_assoc, Int.mul_comm x 2]
      have hp := pow2_pos m
      have hx : 2 * x ≤ (2 * x) * 2 ^ m := by have := Int.mul_le_mul_of_nonneg_left hp (show 0 ≤ 2 * x by omega); omega
      refine evVal (Ev.step (fun k => ?_) (ih (by omega) (2 * x) (by omega) (by rw [← e]; exact h2))) e.symm
      simp only [spec_l02Pow.l0]
      rw [if_pos (by omega), wrap_id (by omega) (by omega), wrap_id (by omega) (by omega)]
      congr 1
      omega
  have hle : (1 : Int) * 2 ^ n ≤ 2305843009213693952 := by
    have : (2 : Int) ^ n ≤ 2 ^ 61 := pow2_le hn
    omega
  have := key n hn 1 (by omega) hle
  rw [Int.one_mul] at this
  exact this
theorem shl_pow (x : Int) (n : Nat) (hn : n ≤ 64) : shl .i64 x (n : Int) = wrap64 (x * 2 ^ n) := by
  unfold shl
  rw [Int.toNat_natCast, Nat.min_eq_left (by exact hn), Go.Proofs.YtlfplcfhkhihiaaW.PrintLast.i64_w]
theorem pow_small {b : Int} (h : 2 ≤ b ∧ b ≤ 6) : ∃ n : Nat, b - 2 = (n : Int) ∧ n ≤ 4 ∧ (1 : Int) ≤ 2 ^ n ∧ (2 : Int) ^ n ≤ 16 := by
  refine ⟨(b - 2).toNat, by omega, by omega, ?_, ?_⟩
  · exact pow2_pos _
  · have : (2 : Int) ^ (b - 2).toNat ≤ 2 ^ 4 := pow2_le (by omega)
    omega

def takesS (l : List S25) : Int := sumN (fun x => takesI x.f0 x.f1) l l.length
theorem takesS_range {l : List S25} (h : shapesB l = true) : 0 ≤ takesS l ∧ takesS l ≤ 640 := by
  obtain ⟨h40, ha⟩ := shapes_all h
  have hb := sumN_range (fun x => takesI x.f0 x.f1) 16 (by omega) l (fun x hx => by have := takesI_range (ha x hx); omega) l.length (Nat.le_refl _)
  unfold takesS
  omega

theorem specTakes_ev (l : List S25) (hs : shapesB l = true) : Ev (fun k => spec_l23Takes.f k l) (takesS l) := by
  unfold spec_l23Takes.f takesS
  obtain ⟨h40, ha⟩ := shapes_all hs
  have hb := sumN_range (fun x => takesI x.f0 x.f1) 16 (by omega) l (fun x hx => by have := takesI_range (ha x hx); omega)
  refine loop_ev l.length (fun k s i => spec_l23Takes.l0 k l s i) (sumN (fun x => takesI x.f0 x.f1) l) _ ?_ ?_
  · intro i hi hr
    have h1 := hb i (by omega)
    have hx : l.getD i z25 ∈ l := by rw [getD_lt z25 hi]; exact List.getElem_mem _
    have h2 := takesI_range (ha _ hx)
    have e := evVal (shapeTakes_ev (l.getD i z25).f0 (l.getD i z25).f1) (if_pos (ha _ hx))
    refine Ev.step (fun k => ?_) (Ev.bind e (f := fun k v => spec_l23Takes.l0 k l (wrap64 (sumN (fun x => takesI x.f0 x.f1) l i + v)) ((i + 1 : Nat) : Int)) ?_)
    · simp only [spec_l23Takes.l0, rd_T25, Int.toNat_natCast]
      rw [if_pos (by omega), if_pos (by omega), wrap_nat_succ (by omega)]
    · rw [wrap_id (by omega) (by omega), ← sumN_succ (fun x => takesI x.f0 x.f1) l i hi]
      exact hr
  · refine Ev.step (f := fun _ => some _) (fun k => ?_) (Ev.now _)
    simp only [spec_l23Takes.l0]
    rw [if_neg (by omega)]

theorem implTakes_ev (l : List S25) (hs : shapesB l = true) : Ev (fun k => impl_sumTakes.f k l) (takesS l) := by
  unfold impl_sumTakes.f takesS
  obtain ⟨h40, ha⟩ := shapes_all hs
  have hb := sumN_range (fun x => takesI x.f0 x.f1) 16 (by omega) l (fun x hx => by have := takesI_range (ha x hx); omega)
  refine loop_ev l.length (fun k s i => impl_sumTakes.l0 k s l (l.length : Int) i) (sumN (fun x => takesI x.f0 x.f1) l) _ ?_ ?_
  · intro i hi hr
    have h1 := hb i (by omega)
    have hx : l.getD i z25 ∈ l := by rw [getD_lt z25 hi]; exact List.getElem_mem _
    have h2 := takesI_range (ha _ hx)
    refine Ev.step (fun k => ?_) hr
    simp only [impl_sumTakes.l0, rd_T25, Int.toNat_natCast, takes_eq, Option.bind_some]
    rw [if_pos (by omega), if_pos (by omega), if_pos (by omega), wrap_nat_succ (by omega), wrap_id (by omega) (by omega), sumN_succ _ l i hi]
  · refine Ev.step (f := fun _ => some _) (fun k => ?_) (Ev.now _)
    simp only [impl_sumTakes.l0]
    rw [if_neg (by omega)]

def touchesI (b : Int) (l : List S25) : Int × Int := (wrap64 (wrap64 (2 * (b - 1)) * wrap64 (2 ^ (b - 2).toNat + takesS l)), wrap64 (wrap64 (2 * (b + 1)) * takesS l))
theorem specShapeTouches_ev (a b c d : Int) (l : List S25) (hl : l.length ≤ 9223372036854775807) : Ev (fun k => spec_ShapeTouches.f k a b c d l) (if confB a b c d && shapesB l then touchesI b l else (-1, -1)) := by
  unfold spec_ShapeTouches.f
  simp only [confOk_eq, Option.bind_some]
  cases hc : confB a b c d with
  | false =>
    simp only [Bool.false_eq_true, if_false, Bool.false_and]
    exact Ev.step (fun k => by simp only [spec_ShapeTouches.j0, if_true]) (Ev.now _)
  | true =>
    simp only [if_true, Bool.true_and]
    refine Ev.bind (specShapesOk_ev l hl) ?_
    cases hs : shapesB l with
    | false =>
      simp only [Bool.false_eq_true, if_false]
      exact Ev.step (fun k => by simp only [spec_ShapeTouches.j0, Bool.not_false, if_true]) (Ev.now _)
    | true =>
      simp only [if_true]
      have hb := confB_log hc
      obtain ⟨n, e, hn, hp, hp'⟩ := pow_small (b := b) (by omega)
      refine Ev.step (fun k => by simp only [spec_ShapeTouches.j0, Bool.not_true, Bool.false_eq_true, if_false]; rw [wrap_id (x := b - 2) (by omega) (by omega), wrap_id (x := b - 1) (by omega) (by omega), wrap_id (x := b + 1) (by omega) (by omega), e]) ?_
      refine Ev.bind (specTakes_ev l hs) ?_
      refine Ev.bind (pow_ev n (by omega)) ?_
      unfold touchesI
      rw [e, Int.toNat_natCast]
      exact Ev.now _

theorem implShapeTouches_ev (a b c d : Int) (l : List S25) (hl : l.length ≤ 9223372036854775807) : Ev (fun k => impl_ShapeTouches.f k a b c d l) (if confB a b c d && shapesB l then touchesI b l else (-1, -1)) := by
  unfold impl_ShapeTouches.f
  simp only [isConf_eq, areShapes_eq, Option.bind_some]
  cases hc : confB a b c d with
  | false => simp only [Bool.false_eq_true, if_false, Bool.false_and]; exact Ev.now _
  | true =>
    simp only [if_true, Bool.true_and]
    cases hs : shapesB l with
    | false => simp only [Bool.false_eq_true, if_false]; exact Ev.now _
    | true =>
      simp only [if_true]
      have hb := confB_log hc
      obtain ⟨n, e, hn, hp, hp'⟩ := pow_small (b := b) (by omega)
      refine Ev.bind (implTakes_ev l hs) ?_
      unfold touchesI
      have ht := takesS_range hs
      rw [wrap_id (x := b - 2) (by omega) (by omega), wrap_id (x := b - 1) (by omega) (by omega), wrap_id (x := b + 1) (by omega) (by omega), e, Int.toNat_natCast, shl_pow 1 n (by omega), Int.one_mul, wrap_id (x := 2 ^ n) (by omega) (by omega), Int.add_comm (takesS l)]
      simp only [Int.natCast_nonneg, if_true]
      exact Ev.now _

def drawsI (b : Int) (l : List S25) : Int := 6 * 2 ^ (b - 2).toNat + 2 * takesS l
theorem specShapeDraws_ev (a b c d : Int) (l : List S25) (hl : l.length ≤ 9223372036854775807) : Ev (fun k => spec_ShapeDraws.f k a b c d l) (if confB a b c d && shapesB l then drawsI b l else -1) := by
  unfold spec_ShapeDraws.f
  simp only [confOk_eq, Option.bind_some]
  cases hc : confB a b c d with
  | false =>
    simp only [Bool.false_eq_true, if_false, Bool.false_and]
    exact Ev.step (fun k => by simp only [spec_ShapeDraws.j0, if_true]) (Ev.now _)
  | true =>
    simp only [if_true, Bool.true_and]
    refine Ev.bind (specShapesOk_ev l hl) ?_
    cases hs : shapesB l with
    | false =>
      simp only [Bool.false_eq_true, if_false]
      exact Ev.step (fun k => by simp only [spec_ShapeDraws.j0, Bool.not_false, if_true]) (Ev.now _)
    | true =>
      simp only [if_true]
      have hb := confB_log hc
      obtain ⟨n, e, hn, hp, hp'⟩ := pow_small (b := b) (by omega)
      have ht := takesS_range hs
      have hd : Ev (fun k => spec_DeepDraws.f k b) (6 * 2 ^ n) := by
        unfold spec_DeepDraws.f spec_l16Log.f
        simp only [if_pos (show b ≥ 2 by omega), Option.bind_some, show b ≤ 6 by omega, decide_true, if_true, e, wrap_id (x := (n : Int)) (by omega) (by omega)]
        refine Ev.bind (pow_ev n (by omega)) ?_
        rw [wrap_id (by omega) (by omega)]
        exact Ev.now _
      refine Ev.step (fun k => by simp only [spec_ShapeDraws.j0, Bool.not_true, Bool.false_eq_true, if_false]; exact rfl) ?_
      refine Ev.bind hd ?_
      refine Ev.bind (specTakes_ev l hs) ?_
      unfold drawsI
      rw [e, Int.toNat_natCast, wrap_id (x := 2 * takesS l) (by omega) (by omega), wrap_id (by omega) (by omega)]
      exact Ev.now _

theorem implShapeDrawsOf_ev {b : Int} (a c d : Int) (l : List S25) (hb : 2 ≤ b ∧ b ≤ 6) (hs : shapesB l = true) : Ev (fun k => impl_shapeDraws.f k a b c d l) (drawsI b l) := by
  obtain ⟨n, e, hn, hp, hp'⟩ := pow_small hb
  have ht := takesS_range hs
  unfold impl_shapeDraws.f
  rw [wrap_id (x := b - 2) (by omega) (by omega), e]
  simp only [Int.natCast_nonneg, if_true]
  refine Ev.bind (implTakes_ev l hs) ?_
  unfold drawsI
  rw [e, Int.toNat_natCast, shl_pow 6 n (by omega), wrap_id (x := 6 * 2 ^ n) (by omega) (by omega), wrap_id (x := 2 * takesS l) (by omega) (by omega), wrap_id (by omega) (by omega)]
  exact Ev.now _

theorem implShapeDraws_ev (a b c d : Int) (l : List S25) (hl : l.length ≤ 9223372036854775807) : Ev (fun k => impl_ShapeDraws.f k a b c d l) (if confB a b c d && shapesB l then drawsI b l else -1) := by
  unfold impl_ShapeDraws.f
  simp only [isConf_eq, areShapes_eq, Option.bind_some]
  cases hc : confB a b c d with
  | false => simp only [Bool.false_eq_true, if_false, Bool.false_and]; exact Ev.now _
  | true =>
    simp only [if_true, Bool.true_and]
    cases hs : shapesB l with
    | false => simp only [Bool.false_eq_true, if_false]; exact Ev.now _
    | true =>
      simp only [if_true]
      have hb := confB_log hc
      exact Ev.bind (implShapeDrawsOf_ev a c d l (by omega) hs) (Ev.now _)
end Go.Proofs.Ytlfplcfhkhihiaa.L
