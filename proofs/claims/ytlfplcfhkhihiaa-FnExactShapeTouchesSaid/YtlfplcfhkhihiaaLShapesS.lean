/- Plain facts on the functions over lists of shapes: how many, copied, compared; whether all are shapes; sums over them. -/
import Derived.Test.YtlfplcfhkhihiaaLShapes
import Derived.Test.YtlfplcfhkhihiaaQBx1
import Derived.Test.YtlfplcfhkhihiaaQBx2
namespace Go.Proofs.Ytlfplcfhkhihiaa.L
open Go.RowKit Go.Proofs.Ytlfplcfhkhihiaa.QB Go.Proofs.YtlfplcfhkhihiaaW.PrintWords Go.Proofs.YtlfplcfhkhihiaaW.PrintLast Go.Proofs.YtlfplcfhkhihiaaW.PrintMore
set_option linter.unusedVariables false
set_option linter.unusedSimpArgs false

theorem szShapeS_eq (l : List S23) (h : l.length ≤ 9223372036854775807) : laws_szShapeS.f l 1048576 = some (if l.length ≤ 1048576 then 1048576 - (l.length : Int) else -1) := by
  unfold laws_szShapeS.f
  rw [wrap_id (by omega) (by omega)]
  by_cases hl : l.length ≤ 1048576
  · rw [if_neg (by omega), if_pos hl]
  · rw [if_pos (by omega), if_neg hl]

def toSh (x : S23) : S25 := ⟨x.f0, x.f1⟩
theorem toShapeS_ev (l : List S23) (h : l.length ≤ 1048576) : Ev (fun k => laws_toShapeS.f k l) (l.map toSh) := by
  unfold laws_toShapeS.f
  simp only [Int.natCast_nonneg, if_true, Int.toNat_natCast, show l.length ≤ 17592186044416 by omega]
  rw [← map_range l z23 toSh]
  refine fill_ev l.length z25 (fun k x3 i => laws_toShapeS.l0 k l x3 i) (fun i => toSh (l.getD i z23)) ?_ ?_
  · intro i x3 hi hl r hr
    refine Ev.step (fun k => ?_) hr
    simp only [laws_toShapeS.l0, laws_toShape.f, Option.bind_some]
    rw [if_pos (by omega), if_pos (by omega), if_pos (by omega), wrap_nat_succ (by omega)]
    rfl
  · intro x3 hl
    refine Ev.step (f := fun _ => some x3) (fun k => ?_) (Ev.now _)
    simp only [laws_toShapeS.l0]
    rw [if_neg (by omega)]

theorem eqShapeS_ev (l : List S25) (h : l.length ≤ 9223372036854775807) : Ev (fun k => laws_eqShapeS.f k l l) true := by
  unfold laws_eqShapeS.f
  simp only [if_true]
  refine loop_ev l.length (fun k (_ : Unit) i => laws_eqShapeS.l0 k l l i) (fun _ => ()) true ?_ ?_
  · intro i hi hr
    refine Ev.step (fun k => ?_) hr
    simp only [laws_eqShapeS.l0, laws_eqShape.f, if_true, Option.bind_some]
    rw [if_pos (by omega), if_pos (by omega), if_pos (by omega), wrap_nat_succ (by omega)]
  · refine Ev.step (f := fun _ => some true) (fun k => ?_) (Ev.now _)
    simp only [laws_eqShapeS.l0]
    rw [if_neg (by omega)]

def shapesB (l : List S25) : Bool := decide (l.length ≤ 40) && l.all fun x => shapeB x.f0 x.f1

theorem specShapesOk_ev (l : List S25) (h : l.length ≤ 9223372036854775807) : Ev (fun k => spec_ShapesOk.f k l) (shapesB l) := by
  unfold spec_ShapesOk.f shapesB
  by_cases h4 : (l.length : Int) > 40
  · simp only [if_pos h4, show ¬ l.length ≤ 40 by omega, decide_false, Bool.false_and]
    exact Ev.now _
  · simp only [if_neg h4, show l.length ≤ 40 by omega, decide_true, Bool.true_and]
    rw [← all_range l z25 (fun x => shapeB x.f0 x.f1)]
    refine evVal (search_ev l.length (fun k i => spec_ShapesOk.l0 k l i) (fun i => shapeB (l.getD i z25).f0 (l.getD i z25).f1) false true ?_ ?_ ?_) ?_
    · intro i hi hp r hr
      refine Ev.step (fun k => ?_) hr
      simp only [spec_ShapesOk.l0, l18Shape_eq, Option.bind_some, rd_T25, Int.toNat_natCast, hp, if_true]
      rw [if_pos (by omega), if_pos (by omega), wrap_nat_succ (by omega)]
    · intro i hi hp
      refine Ev.step (f := fun _ => some false) (fun k => ?_) (Ev.now _)
      simp only [spec_ShapesOk.l0, l18Shape_eq, Option.bind_some, rd_T25, Int.toNat_natCast, hp]
      rw [if_pos (by omega), if_pos (by omega)]
      rfl
    · refine Ev.step (f := fun _ => some true) (fun k => ?_) (Ev.now _)
      simp only [spec_ShapesOk.l0]
      rw [if_neg (by omega)]
    · cases (List.range l.length).all _ <;> rfl

/-- 'idxF' at a predicate that always answers. -/
theorem idxF_some {α : Type} {p : α → Option Bool} {q : α → Bool} : ∀ (l : List α) (i : Nat), (∀ x, x ∈ l → p x = some (q x)) → ∃ j : Int, idxF p l i = some j ∧ (decide (0 ≤ j) = l.any q)
  | [], _, _ => ⟨-1, rfl, rfl⟩
  | x :: xs, i, h => by
    unfold idxF
    rw [h x (List.mem_cons_self ..), Option.bind_some]
    cases hq : q x with
    | true => exact ⟨i, by simp, by simp [hq]⟩
    | false =>
      obtain ⟨j, h1, h2⟩ := idxF_some xs (i + 1) (fun y hy => h y (List.mem_cons_of_mem _ hy))
      exact ⟨j, by simpa using h1, by simpa [hq] using h2⟩
theorem contF_some {α : Type} {p : α → Option Bool} {q : α → Bool} (l : List α) (h : ∀ x, x ∈ l → p x = some (q x)) : contF p l = some (l.any q) := by
  obtain ⟨j, h1, h2⟩ := idxF_some l 0 h
  unfold contF
  rw [h1, Option.bind_some, h2]

theorem areShapes_eq (l : List S25) : impl_areShapes.f l = some (shapesB l) := by
  unfold impl_areShapes.f shapesB
  rw [contF_some (q := fun x => !shapeB x.f0 x.f1) l (fun x _ => by unfold impl_areShapes_1.f; rw [isShape_eq]; rfl)]
  by_cases h : (l.length : Int) ≤ 40
  · rw [if_pos h, Option.bind_some]
    simp only [show l.length ≤ 40 by omega, decide_true, Bool.true_and]
    congr 1
    rw [List.not_any_eq_all_not]
    simp
  · rw [if_neg h]
    simp only [show ¬ l.length ≤ 40 by omega, decide_false, Bool.false_and]
end Go.Proofs.Ytlfplcfhkhihiaa.L
