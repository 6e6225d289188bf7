/- Plain facts on ShapeBytes: the sum of the replies' sizes. -/
import Derived.Test.YtlfplcfhkhihiaaLShapesS
import Derived.Test.YtlfplcfhkhihiaaQBx2
namespace Go.Proofs.Ytlfplcfhkhihiaa.L
open Go.RowKit Go.Proofs.Ytlfplcfhkhihiaa.QB Go.Proofs.YtlfplcfhkhihiaaW.PrintWords Go.Proofs.YtlfplcfhkhihiaaW.PrintLast Go.Proofs.YtlfplcfhkhihiaaW.PrintMore
set_option linter.unusedVariables false
set_option linter.unusedSimpArgs false

def sizeI (a b : Int) : Int := if a = 1 then 4 else if a = 2 then 297 else 1 + b
theorem sizeI_range {a b : Int} (h : shapeB a b = true) : 1 ≤ sizeI a b ∧ sizeI a b ≤ 297 := by
  have hr := shape_range h
  unfold sizeI
  split
  · omega
  · split <;> omega
theorem replySize_eq {a b : Int} (h : shapeB a b = true) : impl_replySize.f a b = some (sizeI a b) := by
  have hr := shape_range h
  unfold impl_replySize.f sizeI
  rw [wrap_id (by omega) (by omega)]
  split
  · rfl
  · split <;> rfl
theorem specReplySize_eq {a b : Int} (h : shapeB a b = true) : spec_ReplySize.f a b = some (sizeI a b) := by
  have hr := shape_range h
  unfold spec_ReplySize.f sizeI
  rw [l18Shape_eq, Option.bind_some, if_pos h, wrap_id (by omega) (by omega)]
  split
  · rfl
  · split <;> rfl

/-- A sum over the first elements. -/
def sumN (g : S25 → Int) (l : List S25) (i : Nat) : Int := (l.take i).foldl (fun a x => a + g x) 0
theorem sumN_succ (g : S25 → Int) (l : List S25) (i : Nat) (h : i < l.length) : sumN g l (i + 1) = sumN g l i + g (l.getD i z25) := by
  unfold sumN
  rw [List.take_succ_eq_append_getElem h, List.foldl_append, getD_lt z25 h]
  rfl
theorem sumN_range (g : S25 → Int) (m : Int) (hm : 0 ≤ m) (l : List S25) (hg : ∀ x, x ∈ l → 0 ≤ g x ∧ g x ≤ m) : ∀ i, i ≤ l.length → 0 ≤ sumN g l i ∧ sumN g l i ≤ i * m := by
  intro i
  induction i with
  | zero => intro _; simp [sumN]
  | succ i ih =>
    intro h
    have h1 := ih (by omega)
    have h2 := hg (l.getD i z25) (by rw [getD_lt z25 (by omega)]; exact List.getElem_mem _)
    rw [sumN_succ g l i (by omega)]
    have : ((i + 1 : Nat) : Int) * m = i * m + m := by rw [Int.natCast_add]; simp [Int.add_mul]
    omega
theorem shapes_all {l : List S25} (h : shapesB l = true) : l.length ≤ 40 ∧ ∀ x, x ∈ l → shapeB x.f0 x.f1 = true := by
  unfold shapesB at h
  rw [Bool.and_eq_true] at h
  exact ⟨of_decide_eq_true h.1, fun x hx => List.all_eq_true.1 h.2 x hx⟩

def bytesI (l : List S25) : Int := if shapesB l then sumN (fun x => sizeI x.f0 x.f1) l l.length else -1

theorem specShapeBytes_ev (l : List S25) (hl : l.length ≤ 9223372036854775807) : Ev (fun k => spec_ShapeBytes.f k l) (bytesI l) := by
  unfold spec_ShapeBytes.f bytesI
  refine Ev.bind (specShapesOk_ev l hl) ?_
  cases hs : shapesB l with
  | false => simp only [Bool.false_eq_true, if_false]; exact Ev.now _
  | true =>
    obtain ⟨h40, ha⟩ := shapes_all hs
    simp only [if_true]
    have hb := sumN_range (fun x => sizeI x.f0 x.f1) 297 (by omega) l (fun x hx => by have := sizeI_range (ha x hx); omega)
    refine loop_ev l.length (fun k s i => spec_ShapeBytes.l0 k l s i) (sumN (fun x => sizeI x.f0 x.f1) l) _ ?_ ?_
    · intro i hi hr
      refine Ev.step (fun k => ?_) hr
      have h1 := hb i (by omega)
      have hx : l.getD i z25 ∈ l := by rw [getD_lt z25 hi]; exact List.getElem_mem _
      have h2 := sizeI_range (ha _ hx)
      simp only [spec_ShapeBytes.l0, rd_T25, Int.toNat_natCast]
      rw [specReplySize_eq (ha _ hx), Option.bind_some, if_pos (by omega), if_pos (by omega), wrap_nat_succ (by omega), wrap_id (by omega) (by omega), sumN_succ _ l i hi]
    · refine Ev.step (f := fun _ => some _) (fun k => ?_) (Ev.now _)
      simp only [spec_ShapeBytes.l0]
      rw [if_neg (by omega)]

theorem implShapeBytes_ev (l : List S25) (hl : l.length ≤ 9223372036854775807) : Ev (fun k => impl_ShapeBytes.f k l) (bytesI l) := by
  unfold impl_ShapeBytes.f bytesI
  simp only [areShapes_eq, Option.bind_some]
  cases hs : shapesB l with
  | false => simp only [Bool.false_eq_true, if_false]; exact Ev.now _
  | true =>
    obtain ⟨h40, ha⟩ := shapes_all hs
    simp only [if_true]
    have hb := sumN_range (fun x => sizeI x.f0 x.f1) 297 (by omega) l (fun x hx => by have := sizeI_range (ha x hx); omega)
    refine loop_ev l.length (fun k s i => impl_ShapeBytes.l0 k s l (l.length : Int) i) (sumN (fun x => sizeI x.f0 x.f1) l) _ ?_ ?_
    · intro i hi hr
      refine Ev.step (fun k => ?_) hr
      have h1 := hb i (by omega)
      have hx : l.getD i z25 ∈ l := by rw [getD_lt z25 hi]; exact List.getElem_mem _
      have h2 := sizeI_range (ha _ hx)
      simp only [impl_ShapeBytes.l0, rd_T25, Int.toNat_natCast]
      rw [replySize_eq (ha _ hx), Option.bind_some, if_pos (by omega), if_pos (by omega), if_pos (by omega), wrap_nat_succ (by omega), wrap_id (by omega) (by omega), sumN_succ _ l i hi]
    · refine Ev.step (f := fun _ => some _) (fun k => ?_) (Ev.now _)
      simp only [impl_ShapeBytes.l0]
      rw [if_neg (by omega)]
end Go.Proofs.Ytlfplcfhkhihiaa.L
