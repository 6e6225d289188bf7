/- Part of the proof of the law FnExactShapesOf: what it uses of the texts that this session and the kit's print wrote. -/
import Derived.Test.YtpkmhdeimedhgaaZFnExactShapesOfWWords
import Derived.Test.YtpkmhdeimedhgaaZFnExactShapesOfWMore
import Derived.Test.YtpkmhdeimedhgaaZFnExactShapesOfOpen
namespace Go.Proofs.Ytpkmhdeimedhgaa.L
open Go.RowKit Go.Proofs.YtpkmhdeimedhgaaW.PrintWords Go.Proofs.YtpkmhdeimedhgaaW.PrintMore
set_option linter.unusedVariables false
set_option linter.unusedSimpArgs false
theorem wrap_id {x : Int} (h0 : -9223372036854775808 ≤ x) (h1 : x ≤ 9223372036854775807) : wrap64 x = x := by unfold wrap64; omega
theorem wrap_nat_succ {i : Nat} (h : i < 9223372036854775807) : wrap64 ((i : Int) + 1) = ((i + 1 : Nat) : Int) := by unfold wrap64; omega
theorem evVal {α : Type} {g : Nat → Option α} {r r' : α} (h : Ev g r) (e : r = r') : Ev g r' := e ▸ h
theorem loop_ev {σ ρ : Type} (n : Nat) (G : Nat → σ → Int → Option ρ) (s : Nat → σ) (r : ρ)
    (hstep : ∀ i, i < n → Ev (fun k => G k (s (i + 1)) ((i + 1 : Nat) : Int)) r → Ev (fun k => G k (s i) (i : Int)) r)
    (hend : Ev (fun k => G k (s n) (n : Int)) r) : Ev (fun k => G k (s 0) 0) r := by
  have key : ∀ d i, i + d = n → Ev (fun k => G k (s i) (i : Int)) r := by
    intro d
    induction d with
    | zero => intro i h; obtain rfl : i = n := by omega
              exact hend
    | succ d ih => intro i h; exact hstep i (by omega) (ih (i + 1) (by omega))
  exact key n 0 (by omega)
theorem search_ev {ρ : Type} (n : Nat) (G : Nat → Int → Option ρ) (p : Nat → Bool) (rno ryes : ρ)
    (hgo : ∀ i, i < n → p i = true → ∀ r, Ev (fun k => G k ((i + 1 : Nat) : Int)) r → Ev (fun k => G k (i : Int)) r)
    (hstop : ∀ i, i < n → p i = false → Ev (fun k => G k (i : Int)) rno)
    (hend : Ev (fun k => G k (n : Int)) ryes) : Ev (fun k => G k 0) (if (List.range n).all p then ryes else rno) := by
  have key : ∀ d i, i + d = n → Ev (fun k => G k (i : Int)) (if ((List.range n).drop i).all p then ryes else rno) := by
    intro d
    induction d with
    | zero =>
      intro i h
      obtain rfl : i = n := by omega
      rw [List.drop_of_length_le (by simp)]
      exact hend
    | succ d ih =>
      intro i h
      have hi : i < n := by omega
      rw [List.drop_eq_getElem_cons (by simpa using hi), List.getElem_range, List.all_cons]
      cases hp : p i with
      | true => simpa using hgo i hi hp _ (ih (i + 1) (by omega))
      | false => simpa using hstop i hi hp
  have := key n 0 (by omega)
  simpa using this
theorem all_range {α : Type} (l : List α) (z : α) (q : α → Bool) : (List.range l.length).all (fun i => q (l.getD i z)) = l.all q := by
  induction l with
  | nil => rfl
  | cons x xs ih =>
    rw [List.length_cons, List.range_succ_eq_map, List.all_cons, List.all_map, List.all_cons, ← ih]
    rfl
theorem fill_ev {β : Type} (n : Nat) (z : β) (G : Nat → List β → Int → Option (List β)) (b : Nat → β)
    (hstep : ∀ i x3, i < n → x3.length = n → ∀ r, Ev (fun k => G k (x3.set i (b i)) ((i + 1 : Nat) : Int)) r → Ev (fun k => G k x3 (i : Int)) r)
    (hend : ∀ x3 : List β, x3.length = n → Ev (fun k => G k x3 (n : Int)) x3) : Ev (fun k => G k (List.replicate n z) 0) ((List.range n).map b) := by
  have key : ∀ d i x3, i + d = n → x3.length = n → (∀ j, j < i → x3[j]? = some (b j)) → Ev (fun k => G k x3 (i : Int)) ((List.range n).map b) := by
    intro d
    induction d with
    | zero =>
      intro i x3 h hl hx
      obtain rfl : i = n := by omega
      refine evVal (hend x3 hl) ?_
      apply List.ext_getElem?
      intro j
      by_cases hj : j < i
      · rw [hx j hj]; simp [hj]
      · rw [List.getElem?_eq_none (by omega), List.getElem?_eq_none (by simp; omega)]
    | succ d ih =>
      intro i x3 h hl hx
      refine hstep i x3 (by omega) hl _ (ih (i + 1) _ (by omega) (by simpa using hl) (fun j hj => ?_))
      by_cases e : j = i
      · subst e; rw [List.getElem?_set_self (by omega)]
      · rw [List.getElem?_set_ne (by omega)]; exact hx j (by omega)
  exact key n 0 _ (by omega) (by simp) (fun j hj => absurd hj (Nat.not_lt_zero _))
theorem map_range {α β : Type} (l : List α) (z : α) (t : α → β) : (List.range l.length).map (fun i => t (l.getD i z)) = l.map t := by
  apply List.ext_getElem?
  intro i
  by_cases hi : i < l.length
  · simp [hi, List.getD]
  · simp [hi]
theorem getD_lt {α : Type} {l : List α} {i : Nat} (z : α) (h : i < l.length) : l.getD i z = l[i] := by simp [List.getD, h]
end Go.Proofs.Ytpkmhdeimedhgaa.L
