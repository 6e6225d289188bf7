/- Part of the proof of the law FnIdsBook: what it uses of the texts that this session and the kit's print wrote. -/
import Derived.Test.YtbpffdhkeinmcaaDoorZFnIdsBookx0
import Derived.Test.YtbpffdhkeinmcaaDoorZFnIdsBookx2
import Derived.Test.YtbpffdhkeinmcaaDoorZFnIdsBookx3
import Derived.Test.YtbpffdhkeinmcaaDoorZFnIdsBookx4
import Derived.Test.YtbpffdhkeinmcaaDoorZFnIdsBookx5
import Derived.Test.YtbpffdhkeinmcaaDoorZFnIdsBookx6
import Derived.Test.YtbpffdhkeinmcaaDoorZFnIdsBookx7
import Derived.Test.YtbpffdhkeinmcaaDoorZFnIdsBookx8
import Derived.Test.YtbpffdhkeinmcaaDoorZFnIdsBookx9
import Derived.Test.YtbpffdhkeinmcaaDoorZFnIdsBookx10
import Derived.Test.YtbpffdhkeinmcaaDoorZFnIdsBookx11
import Derived.Test.YtbpffdhkeinmcaaDoorZFnIdsBookx12
import Derived.Test.YtbpffdhkeinmcaaDoorZFnIdsBookx13
import Derived.Lib.MapLaws
import Derived.Lib.FieldsP
import Derived.Laws.BitsLemmas
namespace Go.Proofs.YtbpffdhkeinmcaaDoor.L
open Go.RowKit Go.Proofs.YtbpffdhkeinmcaaDoorW.PrintWords Go.Proofs.YtbpffdhkeinmcaaDoorW.PrintMore
set_option linter.unusedVariables false
set_option linter.unusedSimpArgs false
theorem wrap_id {x : Int} (h0 : -9223372036854775808 ≤ x) (h1 : x ≤ 9223372036854775807) : wrap64 x = x := by unfold wrap64; omega
theorem wrap_nat_succ {i : Nat} (h : i < 9223372036854775807) : wrap64 ((i : Int) + 1) = ((i + 1 : Nat) : Int) := by unfold wrap64; omega
theorem evVal {α : Type} {g : Nat → Option α} {r r' : α} (h : Ev g r) (e : r = r') : Ev g r' := e ▸ h
theorem evConst {α : Type} {o : Option α} {r : α} (h : o = some r) : Ev (fun _ => o) r := ⟨0, fun _ _ => h⟩
theorem loop_ev {σ ρ : Type} (n : Nat) (G : Nat → σ → Int → Option ρ) (s : Nat → σ) (r : ρ)
  (hstep : ∀ i, i < n → Ev (fun k => G k (s (i + 1)) ((i + 1 : Nat) : Int)) r → Ev (fun k => G k (s i) (i : Int)) r)
  (hend : Ev (fun k => G k (s n) (n : Int)) r) : Ev (fun k => G k (s 0) 0) r := by
 have key : ∀ d i, i + d = n → Ev (fun k => G k (s i) (i : Int)) r := by
  intro d
  induction d with
  | zero =>
   intro i h
   obtain rfl : i = n := by omega
   exact hend
  | succ d ih => intro i h; exact hstep i (by omega) (ih (i + 1) (by omega))
 exact key n 0 (by omega)
theorem search_ev {ρ : Type} (n : Nat) (G : Nat → Int → Option ρ) (p : Nat → Bool) (rno ryes : ρ)
  (hgo : ∀ i, i < n → p i = true → ∀ r, Ev (fun k => G k ((i + 1 : Nat) : Int)) r → Ev (fun k => G k (i : Int)) r)
  (hstop : ∀ i, i < n → p i = false → Ev (fun k => G k (i : Int)) rno)
  (hend : Ev (fun k => G k (n : Int)) ryes) : Ev (fun k => G k 0) (if (List.range n).all p then ryes else rno) := by
 have key : ∀ d i, i + d = n → Ev (fun k => G k (i : Int)) (if ((List.range n).drop i).all p then ryes else rno) := by
  intro d
  induction d with
  | zero =>
   intro i h
   (obtain rfl : i = n := by omega); (rw [List.drop_of_length_le (by simp)])
   exact hend
  | succ d ih =>
   intro i h
   (have hi : i < n := by omega); (rw [List.drop_eq_getElem_cons (by simpa using hi), List.getElem_range, List.all_cons])
   cases hp : p i with
   | true => simpa using hgo i hi hp _ (ih (i + 1) (by omega))
   | false => simpa using hstop i hi hp
 have := key n 0 (by omega)
 simpa using this
theorem all_range {α : Type} (l : List α) (z : α) (q : α → Bool) : (List.range l.length).all (fun i => q (l.getD i z)) = l.all q := by
 induction l with
 | nil => rfl
 | cons x xs ih =>
  rw [List.length_cons, List.range_succ_eq_map, List.all_cons, List.all_map, List.all_cons, ← ih]
  rfl
theorem getD_lt {α : Type} {l : List α} {i : Nat} (z : α) (h : i < l.length) : l.getD i z = l[i] := by simp [List.getD, h]
end Go.Proofs.YtbpffdhkeinmcaaDoor.L
namespace Go.Proofs.YtbpffdhkeinmcaaDoor.L
open Go.RowKit Go.Proofs.YtbpffdhkeinmcaaDoorW.PrintWords Go.Proofs.YtbpffdhkeinmcaaDoorW.PrintLast Go.Proofs.YtbpffdhkeinmcaaDoorW.PrintMore
set_option linter.unusedVariables false
set_option linter.unusedSimpArgs false
def Byt (l : List Int) : Prop := ∀ x, x ∈ l → 0 ≤ x ∧ x ≤ 255
theorem rd_byt {l : List Int} (h : Byt l) (i : Int) : 0 ≤ rd l i ∧ rd l i ≤ 255 := by
 unfold rd
 rw [List.getD_eq_getElem?_getD]
 cases e : l[i.toNat]? with
 | none => simp
 | some x => exact h x (List.mem_of_getElem? e)
end Go.Proofs.YtbpffdhkeinmcaaDoor.L
namespace Go.Proofs.YtbpffdhkeinmcaaDoor.L
open Go.RowKit Go.Proofs.YtbpffdhkeinmcaaDoor.QE Go.Proofs.YtbpffdhkeinmcaaDoorW.PrintWords Go.Proofs.YtbpffdhkeinmcaaDoorW.PrintLast Go.Proofs.YtbpffdhkeinmcaaDoorW.PrintMore
set_option linter.unusedVariables false
set_option linter.unusedSimpArgs false
def Cur (p s b : Int) : Prop := 0 ≤ p ∧ p ≤ b ∧ 0 ≤ s ∧ s ≤ 65521
theorem Cur.le {p s b b' : Int} (h : Cur p s b) (hb : b ≤ b') : Cur p s b' := ⟨h.1, Int.le_trans h.2.1 hb, h.2.2⟩
theorem tmod_range {a n : Int} (ha : 0 ≤ a) (hn : 0 < n) : 0 ≤ Int.tmod a n ∧ Int.tmod a n < n := by
 rw [Int.tmod_eq_emod_of_nonneg ha]
 exact ⟨Int.emod_nonneg _ (by omega), Int.emod_lt_of_pos _ hn⟩
theorem pick_ok {c : List Int} (hc : Byt c) (hl : c.length ≤ 1048576) {p s b : Int} (h : Cur p s b) (hb : b ≤ 4611686018427387904) (n : Int) :
  ∃ x p' s', spec_l01Cur_pick.f c p s n = some (x, p', s') ∧ 0 ≤ x ∧ (1 ≤ n → x < n) ∧ Cur p' s' (b + 1) := by
 obtain ⟨h1, h2, h3, h4⟩ := h
 unfold spec_l01Cur_pick.f
 by_cases hn : n < 2
 ·exact ⟨0, p, s, if_pos hn, by omega, by omega, h1, by omega, h3, h4⟩
 ·rw [if_neg hn]
  (have e1 : wrap64 (p + 1) = p + 1 := wrap_id (by omega) (by omega)); (have hs := tmod_range (a := wrap64 ((wrap64 (s * 1103)) + 12345)) (n := 65521) (by rw [wrap_id (x := s * 1103) (by omega) (by omega), wrap_id (by omega) (by omega)]; omega) (by omega))
  by_cases h5 : p < (c.length : Int)
  ·rw [if_pos h5, if_pos h1, if_neg (by omega), e1]
   (have hr := rd_byt hc p); (have ht := tmod_range (a := wrap64 (rd c p)) (n := n) (by rw [wrap_id (by omega) (by omega)]; omega) (by omega))
   exact ⟨_, _, _, rfl, ht.1, fun _ => ht.2, by omega, by omega, h3, h4⟩
  ·rw [if_neg h5, e1]
   by_cases h6 : (c.length : Int) > 0
   ·have hq := tmod_range (a := p) (n := (c.length : Int)) h1 h6
    (rw [if_pos h6, if_neg (by omega), if_pos hq.1, if_pos hq.2, if_neg (by omega)]); (have hr := rd_byt hc (Int.tmod p (c.length : Int)))
    have ht := tmod_range (a := wrap64 ((wrap64 (Int.tdiv (Int.tmod (wrap64 ((wrap64 (s * 1103)) + 12345)) 65521) 7)) + (wrap64 (rd c (Int.tmod p (c.length : Int)))))) (n := n) (by
     generalize rd c (Int.tmod p (c.length : Int)) = r at hr
     generalize Int.tmod (wrap64 ((wrap64 (s * 1103)) + 12345)) 65521 = t at hs
     rw [Int.tdiv_eq_ediv_of_nonneg hs.1]
     unfold wrap64
     omega) (by omega)
    exact ⟨_, _, _, rfl, ht.1, fun _ => ht.2, by omega, by omega, hs.1, by omega⟩
   ·rw [if_neg h6, if_neg (by omega)]
    exact ⟨_, _, _, rfl, by rw [Int.zero_emod]; omega, fun _ => by rw [Int.zero_emod]; omega, by omega, by omega, hs.1, by omega⟩
theorem size_ok {c : List Int} (hc : Byt c) (hl : c.length ≤ 1048576) {p s b : Int} (h : Cur p s b) (hb : b ≤ 4611686018427387904) (n : Int) (hn0 : 0 ≤ n) (hn : n ≤ 4611686018427387904) :
  ∃ x p' s', spec_l01Cur_size.f c p s n = some (x, p', s') ∧ 0 ≤ x ∧ x ≤ n ∧ Cur p' s' (b + 1) := by
 unfold spec_l01Cur_size.f
 have em : 0 ≤ mn n (wrap64 (1 + wrap64 ((c.length : Int) / 8))) ∧ mn n (wrap64 (1 + wrap64 ((c.length : Int) / 8))) ≤ n := by
  (have e2 : wrap64 (1 + wrap64 ((c.length : Int) / 8)) = 1 + (c.length : Int) / 8 := by unfold wrap64; omega); (rw [e2])
  unfold mn
  split <;> omega
 generalize mn n (wrap64 (1 + wrap64 ((c.length : Int) / 8))) = m at em
 (have e3 : wrap64 (m + 1) = m + 1 := wrap_id (by omega) (by omega)); (rw [e3]); (obtain ⟨x, p', s', e, hx0, hx1, hcur⟩ := pick_ok hc hl h hb (m + 1))
 exact ⟨x, p', s', by rw [e]; rfl, hx0, by have := hx1 (by omega); omega, hcur⟩
theorem wide_ok {c : List Int} (hc : Byt c) (hl : c.length ≤ 1048576) {p s b : Int} (h : Cur p s b) (hb : b ≤ 4611686018427387000) (n : Int) (hn : 1 ≤ n) :
  ∃ x p' s', spec_l01Cur_wide.f c p s n = some (x, p', s') ∧ 0 ≤ x ∧ x < n ∧ Cur p' s' (b + 3) := by
 unfold spec_l01Cur_wide.f
 (obtain ⟨x1, p1, s1, e1, a1, b1, c1⟩ := pick_ok hc hl h (by omega) 256); (obtain ⟨x2, p2, s2, e2, a2, b2, c2⟩ := pick_ok hc hl c1 (by omega) 256); (obtain ⟨x3, p3, s3, e3, a3, b3, c3⟩ := pick_ok hc hl c2 (by omega) 256); (have b1 := b1 (by omega)); (have b2 := b2 (by omega)); (have b3 := b3 (by omega)); (have hp : 0 ≤ wrap64 (wrap64 (wrap64 (65536 * x1) + wrap64 (256 * x2)) + x3) := by unfold wrap64; omega); (have ht := tmod_range (n := n) hp (by omega))
 refine ⟨_, p3, s3, ?_, ht.1, ht.2, c3.le (by omega)⟩
 (simp only [e1, e2, e3, Option.bind_some]); (rw [if_neg (by omega)])
theorem raw_ok {c : List Int} (hc : Byt c) (hl : c.length ≤ 1048576) {p s b : Int} (h : Cur p s b) (hb : b ≤ 4611686018427387000) :
  ∃ x p' s', spec_l01Cur_raw.f c p s = some (x, p', s') ∧ Cur p' s' (b + 2) := by
 unfold spec_l01Cur_raw.f
 (obtain ⟨x1, p1, s1, e1, a1, b1, c1⟩ := pick_ok hc hl h (by omega) 8); (simp only [e1, Option.bind_some])
 by_cases h0 : x1 = 0
 ·obtain ⟨x2, p2, s2, e2, a2, b2, c2⟩ := pick_ok hc hl c1 (by omega) 256
  simp only [if_pos h0, e2, Option.bind_some]
  exact ⟨_, _, _, rfl, c2.le (by omega)⟩
 ·by_cases h1 : x1 = 1
  ·obtain ⟨x2, p2, s2, e2, a2, b2, c2⟩ := pick_ok hc hl c1 (by omega) 8
   (have b2 := b2 (by omega)); (simp only [if_neg h0, if_pos h1, e2, Option.bind_some, if_pos a2]); (rw [if_pos (by simp only [List.length_cons, List.length_nil]; omega)])
   exact ⟨_, _, _, rfl, c2.le (by omega)⟩
  ·obtain ⟨x2, p2, s2, e2, a2, b2, c2⟩ := pick_ok hc hl c1 (by omega) 14
   simp only [if_neg h0, if_neg h1, e2, Option.bind_some]
   exact ⟨_, _, _, rfl, c2.le (by omega)⟩
theorem wordLoop_ok {c : List Int} (hc : Byt c) (hl : c.length ≤ 1048576) (n : Int) (hn : n ≤ 32) : ∀ (d : Nat) (x4 : List Int) (p s b : Int), (x4.length : Int) + d = n → Cur p s b → b + 2 * d ≤ 4611686018427387000 →
  ∃ w p' s', Ev (fun k => spec_l01Cur_word.l0 k n x4 c p s) (w, p', s') ∧ w.size ≤ 32 ∧ Cur p' s' (b + 2 * d) := by
 intro d
 induction d with
 | zero =>
  intro x4 p s b hd h hb
  refine ⟨strOfNums x4, p, s, Ev.step (fun k => rfl) ?_, by rw [strOfNums_size]; omega, h.le (by omega)⟩
  simp only [spec_l01Cur_word.l0, if_neg (show ¬ (x4.length : Int) < n by omega)]
  exact Ev.now _
 | succ d ih =>
  intro x4 p s b hd h hb
  (obtain ⟨x1, p1, s1, e1, a1, b1, c1⟩ := pick_ok hc hl h (by omega) 3); (have b1 := b1 (by omega)); (obtain ⟨x2, p2, s2, e2, a2, b2, c2⟩ := pick_ok hc hl c1 (by omega) (rd [2, 3, 26] x1)); (obtain ⟨w, p', s', hw, hs, hcur⟩ := ih (x4 ++ [(wrap64 (97 + x2)) % 256]) p2 s2 (b + 1 + 1) (by rw [List.length_append]; simp only [List.length_cons, List.length_nil]; omega) c2 (by omega))
  refine ⟨w, p', s', Ev.step (fun k => rfl) ?_, hs, hcur.le (by omega)⟩
  simp only [spec_l01Cur_word.l0, if_pos (show (x4.length : Int) < n by omega), Option.bind_some, e1, if_pos a1, if_pos (show x1 < (([2, 3, 26] : List Int).length : Int) by simp only [List.length_cons, List.length_nil]; omega), e2, if_pos (show x4.length < 140737488355328 by omega)]
  exact hw
theorem word_ok {c : List Int} (hc : Byt c) (hl : c.length ≤ 1048576) {p s b : Int} (h : Cur p s b) (hb : b ≤ 4611686018427380000) :
  ∃ w p' s', Ev (fun k => spec_l01Cur_word.f k c p s) (w, p', s') ∧ w.size ≤ 32 ∧ Cur p' s' (b + 66) := by
 unfold spec_l01Cur_word.f
 (obtain ⟨x1, p1, s1, e1, a1, b1, c1⟩ := pick_ok hc hl h (by omega) 4); (have b1 := b1 (by omega))
 have hr : 1 ≤ rd [3, 5, 8, 32] x1 ∧ rd [3, 5, 8, 32] x1 ≤ 32 := by
  have : x1 = 0 ∨ x1 = 1 ∨ x1 = 2 ∨ x1 = 3 := by omega
  rcases this with rfl | rfl | rfl | rfl <;> decide
 (obtain ⟨x2, p2, s2, e2, a2, b2, c2⟩ := pick_ok hc hl c1 (by omega) (rd [3, 5, 8, 32] x1)); (have b2 := b2 hr.1); (have e3 : wrap64 (1 + x2) = 1 + x2 := wrap_id (by omega) (by omega)); (obtain ⟨w, p', s', hw, hs, hcur⟩ := wordLoop_ok hc hl (1 + x2) (by omega) (1 + x2).toNat [] p2 s2 (b + 1 + 1) (by simp only [List.length_nil]; omega) c2 (by omega))
 refine ⟨w, p', s', ?_, hs, hcur.le (by omega)⟩
 simp only [Option.bind_some, e1, if_pos a1, if_pos (show x1 < (([3, 5, 8, 32] : List Int).length : Int) by simp only [List.length_cons, List.length_nil]; omega), e2, e3]
 exact hw
theorem open_ok (c : List Int) : ∃ s, spec_l01Open.f c = some (c, 0, s) ∧ Cur 0 s 0 := ⟨_, rfl, by omega, by omega, by omega, by omega⟩
end Go.Proofs.YtbpffdhkeinmcaaDoor.L
namespace Go.Proofs.YtbpffdhkeinmcaaDoor.L
open Go.RowKit Go.Proofs.YtbpffdhkeinmcaaDoorW.PrintWords Go.Proofs.YtbpffdhkeinmcaaDoorW.PrintMore
theorem evIf {α : Type} {p : Prop} [Decidable p] {g h : Nat → Option α} {r : α} (hp : p) (hg : Ev g r) : Ev (fun k => if p then g k else h k) r := by simp only [if_pos hp]; exact hg
theorem strOf_nums (l : List UInt8) : strOfNums (l.map fun b => (b.toNat : Int)) = ⟨l.toArray⟩ := by
 unfold strOfNums
 congr 1
 rw [List.map_map]
 have : (fun n : Int => UInt8.ofNat n.toNat) ∘ (fun b : UInt8 => (b.toNat : Int)) = id := by
  funext b
  simp
 rw [this]
 simp
end Go.Proofs.YtbpffdhkeinmcaaDoor.L
namespace Go.Proofs.YtbpffdhkeinmcaaDoor.L
open Go.RowKit Go.Proofs.YtbpffdhkeinmcaaDoor.QE Go.Proofs.YtbpffdhkeinmcaaDoorW.PrintWords Go.Proofs.YtbpffdhkeinmcaaDoorW.PrintLast Go.Proofs.YtbpffdhkeinmcaaDoorW.PrintMore
set_option linter.unusedVariables false
set_option linter.unusedSimpArgs false
theorem conf_ok {c : List Int} (hc : Byt c) (hl : c.length ≤ 1048576) {p s b : Int} (h : Cur p s b) (hb : b ≤ 1000000000000) :
  ∃ x1 x2 x3 x4 p' s', spec_l01Cur_conf.f c p s = some (x1, x2, x3, x4, p', s') ∧ Cur p' s' (b + 6) := by
 unfold spec_l01Cur_conf.f
 (obtain ⟨x1, p1, s1, e1, a1, b1, c1⟩ := wide_ok hc hl h (by omega) 16777216 (by omega)); (obtain ⟨x2, p2, s2, e2, a2, b2, c2⟩ := pick_ok hc hl c1 (by omega) 2); (obtain ⟨x3, p3, s3, e3, a3, b3, c3⟩ := pick_ok hc hl c2 (by omega) 3); (obtain ⟨x4, p4, s4, e4, a4, b4, c4⟩ := pick_ok hc hl c3 (by omega) 3); (have b3 := b3 (by omega)); (have b4 := b4 (by omega)); (simp only [e1, e2, e3, e4, Option.bind_some, if_pos a3, if_pos a4, if_pos (show x3 < (([20, 40, 64] : List Int).length : Int) by simp only [List.length_cons, List.length_nil]; omega), if_pos (show x4 < (([3, 6, 16] : List Int).length : Int) by simp only [List.length_cons, List.length_nil]; omega)])
 exact ⟨_, _, _, _, _, _, rfl, c4.le (by omega)⟩
theorem key_ok {c : List Int} (hc : Byt c) (hl : c.length ≤ 1048576) {p s b : Int} (h : Cur p s b) (hb : b ≤ 1000000001000) :
  ∃ x p' s', spec_l01Cur_key.f c p s = some (x, p', s') ∧ Cur p' s' (b + 7) := by
 unfold spec_l01Cur_key.f
 (obtain ⟨x1, p1, s1, e1, a1, b1, c1⟩ := pick_ok hc hl h (by omega) 256); (obtain ⟨x2, p2, s2, e2, a2, b2, c2⟩ := wide_ok hc hl c1 (by omega) 16777216 (by omega)); (obtain ⟨x3, p3, s3, e3, c3⟩ := raw_ok hc hl c2 (by omega)); (obtain ⟨x4, p4, s4, e4, a4, b4, c4⟩ := pick_ok hc hl c3 (by omega) 5); (have b4 := b4 (by omega)); (simp only [e1, e2, e3, e4, Option.bind_some, if_pos a4]); (rw [if_pos (by simp only [List.length_cons, List.length_nil]; omega)])
 exact ⟨_, _, _, rfl, c4.le (by omega)⟩
theorem log_ok {c : List Int} (hc : Byt c) (hl : c.length ≤ 1048576) {p s b : Int} (h : Cur p s b) (hb : b ≤ 1000000001000) :
  ∃ x p' s', spec_l01Cur_log.f c p s = some (x, p', s') ∧ Cur p' s' (b + 6) := by
 unfold spec_l01Cur_log.f
 (obtain ⟨x1, p1, s1, e1, a1, b1, c1⟩ := pick_ok hc hl h (by omega) 4); (obtain ⟨x2, p2, s2, e2, a2, b2, c2⟩ := pick_ok hc hl c1 (by omega) 7); (obtain ⟨x5, p5, s5, e5, a5, b5, c5⟩ := pick_ok hc hl c2 (by omega) 8); (obtain ⟨x3, p3, s3, e3, c3⟩ := raw_ok hc hl c5 (by omega)); (obtain ⟨x4, p4, s4, e4, a4, b4, c4⟩ := pick_ok hc hl c3 (by omega) 4); (have b4 := b4 (by omega)); (simp only [e1, e2, e3, e4, e5, Option.bind_some, if_pos a4]); (rw [if_pos (by simp only [List.length_cons, List.length_nil]; omega)])
 exact ⟨_, _, _, rfl, c4.le (by omega)⟩
theorem badConf_ok {c : List Int} (hc : Byt c) (hl : c.length ≤ 1048576) {p s b : Int} (h : Cur p s b) (hb : b ≤ 1000000000000) :
  ∃ x1 x2 x3 x4 p' s', spec_l01Cur_badConf.f c p s = some (x1, x2, x3, x4, p', s') ∧ Cur p' s' (b + 20) := by
 unfold spec_l01Cur_badConf.f
 (obtain ⟨x1, x2, x3, x4, p0, s0, e0, c0⟩ := conf_ok hc hl h hb); (obtain ⟨y, p1, s1, e1, a1, b1, c1⟩ := pick_ok hc hl c0 (by omega) 14); (simp only [e0, e1, Option.bind_some])
 by_cases h0 : y = 0
 ·obtain ⟨z, p2, s2, e2, c2⟩ := key_ok hc hl c1 (by omega)
  simp only [if_pos h0, e2, Option.bind_some]
  exact ⟨_, _, _, _, _, _, rfl, c2.le (by omega)⟩
 ·simp only [if_neg h0]
  by_cases h1 : y = 1
  ·obtain ⟨z, p2, s2, e2, c2⟩ := log_ok hc hl c1 (by omega)
   simp only [if_pos h1, e2, Option.bind_some]
   exact ⟨_, _, _, _, _, _, rfl, c2.le (by omega)⟩
  ·simp only [if_neg h1]
   by_cases h2 : y = 2
   ·obtain ⟨z, p2, s2, e2, c2⟩ := raw_ok hc hl c1 (by omega)
    (obtain ⟨z', p3, s3, e3, a3, b3, c3⟩ := pick_ok hc hl c2 (by omega) 3); (have b3 := b3 (by omega)); (simp only [if_pos h2, e2, e3, Option.bind_some, if_pos a3]); (rw [if_pos (by simp only [List.length_cons, List.length_nil]; omega)])
    exact ⟨_, _, _, _, _, _, rfl, c3.le (by omega)⟩
   ·simp only [if_neg h2]
    by_cases h3 : y = 3
    ·obtain ⟨z, p2, s2, e2, c2⟩ := raw_ok hc hl c1 (by omega)
     (obtain ⟨z', p3, s3, e3, a3, b3, c3⟩ := pick_ok hc hl c2 (by omega) 3); (have b3 := b3 (by omega)); (simp only [if_pos h3, e2, e3, Option.bind_some, if_pos a3]); (rw [if_pos (by simp only [List.length_cons, List.length_nil]; omega)])
     exact ⟨_, _, _, _, _, _, rfl, c3.le (by omega)⟩
    ·simp only [if_neg h3]
     exact ⟨_, _, _, _, _, _, rfl, c1.le (by omega)⟩
theorem once_ok {c : List Int} (hc : Byt c) (hl : c.length ≤ 1048576) {p s b : Int} (h : Cur p s b) (hb : b ≤ 1000000100000) (n : Int) :
  ∃ x p' s', spec_l01Cur_once.f c p s n = some (x, p', s') ∧ Cur p' s' (b + 1) := by
 unfold spec_l01Cur_once.f
 (obtain ⟨x1, p1, s1, e1, a1, b1, c1⟩ := pick_ok hc hl h (by omega) n); (simp only [e1, Option.bind_some])
 exact ⟨_, _, _, rfl, c1⟩
theorem badWord_ok {c : List Int} (hc : Byt c) (hl : c.length ≤ 1048576) {p s b : Int} (h : Cur p s b) (hb : b ≤ 1000000100000) :
  ∃ w p' s', Ev (fun k => spec_l01Cur_badWord.f k c p s) (w, p', s') ∧ w.size ≤ 100 ∧ Cur p' s' (b + 70) := by
 unfold spec_l01Cur_badWord.f
 (obtain ⟨w, p0, s0, e0, hw, c0⟩ := word_ok hc hl h (by omega)); (obtain ⟨x, p1, s1, e1, a1, b1, c1⟩ := pick_ok hc hl c0 (by omega) 9)
 by_cases h0 : x = 0
 ·have ew : wrap64 ((w.size : Int) + 1) = (w.size : Int) + 1 := wrap_id (by omega) (by omega)
  (obtain ⟨n, p2, s2, e2, a2, b2, c2⟩ := pick_ok hc hl c1 (by omega) ((w.size : Int) + 1)); (have b2 := b2 (by omega)); (obtain ⟨m, p3, s3, e3, a3, b3, c3⟩ := pick_ok hc hl c2 (by omega) 6); (have b3 := b3 (by omega)); (have hm : m = 0 ∨ m = 1 ∨ m = 2 ∨ m = 3 ∨ m = 4 ∨ m = 5 := by omega)
  have hz : (rdOf ByteArray.empty [(⟨#[]⟩ : ByteArray), (⟨#[65]⟩ : ByteArray), (⟨#[45]⟩ : ByteArray), (⟨#[0]⟩ : ByteArray), (⟨#[122, 122]⟩ : ByteArray), (⟨#[123]⟩ : ByteArray)] m).size ≤ 2 := by
   rcases hm with rfl | rfl | rfl | rfl | rfl | rfl <;> decide
  have hm6 : m < (([(⟨#[]⟩ : ByteArray), (⟨#[65]⟩ : ByteArray), (⟨#[45]⟩ : ByteArray), (⟨#[0]⟩ : ByteArray), (⟨#[122, 122]⟩ : ByteArray), (⟨#[123]⟩ : ByteArray)] : List ByteArray).length : Int) := by simp only [List.length_cons, List.length_nil]; omega
  have z1 : (w.extract 0 n.toNat).size + (rdOf ByteArray.empty [(⟨#[]⟩ : ByteArray), (⟨#[65]⟩ : ByteArray), (⟨#[45]⟩ : ByteArray), (⟨#[0]⟩ : ByteArray), (⟨#[122, 122]⟩ : ByteArray), (⟨#[123]⟩ : ByteArray)] m).size ≤ 9223372036854775807 := by
   simp only [ByteArray.size_extract]; omega
  have z2 : ((w.extract 0 n.toNat) ++ rdOf ByteArray.empty [(⟨#[]⟩ : ByteArray), (⟨#[65]⟩ : ByteArray), (⟨#[45]⟩ : ByteArray), (⟨#[0]⟩ : ByteArray), (⟨#[122, 122]⟩ : ByteArray), (⟨#[123]⟩ : ByteArray)] m).size + (w.extract n.toNat w.size).size ≤ 100 := by
   simp only [ByteArray.size_append, ByteArray.size_extract]; omega
  refine ⟨((w.extract 0 n.toNat) ++ rdOf ByteArray.empty [(⟨#[]⟩ : ByteArray), (⟨#[65]⟩ : ByteArray), (⟨#[45]⟩ : ByteArray), (⟨#[0]⟩ : ByteArray), (⟨#[122, 122]⟩ : ByteArray), (⟨#[123]⟩ : ByteArray)] m) ++ (w.extract n.toNat w.size), p3, s3, Ev.bind e0 ?_, by rw [ByteArray.size_append]; exact z2, c3.le (by omega)⟩
  simp only [e1, ew, e2, e3, Option.bind_some, if_pos h0, if_pos a2, if_pos (show n ≤ (w.size : Int) by omega), if_pos a3, if_pos hm6, if_pos z1, if_pos (Nat.le_trans z2 (by decide : 100 ≤ 9223372036854775807))]
  exact Ev.now _
 ·by_cases h1 : x = 1
  ·refine ⟨⟨#[]⟩, p1, s1, Ev.bind e0 ?_, Nat.zero_le _, c1.le (by omega)⟩
   simp only [e1, Option.bind_some, if_neg h0, if_pos h1]
   exact Ev.now _
  ·by_cases h2 : x = 2
   ·obtain ⟨n, p2, s2, e2, a2, b2, c2⟩ := pick_ok hc hl c1 (by omega) 33
    (have b2 := b2 (by omega)); (have hA : (⟨#[97, 97, 97, 97, 97, 97, 97, 97, 97, 97, 97, 97, 97, 97, 97, 97, 97, 97, 97, 97, 97, 97, 97, 97, 97, 97, 97, 97, 97, 97, 97, 97]⟩ : ByteArray).size = 32 := rfl)
    generalize hAA : (⟨#[97, 97, 97, 97, 97, 97, 97, 97, 97, 97, 97, 97, 97, 97, 97, 97, 97, 97, 97, 97, 97, 97, 97, 97, 97, 97, 97, 97, 97, 97, 97, 97]⟩ : ByteArray) = A at hA
    have hs : (w ++ w).size + (A.extract 0 n.toNat).size ≤ 100 := by simp only [ByteArray.size_append, ByteArray.size_extract]; omega
    refine ⟨(w ++ w) ++ (A.extract 0 n.toNat), p2, s2, Ev.bind e0 ?_, by rw [ByteArray.size_append]; exact hs, c2.le (by omega)⟩
    simp only [e1, e2, Option.bind_some, if_neg h0, if_neg h1, if_pos h2, if_pos a2, if_pos (show n ≤ 32 by omega), if_pos (show w.size + w.size ≤ 9223372036854775807 by omega), if_pos (show (w ++ w).size + (A.extract 0 n.toNat).size ≤ 9223372036854775807 by omega)]
    exact Ev.now _
   ·refine ⟨w, p1, s1, Ev.bind e0 ?_, by omega, c1.le (by omega)⟩
    simp only [e1, Option.bind_some, if_neg h0, if_neg h1, if_neg h2]
    exact Ev.now _
theorem text_ok {c : List Int} (hc : Byt c) (hl : c.length ≤ 1048576) {p s b : Int} (h : Cur p s b) (hb : b ≤ 1000000010000) (n : Int) (hn0 : 0 ≤ n) (hn : n ≤ 5) :
  ∃ t p' s', Ev (fun k => spec_l01Cur_text.f k c p s n) (t, p', s') ∧ t.size ≤ 600 ∧ Cur p' s' (b + 400) := by
 unfold spec_l01Cur_text.f
 have key : ∀ (d : Nat) (x5 : ByteArray) (p s b : Int), d ≤ 5 → x5.size + 110 * d ≤ 600 → Cur p s b → b + 71 * d ≤ 1000000011000 → ∃ t p' s', Ev (fun k => spec_l01Cur_text.l0 k x5 (d : Int) c p s) (t, p', s') ∧ t.size ≤ 600 ∧ Cur p' s' (b + 71 * d) := by
  intro d
  induction d with
  | zero =>
   intro x5 p s b hd hz h hb
   refine ⟨x5, p, s, Ev.step (fun k => rfl) ?_, by omega, h.le (by omega)⟩
   simp only [spec_l01Cur_text.l0, if_neg (show ¬ ((0 : Nat) : Int) > 0 by omega)]
   exact Ev.now _
  | succ d ih =>
   intro x5 p s b hd hz h hb
   (obtain ⟨w, p1, s1, e1, hw, c1⟩ := badWord_ok hc hl h (by omega)); (obtain ⟨m, p2, s2, e2, a2, b2, c2⟩ := pick_ok hc hl c1 (by omega) 5); (have b2 := b2 (by omega)); (have hm : m = 0 ∨ m = 1 ∨ m = 2 ∨ m = 3 ∨ m = 4 := by omega)
   have hzz : (rdOf ByteArray.empty [(⟨#[32]⟩ : ByteArray), (⟨#[10]⟩ : ByteArray), (⟨#[32, 32]⟩ : ByteArray), (⟨#[9, 32, 13]⟩ : ByteArray), (⟨#[32]⟩ : ByteArray)] m).size ≤ 3 := by
    rcases hm with rfl | rfl | rfl | rfl | rfl <;> decide
   (have hm5 : m < (([(⟨#[32]⟩ : ByteArray), (⟨#[10]⟩ : ByteArray), (⟨#[32, 32]⟩ : ByteArray), (⟨#[9, 32, 13]⟩ : ByteArray), (⟨#[32]⟩ : ByteArray)] : List ByteArray).length : Int) := by simp only [List.length_cons, List.length_nil]; omega); (have ew : wrap64 (((d + 1 : Nat) : Int) - 1) = (d : Int) := by rw [wrap_id (by omega) (by omega)]; omega); (obtain ⟨t, p', s', g1, g2, g3⟩ := ih ((x5 ++ w) ++ rdOf ByteArray.empty [(⟨#[32]⟩ : ByteArray), (⟨#[10]⟩ : ByteArray), (⟨#[32, 32]⟩ : ByteArray), (⟨#[9, 32, 13]⟩ : ByteArray), (⟨#[32]⟩ : ByteArray)] m) p2 s2 (b + 70 + 1) (by omega) (by rw [ByteArray.size_append, ByteArray.size_append]; omega) c2 (by omega))
   refine ⟨t, p', s', Ev.step (fun k => rfl) ?_, g2, g3.le (by omega)⟩
   simp only [spec_l01Cur_text.l0, if_pos (show ((d + 1 : Nat) : Int) > 0 by omega), ew]
   refine Ev.bind e1 (evIf (by show x5.size + w.size ≤ _; omega) (Ev.bind (evConst rfl) ?_))
   simp only [e2, Option.bind_some, if_pos a2, if_pos hm5]
   exact evIf (by show (x5 ++ w).size + _ ≤ _; rw [ByteArray.size_append]; omega) g1
 (rw [show wrap64 (n + 1) = n + 1 from wrap_id (by omega) (by omega)]); (obtain ⟨x, p1, s1, e1, a1, b1, c1⟩ := pick_ok hc hl h (by omega) (n + 1)); (have b1 := b1 (by omega)); (obtain ⟨t, p', s', g1, g2, g3⟩ := key x.toNat ⟨#[]⟩ p1 s1 (b + 1) (by omega) (by show 0 + _ ≤ _; omega) c1 (by omega)); (rw [Int.toNat_of_nonneg a1] at g1)
 refine ⟨t, p', s', ?_, g2, g3.le (by omega)⟩
 simp only [e1, Option.bind_some]
 exact g1
theorem req_ok {c : List Int} (hc : Byt c) (hl : c.length ≤ 1048576) {p s b : Int} (h : Cur p s b) (hb : b ≤ 1000000001000) :
  ∃ (x : S32) (p' s' : Int), Ev (fun k => spec_l01Cur_req.f k c p s) (x.f0, x.f1, x.f2, x.f3, x.f4, x.f5, x.f6, p', s') ∧ (x.f1.size ≤ 100 ∧ x.f6.size ≤ 600) ∧ Cur p' s' (b + 1000) := by
 unfold spec_l01Cur_req.f
 have k1 : ∀ (kd : Int) (q : Bool) (w : ByteArray) (p s b : Int), w.size ≤ 100 → Cur p s b → b ≤ 1000000002000 → ∃ (x : S32) (p' s' : Int), Ev (fun k => spec_l01Cur_req.j1 k kd q c p s kd w 0 0 0 0 (⟨#[]⟩ : ByteArray)) (x.f0, x.f1, x.f2, x.f3, x.f4, x.f5, x.f6, p', s') ∧ (x.f1.size ≤ 100 ∧ x.f6.size ≤ 600) ∧ Cur p' s' (b + 500) := by
  intro kd q w p s b hw h hb
  cases q with
  | true =>
   (obtain ⟨y1, p1, s1, e1, a1, b1, c1⟩ := pick_ok hc hl h (by omega) 5); (obtain ⟨y2, p2, s2, e2, a2, b2, c2⟩ := wide_ok hc hl c1 (by omega) 65537 (by omega)); (obtain ⟨y3, p3, s3, e3, a3, b3, c3⟩ := pick_ok hc hl c2 (by omega) 2); (have b3 := b3 (by omega))
   refine ⟨⟨kd, w, rd [y1, y2] y3, 0, 0, 0, ⟨#[]⟩⟩, p3, s3, Ev.step (fun k => rfl) ?_, ⟨hw, Nat.zero_le _⟩, c3.le (by omega)⟩
   simp only [spec_l01Cur_req.j1, if_true, e1, e2, e3, Option.bind_some, if_pos a3, if_pos (show y3 < (([y1, y2] : List Int).length : Int) by simp only [List.length_cons, List.length_nil]; omega)]
   exact Ev.now _
  | false =>
   by_cases h6 : kd = 6
   ·obtain ⟨y1, p1, s1, e1, a1, b1, c1⟩ := pick_ok hc hl h (by omega) 5
    (have b1 := b1 (by omega)); (have ew : wrap64 (1 + y1) = 1 + y1 := wrap_id (by omega) (by omega)); (obtain ⟨t, p2, s2, e2, ht, c2⟩ := text_ok hc hl c1 (by omega) (1 + y1) (by omega) (by omega))
    refine ⟨⟨kd, ⟨#[]⟩, 0, 0, 0, 1 + y1, t⟩, p2, s2, Ev.step (fun k => rfl) ?_, ⟨Nat.zero_le _, ht⟩, c2.le (by omega)⟩
    simp only [spec_l01Cur_req.j1, Bool.false_eq_true, if_false, if_pos h6, e1, Option.bind_some, ew]
    exact Ev.bind e2 (Ev.now _)
   ·refine ⟨⟨kd, w, 0, 0, 0, 0, ⟨#[]⟩⟩, p, s, Ev.step (fun k => rfl) ?_, ⟨hw, Nat.zero_le _⟩, h.le (by omega)⟩
    simp only [spec_l01Cur_req.j1, Bool.false_eq_true, if_false, if_neg h6]
    exact Ev.now _
 have k0 : ∀ (kd : Int) (w : ByteArray) (p s b : Int), w.size ≤ 100 → Cur p s b → b ≤ 1000000001500 → ∃ (x : S32) (p' s' : Int), Ev (fun k => spec_l01Cur_req.j0 k c p s kd w 0 0 0 0 (⟨#[]⟩ : ByteArray)) (x.f0, x.f1, x.f2, x.f3, x.f4, x.f5, x.f6, p', s') ∧ (x.f1.size ≤ 100 ∧ x.f6.size ≤ 600) ∧ Cur p' s' (b + 500) := by
  intro kd w p s b hw h hb
  by_cases h2 : kd = 2
  ·obtain ⟨y1, p1, s1, e1, a1, b1, c1⟩ := pick_ok hc hl h (by omega) 4
   (have b1 := b1 (by omega)); (obtain ⟨y2, p2, s2, e2, a2, b2, c2⟩ := pick_ok hc hl c1 (by omega) 4); (have b2 := b2 (by omega))
   refine ⟨⟨kd, w, 0, rd [1, 2, 3, 4] y1, rd [1, 3, 8, 9] y2, 0, ⟨#[]⟩⟩, p2, s2, Ev.step (fun k => rfl) ?_, ⟨hw, Nat.zero_le _⟩, c2.le (by omega)⟩
   simp only [spec_l01Cur_req.j0, if_pos h2, e1, e2, Option.bind_some, if_pos a1, if_pos a2, if_pos (show y1 < (([1, 2, 3, 4] : List Int).length : Int) by simp only [List.length_cons, List.length_nil]; omega), if_pos (show y2 < (([1, 3, 8, 9] : List Int).length : Int) by simp only [List.length_cons, List.length_nil]; omega)]
   exact Ev.now _
  ·by_cases h3 : kd = 3
   ·obtain ⟨x, p', s', g, g2, g3⟩ := k1 kd (kd == 3) w p s b hw h (by omega)
    refine ⟨x, p', s', Ev.step (fun k => rfl) ?_, g2, g3⟩
    simp only [spec_l01Cur_req.j0, if_neg h2, if_pos h3]
    exact g
   ·obtain ⟨x, p', s', g, g2, g3⟩ := k1 kd (kd == 5) w p s b hw h (by omega)
    refine ⟨x, p', s', Ev.step (fun k => rfl) ?_, g2, g3⟩
    simp only [spec_l01Cur_req.j0, if_neg h2, if_neg h3]
    exact g
 (obtain ⟨y, p1, s1, e1, a1, b1, c1⟩ := pick_ok hc hl h (by omega) 8); (have b1 := b1 (by omega)); (obtain ⟨w, p2, s2, e2, hw, c2⟩ := word_ok hc hl c1 (by omega)); (obtain ⟨q, p3, s3, e3, c3⟩ := once_ok hc hl c2 (by omega) 12); (have hy : y < (([1, 2, 3, 4, 5, 6, 3, 3] : List Int).length : Int) := by simp only [List.length_cons, List.length_nil]; omega)
 cases q with
 | true =>
  (obtain ⟨w', p4, s4, e4, hw', c4⟩ := badWord_ok hc hl c3 (by omega)); (obtain ⟨x, p', s', g, g2, g3⟩ := k0 (rd [1, 2, 3, 4, 5, 6, 3, 3] y) w' p4 s4 _ hw' c4 (by omega))
  refine ⟨x, p', s', ?_, g2, g3.le (by omega)⟩
  simp only [e1, Option.bind_some, if_pos a1, if_pos hy]
  refine Ev.bind e2 ?_
  simp only [e3, Option.bind_some, if_true]
  exact Ev.bind e4 g
 | false =>
  obtain ⟨x, p', s', g, g2, g3⟩ := k0 (rd [1, 2, 3, 4, 5, 6, 3, 3] y) w p3 s3 _ (by omega) c3 (by omega)
  refine ⟨x, p', s', ?_, g2, g3.le (by omega)⟩
  simp only [e1, Option.bind_some, if_pos a1, if_pos hy]
  refine Ev.bind e2 ?_
  simp only [e3, Option.bind_some, Bool.false_eq_true, if_false]
  exact g
theorem badReq_ok {c : List Int} (hc : Byt c) (hl : c.length ≤ 1048576) {p s b : Int} (h : Cur p s b) (hb : b ≤ 1000000000500) :
  ∃ (x : S32) (p' s' : Int), Ev (fun k => spec_l01Cur_badReq.f k c p s) (x.f0, x.f1, x.f2, x.f3, x.f4, x.f5, x.f6, p', s') ∧ Cur p' s' (b + 2000) := by
 unfold spec_l01Cur_badReq.f
 (obtain ⟨x, p1, s1, e1, hx, c1⟩ := req_ok hc hl h (by omega)); (obtain ⟨y, p2, s2, e2, a2, b2, c2⟩ := pick_ok hc hl c1 (by omega) 16)
 by_cases h0 : y = 0
 ·obtain ⟨z, p3, s3, e3, c3⟩ := raw_ok hc hl c2 (by omega)
  (obtain ⟨m, p4, s4, e4, a4, b4, c4⟩ := pick_ok hc hl c3 (by omega) 3); (have b4 := b4 (by omega))
  refine ⟨⟨rd [z, 7, 0] m, x.f1, x.f2, x.f3, x.f4, x.f5, x.f6⟩, p4, s4, Ev.bind e1 ?_, c4.le (by omega)⟩
  simp only [e2, e3, e4, Option.bind_some, if_pos h0, if_pos a4, if_pos (show m < (([z, 7, 0] : List Int).length : Int) by simp only [List.length_cons, List.length_nil]; omega)]
  exact Ev.now _
 ·by_cases h1 : y = 1
  ·obtain ⟨z, p3, s3, e3, c3⟩ := raw_ok hc hl c2 (by omega)
   (obtain ⟨m, p4, s4, e4, a4, b4, c4⟩ := pick_ok hc hl c3 (by omega) 4); (have b4 := b4 (by omega))
   refine ⟨⟨x.f0, x.f1, x.f2, x.f3, x.f4, rd [z, 16, 17, 1] m, x.f6⟩, p4, s4, Ev.bind e1 ?_, c4.le (by omega)⟩
   simp only [e2, e3, e4, Option.bind_some, if_neg h0, if_pos h1, if_pos a4, if_pos (show m < (([z, 16, 17, 1] : List Int).length : Int) by simp only [List.length_cons, List.length_nil]; omega)]
   exact Ev.now _
  ·by_cases h2 : y = 2
   ·obtain ⟨m, p4, s4, e4, a4, b4, c4⟩ := pick_ok hc hl c2 (by omega) 2
    (have b4 := b4 (by omega)); (have ew : wrap64 (100 + m) = 100 + m := wrap_id (by omega) (by omega))
    refine ⟨⟨x.f0, strOfNums (List.replicate (100 + m : Int).toNat 0), x.f2, x.f3, x.f4, x.f5, x.f6⟩, p4, s4, Ev.bind e1 ?_, c4.le (by omega)⟩
    simp only [e2, e4, Option.bind_some, if_neg h0, if_neg h1, if_pos h2, ew, if_pos (show 0 ≤ 100 + m by omega), if_pos (show (100 + m : Int).toNat ≤ 281474976710656 by omega)]
    exact Ev.now _
   ·by_cases h3 : y = 3
    ·obtain ⟨m, p4, s4, e4, a4, b4, c4⟩ := pick_ok hc hl c2 (by omega) 2
     (have b4 := b4 (by omega)); (have ew : wrap64 (2000 + m) = 2000 + m := wrap_id (by omega) (by omega))
     refine ⟨⟨x.f0, x.f1, x.f2, x.f3, x.f4, x.f5, strOfNums (List.replicate (2000 + m : Int).toNat 0)⟩, p4, s4, Ev.bind e1 ?_, c4.le (by omega)⟩
     simp only [e2, e4, Option.bind_some, if_neg h0, if_neg h1, if_neg h2, if_pos h3, ew, if_pos (show 0 ≤ 2000 + m by omega), if_pos (show (2000 + m : Int).toNat ≤ 281474976710656 by omega)]
     exact Ev.now _
    ·by_cases h4 : y = 4
     ·obtain ⟨z1, p3, s3, e3, c3⟩ := raw_ok hc hl c2 (by omega)
      (obtain ⟨z2, p4, s4, e4, c4⟩ := raw_ok hc hl c3 (by omega)); (obtain ⟨z3, p5, s5, e5, c5⟩ := raw_ok hc hl c4 (by omega))
      refine ⟨⟨x.f0, x.f1, z3, z2, z1, x.f5, x.f6⟩, p5, s5, Ev.bind e1 ?_, c5.le (by omega)⟩
      simp only [e2, e3, e4, e5, Option.bind_some, if_neg h0, if_neg h1, if_neg h2, if_neg h3, if_pos h4]
      exact Ev.now _
     ·refine ⟨x, p2, s2, Ev.bind e1 ?_, c2.le (by omega)⟩
      simp only [e2, Option.bind_some, if_neg h0, if_neg h1, if_neg h2, if_neg h3, if_neg h4]
      exact Ev.now _
theorem reqs_ok {c : List Int} (hc : Byt c) (hl : c.length ≤ 1048576) {p s b : Int} (h : Cur p s b) (hb : b ≤ 1000000) :
  ∃ (l : List S32) (p' s' : Int), Ev (fun k => spec_l01Cur_reqs.f k c p s 12) (l, p', s') ∧ l.length ≤ 12 ∧ Cur p' s' (b + 20000) := by
 unfold spec_l01Cur_reqs.f
 (obtain ⟨w1, p1, s1, e1, v1, c1⟩ := word_ok hc hl h (by omega)); (obtain ⟨w2, p2, s2, e2, v2, c2⟩ := word_ok hc hl c1 (by omega)); (obtain ⟨w3, p3, s3, e3, v3, c3⟩ := word_ok hc hl c2 (by omega)); (obtain ⟨w4, p4, s4, e4, v4, c4⟩ := word_ok hc hl c3 (by omega)); (obtain ⟨n, p5, s5, e5, a5, b5, c5⟩ := size_ok hc hl c4 (by omega) 12 (by omega) (by omega))
 have hW : ∀ m : Int, 0 ≤ m → m < 4 → (rdOf ByteArray.empty [w1, w2, w3, w4] m).size ≤ 32 := by
  intro m h0 h4
  have : m = 0 ∨ m = 1 ∨ m = 2 ∨ m = 3 := by omega
  rcases this with rfl | rfl | rfl | rfl
  ·exact v1
  ·exact v2
  ·exact v3
  ·exact v4
 have hW4 : ([w1, w2, w3, w4] : List ByteArray).length = 4 := rfl
 generalize hws : [w1, w2, w3, w4] = ws at hW hW4
 have key : ∀ (d : Nat) (x5 : List S32) (p s b : Int), x5.length + d ≤ 1000 → Cur p s b → b + 1010 * d ≤ 1000000000 → ∃ (l : List S32) (p' s' : Int), Ev (fun k => spec_l01Cur_reqs.l0 k x5 ws (d : Int) c p s) (l, p', s') ∧ l.length = x5.length + d ∧ Cur p' s' (b + 1010 * d) := by
  intro d
  induction d with
  | zero =>
   intro x5 p s b hd h hb
   refine ⟨x5, p, s, Ev.step (fun k => rfl) ?_, rfl, h.le (by omega)⟩
   simp only [spec_l01Cur_reqs.l0, if_neg (show ¬ ((0 : Nat) : Int) > 0 by omega)]
   exact Ev.now _
  | succ d ih =>
   intro x5 p s b hd h hb
   (obtain ⟨x, p1, s1, e1, hx, c1⟩ := req_ok hc hl h (by omega)); (have ew : wrap64 (((d + 1 : Nat) : Int) - 1) = (d : Int) := by rw [wrap_id (by omega) (by omega)]; omega); (have hx5 : x5.length < 1954687338268 := by omega)
   have j2 : ∀ (w : ByteArray) (p s : Int), Cur p s (b + 1002) → ∃ (l : List S32) (p' s' : Int), Ev (fun k => spec_l01Cur_reqs.j2 k x5 ws ((d + 1 : Nat) : Int) c p s x.f0 w x.f2 x.f3 x.f4 x.f5 x.f6) (l, p', s') ∧ l.length = x5.length + (d + 1) ∧ Cur p' s' (b + 1010 * ((d + 1 : Nat) : Int)) := by
    intro w p s h
    by_cases h6 : x.f0 = 6
    ·obtain ⟨q, p2, s2, e2, c2⟩ := once_ok hc hl h (by omega) 2
     cases q with
     | true =>
      (obtain ⟨m, p3, s3, e3, a3, b3, c3⟩ := pick_ok hc hl c2 (by omega) 4); (have b3 := b3 (by omega)); (have hm := hW m a3 b3); (obtain ⟨l, p', s', g1, g2, g3⟩ := ih (x5 ++ [⟨x.f0, w, x.f2, x.f3, x.f4, x.f5, ((rdOf ByteArray.empty ws m) ++ (⟨#[32]⟩ : ByteArray)) ++ x.f6⟩]) p3 s3 (b + 1002 + 1 + 1) (by rw [List.length_append, List.length_singleton]; omega) c3 (by omega))
      refine ⟨l, p', s', Ev.step (fun k => rfl) ?_, by rw [g2, List.length_append, List.length_singleton]; omega, g3.le (by omega)⟩
      simp only [spec_l01Cur_reqs.j2, if_pos h6, e2, Option.bind_some, if_true, e3, if_pos a3, if_pos (show m < (ws.length : Int) by omega), if_pos (show (rdOf ByteArray.empty ws m).size + 1 ≤ 9223372036854775807 by omega), if_pos (show ((rdOf ByteArray.empty ws m) ++ (⟨#[32]⟩ : ByteArray)).size + x.f6.size ≤ 9223372036854775807 by rw [ByteArray.size_append, show (⟨#[32]⟩ : ByteArray).size = 1 from rfl]; omega), if_pos hx5, ew]
      exact g1
     | false =>
      obtain ⟨l, p', s', g1, g2, g3⟩ := ih (x5 ++ [⟨x.f0, w, x.f2, x.f3, x.f4, x.f5, x.f6⟩]) p2 s2 (b + 1002 + 1) (by rw [List.length_append, List.length_singleton]; omega) c2 (by omega)
      refine ⟨l, p', s', Ev.step (fun k => rfl) ?_, by rw [g2, List.length_append, List.length_singleton]; omega, g3.le (by omega)⟩
      simp only [spec_l01Cur_reqs.j2, if_pos h6, e2, Option.bind_some, Bool.false_eq_true, if_false, if_pos hx5, ew]
      exact g1
    ·obtain ⟨l, p', s', g1, g2, g3⟩ := ih (x5 ++ [⟨x.f0, w, x.f2, x.f3, x.f4, x.f5, x.f6⟩]) p s (b + 1002) (by rw [List.length_append, List.length_singleton]; omega) h (by omega)
     refine ⟨l, p', s', Ev.step (fun k => rfl) ?_, by rw [g2, List.length_append, List.length_singleton]; omega, g3.le (by omega)⟩
     simp only [spec_l01Cur_reqs.j2, if_neg h6, if_pos hx5, ew]
     exact g1
   have j1 : ∀ (q : Bool) (p s : Int), Cur p s (b + 1001) → ∃ (l : List S32) (p' s' : Int), Ev (fun k => spec_l01Cur_reqs.j1 k x5 ws ((d + 1 : Nat) : Int) q c p s x.f0 x.f1 x.f2 x.f3 x.f4 x.f5 x.f6) (l, p', s') ∧ l.length = x5.length + (d + 1) ∧ Cur p' s' (b + 1010 * ((d + 1 : Nat) : Int)) := by
    intro q p s h
    cases q with
    | true =>
     (obtain ⟨m, p3, s3, e3, a3, b3, c3⟩ := pick_ok hc hl h (by omega) 4); (have b3 := b3 (by omega)); (obtain ⟨l, p', s', g1, g2, g3⟩ := j2 (rdOf ByteArray.empty ws m) p3 s3 (c3.le (by omega)))
     refine ⟨l, p', s', Ev.step (fun k => rfl) ?_, g2, g3⟩
     simp only [spec_l01Cur_reqs.j1, if_true, e3, Option.bind_some, if_pos a3, if_pos (show m < (ws.length : Int) by omega)]
     exact g1
    | false =>
     obtain ⟨l, p', s', g1, g2, g3⟩ := j2 x.f1 p s (h.le (by omega))
     refine ⟨l, p', s', Ev.step (fun k => rfl) ?_, g2, g3⟩
     simp only [spec_l01Cur_reqs.j1, Bool.false_eq_true, if_false]
     exact g1
   by_cases hw : x.f1.toList = []
   ·obtain ⟨l, p', s', g1, g2, g3⟩ := j1 false p1 s1 (c1.le (by omega))
    refine ⟨l, p', s', Ev.step (fun k => rfl) ?_, g2, g3⟩
    simp only [spec_l01Cur_reqs.l0, if_pos (show ((d + 1 : Nat) : Int) > 0 by omega)]
    refine Ev.bind e1 ?_
    simp only [if_pos hw]
    exact g1
   ·obtain ⟨q, p2, s2, e2, c2⟩ := once_ok hc hl c1 (by omega) 4
    obtain ⟨l, p', s', g1, g2, g3⟩ := j1 (!q) p2 s2 (c2.le (by omega))
    refine ⟨l, p', s', Ev.step (fun k => rfl) ?_, g2, g3⟩
    simp only [spec_l01Cur_reqs.l0, if_pos (show ((d + 1 : Nat) : Int) > 0 by omega)]
    refine Ev.bind e1 ?_
    simp only [if_neg hw, e2, Option.bind_some]
    exact g1
 (obtain ⟨l, p', s', g1, g2, g3⟩ := key n.toNat [] p5 s5 _ (by simp only [List.length_nil]; omega) c5 (by omega)); (rw [Int.toNat_of_nonneg a5] at g1)
 refine ⟨l, p', s', Ev.bind e1 (Ev.bind e2 (Ev.bind e3 (Ev.bind e4 ?_))), by rw [g2]; simp only [List.length_nil]; omega, g3.le (by omega)⟩
 (simp only [e5, Option.bind_some]); (subst hws)
 exact g1
theorem drawSess_ok {c : List Int} (hc : Byt c) (hl : c.length ≤ 1048576) : ∃ (x1 x2 x3 x4 : Int) (l : List S32), Ev (fun k => spec_DrawSessIds.f k c) (x1, x2, x3, x4, l) ∧ l.length ≤ 13 := by
 unfold spec_DrawSessIds.f
 (obtain ⟨s0, e0, c0⟩ := open_ok c); (obtain ⟨x1, x2, x3, x4, p1, s1, e1, c1⟩ := badConf_ok hc hl c0 (by omega)); (obtain ⟨l, p2, s2, e2, hl2, c2⟩ := reqs_ok hc hl c1 (by omega)); (obtain ⟨q, p3, s3, e3, c3⟩ := once_ok hc hl c2 (by omega) 9)
 cases q with
 | true =>
  obtain ⟨x, p4, s4, e4, c4⟩ := badReq_ok hc hl c3 (by omega)
  refine ⟨x1, x2, x3, x4, l ++ [x], ?_, by rw [List.length_append, List.length_singleton]; omega⟩
  simp only [e0, e1, Option.bind_some]
  refine Ev.bind e2 ?_
  simp only [e3, Option.bind_some, if_true]
  refine Ev.bind e4 ?_
  simp only [if_pos (show l.length < 1954687338268 by omega)]
  exact Ev.now _
 | false =>
  refine ⟨x1, x2, x3, x4, l, ?_, by omega⟩
  simp only [e0, e1, Option.bind_some]
  refine Ev.bind e2 ?_
  simp only [e3, Option.bind_some, Bool.false_eq_true, if_false]
  exact Ev.now _
end Go.Proofs.YtbpffdhkeinmcaaDoor.L
namespace Go.Proofs.YtbpffdhkeinmcaaDoor.L
open Go.RowKit Go.Proofs.YtbpffdhkeinmcaaDoor.QE Go.Proofs.YtbpffdhkeinmcaaDoorW.PrintWords Go.Proofs.YtbpffdhkeinmcaaDoorW.PrintLast
set_option linter.unusedVariables false
set_option linter.unusedSimpArgs false
theorem within_eq (n lo hi : Int) : impl_within.f n lo hi = some (decide (lo ≤ n ∧ n ≤ hi)) := by
 unfold impl_within.f
 by_cases h : n ≥ lo
 ·rw [if_pos h]
  by_cases h2 : n ≤ hi <;> simp [h2] <;> omega
 ·rw [if_neg h]
  simp
  omega
end Go.Proofs.YtbpffdhkeinmcaaDoor.L
namespace Go.Proofs.YtbpffdhkeinmcaaDoor.L
open Go.RowKit Go.Proofs.YtbpffdhkeinmcaaDoor.QE Go.Proofs.YtbpffdhkeinmcaaDoorW.PrintWords Go.Proofs.YtbpffdhkeinmcaaDoorW.PrintLast Go.Proofs.YtbpffdhkeinmcaaDoorW.PrintMore
set_option linter.unusedVariables false
set_option linter.unusedSimpArgs false
def letB (s : ByteArray) (i : Nat) : Bool := decide (97 ≤ bt s (i : Int)) && decide (bt s (i : Int) ≤ 122)
def lettersB (s : ByteArray) : Bool := (List.range s.size).all (letB s)
def wordB (s : ByteArray) : Bool := decide (1 ≤ s.size ∧ s.size ≤ 32) && lettersB s
theorem specWordOk_ev (s : ByteArray) (hs : s.size ≤ 9223372036854775807) : Ev (fun k => spec_WordOk.f k s) (wordB s) := by
 unfold spec_WordOk.f wordB
 by_cases h1 : s.size < 1
 ·simp only [if_pos (show (s.size : Int) < 1 by omega), show ¬ (1 ≤ s.size ∧ s.size ≤ 32) by omega, decide_false, Bool.false_and]
  refine Ev.step (fun k => rfl) ?_
  simp only [spec_WordOk.j0, if_true]
  exact Ev.now _
 ·simp only [if_neg (show ¬ (s.size : Int) < 1 by omega)]
  refine Ev.step (fun k => rfl) ?_
  by_cases h2 : s.size ≤ 32
  ·simp only [spec_WordOk.j0, show ¬ ((s.size : Int) > 32) by omega, decide_false, Bool.false_eq_true, if_false, show (1 ≤ s.size ∧ s.size ≤ 32) by omega, decide_true, Bool.true_and]
   refine evVal (search_ev s.size (fun k i => spec_WordOk.l0 k s i) (letB s) false true ?_ ?_ ?_) ?_
   ·intro i hi hp r hr
    unfold letB at hp
    simp only [Bool.and_eq_true, decide_eq_true_eq] at hp
    refine Ev.step (fun k => ?_) hr
    (simp only [spec_WordOk.l0]); (rw [if_pos (by omega), if_pos (by omega), if_neg (by omega), if_neg (by omega), wrap_nat_succ (by omega)])
   ·intro i hi hp
    unfold letB at hp
    refine Ev.step (f := fun _ => some false) (fun k => ?_) (Ev.now _)
    (simp only [spec_WordOk.l0]); (rw [if_pos (by omega), if_pos (by omega)])
    by_cases h97 : bt s (i : Int) < 97
    ·rw [if_pos h97]
    ·rw [if_neg h97, if_pos (by simp at hp; omega)]
   ·refine Ev.step (f := fun _ => some true) (fun k => ?_) (Ev.now _)
    (simp only [spec_WordOk.l0]); (rw [if_neg (by omega)])
   ·unfold lettersB
    cases (List.range s.size).all (letB s) <;> rfl
  ·simp only [spec_WordOk.j0, show ((s.size : Int) > 32) by omega, decide_true, if_true, show ¬ (1 ≤ s.size ∧ s.size ≤ 32) by omega, decide_false, Bool.false_and]
   exact Ev.now _
theorem isWord_ev (s : ByteArray) (hs : s.size ≤ 9223372036854775807) : Ev (fun k => impl_isWord.f k s) (wordB s) := by
 unfold impl_isWord.f wordB
 refine evVal (search_ev s.size (fun k i => impl_isWord.l0 k s (s.size : Int) i) (letB s) false (decide (1 ≤ s.size ∧ s.size ≤ 32)) ?_ ?_ ?_) ?_
 ·intro i hi hp r hr
  unfold letB at hp
  simp only [Bool.and_eq_true, decide_eq_true_eq] at hp
  refine Ev.step (fun k => ?_) hr
  (simp only [impl_isWord.l0]); (rw [if_pos (by omega), if_pos (by omega), if_pos (by omega), if_neg (by omega), if_neg (by omega), wrap_nat_succ (by omega)])
 ·intro i hi hp
  unfold letB at hp
  refine Ev.step (f := fun _ => some false) (fun k => ?_) (Ev.now _)
  (simp only [impl_isWord.l0]); (rw [if_pos (by omega), if_pos (by omega), if_pos (by omega)])
  by_cases h97 : bt s (i : Int) < 97
  ·rw [if_pos h97]
  ·rw [if_neg h97, if_pos (by simp at hp; omega)]
 ·refine Ev.step (f := fun _ => some (decide (1 ≤ s.size ∧ s.size ≤ 32))) (fun k => ?_) (Ev.now _)
  (simp only [impl_isWord.l0, within_eq, Option.bind_some]); (rw [if_neg (by omega)])
  congr 2
  apply propext
  omega
 ·unfold lettersB
  cases (List.range s.size).all (letB s) <;> simp
theorem wordB_size {s : ByteArray} (h : wordB s = true) : 1 ≤ s.size ∧ s.size ≤ 32 := by
 unfold wordB at h
 rw [Bool.and_eq_true] at h
 exact of_decide_eq_true h.1
def padW (s : ByteArray) : List Int := (s.size : Int) :: (bytesOf s ++ List.replicate (32 - s.size) 0)
def padL (s : ByteArray) : List Int := if wordB s then padW s else List.replicate 33 0
theorem padL_length (s : ByteArray) : (padL s).length = 33 := by
 unfold padL padW
 split
 ·rename_i h
  have := wordB_size h
  simp [bytesOf_length]
  omega
 ·simp
theorem implPad_ev (s : ByteArray) (hs : s.size ≤ 9223372036854775807) : Ev (fun k => impl_pad.f k s) (padL s) := by
 unfold impl_pad.f padL
 refine Ev.bind (isWord_ev s hs) ?_
 cases h : wordB s with
 | false => simp only [Bool.false_eq_true, if_false]; exact Ev.now _
 | true =>
  simp only [if_true, if_pos (wordB_size h).2]
  exact Ev.now _
theorem specPad_ev (s : ByteArray) (hs : s.size ≤ 9223372036854775807) : Ev (fun k => spec_Pad.f k s) (padL s) := by
 unfold spec_Pad.f padL
 simp only [show 33 ≤ 281474976710656 by omega, if_true, Option.bind_some]
 refine Ev.bind (specWordOk_ev s hs) ?_
 cases h : wordB s with
 | false => simp only [Bool.false_eq_true, if_false]; exact Ev.now _
 | true =>
  have hb := wordB_size h
  have e0 : (List.replicate 33 (0 : Int)).set (0 : Int).toNat ((s.size : Int) % 256) = (s.size : Int) :: List.replicate 32 0 := by
   rw [show (0 : Int).toNat = 0 from rfl, List.replicate_succ, List.set_cons_zero]
   congr 1
   omega
  simp only [if_true, List.length_replicate, if_pos (show (0 : Int) < ((33 : Nat) : Int) by omega), e0]
  have key : ∀ d i, i + d = s.size → Ev (fun k => spec_Pad.l0 k s ((s.size : Int) :: ((bytesOf s).take i ++ List.replicate (32 - i) 0)) (i : Int)) (padW s) := by
   intro d
   induction d with
   | zero =>
    intro i hi
    refine evVal (Ev.step (f := fun _ => some ((s.size : Int) :: ((bytesOf s).take i ++ List.replicate (32 - i) 0))) (fun k => ?_) (Ev.now _)) ?_
    ·simp only [spec_Pad.l0]
     rw [if_neg (by omega)]
    ·unfold padW
     rw [List.take_of_length_le (by rw [bytesOf_length]; omega), show i = s.size by omega]
   | succ d ih =>
    intro i hi
    refine Ev.step (fun k => ?_) (ih (i + 1) (by omega))
    (have hl : (((s.size : Int) :: ((bytesOf s).take i ++ List.replicate (32 - i) 0)).length : Int) = 33 := by simp [bytesOf_length]; omega); (simp only [spec_Pad.l0]); (rw [if_pos (by omega), if_pos (by omega), wrap_nat_succ (by omega), if_pos (by omega), if_pos (by rw [hl]; omega)])
    congr 1
    rw [Int.toNat_natCast, List.set_cons_succ, List.set_append_right _ _ (by rw [List.length_take, bytesOf_length]; omega), List.length_take, bytesOf_length, Nat.min_eq_left (by omega), Nat.sub_self, show 32 - i = (32 - (i + 1)) + 1 by omega, List.replicate_succ, List.set_cons_zero, List.take_succ_eq_append_getElem (by rw [bytesOf_length]; omega), List.append_assoc]
    congr 3
    have := rd_bytesOf s (i : Int)
    unfold rd at this
    rw [Int.toNat_natCast, List.getD_eq_getElem?_getD, List.getElem?_eq_getElem (by rw [bytesOf_length]; omega)] at this
    exact this.symm
  have := key s.size 0 (by omega)
  simpa using this
theorem bt_getD (s : ByteArray) (i : Nat) : bt s (i : Int) = ((s.data.toList.getD i 0).toNat : Int) := by
 rw [← rd_bytesOf]
 unfold rd bytesOf
 rw [Int.toNat_natCast, List.getD_eq_getElem?_getD, List.getD_eq_getElem?_getD, List.getElem?_map]
 cases s.data.toList[i]? <;> rfl
def letU (b : UInt8) : Bool := decide (97 ≤ b.toNat ∧ b.toNat ≤ 122)
theorem lettersB_all (s : ByteArray) : lettersB s = s.data.toList.all letU := by
 unfold lettersB
 rw [← all_range s.data.toList 0 letU, data_length]
 congr 1
 funext i
 unfold letB letU
 (rw [bt_getD]); (rw [Bool.eq_iff_iff]); (simp only [Bool.and_eq_true, decide_eq_true_eq])
 omega
def lowU (b : UInt8) : UInt8 := if 65 ≤ b.toNat ∧ b.toNat ≤ 90 then UInt8.ofNat (b.toNat + 32) else b
def lowS (s : ByteArray) : ByteArray := ⟨(s.data.toList.map lowU).toArray⟩
theorem lowS_size (s : ByteArray) : (lowS s).size = s.size := by
 rw [← data_length (lowS s), ← data_length s]
 show (s.data.toList.map lowU).toArray.toList.length = _
 rw [List.toList_toArray, List.length_map]
def foldS (s : ByteArray) : ByteArray := if s.size ≤ 32 ∧ wordB (lowS s) = true then lowS s else ⟨#[]⟩
theorem foldS_size (s : ByteArray) : (foldS s).size ≤ 32 := by
 unfold foldS
 split
 ·rename_i h; rw [lowS_size]; exact h.1
 ·exact Nat.zero_le _
theorem dec_small (l : List UInt8) (hb : (l.getD 0 0).toNat < 128) : Lib.decodeL l = ((l.getD 0 0).toNat, 1) := by
 rw [Lib.decodeL_N]
 unfold Lib.decodeN
 rw [if_pos hb]
theorem dec_big (l : List UInt8) (hb : 128 ≤ (l.getD 0 0).toNat) : 128 ≤ (Lib.decodeL l).1 := by
 rw [Lib.decodeL_N]
 rcases Lib.decodeN_shape l.length (l.getD 0 0).toNat (l.getD 1 0).toNat (l.getD 2 0).toNat (l.getD 3 0).toNat with ⟨c, e⟩ | ⟨c1, c2, c3, cv, e⟩ | ⟨c1, c2, c3, c4, cv, cs, e⟩ | ⟨c1, c2, c3, c4, c5, cv, cw, e⟩ | e
 all_goals (rw [e]; dsimp only; omega)
theorem toU8 (x : Int) (h0 : 0 ≤ x) (h1 : x < 256) : (x.toNat.toUInt8).toNat = x.toNat := by
 rw [Nat.toUInt8, UInt8.toNat_ofNat']
 omega
theorem enc_big (r : Int) (h : 128 ≤ r) : ∃ b, b ∈ Lib.encodeRune r ∧ 128 ≤ b.toNat := by
 have hz : ∃ x, x ∈ Lib.encodeRuneZ r ∧ 128 ≤ x ∧ x < 256 := by
  unfold Lib.encodeRuneZ
  split
  ·omega
  ·split
   ·exact ⟨192 + r / 64, by simp, by omega, by omega⟩
   ·split
    ·exact ⟨224 + r / 4096, by simp, by omega, by omega⟩
    ·split
     ·exact ⟨240 + r / 262144, by simp, by omega, by omega⟩
     ·exact ⟨239, by simp, by omega, by omega⟩
 obtain ⟨x, hx, h0, h1⟩ := hz
 refine ⟨x.toNat.toUInt8, List.mem_map.2 ⟨x, hx, rfl⟩, ?_⟩
 rw [toU8 x (by omega) h1]
 omega
theorem lowR_small (n : Nat) (h : n < 128) : lowR (n : Int) = ((lowU (UInt8.ofNat n)).toNat : Int) := by
 unfold lowR lowU
 rw [UInt8.toNat_ofNat', show n % 2 ^ 8 = n by omega]
 by_cases h1 : 65 ≤ n
 ·by_cases h2 : n ≤ 90
  ·rw [if_pos (by omega), if_pos (by omega), if_pos ⟨h1, h2⟩, UInt8.toNat_ofNat']
   omega
  ·rw [if_pos (by omega), if_neg (by omega), if_neg (by omega), UInt8.toNat_ofNat']
   omega
 ·rw [if_neg (by omega), if_neg (by omega), UInt8.toNat_ofNat']
  omega
theorem lowR_big (n : Nat) (h : 128 ≤ n) : lowR (n : Int) = (n : Int) := by
 unfold lowR
 rw [if_pos (by omega), if_neg (by omega)]
theorem enc_low (b : UInt8) (h : b.toNat < 128) : Lib.encodeRune (lowR (b.toNat : Int)) = [lowU b] := by
 (have e : UInt8.ofNat b.toNat = b := by simp); (rw [lowR_small _ h, e])
 have hl : (lowU b).toNat < 128 := by
  unfold lowU
  split
  ·rename_i h2; rw [UInt8.toNat_ofNat']; omega
  ·exact h
 unfold Lib.encodeRune
 (rw [Lib.encodeRuneZ_one (by omega) (by omega)]); (simp only [List.map_cons, List.map_nil, Int.toNat_natCast])
 congr 1
 apply UInt8.toNat_inj.1
 rw [Nat.toUInt8, UInt8.toNat_ofNat']
 omega
theorem lowR_nonneg (n : Nat) : 0 ≤ lowR (n : Int) := by
 unfold lowR
 split
 ·split <;> omega
 ·omega
theorem mapD_small : ∀ l : List UInt8, (∀ b, b ∈ l → b.toNat < 128) → Lib.mapD lowR l = l.map lowU
 | [], _ => rfl
 | b :: l, h => by
  (have hb := h b (List.mem_cons_self ..)); (rw [Lib.mapD_step lowR (b :: l) (by simp), dec_small (b :: l) hb])
  show (if 0 ≤ lowR (b.toNat : Int) then Lib.encodeRune (lowR (b.toNat : Int)) else []) ++ Lib.mapD lowR l = _
  rw [if_pos (lowR_nonneg _), enc_low b hb, mapD_small l (fun x hx => h x (List.mem_cons_of_mem _ hx))]
  rfl
theorem mapD_big : ∀ (n : Nat) (l : List UInt8), l.length ≤ n → (∃ b, b ∈ l ∧ 128 ≤ b.toNat) → ∃ b, b ∈ Lib.mapD lowR l ∧ 128 ≤ b.toNat
 | 0, l, hn, ⟨b, hb, _⟩ => by
  obtain rfl : l = [] := List.eq_nil_of_length_eq_zero (by omega)
  cases hb
 | n + 1, [], _, ⟨b, hb, _⟩ => by cases hb
 | n + 1, c :: l, hn, ⟨b, hb, hb2⟩ => by
  rw [Lib.mapD_step lowR (c :: l) (by simp)]
  by_cases hc : c.toNat < 128
  ·rw [dec_small (c :: l) hc]
   have hbl : b ∈ l := by
    rcases List.mem_cons.1 hb with rfl | h
    ·omega
    ·exact h
   obtain ⟨x, hx, hx2⟩ := mapD_big n l (by simp only [List.length_cons] at hn; omega) ⟨b, hbl, hb2⟩
   exact ⟨x, List.mem_append_right _ hx, hx2⟩
  ·have h1 := dec_big (c :: l) (by show 128 ≤ c.toNat; omega)
   (rw [if_pos (lowR_nonneg _), lowR_big _ h1]); (obtain ⟨x, hx, hx2⟩ := enc_big ((Lib.decodeL (c :: l)).1 : Int) (by omega))
   exact ⟨x, List.mem_append_left _ hx, hx2⟩
theorem big_no_word (l : List UInt8) (h : ∃ b, b ∈ l ∧ 128 ≤ b.toNat) : wordB ⟨l.toArray⟩ = false := by
 unfold wordB
 rw [lettersB_all]
 have : (⟨l.toArray⟩ : ByteArray).data.toList.all letU = false := by
  (obtain ⟨b, hb, h2⟩ := h); (rw [List.all_eq_false])
  exact ⟨b, by simpa using hb, by unfold letU; simp; omega⟩
 rw [this, Bool.and_false]
theorem mapD_word (s : ByteArray) : (if wordB ⟨(Lib.mapD lowR s.data.toList).toArray⟩ = true then (⟨(Lib.mapD lowR s.data.toList).toArray⟩ : ByteArray) else ⟨#[]⟩) = if wordB (lowS s) = true then lowS s else ⟨#[]⟩ := by
 by_cases h : ∀ b, b ∈ s.data.toList → b.toNat < 128
 ·rw [mapD_small _ h]
  rfl
 ·have h2 : ∃ b, b ∈ s.data.toList ∧ 128 ≤ b.toNat := by
   obtain ⟨b, hb⟩ := Classical.not_forall.1 h
   exact ⟨b, by by_cases hm : b ∈ s.data.toList; exact hm; exact absurd (fun h' => absurd h' hm) hb, by by_cases hm : b.toNat < 128; exact absurd (fun _ => hm) hb; omega⟩
  rw [big_no_word _ (mapD_big _ _ (Nat.le_refl _) h2)]
  have h3 : ∃ b, b ∈ s.data.toList.map lowU ∧ 128 ≤ b.toNat := by
   obtain ⟨b, hb, hb2⟩ := h2
   refine ⟨lowU b, List.mem_map.2 ⟨b, hb, rfl⟩, ?_⟩
   unfold lowU
   rw [if_neg (by omega)]
   exact hb2
  rw [show wordB (lowS s) = false from big_no_word _ h3]
  rfl
theorem enc_len (r : Int) : (Lib.encodeRune r).length ≤ 4 := by
 unfold Lib.encodeRune
 rw [List.length_map]
 exact (Lib.encodeRuneZ_length r).2
theorem mapD_length : ∀ (n : Nat) (l : List UInt8), l.length ≤ n → (Lib.mapD lowR l).length ≤ 4 * l.length
 | 0, l, hn => by
  obtain rfl : l = [] := List.eq_nil_of_length_eq_zero (by omega)
  exact Nat.zero_le _
 | n + 1, [], _ => Nat.zero_le _
 | n + 1, c :: l, hn => by
  (have hw := Lib.decodeL_width (c :: l)); (rw [Lib.mapD_step lowR (c :: l) (by simp), List.length_append, if_pos (lowR_nonneg _)]); (have h1 := enc_len (lowR ((Lib.decodeL (c :: l)).1 : Int))); (have h2 := mapD_length n ((c :: l).drop (Lib.decodeL (c :: l)).2) (by rw [List.length_drop]; simp only [List.length_cons] at hn ⊢; omega)); (rw [List.length_drop] at h2); (simp only [List.length_cons] at h2 ⊢)
  omega
theorem implFold_ev (s : ByteArray) (hs : s.size ≤ 1048576) : Ev (fun k => impl_Fold.f k s) (foldS s) := by
 have e : strings_Map.f s = some ⟨(Lib.mapD lowR s.data.toList).toArray⟩ := by unfold strings_Map.f; rw [if_pos (by omega)]
 have hl : (⟨(Lib.mapD lowR s.data.toList).toArray⟩ : ByteArray).size ≤ 4194304 := by
  (have := mapD_length _ s.data.toList (Nat.le_refl _)); (rw [data_length] at this)
  show (Lib.mapD lowR s.data.toList).toArray.size ≤ _
  rw [List.size_toArray]
  omega
 have hm := mapD_word s
 unfold impl_Fold.f
 refine Ev.bind (evConst e) ?_
 clear e
 generalize (⟨(Lib.mapD lowR s.data.toList).toArray⟩ : ByteArray) = m at hl hm
 by_cases h : (s.size : Int) > 32
 ·simp only [if_pos h]
  exact evVal (Ev.now _) (by unfold foldS; rw [if_neg (by omega)])
 ·simp only [if_neg h]
  refine Ev.bind (isWord_ev m (by omega)) ?_
  have hf : foldS s = if wordB (lowS s) = true then lowS s else ⟨#[]⟩ := by
   unfold foldS
   by_cases hw : wordB (lowS s) = true
   ·rw [if_pos ⟨by omega, hw⟩, if_pos hw]
   ·rw [if_neg (fun h => hw h.2), if_neg hw]
  rw [hf, ← hm]
  cases wordB m with
  | true => simp only [if_true]; exact Ev.now _
  | false => simp only [Bool.false_eq_true, if_false]; exact Ev.now _
def lowI (x : Int) : Int := if x ≥ 65 then (if x ≤ 90 then (x + 32) % 256 else x) else x
theorem lowI_bt (s : ByteArray) (i : Nat) : lowI (bt s (i : Int)) = ((lowU (s.data.toList.getD i 0)).toNat : Int) := by
 (rw [bt_getD]); (have hb : (s.data.toList.getD i 0).toNat < 256 := UInt8.toNat_lt _)
 generalize s.data.toList.getD i 0 = b at hb
 unfold lowI lowU
 by_cases h1 : 65 ≤ b.toNat
 ·by_cases h2 : b.toNat ≤ 90
  ·rw [if_pos (by omega), if_pos (by omega), if_pos ⟨h1, h2⟩, UInt8.toNat_ofNat']; omega
  ·rw [if_pos (by omega), if_neg (by omega), if_neg (by omega)]
 ·rw [if_neg (by omega), if_neg (by omega)]
theorem strOf_low (s : ByteArray) : strOfNums ((s.data.toList.map lowU).map fun b => (b.toNat : Int)) = lowS s := strOf_nums _
theorem specFold_ev (s : ByteArray) (hs : s.size ≤ 1048576) : Ev (fun k => spec_Fold.f k s) (foldS s) := by
 unfold spec_Fold.f
 by_cases h : (s.size : Int) > 32
 ·simp only [if_pos h]
  exact evVal (Ev.now _) (by unfold foldS; rw [if_neg (by omega)])
 ·simp only [if_neg h]
  have hf : foldS s = if wordB (lowS s) = true then lowS s else ⟨#[]⟩ := by
   unfold foldS
   by_cases hw : wordB (lowS s) = true
   ·rw [if_pos ⟨by omega, hw⟩, if_pos hw]
   ·rw [if_neg (fun h => hw h.2), if_neg hw]
  refine loop_ev s.size (fun k x i => spec_Fold.l0 k s x i) (fun i => ((s.data.toList.map lowU).take i).map fun b => (b.toNat : Int)) (foldS s) ?_ ?_
  ·intro i hi hr
   refine Ev.step (fun k => ?_) hr
   have hil : i < (s.data.toList.map lowU).length := by rw [List.length_map, data_length]; exact hi
   have e2 : (((s.data.toList.map lowU).take (i + 1)).map fun b => (b.toNat : Int)) = (((s.data.toList.map lowU).take i).map fun b => (b.toNat : Int)) ++ [lowI (bt s (i : Int))] := by
    rw [List.take_succ_eq_append_getElem hil, List.map_append, lowI_bt, List.map_cons, List.map_nil, List.getElem_map, getD_lt 0 (by rw [data_length]; exact hi)]
   (have hl : ((((s.data.toList.map lowU).take i).map fun b => (b.toNat : Int))).length < 140737488355328 := by rw [List.length_map, List.length_take]; omega); (rw [e2]); (simp only [spec_Fold.l0]); (rw [if_pos (by omega), if_pos (by omega), wrap_nat_succ (by omega)]); (simp only [if_pos hl])
   unfold lowI
   by_cases h1 : bt s (i : Int) ≥ 65
   ·rw [if_pos h1, if_pos h1]
    by_cases h2 : bt s (i : Int) ≤ 90
    ·rw [if_pos h2, if_pos h2]
    ·rw [if_neg h2, if_neg h2]
   ·rw [if_neg h1, if_neg h1]
  ·refine Ev.step (fun k => rfl) ?_
   (simp only [spec_Fold.l0, if_neg (show ¬ ((s.size : Int) < (s.size : Int)) by omega)]); (rw [List.take_of_length_le (by rw [List.length_map, data_length]; omega), strOf_low])
   refine Ev.bind (specWordOk_ev (lowS s) (by rw [lowS_size]; omega)) ?_
   rw [hf]
   cases wordB (lowS s) with
   | true => simp only [if_true]; exact Ev.now _
   | false => simp only [Bool.false_eq_true, if_false]; exact Ev.now _
def gapU (b : UInt8) : Bool := decide (b.toNat = 9 ∨ b.toNat = 10 ∨ b.toNat = 13 ∨ b.toNat = 32)
theorem gapR_eq (n : Nat) : gapR n = decide (n = 9 ∨ n = 10 ∨ n = 13 ∨ n = 32) := by
 unfold gapR
 by_cases h1 : n = 9
 ·subst h1; rfl
 ·rw [if_neg (by omega)]
  by_cases h2 : n = 10
  ·subst h2; rfl
  ·rw [if_neg (by omega)]
   by_cases h3 : n = 13
   ·subst h3; rfl
   ·rw [if_neg (by omega)]
    rw [decide_eq_decide]
    omega
def endU (bs : List UInt8) (i : Nat) : Nat := i + ((bs.drop i).takeWhile fun b => !gapU b).length
theorem endU_gap {bs : List UInt8} {i : Nat} (hi : i < bs.length) (h : gapU (bs.getD i 0) = true) : endU bs i = i := by
 unfold endU
 (rw [getD_lt 0 hi] at h); (rw [List.drop_eq_getElem_cons hi, List.takeWhile_cons, h])
 rfl
theorem endU_go {bs : List UInt8} {i : Nat} (hi : i < bs.length) (h : gapU (bs.getD i 0) = false) : endU bs i = endU bs (i + 1) := by
 unfold endU
 (rw [getD_lt 0 hi] at h); (rw [List.drop_eq_getElem_cons hi, List.takeWhile_cons, h]); (simp only [Bool.not_false, if_true, List.length_cons])
 omega
theorem endU_end {bs : List UInt8} {i : Nat} (hi : bs.length ≤ i) : endU bs i = i := by
 unfold endU
 rw [List.drop_of_length_le hi]
 rfl
theorem endU_le {bs : List UInt8} {i : Nat} (hi : i ≤ bs.length) : i ≤ endU bs i ∧ endU bs i ≤ bs.length := by
 unfold endU
 (have := (List.takeWhile_sublist (fun b => !gapU b) (l := bs.drop i)).length_le); (rw [List.length_drop] at this)
 omega
def startB (bs : List UInt8) (i : Nat) : Bool := !gapU (bs.getD i 0) && (decide (i = 0) || gapU (bs.getD (i - 1) 0))
theorem startB_yes {bs : List UInt8} {i : Nat} (h0 : gapU (bs.getD i 0) = false) (h : i = 0 ∨ gapU (bs.getD (i - 1) 0) = true) : startB bs i = true := by
 unfold startB
 rw [h0]
 rcases h with h | h
 ·subst h; rfl
 ·rw [h]; simp
def spFrom (bs : List UInt8) : Nat → Nat → List (Nat × Nat)
 | 0, _ => []
 | d + 1, i => if startB bs i = true then (i, endU bs i) :: spFrom bs d (i + 1) else spFrom bs d (i + 1)
theorem spFrom_step (bs : List UInt8) (i : Nat) (h : i < bs.length) : spFrom bs (bs.length - i) i = if startB bs i = true then (i, endU bs i) :: spFrom bs (bs.length - (i + 1)) (i + 1) else spFrom bs (bs.length - (i + 1)) (i + 1) := by
 rw [show bs.length - i = (bs.length - (i + 1)) + 1 by omega]
 rfl
theorem spFrom_end (bs : List UInt8) : spFrom bs (bs.length - bs.length) bs.length = [] := by rw [Nat.sub_self]; rfl
theorem jump (bs : List UInt8) : ∀ (w pos : Nat), pos + w ≤ bs.length → 0 < pos → gapU (bs.getD (pos - 1) 0) = false → (∀ j, j < w → gapU (bs.getD (pos + j) 0) = false) →
  endU bs pos = endU bs (pos + w) ∧ spFrom bs (bs.length - pos) pos = spFrom bs (bs.length - (pos + w)) (pos + w) ∧ gapU (bs.getD (pos + w - 1) 0) = false
 | 0, pos, _, _, hg, _ => ⟨rfl, rfl, hg⟩
 | w + 1, pos, hle, hp, hg, hj => by
  (have h0 := hj 0 (by omega)); (rw [Nat.add_zero] at h0); (obtain ⟨e1, e2, e3⟩ := jump bs w (pos + 1) (by omega) (by omega) (by rw [show pos + 1 - 1 = pos by omega]; exact h0) (fun j h => by have := hj (j + 1) (by omega); rwa [show pos + (j + 1) = pos + 1 + j by omega] at this))
  refine ⟨by rw [endU_go (by omega) h0, e1]; congr 1; omega, ?_, by rw [show pos + (w + 1) - 1 = pos + 1 + w - 1 by omega]; exact e3⟩
  (rw [spFrom_step bs pos (by omega), if_neg (by unfold startB; rw [hg]; simp; omega), e2]); (rw [show pos + 1 + w = pos + (w + 1) by omega])
theorem dec_at (s : ByteArray) (pos : Nat) (h : pos < s.data.toList.length) :
  ((Utf8.decode s pos).2 = 1 ∧ gapR (Utf8.decode s pos).1 = gapU (s.data.toList.getD pos 0)) ∨
  (1 ≤ (Utf8.decode s pos).2 ∧ pos + (Utf8.decode s pos).2 ≤ s.data.toList.length ∧ gapR (Utf8.decode s pos).1 = false ∧ ∀ j, j < (Utf8.decode s pos).2 → gapU (s.data.toList.getD (pos + j) 0) = false) := by
 rw [Lib.decode_N]
 generalize hl : s.data.toList = bs at h
 (have wide : ∀ n : Nat, 128 ≤ n → gapR n = false := fun n hn => by rw [gapR_eq, decide_eq_false_iff_not]; omega); (have wideU : ∀ i : Nat, 128 ≤ (bs.getD i 0).toNat → gapU (bs.getD i 0) = false := fun i hn => by unfold gapU; rw [decide_eq_false_iff_not]; omega)
 by_cases hb : (bs.getD pos 0).toNat < 128
 ·left
  (have : Lib.decodeN (bs.length - pos) (bs.getD pos 0).toNat (bs.getD (pos + 1) 0).toNat (bs.getD (pos + 2) 0).toNat (bs.getD (pos + 3) 0).toNat = ((bs.getD pos 0).toNat, 1) := by unfold Lib.decodeN; rw [if_pos hb]); (rw [this])
  exact ⟨rfl, by rw [gapR_eq]; rfl⟩
 ·right
  have h0 := wideU pos (by omega)
  rcases Lib.decodeN_shape (bs.length - pos) (bs.getD pos 0).toNat (bs.getD (pos + 1) 0).toNat (bs.getD (pos + 2) 0).toNat (bs.getD (pos + 3) 0).toNat with ⟨c, e⟩ | ⟨c1, c2, c3, cv, e⟩ | ⟨c1, c2, c3, c4, cv, cs, e⟩ | ⟨c1, c2, c3, c4, c5, cv, cw, e⟩ | e
  ·omega
  ·rw [e]
   refine ⟨by show 1 ≤ 2; omega, by show pos + 2 ≤ _; omega, wide _ cv, fun j hj => ?_⟩
   have hj : j < 2 := hj
   match j, hj with
   | 0, _ => exact h0
   | 1, _ => exact wideU _ (by omega)
  ·rw [e]
   refine ⟨by show 1 ≤ 3; omega, by show pos + 3 ≤ _; omega, wide _ (by omega), fun j hj => ?_⟩
   have hj : j < 3 := hj
   match j, hj with
   | 0, _ => exact h0
   | 1, _ => exact wideU _ (by omega)
   | 2, _ => exact wideU _ (by omega)
  ·rw [e]
   refine ⟨by show 1 ≤ 4; omega, by show pos + 4 ≤ _; omega, wide _ (by omega), fun j hj => ?_⟩
   have hj : j < 4 := hj
   match j, hj with
   | 0, _ => exact h0
   | 1, _ => exact wideU _ (by omega)
   | 2, _ => exact wideU _ (by omega)
   | 3, _ => exact wideU _ (by omega)
  ·rw [e]
   refine ⟨by show 1 ≤ 1; omega, by show pos + 1 ≤ _; omega, by rw [gapR_eq]; decide, fun j hj => ?_⟩
   (have hj : j < 1 := hj); (obtain rfl : j = 0 := by omega)
   exact h0
theorem spans_eq (s : ByteArray) : ∀ (f pos : Nat) (st : Option Nat) (acc : List (Nat × Nat)), s.data.toList.length ≤ pos + f → pos ≤ s.data.toList.length →
  (∀ a, st = some a → 0 < pos ∧ gapU (s.data.toList.getD (pos - 1) 0) = false) → (st = none → pos = 0 ∨ gapU (s.data.toList.getD (pos - 1) 0) = true) →
  Lib.closeSpans s (Lib.spansFromP gapR s f pos st acc) = acc ++ ((match st with | some a => [(a, endU s.data.toList pos)] | none => []) ++ spFrom s.data.toList (s.data.toList.length - pos) pos) := by
 have hsz : s.data.toList.length = s.size := data_length s
 intro f
 induction f with
 | zero =>
  intro pos st acc hf hp hs hn
  (obtain rfl : pos = s.data.toList.length := by omega); (rw [spFrom_end, List.append_nil])
  unfold Lib.spansFromP Lib.closeSpans
  cases st with
  | none => simp
  | some a => simp only; rw [endU_end (Nat.le_refl _), hsz]
 | succ f ih =>
  intro pos st acc hf hp hs hn
  by_cases hlt : pos < s.data.toList.length
  ·unfold Lib.spansFromP
   rw [if_pos (by omega)]
   rcases dec_at s pos hlt with ⟨hw, hg⟩ | ⟨hw, hfit, hg, hj⟩
   ·rw [hw, hg]
    cases hgp : gapU (s.data.toList.getD pos 0) with
    | true =>
     (simp only [if_true]); (have hnx : (pos + 1 = 0 ∨ gapU (s.data.toList.getD (pos + 1 - 1) 0) = true) := .inr (by rw [Nat.add_sub_cancel]; exact hgp)); (have e2 : spFrom s.data.toList (s.data.toList.length - pos) pos = spFrom s.data.toList (s.data.toList.length - (pos + 1)) (pos + 1) := by rw [spFrom_step _ _ hlt, if_neg (by unfold startB; rw [hgp]; simp)])
     cases st with
     | none => simp only; rw [ih (pos + 1) none acc (by omega) (by omega) (fun a h => by cases h) (fun _ => hnx), e2]
     | some a =>
      (simp only); (rw [ih (pos + 1) none _ (by omega) (by omega) (fun a h => by cases h) (fun _ => hnx), e2, endU_gap hlt hgp])
      simp
    | false =>
     (simp only [Bool.false_eq_true, if_false]); (have hnx : 0 < pos + 1 ∧ gapU (s.data.toList.getD (pos + 1 - 1) 0) = false := ⟨by omega, by rw [Nat.add_sub_cancel]; exact hgp⟩)
     cases st with
     | none =>
      (simp only); (rw [ih (pos + 1) (some pos) acc (by omega) (by omega) (fun a h => hnx) (fun h => by cases h), spFrom_step _ _ hlt, if_pos (startB_yes hgp (hn rfl)), endU_go hlt hgp])
      simp
     | some a =>
      (simp only); (have := (hs a rfl)); (rw [ih (pos + 1) (some a) acc (by omega) (by omega) (fun a h => hnx) (fun h => by cases h), spFrom_step _ _ hlt, if_neg (by unfold startB; rw [this.2]; simp; omega), endU_go hlt hgp])
   ·rw [hg]
    simp only [Bool.false_eq_true, if_false]
    generalize hwe : (Utf8.decode s pos).2 = w at hw hfit hj
    (have h0 := hj 0 (by omega)); (rw [Nat.add_zero] at h0)
    cases st with
    | none =>
     (simp only); (obtain ⟨e1, e2, e3⟩ := jump s.data.toList (w - 1) (pos + 1) (by omega) (by omega) (by rw [Nat.add_sub_cancel]; exact h0) (fun j h => by have := hj (j + 1) (by omega); rwa [show pos + (j + 1) = pos + 1 + j by omega] at this)); (rw [show pos + 1 + (w - 1) = pos + w by omega] at e1 e2 e3); (rw [ih (pos + w) (some pos) acc (by omega) (by omega) (fun a h => ⟨by omega, e3⟩) (fun h => by cases h), spFrom_step _ _ hlt, if_pos (startB_yes h0 (hn rfl)), endU_go hlt h0, e1, e2])
     simp
    | some a =>
     (simp only); (have hpre := hs a rfl); (obtain ⟨e1, e2, e3⟩ := jump s.data.toList w pos hfit hpre.1 hpre.2 hj); (rw [ih (pos + w) (some a) acc (by omega) (by omega) (fun a h => ⟨by omega, e3⟩) (fun h => by cases h), e1, e2])
  ·obtain rfl : pos = s.data.toList.length := by omega
   rw [Lib.spansFromP_end _ _ _ _ _ _ (by omega), spFrom_end, List.append_nil]
   unfold Lib.closeSpans
   cases st with
   | none => simp
   | some a => simp only; rw [endU_end (Nat.le_refl _), hsz]
def cutS (s : ByteArray) (x : Nat × Nat) : ByteArray := s.extract x.1 x.2
def piecesS (s : ByteArray) : List ByteArray := (spFrom s.data.toList s.data.toList.length 0).map (cutS s)
theorem fields_eq (s : ByteArray) : Lib.goFieldsP gapR s = piecesS s := by
 unfold Lib.goFieldsP Lib.spansOfP piecesS
 rw [spans_eq s s.size 0 none [] (by rw [data_length]; omega) (Nat.zero_le _) (fun a h => by cases h) (fun _ => .inl rfl)]
 rfl
theorem extract_size (s : ByteArray) (a b : Nat) : (s.extract a b).size ≤ s.size := by
 (rw [← data_length, ← data_length, Lib.extract_data]); (simp only [List.length_take, List.length_drop])
 omega
def tokS (t : ByteArray) : ByteArray := if (foldS t).toList = [] then (⟨#[63]⟩ : ByteArray) else foldS t
def tokensS (s : ByteArray) (n : Int) : List ByteArray × Bool :=
 if s.size ≤ 2000 ∧ 1 ≤ n ∧ n ≤ 16 then (if (piecesS s).length ≤ n.toNat then ((piecesS s).map tokS ++ List.replicate (n.toNat - (piecesS s).length) (⟨#[]⟩ : ByteArray), true) else ([], false)) else ([], false)
theorem gap_ev (s : ByteArray) (i : Nat) : spec_l01Gap.f (bt s (i : Int)) = some (gapU (s.data.toList.getD i 0)) := by
 rw [bt_getD]
 unfold spec_l01Gap.f gapU
 generalize (s.data.toList.getD i 0).toNat = n
 by_cases h1 : n = 9
 ·subst h1; rfl
 ·rw [if_neg (by omega)]
  by_cases h2 : n = 10
  ·subst h2; rfl
  ·rw [if_neg (by omega)]
   by_cases h3 : n = 13
   ·subst h3; rfl
   ·rw [if_neg (by omega)]
    congr 1
    rw [Bool.eq_iff_iff]
    simp
    omega
theorem pad_ev (n : Nat) (hn : n ≤ 16) : ∀ (d : Nat) (out : List ByteArray), out.length + d = n → Ev (fun k => spec_Tokens.l2 k (n : Int) out) (out ++ List.replicate d (⟨#[]⟩ : ByteArray), true)
 | 0, out, h => by
  refine Ev.step (f := fun _ => some (out, true)) (fun k => ?_) (evVal (Ev.now _) (by simp))
  simp only [spec_Tokens.l2, if_neg (show ¬ (out.length : Int) < (n : Int) by omega)]
 | d + 1, out, h => by
  refine Ev.step (fun k => ?_) (evVal (pad_ev n hn d (out ++ [(⟨#[]⟩ : ByteArray)]) (by rw [List.length_append, List.length_singleton]; omega)) (by rw [List.append_assoc, List.replicate_succ, List.singleton_append]))
  simp only [spec_Tokens.l2, if_pos (show (out.length : Int) < (n : Int) by omega), if_pos (show out.length < 8796093022208 by omega)]
theorem end_ev (s : ByteArray) (n : Int) (out : List ByteArray) (i : Nat) (hs : s.size ≤ 2000) (r : List ByteArray × Bool) : ∀ (d e : Nat), e + d = s.size → Ev (fun k => spec_Tokens.j4 k s n out (i : Int) ((endU s.data.toList e : Nat) : Int)) r → Ev (fun k => spec_Tokens.l1 k s n out (i : Int) (e : Int)) r
 | 0, e, h, hr => by
  rw [endU_end (by rw [data_length]; omega)] at hr
  refine Ev.step (fun k => ?_) hr
  simp only [spec_Tokens.l1, if_neg (show ¬ (e : Int) < (s.size : Int) by omega)]
 | d + 1, e, h, hr => by
  have hlt : e < s.data.toList.length := by rw [data_length]; omega
  cases hg : gapU (s.data.toList.getD e 0) with
  | true =>
   rw [endU_gap hlt hg] at hr
   refine Ev.step (fun k => ?_) hr
   simp only [spec_Tokens.l1, if_pos (show (e : Int) < (s.size : Int) by omega), if_pos (show (0 : Int) ≤ (e : Int) by omega), gap_ev, hg, Option.bind_some, if_true]
  | false =>
   rw [endU_go hlt hg] at hr
   refine Ev.step (fun k => ?_) (end_ev s n out i hs r d (e + 1) (by omega) hr)
   simp only [spec_Tokens.l1, if_pos (show (e : Int) < (s.size : Int) by omega), if_pos (show (0 : Int) ≤ (e : Int) by omega), gap_ev, hg, Option.bind_some, Bool.false_eq_true, if_false, wrap_nat_succ (show e < 9223372036854775807 by omega)]
theorem tok_ev (s : ByteArray) (n : Nat) (hn : n ≤ 16) (hs : s.size ≤ 2000) : ∀ (d i : Nat) (out : List ByteArray), i + d = s.size → out.length ≤ n →
  Ev (fun k => spec_Tokens.l0 k s (n : Int) out (i : Int)) (if out.length + (spFrom s.data.toList d i).length ≤ n then (out ++ ((spFrom s.data.toList d i).map fun x => tokS (cutS s x)) ++ List.replicate (n - (out.length + (spFrom s.data.toList d i).length)) (⟨#[]⟩ : ByteArray), true) else ([], false))
 | 0, i, out, hi, ho => by
  rw [if_pos (by simpa [spFrom] using ho)]
  refine Ev.step (fun k => ?_) (evVal (pad_ev n hn (n - out.length) out (by omega)) (by simp [spFrom]))
  simp only [spec_Tokens.l0, if_neg (show ¬ (i : Int) < (s.size : Int) by omega)]
 | d + 1, i, out, hi, ho => by
  (have hlt : i < s.data.toList.length := by rw [data_length]; omega); (have hle := endU_le (bs := s.data.toList) (i := i) (by omega)); (rw [data_length] at hle)
  have hskip : startB s.data.toList i = false → Ev (fun k => spec_Tokens.j2 k s (n : Int) out (i : Int) true) (if out.length + (spFrom s.data.toList (d + 1) i).length ≤ n then (out ++ ((spFrom s.data.toList (d + 1) i).map fun x => tokS (cutS s x)) ++ List.replicate (n - (out.length + (spFrom s.data.toList (d + 1) i).length)) (⟨#[]⟩ : ByteArray), true) else ([], false)) := by
   intro hst
   have e : spFrom s.data.toList (d + 1) i = spFrom s.data.toList d (i + 1) := by
    show (if startB s.data.toList i = true then _ else _) = _
    rw [hst]; rfl
   rw [e]
   refine Ev.step (fun k => ?_) (tok_ev s n hn hs d (i + 1) out (by omega) ho)
   simp only [spec_Tokens.j2, if_true, wrap_nat_succ (show i < 9223372036854775807 by omega)]
  have htake : startB s.data.toList i = true → Ev (fun k => spec_Tokens.j2 k s (n : Int) out (i : Int) false) (if out.length + (spFrom s.data.toList (d + 1) i).length ≤ n then (out ++ ((spFrom s.data.toList (d + 1) i).map fun x => tokS (cutS s x)) ++ List.replicate (n - (out.length + (spFrom s.data.toList (d + 1) i).length)) (⟨#[]⟩ : ByteArray), true) else ([], false)) := by
   intro hst
   have e : spFrom s.data.toList (d + 1) i = (i, endU s.data.toList i) :: spFrom s.data.toList d (i + 1) := by
    show (if startB s.data.toList i = true then _ else _) = _
    rw [hst]; rfl
   rw [e]
   refine Ev.step (fun k => rfl) ?_
   simp only [spec_Tokens.j2, Bool.false_eq_true, if_false]
   refine end_ev s (n : Int) out i hs _ (d + 1) i (by omega) ?_
   refine Ev.step (fun k => rfl) ?_
   by_cases hfull : out.length = n
   ·simp only [spec_Tokens.j4, if_pos (show (out.length : Int) = (n : Int) by omega)]
    refine evVal (Ev.now _) ?_
    rw [if_neg (by rw [List.length_cons]; omega)]
   ·simp only [spec_Tokens.j4, if_neg (show ¬ (out.length : Int) = (n : Int) by omega), if_pos (show (0 : Int) ≤ (i : Int) by omega), if_pos (show (i : Int) ≤ ((endU s.data.toList i : Nat) : Int) by omega), if_pos (show ((endU s.data.toList i : Nat) : Int) ≤ (s.size : Int) by omega), Int.toNat_natCast]
    refine Ev.bind (specFold_ev (s.extract i (endU s.data.toList i)) (by have := extract_size s i (endU s.data.toList i); omega)) ?_
    (have hrec := tok_ev s n hn hs d (i + 1) (out ++ [tokS (cutS s (i, endU s.data.toList i))]) (by omega) (by rw [List.length_append, List.length_singleton]; omega)); (rw [List.length_append, List.length_singleton] at hrec)
    have hv : (if out.length + 1 + (spFrom s.data.toList d (i + 1)).length ≤ n then (out ++ [tokS (cutS s (i, endU s.data.toList i))] ++ ((spFrom s.data.toList d (i + 1)).map fun x => tokS (cutS s x)) ++ List.replicate (n - (out.length + 1 + (spFrom s.data.toList d (i + 1)).length)) (⟨#[]⟩ : ByteArray), true) else ([], false)) = (if out.length + ((i, endU s.data.toList i) :: spFrom s.data.toList d (i + 1)).length ≤ n then (out ++ (((i, endU s.data.toList i) :: spFrom s.data.toList d (i + 1)).map fun x => tokS (cutS s x)) ++ List.replicate (n - (out.length + ((i, endU s.data.toList i) :: spFrom s.data.toList d (i + 1)).length)) (⟨#[]⟩ : ByteArray), true) else ([], false)) := by
     (rw [List.length_cons, List.map_cons, show out.length + 1 + (spFrom s.data.toList d (i + 1)).length = out.length + ((spFrom s.data.toList d (i + 1)).length + 1) by omega]); (simp only [List.append_assoc, List.singleton_append])
    (rw [hv] at hrec); (have htk : tokS (cutS s (i, endU s.data.toList i)) = if (foldS (s.extract i (endU s.data.toList i))).toList = [] then (⟨#[63]⟩ : ByteArray) else foldS (s.extract i (endU s.data.toList i)) := rfl)
    by_cases ht : (foldS (s.extract i (endU s.data.toList i))).toList = ([] : List UInt8)
    ·rw [htk, if_pos ht] at hrec
     simp only [if_pos ht, if_pos (show out.length < 8796093022208 by omega), wrap_nat_succ (show i < 9223372036854775807 by omega)]
     exact hrec
    ·rw [htk, if_neg ht] at hrec
     simp only [if_neg ht, if_pos (show out.length < 8796093022208 by omega), wrap_nat_succ (show i < 9223372036854775807 by omega)]
     exact hrec
  refine Ev.step (fun k => rfl) ?_
  cases hg : gapU (s.data.toList.getD i 0) with
  | true =>
   simp only [spec_Tokens.l0, if_pos (show (i : Int) < (s.size : Int) by omega), if_pos (show (0 : Int) ≤ (i : Int) by omega), gap_ev, hg, Option.bind_some, if_true]
   exact hskip (by unfold startB; rw [hg]; rfl)
  | false =>
   by_cases hi0 : i = 0
   ·subst hi0
    simp only [spec_Tokens.l0, if_pos (show ((0 : Nat) : Int) < (s.size : Int) by omega), if_pos (show (0 : Int) ≤ ((0 : Nat) : Int) by omega), gap_ev, hg, Option.bind_some, Bool.false_eq_true, if_false, if_neg (show ¬ ((0 : Nat) : Int) > 0 by omega)]
    exact htake (by unfold startB; rw [hg]; rfl)
   ·have ew : wrap64 ((i : Int) - 1) = ((i - 1 : Nat) : Int) := by rw [wrap_id (by omega) (by omega)]; omega
    simp only [spec_Tokens.l0, if_pos (show (i : Int) < (s.size : Int) by omega), if_pos (show (0 : Int) ≤ (i : Int) by omega), gap_ev, hg, Option.bind_some, Bool.false_eq_true, if_false, if_pos (show (i : Int) > 0 by omega), ew, if_pos (show (0 : Int) ≤ ((i - 1 : Nat) : Int) by omega), if_pos (show ((i - 1 : Nat) : Int) < (s.size : Int) by omega)]
    cases hg2 : gapU (s.data.toList.getD (i - 1) 0) with
    | true => exact htake (by unfold startB; rw [hg, hg2]; simp)
    | false => exact hskip (by unfold startB; rw [hg, hg2]; simp; omega)
theorem specTokens_ev (s : ByteArray) (n : Int) : Ev (fun k => spec_Tokens.f k s n) (tokensS s n) := by
 unfold spec_Tokens.f tokensS
 have hno : Ev (fun k => spec_Tokens.j0 k s n true) ([], false) := by
  refine Ev.step (fun k => rfl) ?_
  simp only [spec_Tokens.j0, if_true]
  exact Ev.now _
 by_cases h1 : (s.size : Int) > 2000
 ·simp only [if_pos h1, if_neg (show ¬ (s.size ≤ 2000 ∧ 1 ≤ n ∧ n ≤ 16) by omega)]; exact hno
 ·by_cases h2 : n < 1
  ·simp only [if_neg h1, if_pos h2, if_neg (show ¬ (s.size ≤ 2000 ∧ 1 ≤ n ∧ n ≤ 16) by omega)]; exact hno
  ·by_cases h3 : n > 16
   ·simp only [if_neg h1, if_neg h2, h3, decide_true, if_neg (show ¬ (s.size ≤ 2000 ∧ 1 ≤ n ∧ n ≤ 16) by omega)]; exact hno
   ·simp only [if_neg h1, if_neg h2, h3, decide_false, if_pos (show (s.size ≤ 2000 ∧ 1 ≤ n ∧ n ≤ 16) by omega)]
    refine Ev.step (fun k => rfl) ?_
    (simp only [spec_Tokens.j0, Bool.false_eq_true, if_false]); (obtain ⟨m, rfl⟩ := Int.eq_ofNat_of_zero_le (show 0 ≤ n by omega)); (have := tok_ev s m (by omega) (by omega) s.size 0 [] (by omega) (Nat.zero_le _))
    refine evVal this ?_
    unfold piecesS
    rw [data_length, Int.toNat_natCast, List.length_nil, Nat.zero_add, List.nil_append, List.length_map, List.map_map]
    rfl
theorem mem_pieces_size {s t : ByteArray} (h : t ∈ piecesS s) : t.size ≤ s.size := by
 obtain ⟨x, _, rfl⟩ := List.mem_map.1 h
 exact extract_size s _ _
theorem implTokens_ev (s : ByteArray) (n : Int) : Ev (fun k => impl_Tokens.f k s n) (tokensS s n) := by
 unfold impl_Tokens.f tokensS
 have hno : Ev (fun k => impl_Tokens.j0 k s n true) ([], false) := by
  refine Ev.step (fun k => rfl) ?_
  simp only [impl_Tokens.j0, if_true]
  exact Ev.now _
 by_cases h1 : (s.size : Int) > 2000
 ·simp only [if_pos h1, if_neg (show ¬ (s.size ≤ 2000 ∧ 1 ≤ n ∧ n ≤ 16) by omega)]; exact hno
 ·simp only [if_neg h1, within_eq, Option.bind_some]
  by_cases h2 : 1 ≤ n ∧ n ≤ 16
  ·simp only [h2, and_self, decide_true, Bool.not_true, and_true, if_pos (show s.size ≤ 2000 by omega)]
   refine Ev.step (fun k => rfl) ?_
   simp only [impl_Tokens.j0, Bool.false_eq_true, if_false]
   refine Ev.bind (evConst (show strings_FieldsFunc.f s = some (piecesS s) by unfold strings_FieldsFunc.f; rw [if_pos (by omega), fields_eq])) ?_
   have hsz : ∀ t, t ∈ piecesS s → t.size ≤ 2000 := fun t ht => by have := mem_pieces_size ht; omega
   generalize piecesS s = p at hsz
   obtain ⟨m, rfl⟩ := Int.eq_ofNat_of_zero_le (show 0 ≤ n by omega)
   by_cases h3 : (p.length : Int) > (m : Int)
   ·simp only [if_pos h3, Int.toNat_natCast, if_neg (show ¬ p.length ≤ m by omega)]
    exact Ev.now _
   ·simp only [if_neg h3, if_pos (show (0 : Int) ≤ (m : Int) by omega), Int.toNat_natCast, if_pos (show m ≤ 17592186044416 by omega), if_pos (show p.length ≤ m by omega)]
    refine loop_ev p.length (fun k x i => impl_Tokens.l0 k x p (p.length : Int) i) (fun i => (p.take i).map tokS ++ List.replicate (m - i) (⟨#[]⟩ : ByteArray)) _ ?_ ?_
    ·intro i hi hr
     (have hmem : p.getD i ByteArray.empty ∈ p := by rw [getD_lt _ hi]; exact List.getElem_mem _); (have hrd : rdOf ByteArray.empty p (i : Int) = p[i] := by unfold rdOf; rw [Int.toNat_natCast, getD_lt _ hi]); (have hlen : ((p.take i).map tokS ++ List.replicate (m - i) (⟨#[]⟩ : ByteArray)).length = m := by rw [List.length_append, List.length_map, List.length_take, List.length_replicate]; omega)
     have hset : ∀ v : ByteArray, ((p.take i).map tokS ++ List.replicate (m - i) (⟨#[]⟩ : ByteArray)).set i v = (p.take i).map tokS ++ v :: List.replicate (m - (i + 1)) (⟨#[]⟩ : ByteArray) := by
      intro v
      rw [List.set_append_right _ _ (by rw [List.length_map, List.length_take]; omega), List.length_map, List.length_take, Nat.min_eq_left (by omega), Nat.sub_self, show m - i = (m - (i + 1)) + 1 by omega, List.replicate_succ, List.set_cons_zero]
     have hset2 : ∀ v v' : ByteArray, ((p.take i).map tokS ++ v :: List.replicate (m - (i + 1)) (⟨#[]⟩ : ByteArray)).set i v' = (p.take i).map tokS ++ v' :: List.replicate (m - (i + 1)) (⟨#[]⟩ : ByteArray) := by
      intro v v'
      rw [List.set_append_right _ _ (by rw [List.length_map, List.length_take]; omega), List.length_map, List.length_take, Nat.min_eq_left (by omega), Nat.sub_self, List.set_cons_zero]
     have hget : ∀ v : ByteArray, rdOf ByteArray.empty ((p.take i).map tokS ++ v :: List.replicate (m - (i + 1)) (⟨#[]⟩ : ByteArray)) (i : Int) = v := by
      intro v
      unfold rdOf
      rw [Int.toNat_natCast, List.getD_eq_getElem?_getD, List.getElem?_append_right (by rw [List.length_map, List.length_take]; omega), List.length_map, List.length_take, Nat.min_eq_left (by omega), Nat.sub_self]
      rfl
     have hnext : (p.take (i + 1)).map tokS ++ List.replicate (m - (i + 1)) (⟨#[]⟩ : ByteArray) = (p.take i).map tokS ++ tokS p[i] :: List.replicate (m - (i + 1)) (⟨#[]⟩ : ByteArray) := by
      rw [List.take_succ_eq_append_getElem hi, List.map_append, List.append_assoc]
      rfl
     refine Ev.step (fun k => rfl) ?_
     simp only [impl_Tokens.l0, if_pos (show (i : Int) < (p.length : Int) by omega), if_pos (show (0 : Int) ≤ (i : Int) by omega), hrd, hlen, if_pos (show (i : Int) < (m : Int) by omega), Int.toNat_natCast, hset, Option.bind_some, wrap_nat_succ (show i < 9223372036854775807 by omega)]
     refine Ev.bind (implFold_ev p[i] (by have := hsz _ hmem; rw [getD_lt _ hi] at this; omega)) ?_
     (simp only [hget, hset2]); (rw [hnext] at hr)
     by_cases ht : (foldS p[i]).toList = ([] : List UInt8)
     ·simp only [if_pos ht]
      rw [show tokS p[i] = (⟨#[63]⟩ : ByteArray) by unfold tokS; rw [if_pos ht]] at hr
      exact hr
     ·simp only [if_neg ht]
      rw [show tokS p[i] = foldS p[i] by unfold tokS; rw [if_neg ht]] at hr
      exact hr
    ·refine Ev.step (f := fun _ => some _) (fun k => ?_) (evVal (Ev.now ((p.take p.length).map tokS ++ List.replicate (m - p.length) (⟨#[]⟩ : ByteArray), true)) (by rw [List.take_length]))
     simp only [impl_Tokens.l0, if_neg (show ¬ (p.length : Int) < (p.length : Int) by omega)]
  ·simp only [show decide (1 ≤ n ∧ n ≤ 16) = false from decide_eq_false h2, Bool.not_false, if_neg (show ¬ (s.size ≤ 2000 ∧ 1 ≤ n ∧ n ≤ 16) by omega)]; exact hno
theorem pow2_le {n m : Nat} (h : n ≤ m) : (2 : Int) ^ n ≤ 2 ^ m := by
 have : (2 : Nat) ^ n ≤ 2 ^ m := Nat.pow_le_pow_right (by omega) h
 exact_mod_cast this
theorem pow2_pos (n : Nat) : (1 : Int) ≤ 2 ^ n := by
 have : (1 : Nat) ≤ 2 ^ n := Nat.one_le_two_pow
 exact_mod_cast this
theorem pow_ev (n : Nat) (hn : n ≤ 61) : Ev (fun k => spec_l02Pow.f k (n : Int)) (2 ^ n) := by
 have key : ∀ m : Nat, m ≤ 61 → ∀ x : Int, 1 ≤ x → x * 2 ^ m ≤ 2305843009213693952 → Ev (fun k => spec_l02Pow.l0 k (m : Int) x) (x * 2 ^ m) := by
  intro m
  induction m with
  | zero =>
   intro hm x h1 h2
   refine Ev.step (f := fun _ => some _) (fun k => ?_) (Ev.now _)
   simp [spec_l02Pow.l0]
  | succ m ih =>
   intro hm x h1 h2
   (have e : x * 2 ^ (m + 1) = (2 * x) * 2 ^ m := by rw [Int.pow_succ, Int.mul_comm (2 ^ m) 2, ← Int.mul_assoc, Int.mul_comm x 2]); (have hp := pow2_pos m); (have hx : 2 * x ≤ (2 * x) * 2 ^ m := by have := Int.mul_le_mul_of_nonneg_left hp (show 0 ≤ 2 * x by omega); omega)
   refine evVal (Ev.step (fun k => ?_) (ih (by omega) (2 * x) (by omega) (by rw [← e]; exact h2))) e.symm
   (simp only [spec_l02Pow.l0]); (rw [if_pos (by omega), wrap_id (by omega) (by omega), wrap_id (by omega) (by omega)])
   congr 1
   omega
 have hle : (1 : Int) * 2 ^ n ≤ 2305843009213693952 := by
  have : (2 : Int) ^ n ≤ 2 ^ 61 := pow2_le hn
  omega
 (have := key n hn 1 (by omega) hle); (rw [Int.one_mul] at this)
 exact this
theorem shl_pow (x : Int) (n : Nat) (hn : n ≤ 64) : shl .i64 x (n : Int) = wrap64 (x * 2 ^ n) := by
 unfold shl
 rw [Int.toNat_natCast, Nat.min_eq_left (by exact hn), Go.Proofs.YtbpffdhkeinmcaaDoorW.PrintLast.i64_w]
theorem bits_xor_nat (k : IntKind) (j : Nat) (hj : j ≤ k.bits) (hk : ∀ n : Int, 0 ≤ n → n < 2 ^ j → k.wrap n = n) (a b : Nat) (ha : a < 2 ^ j) (hb : b < 2 ^ j) :
  Go.bits .xor k (a : Int) (b : Int) = ((a ^^^ b : Nat) : Int) := by
 (have hp : 2 ^ j ≤ 2 ^ k.bits := Nat.pow_le_pow_right (by decide) hj); (have ha' : a % 2 ^ k.bits = a := Nat.mod_eq_of_lt (Nat.lt_of_lt_of_le ha hp)); (have hb' : b % 2 ^ k.bits = b := Nat.mod_eq_of_lt (Nat.lt_of_lt_of_le hb hp)); (have cast : ∀ n : Nat, n < 2 ^ j → ((n : Nat) : Int) < 2 ^ j := fun n h => by exact_mod_cast h); (simp only [Go.bits, BitVec.ofInt_natCast, BitVec.toNat_xor, BitVec.toNat_ofNat, ha', hb'])
 exact hk _ (Int.natCast_nonneg _) (cast _ (Nat.xor_lt_two_pow ha hb))
theorem wraps_u32 (n : Int) (h₀ : 0 ≤ n) (h₁ : n < 2 ^ 32) : IntKind.u32.wrap n = n := by rw [IntKind.wrap_u32]; omega
theorem wraps_i64 (n : Int) (h₀ : 0 ≤ n) (h₁ : n < 2 ^ 32) : IntKind.i64.wrap n = n := by rw [IntKind.wrap_i64]; omega
theorem xor32 (a b : Nat) (ha : a < 4294967296) (hb : b < 4294967296) : Go.bits .xor .u32 (a : Int) (b : Int) = ((a ^^^ b : Nat) : Int) := bits_xor_nat .u32 32 (by decide) wraps_u32 a b ha hb
theorem xor64 (a b : Nat) (ha : a < 4294967296) (hb : b < 4294967296) : Go.bits .xor .i64 (a : Int) (b : Int) = ((a ^^^ b : Nat) : Int) := bits_xor_nat .i64 32 (by decide) wraps_i64 a b ha hb
theorem xor_lt (a b : Nat) (ha : a < 4294967296) (hb : b < 4294967296) : a ^^^ b < 4294967296 := Nat.xor_lt_two_pow (n := 32) ha hb
def hashStep (h : Nat) (d : Int) : Nat := ((h ^^^ d.toNat) * 16777619) % 4294967296
def hashFold (key : Nat) (l : List Int) : Nat := l.foldl hashStep key
theorem hashFold_lt (l : List Int) : ∀ key : Nat, key < 4294967296 → hashFold key l < 4294967296 := by
 induction l with
 | nil => intro k h; exact h
 | cons x xs ih => intro k h; exact ih _ (Nat.mod_lt _ (by decide))
def hashS (key : Nat) (s : ByteArray) : Nat := (hashFold key (padL s)) ^^^ (hashFold key (padL s) / 65536)
theorem hashS_lt (key : Nat) (s : ByteArray) (h : key < 4294967296) : hashS key s < 4294967296 := by
 have := hashFold_lt (padL s) key h
 exact xor_lt _ _ this (by omega)
theorem bytesOf_range (s : ByteArray) : ∀ x, x ∈ bytesOf s → 0 ≤ x ∧ x ≤ 255 := by
 intro x hx
 unfold bytesOf at hx
 (obtain ⟨b, _, rfl⟩ := List.mem_map.1 hx); (have := UInt8.toNat_lt b)
 omega
theorem padL_range (s : ByteArray) : ∀ x, x ∈ padL s → 0 ≤ x ∧ x ≤ 255 := by
 intro x hx
 unfold padL at hx
 split at hx
 ·rename_i h
  have hb := wordB_size h
  unfold padW at hx
  rcases List.mem_cons.1 hx with rfl | hx
  ·omega
  ·rcases List.mem_append.1 hx with hx | hx
   ·exact bytesOf_range s x hx
   ·have := (List.mem_replicate.1 hx).2; omega
 ·have := (List.mem_replicate.1 hx).2; omega
theorem take_fold {α σ : Type} (l : List α) (f : σ → α → σ) (s : σ) {i : Nat} (h : i < l.length) : (l.take (i + 1)).foldl f s = f ((l.take i).foldl f s) l[i] := by
 rw [List.take_succ_eq_append_getElem h, List.foldl_append]
 rfl
theorem implHash_ev (key : Nat) (s : ByteArray) (hk : key < 4294967296) (hs : s.size ≤ 9223372036854775807) : Ev (fun k => impl_hashWord.f k (key : Int) s) ((hashS key s : Nat) : Int) := by
 unfold impl_hashWord.f
 refine Ev.bind (implPad_ev s hs) ?_
 (have hr := padL_range s); (have hlt := fun i => hashFold_lt ((padL s).take i) key hk)
 unfold hashS
 (have hlt2 := hashFold_lt (padL s) key hk); (have hl33 := padL_length s)
 generalize padL s = l at hr hlt hlt2 hl33
 rw [show (key : Int) % 4294967296 = (key : Int) by omega]
 refine loop_ev l.length (fun k x i => impl_hashWord.l0 k x l (l.length : Int) i) (fun i => ((hashFold key (l.take i) : Nat) : Int)) _ ?_ ?_
 ·intro i hi h
  refine Ev.step (fun k => ?_) h
  (have hd := hr _ (List.getElem_mem hi)); (have hf := hlt i); (have e : hashFold key (l.take (i + 1)) = hashStep (hashFold key (l.take i)) l[i] := take_fold l hashStep key hi); (have er : rd l (i : Int) % 4294967296 = ((l[i].toNat : Nat) : Int) := by unfold rd; rw [Int.toNat_natCast, getD_lt _ hi]; omega); (simp only [impl_hashWord.l0]); (rw [if_pos (by omega), if_pos (by omega), if_pos (by omega), wrap_nat_succ (by omega), er, xor32 _ _ hf (by omega), e])
  unfold hashStep
  congr 1
  all_goals omega
 ·refine Ev.step (f := fun _ => some _) (fun k => ?_) (Ev.now _)
  (simp only [impl_hashWord.l0]); (rw [if_neg (by omega), List.take_length])
  generalize hashFold key l = h at hlt2
  (rw [show (h : Int) / 65536 = ((h / 65536 : Nat) : Int) by omega, xor32 h (h / 65536) hlt2 (by omega)]); (have := xor_lt h (h / 65536) hlt2 (by omega)); (rw [wrap_id (by omega) (by omega)])
def shelfS (key log : Int) (s : ByteArray) : Int := if (0 ≤ key ∧ key ≤ 4294967295) ∧ wordB s = true ∧ (0 ≤ log ∧ log ≤ 6) then ((hashS key.toNat s : Nat) : Int) % 2 ^ log.toNat else -1
theorem implShelf_ev (key log : Int) (s : ByteArray) (hs : s.size ≤ 9223372036854775807) : Ev (fun k => impl_ShelfFor.f k key s log) (shelfS key log s) := by
 unfold impl_ShelfFor.f shelfS
 simp only [within_eq, Option.bind_some]
 by_cases h1 : 0 ≤ key ∧ key ≤ 4294967295
 ·simp only [decide_eq_true h1, if_true]
  refine Ev.bind (isWord_ev s hs) ?_
  cases hw : wordB s with
  | false => simp only [Bool.false_eq_true, if_false]; exact evVal (Ev.now _) (by rw [if_neg (fun h => by cases h.2.1)])
  | true =>
   simp only [if_true]
   by_cases h2 : 0 ≤ log ∧ log ≤ 6
   ·rw [if_pos ⟨h1, trivial, h2⟩]
    (have e : impl_isLog.f log = some true := by unfold impl_isLog.f; rw [within_eq, decide_eq_true h2]; rfl); (simp only [e, Option.bind_some, if_true]); (obtain ⟨kn, rfl⟩ := Int.eq_ofNat_of_zero_le h1.1); (obtain ⟨ln, rfl⟩ := Int.eq_ofNat_of_zero_le h2.1)
    refine Ev.bind (a := ((hashS kn s : Nat) : Int) % 2 ^ ln) ?_ (Ev.now _)
    unfold impl_shelfFor.f
    refine Ev.bind (implHash_ev kn s (by omega) hs) ?_
    (have hl := hashS_lt kn s (by omega)); (have hp : (1 : Int) ≤ 2 ^ ln ∧ (2 : Int) ^ ln ≤ 64 := ⟨pow2_pos _, by have : (2 : Int) ^ ln ≤ 2 ^ 6 := pow2_le (by omega); omega⟩); (simp only [if_pos h2.1])
    refine evVal (Ev.now _) ?_
    rw [shl_pow 1 ln (by omega), Int.one_mul, wrap_id (x := (2 : Int) ^ ln) (by omega) (by omega), wrap_id (by omega) (by omega)]
    exact bits_mask .i64 32 (by decide) wraps_i64 ln (by omega) _ (by omega) (by omega)
   ·have e : impl_isLog.f log = some false := by unfold impl_isLog.f; rw [within_eq, decide_eq_false h2]; rfl
    simp only [e, Option.bind_some, Bool.false_eq_true, if_false]
    exact evVal (Ev.now _) (by rw [if_neg (fun h => h2 h.2.2)])
 ·simp only [decide_eq_false h1, Bool.false_eq_true, if_false]
  exact evVal (Ev.now _) (by rw [if_neg (fun h => h1 h.1)])
theorem specHash_ev (key : Int) (s : ByteArray) (hs : s.size ≤ 9223372036854775807) : Ev (fun k => spec_HashWord.f k key s) (if (0 ≤ key ∧ key ≤ 4294967295) ∧ wordB s = true then ((hashS key.toNat s : Nat) : Int) else -1) := by
 unfold spec_HashWord.f
 have hno : Ev (fun k => spec_HashWord.j0 k key s true) (-1) := by
  refine Ev.step (fun k => rfl) ?_
  simp only [spec_HashWord.j0, if_true]
  exact Ev.now _
 by_cases h0 : key < 0
 ·simp only [if_pos h0]; exact evVal hno (by rw [if_neg (fun h => by omega)])
 ·by_cases h1 : key > 4294967295
  ·simp only [if_neg h0, if_pos h1]; exact evVal hno (by rw [if_neg (fun h => by omega)])
  ·simp only [if_neg h0, if_neg h1]
   refine Ev.bind (specWordOk_ev s hs) ?_
   cases hw : wordB s with
   | false => simp only [Bool.not_false]; exact evVal hno (by rw [if_neg (fun h => by cases h.2)])
   | true =>
    (simp only [Bool.not_true]); (rw [if_pos ⟨by omega, trivial⟩]); (obtain ⟨kn, rfl⟩ := Int.eq_ofNat_of_zero_le (show 0 ≤ key by omega))
    refine Ev.step (fun k => rfl) ?_
    simp only [spec_HashWord.j0, Bool.false_eq_true, if_false]
    refine Ev.bind (specPad_ev s hs) ?_
    (have hk : kn < 4294967296 := by omega); (have hr := padL_range s); (have hlt := fun i => hashFold_lt ((padL s).take i) kn hk); (rw [Int.toNat_natCast])
    unfold hashS
    (have hlt2 := hashFold_lt (padL s) kn hk); (have hl33 := padL_length s)
    generalize padL s = l at hr hlt hlt2 hl33
    refine loop_ev l.length (fun k x i => spec_HashWord.l0 k x l i) (fun i => ((hashFold kn (l.take i) : Nat) : Int)) _ ?_ ?_
    ·intro i hi h
     refine Ev.step (fun k => ?_) h
     (have hd := hr _ (List.getElem_mem hi)); (have hf := hlt i); (have e : hashFold kn (l.take (i + 1)) = hashStep (hashFold kn (l.take i)) l[i] := take_fold l hashStep kn hi); (have er : wrap64 (rd l (i : Int)) = ((l[i].toNat : Nat) : Int) := by unfold rd; rw [Int.toNat_natCast, getD_lt _ hi, wrap_id (by omega) (by omega)]; omega); (have hx := xor_lt (hashFold kn (l.take i)) l[i].toNat hf (by omega)); (simp only [spec_HashWord.l0]); (rw [if_pos (by omega), if_pos (by omega), wrap_nat_succ (by omega), er, xor64 _ _ hf (by omega), e])
     unfold hashStep
     rw [wrap_id (by omega) (by omega), Int.tmod_eq_emod_of_nonneg (by omega)]
     congr 1
     all_goals omega
    ·refine Ev.step (f := fun _ => some _) (fun k => ?_) (Ev.now _)
     (simp only [spec_HashWord.l0]); (rw [if_neg (by omega), List.take_length])
     generalize hashFold kn l = h at hlt2
     rw [Int.tdiv_eq_ediv_of_nonneg (by omega), wrap_id (by omega) (by omega), show (h : Int) / 65536 = ((h / 65536 : Nat) : Int) by omega, xor64 h (h / 65536) hlt2 (by omega)]
theorem specShelf_ev (key log : Int) (s : ByteArray) (hs : s.size ≤ 9223372036854775807) : Ev (fun k => spec_ShelfFor.f k key s log) (shelfS key log s) := by
 unfold spec_ShelfFor.f shelfS
 refine Ev.bind (specHash_ev key s hs) ?_
 by_cases h : (0 ≤ key ∧ key ≤ 4294967295) ∧ wordB s = true
 ·simp only [if_pos h, if_neg (show ¬ ((hashS key.toNat s : Nat) : Int) < 0 by omega)]
  have e : spec_l11Log.f log = some (decide (0 ≤ log ∧ log ≤ 6)) := by
   unfold spec_l11Log.f
   by_cases h0 : log ≥ 0
   ·rw [if_pos h0]; congr 1; rw [decide_eq_decide]; omega
   ·rw [if_neg h0, decide_eq_false (by omega)]
  simp only [e, Option.bind_some]
  by_cases h2 : 0 ≤ log ∧ log ≤ 6
  ·rw [if_pos ⟨h.1, h.2, h2⟩]
   (simp only [decide_eq_true h2, if_true]); (obtain ⟨ln, rfl⟩ := Int.eq_ofNat_of_zero_le h2.1)
   refine Ev.bind (pow_ev ln (by omega)) ?_
   (have hp : (1 : Int) ≤ 2 ^ ln := pow2_pos _); (simp only [if_neg (show ¬ (2 : Int) ^ ln = 0 by omega), Int.toNat_natCast])
   exact evVal (Ev.now _) (by rw [Int.tmod_eq_emod_of_nonneg (by omega)])
  ·simp only [decide_eq_false h2, Bool.false_eq_true, if_false]
   exact evVal (Ev.now _) (by rw [if_neg (fun h' => h2 h'.2.2)])
 ·simp only [if_neg h, show ((-1 : Int) < 0) by omega, if_true]
  exact evVal (Ev.now _) (by rw [if_neg (fun h' => h ⟨h'.1, h'.2.1⟩)])
def confB (a b c d : Int) : Bool := decide (0 ≤ a ∧ a ≤ 4294967295) && (decide (2 ≤ b ∧ b ≤ 6) && (decide (0 ≤ c ∧ c ≤ 64) && decide (1 ≤ d ∧ d ≤ 64)))
theorem isConf_eq (a b c d : Int) : impl_isConf.f a b c d = some (confB a b c d) := by
 unfold impl_isConf.f impl_isDeepLog.f confB
 simp only [within_eq, Option.bind_some]
 by_cases h1 : 0 ≤ a ∧ a ≤ 4294967295 <;> by_cases h2 : 2 ≤ b ∧ b ≤ 6 <;> by_cases h3 : 0 ≤ c ∧ c ≤ 64 <;> simp [h1, h2, h3]
theorem confOk_eq (a b c d : Int) : spec_ConfOk.f a b c d = some (confB a b c d) := by
 unfold spec_ConfOk.f spec_l16Log.f confB
 by_cases h1 : 0 ≤ a <;> by_cases h1' : a ≤ 4294967295 <;> by_cases h2 : 2 ≤ b <;> by_cases h2' : b ≤ 6 <;> by_cases h3 : 0 ≤ c <;> by_cases h3' : c ≤ 64 <;> by_cases h4 : 1 ≤ d <;> by_cases h4' : d ≤ 64 <;>
  simp [h1, h1', h2, h2', h3, h3', h4, h4']
end Go.Proofs.YtbpffdhkeinmcaaDoor.L
namespace Go.Proofs.YtbpffdhkeinmcaaDoor.L
open Go.RowKit Go.Proofs.YtbpffdhkeinmcaaDoor.QE Go.Proofs.YtbpffdhkeinmcaaDoorW.PrintWords Go.Proofs.YtbpffdhkeinmcaaDoorW.PrintLast
set_option linter.unusedVariables false
set_option linter.unusedSimpArgs false
def shapeB (a b : Int) : Bool := if a = 6 then decide (1 ≤ b ∧ b ≤ 16) else decide (1 ≤ a ∧ a ≤ 5 ∧ b = 0)
theorem isShape_eq (a b : Int) : impl_isShape.f a b = some (shapeB a b) := by
 unfold impl_isShape.f shapeB
 simp only [within_eq, Option.bind_some]
 by_cases h6 : a = 6
 ·simp [h6]
 ·by_cases h1 : 1 ≤ a ∧ a ≤ 5
  ·simp [h6, h1]
   by_cases hb : b = 0 <;> simp [hb]
  ·simp [h6, h1]
   omega
theorem l18Shape_eq (a b : Int) : spec_l18Shape.f a b = some (shapeB a b) := by
 unfold spec_l18Shape.f shapeB
 by_cases h6 : a = 6
 ·simp only [h6, if_true]
  by_cases h1 : b ≥ 1
  ·have h1' : 1 ≤ b := h1
   by_cases h2 : b ≤ 16 <;> simp [h1', h2]
  ·have h1' : ¬ 1 ≤ b := h1
   simp [h1']
 ·rw [if_neg h6, if_neg h6]
  by_cases h1 : a ≥ 1
  ·rw [if_pos h1]
   by_cases h2 : a ≤ 6
   ·rw [if_pos h2]
    (have h3 : a ≤ 5 := by omega); (have h1' : 1 ≤ a := h1)
    by_cases hb : b = 0 <;> simp [hb, h1', h3]
   ·rw [if_neg h2]
    have h3 : ¬ a ≤ 5 := by omega
    simp [h3]
  ·rw [if_neg h1]
   have h1' : ¬ 1 ≤ a := h1
   simp [h1']
theorem shape_range {a b : Int} (h : shapeB a b = true) : 1 ≤ a ∧ a ≤ 6 ∧ 0 ≤ b ∧ b ≤ 16 ∧ (a ≠ 6 → b = 0) ∧ (a = 6 → 1 ≤ b) := by
 unfold shapeB at h
 by_cases h6 : a = 6
 ·rw [if_pos h6] at h
  have := of_decide_eq_true h
  omega
 ·rw [if_neg h6] at h
  have := of_decide_eq_true h
  omega
end Go.Proofs.YtbpffdhkeinmcaaDoor.L
namespace Go.Proofs.YtbpffdhkeinmcaaDoor.L
open Go.RowKit Go.Proofs.YtbpffdhkeinmcaaDoor.QE Go.Proofs.YtbpffdhkeinmcaaDoorW.PrintWords Go.Proofs.YtbpffdhkeinmcaaDoorW.PrintLast Go.Proofs.YtbpffdhkeinmcaaDoorW.PrintMore
set_option linter.unusedVariables false
set_option linter.unusedSimpArgs false
def reqB (x : S32) : Bool := shapeB x.f0 x.f5 && (decide (x.f1.size ≤ 100) && decide (x.f6.size ≤ 2000))
def reqsB (l : List S32) : Bool := decide (l.length ≤ 40) && l.all reqB
theorem specReqOk_eq (x : S32) : spec_ReqOk.f x.f0 x.f1 x.f2 x.f3 x.f4 x.f5 x.f6 = some (reqB x) := by
 unfold spec_ReqOk.f reqB
 rw [l18Shape_eq, Option.bind_some]
 cases shapeB x.f0 x.f5 with
 | false => rfl
 | true =>
  simp only [if_true, Bool.true_and]
  by_cases h : x.f1.size ≤ 100
  ·rw [if_pos (by omega)]
   simp only [h, decide_true, Bool.true_and]
   congr 2
   simp; omega
  ·rw [if_neg (by omega)]
   simp [h]
theorem isReq_eq (x : S32) : impl_isReq.f x.f0 x.f1 x.f2 x.f3 x.f4 x.f5 x.f6 = some (reqB x) := by
 unfold impl_isReq.f reqB
 rw [isShape_eq, Option.bind_some]
 cases shapeB x.f0 x.f5 with
 | false => rfl
 | true =>
  simp only [if_true, Bool.true_and]
  by_cases h : x.f1.size ≤ 100
  ·rw [if_pos (by omega)]
   simp only [h, decide_true, Bool.true_and]
   congr 2
   simp; omega
  ·rw [if_neg (by omega)]
   simp [h]
theorem specReqsOk_ev (l : List S32) (h : l.length ≤ 9223372036854775807) : Ev (fun k => spec_ReqsOk.f k l) (reqsB l) := by
 unfold spec_ReqsOk.f reqsB
 by_cases h4 : (l.length : Int) > 40
 ·simp only [if_pos h4, show ¬ l.length ≤ 40 by omega, decide_false, Bool.false_and]
  exact Ev.now _
 ·simp only [if_neg h4, show l.length ≤ 40 by omega, decide_true, Bool.true_and]
  rw [← all_range l z32 reqB]
  refine evVal (search_ev l.length (fun k i => spec_ReqsOk.l0 k l i) (fun i => reqB (l.getD i z32)) false true ?_ ?_ ?_) ?_
  ·intro i hi hp r hr
   refine Ev.step (fun k => ?_) hr
   (simp only [spec_ReqsOk.l0, specReqOk_eq, Option.bind_some, rd_T32, Int.toNat_natCast, hp, if_true]); (rw [if_pos (by omega), if_pos (by omega), wrap_nat_succ (by omega)])
  ·intro i hi hp
   refine Ev.step (f := fun _ => some false) (fun k => ?_) (Ev.now _)
   (simp only [spec_ReqsOk.l0, specReqOk_eq, Option.bind_some, rd_T32, Int.toNat_natCast, hp]); (rw [if_pos (by omega), if_pos (by omega)])
   rfl
  ·refine Ev.step (f := fun _ => some true) (fun k => ?_) (Ev.now _)
   (simp only [spec_ReqsOk.l0]); (rw [if_neg (by omega)])
  ·cases (List.range l.length).all _ <;> rfl
theorem idxF_some {α : Type} {p : α → Option Bool} {q : α → Bool} : ∀ (l : List α) (i : Nat), (∀ x, x ∈ l → p x = some (q x)) → ∃ j : Int, idxF p l i = some j ∧ (decide (0 ≤ j) = l.any q)
 | [], _, _ => ⟨-1, rfl, rfl⟩
 | x :: xs, i, h => by
  unfold idxF
  rw [h x (List.mem_cons_self ..), Option.bind_some]
  cases hq : q x with
  | true => exact ⟨i, by simp, by simp [hq]⟩
  | false =>
   obtain ⟨j, h1, h2⟩ := idxF_some xs (i + 1) (fun y hy => h y (List.mem_cons_of_mem _ hy))
   exact ⟨j, by simpa using h1, by simpa [hq] using h2⟩
theorem contF_some {α : Type} {p : α → Option Bool} {q : α → Bool} (l : List α) (h : ∀ x, x ∈ l → p x = some (q x)) : contF p l = some (l.any q) := by
 obtain ⟨j, h1, h2⟩ := idxF_some l 0 h
 unfold contF
 rw [h1, Option.bind_some, h2]
theorem areReqs_eq (l : List S32) : impl_areReqs.f l = some (reqsB l) := by
 unfold impl_areReqs.f reqsB
 rw [contF_some (q := fun x => !reqB x) l (fun x _ => by unfold impl_areReqs_1.f; rw [isReq_eq]; rfl)]
 by_cases h : (l.length : Int) ≤ 40
 ·rw [if_pos h, Option.bind_some]
  simp only [show l.length ≤ 40 by omega, decide_true, Bool.true_and]
  congr 1
  rw [List.not_any_eq_all_not]
  simp
 ·rw [if_neg h]
  simp only [show ¬ l.length ≤ 40 by omega, decide_false, Bool.false_and]
theorem reqs_all {l : List S32} (h : reqsB l = true) : l.length ≤ 40 ∧ ∀ x, x ∈ l → reqB x = true := by
 unfold reqsB at h
 rw [Bool.and_eq_true] at h
 exact ⟨of_decide_eq_true h.1, fun x hx => List.all_eq_true.1 h.2 x hx⟩
abbrev Req' := S32
def tokWords (x : Req') : List ByteArray := if (tokensS x.f6 x.f5).2 = true then (tokensS x.f6 x.f5).1 else List.replicate x.f5.toNat (⟨#[]⟩ : ByteArray)
def wordsS (x : Req') : List ByteArray :=
 if x.f0 = 1 then [foldS x.f1]
 else if x.f0 = 3 ∨ x.f0 = 5 then (if 0 ≤ x.f2 ∧ x.f2 ≤ 65535 then [foldS x.f1, foldS x.f1] else [⟨#[]⟩, ⟨#[]⟩])
 else if x.f0 = 4 then [foldS x.f1, foldS x.f1]
 else if x.f0 = 6 then tokWords x else []
theorem shape_slots {x : Req'} (h : shapeB x.f0 x.f5 = true) (h6 : x.f0 = 6) : 1 ≤ x.f5 ∧ x.f5 ≤ 16 := by
 unfold shapeB at h
 rw [if_pos h6] at h
 exact of_decide_eq_true h
theorem tokens_size (s : ByteArray) (n : Int) : ∀ t, t ∈ (tokensS s n).1 → t.size ≤ 32 := by
 intro t ht
 unfold tokensS at ht
 split at ht
 ·split at ht
  ·rcases List.mem_append.1 ht with h | h
   ·obtain ⟨p, _, rfl⟩ := List.mem_map.1 h
    unfold tokS
    split
    ·show 1 ≤ 32; omega
    ·exact foldS_size p
   ·rw [(List.mem_replicate.1 h).2]; exact Nat.zero_le _
  ·cases ht
 ·cases ht
theorem tokens_len (s : ByteArray) (n : Int) : (tokensS s n).1.length ≤ 16 := by
 unfold tokensS
 split
 ·rename_i h
  split
  ·simp only [List.length_append, List.length_map, List.length_replicate]; omega
  ·exact Nat.zero_le _
 ·exact Nat.zero_le _
theorem words_size {x : Req'} : ∀ t, t ∈ wordsS x → t.size ≤ 32 := by
 intro t ht
 have hf := foldS_size x.f1
 unfold wordsS at ht
 split at ht
 ·obtain rfl := List.mem_singleton.1 ht; exact hf
 ·split at ht
  ·split at ht
   ·rcases List.mem_cons.1 ht with rfl | h
    ·exact hf
    ·obtain rfl := List.mem_singleton.1 h; exact hf
   ·rcases List.mem_cons.1 ht with rfl | h
    ·exact Nat.zero_le _
    ·obtain rfl := List.mem_singleton.1 h; exact Nat.zero_le _
  ·split at ht
   ·rcases List.mem_cons.1 ht with rfl | h
    ·exact hf
    ·obtain rfl := List.mem_singleton.1 h; exact hf
   ·split at ht
    ·unfold tokWords at ht
     split at ht
     ·exact tokens_size _ _ t ht
     ·rw [(List.mem_replicate.1 ht).2]; exact Nat.zero_le _
    ·cases ht
theorem words_len {x : Req'} (h : shapeB x.f0 x.f5 = true) : (wordsS x).length ≤ 16 := by
 unfold wordsS
 split
 ·show 1 ≤ 16; omega
 ·split
  ·split
   ·show 2 ≤ 16; omega
   ·show 2 ≤ 16; omega
  ·split
   ·show 2 ≤ 16; omega
   ·split
    ·rename_i h6
     unfold tokWords
     split
     ·exact tokens_len _ _
     ·have := shape_slots h h6; rw [List.length_replicate]; omega
    ·exact Nat.zero_le _
theorem specWords_ev (x : Req') (h : reqB x = true) : Ev (fun k => spec_l22Words.f k x.f0 x.f1 x.f2 x.f3 x.f4 x.f5 x.f6) (wordsS x) := by
 unfold reqB at h
 (simp only [Bool.and_eq_true, decide_eq_true_eq] at h); (obtain ⟨hsh, hw, ht⟩ := h)
 unfold spec_l22Words.f wordsS
 refine Ev.bind (specFold_ev x.f1 (by omega)) ?_
 have hwt : spec_l19Weight.f x.f2 = some (decide (0 ≤ x.f2 ∧ x.f2 ≤ 65535)) := by
  unfold spec_l19Weight.f
  by_cases h0 : x.f2 ≥ 0
  ·rw [if_pos h0]; congr 1; rw [decide_eq_decide]; omega
  ·rw [if_neg h0, decide_eq_false (by omega)]
 have hchg : x.f0 ≠ 1 → (x.f0 = 3 ∨ x.f0 = 5) → Ev (fun k => spec_l22Words.j0 k (foldS x.f1) x.f0 true x.f0 x.f1 x.f2 x.f3 x.f4 x.f5 x.f6) (if 0 ≤ x.f2 ∧ x.f2 ≤ 65535 then [foldS x.f1, foldS x.f1] else [⟨#[]⟩, ⟨#[]⟩]) := by
  intro _ _
  refine Ev.step (fun k => rfl) ?_
  simp only [spec_l22Words.j0, if_true, hwt, Option.bind_some]
  by_cases hb : 0 ≤ x.f2 ∧ x.f2 ≤ 65535
  ·simp only [decide_eq_true hb, if_true, if_pos hb]; exact Ev.now _
  ·simp only [decide_eq_false hb, Bool.false_eq_true, if_false, if_neg hb]; exact Ev.now _
 by_cases h1 : x.f0 = 1
 ·simp only [if_pos h1]; exact Ev.now _
 ·by_cases h3 : x.f0 = 3
  ·simp only [if_neg h1, if_pos h3, if_pos (show x.f0 = 3 ∨ x.f0 = 5 from .inl h3), show (x.f0 == 3) = true by simp [h3]]
   exact hchg h1 (.inl h3)
  ·by_cases h5 : x.f0 = 5
   ·simp only [if_neg h1, if_neg h3, if_pos (show x.f0 = 3 ∨ x.f0 = 5 from .inr h5), show (x.f0 == 5) = true by simp [h5]]
    exact hchg h1 (.inr h5)
   ·simp only [if_neg h1, if_neg h3, if_neg (show ¬ (x.f0 = 3 ∨ x.f0 = 5) by omega), show (x.f0 == 5) = false by simp [h5]]
    refine Ev.step (fun k => rfl) ?_
    simp only [spec_l22Words.j0, Bool.false_eq_true, if_false]
    by_cases h4 : x.f0 = 4
    ·simp only [if_pos h4]; exact Ev.now _
    ·by_cases h6 : x.f0 = 6
     ·simp only [if_neg h4, if_pos h6]
      have hs := shape_slots hsh h6
      refine Ev.bind (specTokens_ev x.f6 x.f5) ?_
      unfold tokWords
      by_cases hb : (tokensS x.f6 x.f5).2 = true
      ·simp only [if_pos hb]; exact Ev.now _
      ·simp only [if_neg hb, if_pos (show 0 ≤ x.f5 by omega), if_pos (show x.f5.toNat ≤ 17592186044416 by omega)]; exact Ev.now _
     ·simp only [if_neg h4, if_neg h6]; exact Ev.now _
def looksS (x : Req') : List ByteArray := if x.f0 = 1 then [foldS x.f1] else if x.f0 = 6 then tokWords x else []
theorem looks_ev (x : Req') (h : reqB x = true) : Ev (fun k => impl_looksOf.f k x.f0 x.f1 x.f2 x.f3 x.f4 x.f5 x.f6) (looksS x) := by
 unfold reqB at h
 (simp only [Bool.and_eq_true, decide_eq_true_eq] at h); (obtain ⟨hsh, hw, ht⟩ := h)
 unfold impl_looksOf.f looksS
 by_cases h1 : x.f0 = 1
 ·simp only [if_pos h1]
  exact Ev.bind (implFold_ev x.f1 (by omega)) (Ev.now _)
 ·by_cases h6 : x.f0 = 6
  ·simp only [if_neg h1, if_pos h6]
   have hs := shape_slots hsh h6
   refine Ev.bind (implTokens_ev x.f6 x.f5) ?_
   unfold tokWords
   by_cases hb : (tokensS x.f6 x.f5).2 = true
   ·simp only [if_pos hb]; exact Ev.now _
   ·simp only [if_neg hb, if_pos (show 0 ≤ x.f5 by omega), if_pos (show x.f5.toNat ≤ 17592186044416 by omega)]; exact Ev.now _
  ·simp only [if_neg h1, if_neg h6]; exact Ev.now _
theorem isChange_eq (a : Int) : impl_isChange.f a = some (decide (a = 3 ∨ a = 4 ∨ a = 5)) := by
 unfold impl_isChange.f
 by_cases h3 : a = 3
 ·rw [if_pos h3]; simp [h3]
 ·by_cases h4 : a = 4
  ·rw [if_neg h3, if_pos h4]; simp [h4]
  ·rw [if_neg h3, if_neg h4]
   congr 1
   rw [Bool.eq_iff_iff]
   simp [h3, h4]
def changeS (x : Req') : ByteArray × Int := (foldS x.f1, if x.f0 = 4 then 0 else x.f2)
theorem change_ev (x : Req') (h : reqB x = true) : Ev (fun k => impl_changeOf.f k x.f0 x.f1 x.f2 x.f3 x.f4 x.f5 x.f6) (changeS x) := by
 unfold reqB at h
 simp only [Bool.and_eq_true, decide_eq_true_eq] at h
 unfold impl_changeOf.f changeS
 refine Ev.bind (implFold_ev x.f1 (by omega)) ?_
 by_cases h4 : x.f0 = 4
 ·simp only [if_pos h4]; exact Ev.now _
 ·simp only [if_neg h4]; exact Ev.now _
theorem entry_ev (s : ByteArray) (n : Int) (h : s.size ≤ 9223372036854775807) : Ev (fun k => impl_isEntry.f k s n) (wordB s && decide (0 ≤ n ∧ n ≤ 65535)) := by
 unfold impl_isEntry.f
 refine Ev.bind (isWord_ev _ h) ?_
 cases wordB s with
 | false => simp only [Bool.false_eq_true, if_false, Bool.false_and]; exact Ev.now _
 | true => simp only [if_true, within_eq, Option.bind_some, Bool.true_and]; exact Ev.now _
theorem empty_noword : wordB ⟨#[]⟩ = false := by
 unfold wordB
 rw [decide_eq_false (by show ¬ (1 ≤ 0 ∧ 0 ≤ 32); omega), Bool.false_and]
theorem shelf_noword {key log : Int} {s : ByteArray} (h : wordB s = false) : shelfS key log s = -1 := by
 unfold shelfS
 rw [if_neg (fun h' => by rw [h] at h'; cases h'.2.1)]
def idsOf (key log : Int) (x : Req') : List Int := (wordsS x).map (shelfS key log)
theorem ids_split (key log : Int) (x : Req') (h : shapeB x.f0 x.f5 = true) :
  idsOf key log x = (looksS x).map (shelfS key log) ++ (if x.f0 = 3 ∨ x.f0 = 4 ∨ x.f0 = 5 then
   (if (wordB (changeS x).1 && decide (0 ≤ (changeS x).2 ∧ (changeS x).2 ≤ 65535)) = true then [shelfS key log (changeS x).1, shelfS key log (changeS x).1] else [-1, -1]) else []) := by
 unfold idsOf wordsS looksS changeS
 by_cases h1 : x.f0 = 1
 ·simp [h1]
 ·by_cases h6 : x.f0 = 6
  ·simp [h6]
  ·by_cases h4 : x.f0 = 4
   ·rw [if_neg h1, if_neg (show ¬ (x.f0 = 3 ∨ x.f0 = 5) by omega), if_pos h4, if_neg h1, if_neg h6, if_pos (show x.f0 = 3 ∨ x.f0 = 4 ∨ x.f0 = 5 by omega), if_pos h4]
    cases hw : wordB (foldS x.f1) with
    | true => simp
    | false => simp [shelf_noword hw]
   ·by_cases h35 : x.f0 = 3 ∨ x.f0 = 5
    ·rw [if_neg h1, if_pos h35, if_neg h1, if_neg h6, if_pos (show x.f0 = 3 ∨ x.f0 = 4 ∨ x.f0 = 5 by omega), if_neg h4]
     by_cases hb : 0 ≤ x.f2 ∧ x.f2 ≤ 65535
     ·rw [if_pos hb, decide_eq_true hb, Bool.and_true]
      cases hw : wordB (foldS x.f1) with
      | true => simp
      | false => simp [shelf_noword hw]
     ·rw [if_neg hb, decide_eq_false hb, Bool.and_false]
      simp [shelf_noword empty_noword]
    ·rw [if_neg h1, if_neg h35, if_neg h4, if_neg h6, if_neg h1, if_neg (show ¬ (x.f0 = 3 ∨ x.f0 = 4 ∨ x.f0 = 5) by omega)]
     rfl
def idsS (key log : Int) (l : List Req') : List Int := l.flatMap (idsOf key log)
theorem ids_len {key log : Int} {l : List Req'} (h : ∀ x, x ∈ l → reqB x = true) : (idsS key log l).length ≤ 16 * l.length := by
 induction l with
 | nil => exact Nat.zero_le _
 | cons x xs ih =>
  (have h1 := ih (fun y hy => h y (List.mem_cons_of_mem _ hy))); (have h2 := h x (List.mem_cons_self ..))
  unfold reqB at h2
  (simp only [Bool.and_eq_true] at h2); (have h3 := words_len h2.1)
  unfold idsS at h1 ⊢
  rw [List.flatMap_cons, List.length_append, List.length_cons]
  unfold idsOf at h1 ⊢
  rw [List.length_map]
  omega
theorem ids_take {key log : Int} {l : List Req'} {i : Nat} (h : i < l.length) : idsS key log (l.take (i + 1)) = idsS key log (l.take i) ++ idsOf key log l[i] := by
 unfold idsS
 rw [List.take_succ_eq_append_getElem h, List.flatMap_append]
 simp
theorem rd_words (l : List ByteArray) (i : Nat) (hi : i < l.length) : rdOf ByteArray.empty l (i : Int) = l[i] := by unfold rdOf; rw [Int.toNat_natCast, getD_lt _ hi]
theorem loop_from {ρ : Type} (n : Nat) (G : Nat → Nat → Option ρ) (r : ρ) (hstep : ∀ j, j < n → Ev (fun k => G k (j + 1)) r → Ev (fun k => G k j) r) (hend : Ev (fun k => G k n) r) : Ev (fun k => G k 0) r := by
 have key : ∀ d j, j + d = n → Ev (fun k => G k j) r := by
  intro d
  induction d with
  | zero =>
   intro j h
   obtain rfl : j = n := by omega
   exact hend
  | succ d ih => intro j h; exact hstep j (by omega) (ih (j + 1) (by omega))
 exact key n 0 (by omega)
theorem specIds_ev (a b c d : Int) (l : List Req') (h : l.length ≤ 9223372036854775807) : Ev (fun k => spec_SessIds.f k a b c d l) (if confB a b c d && reqsB l then (idsS a b l, true) else ([], false)) := by
 unfold spec_SessIds.f
 have hno : Ev (fun k => spec_SessIds.j0 k l true a b c d) ([], false) := by
  refine Ev.step (fun k => rfl) ?_
  simp only [spec_SessIds.j0, if_true]
  exact Ev.now _
 simp only [confOk_eq, Option.bind_some]
 cases hc : confB a b c d with
 | false => simp only [Bool.false_eq_true, if_false, Bool.false_and]; exact hno
 | true =>
  simp only [if_true, Bool.true_and]
  refine Ev.bind (specReqsOk_ev l h) ?_
  cases hb : reqsB l with
  | false => simp only [Bool.not_false, Bool.false_eq_true, if_false]; exact hno
  | true =>
   (simp only [Bool.not_true, if_true]); (obtain ⟨h40, hall⟩ := reqs_all hb)
   refine Ev.step (fun k => rfl) ?_
   simp only [spec_SessIds.j0, Bool.false_eq_true, if_false]
   refine evVal (loop_ev l.length (fun k s i => spec_SessIds.l0 k l s i a b c d) (fun i => idsS a b (l.take i)) (idsS a b (l.take l.length), true) ?_ ?_) (by rw [List.take_length])
   ·intro i hi hr
    (have hx : reqB l[i] = true := hall _ (List.getElem_mem hi)); (have hx2 := hx)
    unfold reqB at hx2
    rw [Bool.and_eq_true] at hx2
    have hlen : (idsS a b (l.take i)).length ≤ 640 := by
     (have := ids_len (key := a) (log := b) (l := l.take i) (fun x hx => hall x (List.mem_of_mem_take hx))); (rw [List.length_take] at this)
     omega
    (rw [ids_take hi] at hr); (have hwl := words_len hx2.1); (have hws := @words_size l[i]); (have hwv := specWords_ev l[i] hx)
    refine Ev.step (fun k => rfl) ?_
    (simp only [spec_SessIds.l0, rd_T32, Int.toNat_natCast, getD_lt _ hi]); (simp only [if_pos (show (i : Int) < (l.length : Int) by omega), if_pos (show (0 : Int) ≤ (i : Int) by omega)])
    refine Ev.bind hwv ?_
    unfold idsOf at hr
    generalize wordsS l[i] = ws at hr hwl hws
    have := loop_from ws.length (fun k j => spec_SessIds.l1 k l (idsS a b (l.take i) ++ (ws.take j).map (shelfS a b)) (i : Int) ws (j : Int) a b c d) (idsS a b (l.take l.length), true) ?_ ?_
    ·simpa using this
    ·intro j hj hn
     refine Ev.step (fun k => rfl) ?_
     simp only [spec_SessIds.l1, if_pos (show (j : Int) < (ws.length : Int) by omega), if_pos (show (0 : Int) ≤ (j : Int) by omega), rd_words ws j hj]
     refine Ev.bind (specShelf_ev a b ws[j] (by have := hws _ (List.getElem_mem hj); omega)) ?_
     (simp only [if_pos (show (idsS a b (l.take i) ++ (ws.take j).map (shelfS a b)).length < 17592186044416 by rw [List.length_append, List.length_map, List.length_take]; omega), wrap_nat_succ (show j < 9223372036854775807 by omega)]); (rw [List.take_succ_eq_append_getElem hj, List.map_append, ← List.append_assoc] at hn)
     exact hn
    ·refine Ev.step (fun k => ?_) hr
     simp only [spec_SessIds.l1, if_neg (show ¬ (ws.length : Int) < (ws.length : Int) by omega), List.take_length, wrap_nat_succ (show i < 9223372036854775807 by omega)]
   ·refine Ev.step (f := fun _ => some _) (fun k => ?_) (Ev.now _)
    (simp only [spec_SessIds.l0]); (rw [if_neg (by omega)])
theorem implIds_ev (a b c d : Int) (l : List Req') (hb : reqsB l = true) : Ev (fun k => impl_sessIds.f k a b c d l) (idsS a b l) := by
 unfold impl_sessIds.f
 obtain ⟨h40, hall⟩ := reqs_all hb
 refine loop_ev l.length (fun k s i => impl_sessIds.l0 k s l (l.length : Int) i a b c d) (fun i => idsS a b (l.take i)) (idsS a b l) ?_ ?_
 ·intro i hi hr
  (have hx : reqB l[i] = true := hall _ (List.getElem_mem hi)); (have hx2 := hx)
  unfold reqB at hx2
  rw [Bool.and_eq_true] at hx2
  have hlen : (idsS a b (l.take i)).length ≤ 640 := by
   (have := ids_len (key := a) (log := b) (l := l.take i) (fun x hx => hall x (List.mem_of_mem_take hx))); (rw [List.length_take] at this)
   omega
  rw [ids_take hi, ids_split a b l[i] hx2.1, ← List.append_assoc] at hr
  have hlk : (looksS l[i]).length ≤ 16 := by
   unfold looksS
   split
   ·show 1 ≤ 16; omega
   ·split
    ·rename_i h6
     unfold tokWords
     split
     ·exact tokens_len _ _
     ·have := shape_slots hx2.1 h6; rw [List.length_replicate]; omega
    ·exact Nat.zero_le _
  have hls : ∀ t, t ∈ looksS l[i] → t.size ≤ 32 := by
   intro t ht
   unfold looksS at ht
   split at ht
   ·obtain rfl := List.mem_singleton.1 ht; exact foldS_size _
   ·split at ht
    ·unfold tokWords at ht
     split at ht
     ·exact tokens_size _ _ t ht
     ·rw [(List.mem_replicate.1 ht).2]; exact Nat.zero_le _
    ·cases ht
  (have hwv := looks_ev l[i] hx); (have hce := change_ev l[i] hx); (have hcs : (changeS l[i]).1.size ≤ 32 := foldS_size _)
  refine Ev.step (fun k => rfl) ?_
  (simp only [impl_sessIds.l0, rd_T32, Int.toNat_natCast, getD_lt _ hi]); (simp only [if_pos (show (i : Int) < (l.length : Int) by omega), if_pos (show (0 : Int) ≤ (i : Int) by omega)])
  refine Ev.bind hwv ?_
  generalize looksS l[i] = ws at hr hlk hls
  have := loop_from ws.length (fun k j => impl_sessIds.l1 k (idsS a b (l.take i) ++ (ws.take j).map (shelfS a b)) l (l.length : Int) (i : Int) ws (ws.length : Int) (j : Int) a b c d l[i].f0 l[i].f1 l[i].f2 l[i].f3 l[i].f4 l[i].f5 l[i].f6) (idsS a b l) ?_ ?_
  ·simpa using this
  ·intro j hj hn
   refine Ev.step (fun k => rfl) ?_
   simp only [impl_sessIds.l1, if_pos (show (j : Int) < (ws.length : Int) by omega), if_pos (show (0 : Int) ≤ (j : Int) by omega), rd_words ws j hj]
   refine Ev.bind (a := shelfS a b ws[j]) ?_ ?_
   ·unfold impl_bucketOf.f
    exact Ev.bind (implShelf_ev a b ws[j] (by have := hls _ (List.getElem_mem hj); omega)) (Ev.now _)
   ·simp only [if_pos (show (idsS a b (l.take i) ++ (ws.take j).map (shelfS a b)).length < 17592186044416 by rw [List.length_append, List.length_map, List.length_take]; omega), wrap_nat_succ (show j < 9223372036854775807 by omega)]
    rw [List.take_succ_eq_append_getElem hj, List.map_append, ← List.append_assoc] at hn
    exact hn
  ·have hl2 : (idsS a b (l.take i) ++ ws.map (shelfS a b)).length ≤ 656 := by rw [List.length_append, List.length_map]; omega
   refine Ev.step (fun k => rfl) ?_
   (simp only [impl_sessIds.l1, if_neg (show ¬ (ws.length : Int) < (ws.length : Int) by omega), List.take_length, wrap_nat_succ (show i < 9223372036854775807 by omega)]); (simp only [isChange_eq, Option.bind_some])
   by_cases hch : l[i].f0 = 3 ∨ l[i].f0 = 4 ∨ l[i].f0 = 5
   ·simp only [decide_eq_true hch, if_true]
    rw [if_pos hch] at hr
    refine Ev.bind hce ?_
    refine Ev.bind (entry_ev _ _ (by omega)) ?_
    cases hE : (wordB (changeS l[i]).1 && decide (0 ≤ (changeS l[i]).2 ∧ (changeS l[i]).2 ≤ 65535)) with
    | true =>
     (rw [hE, if_pos rfl] at hr); (simp only [if_true])
     refine Ev.bind (a := shelfS a b (changeS l[i]).1) ?_ ?_
     ·unfold impl_bucketOf.f
      exact Ev.bind (implShelf_ev a b _ (by omega)) (Ev.now _)
     ·refine Ev.bind (evConst rfl) ?_
      exact evIf (by simp only [List.length_cons, List.length_nil]; omega) hr
    | false =>
     (rw [hE, if_neg (by decide)] at hr); (simp only [Bool.false_eq_true, if_false])
     refine Ev.bind (evConst rfl) ?_
     exact evIf (by simp only [List.length_cons, List.length_nil]; omega) hr
   ·simp only [decide_eq_false hch, Bool.false_eq_true, if_false]
    rw [if_neg hch, List.append_nil] at hr
    exact hr
 ·refine Ev.step (f := fun _ => some _) (fun k => ?_) (Ev.now _)
  (simp only [impl_sessIds.l0]); (rw [if_neg (by omega), List.take_length])
theorem implSessIds_ev (a b c d : Int) (l : List Req') : Ev (fun k => impl_SessIds.f k a b c d l) (if confB a b c d && reqsB l then (idsS a b l, true) else ([], false)) := by
 unfold impl_SessIds.f
 simp only [isConf_eq, areReqs_eq, Option.bind_some]
 cases hc : confB a b c d with
 | false => simp only [Bool.false_eq_true, if_false, Bool.false_and]; exact Ev.now _
 | true =>
  cases hb : reqsB l with
  | false => simp only [Bool.false_eq_true, if_false, if_true, Bool.true_and]; exact Ev.now _
  | true =>
   simp only [if_true, Bool.true_and]
   exact Ev.bind (implIds_ev a b c d l hb) (Ev.now _)
def takesI (a b : Int) : Int := if a = 1 then 1 else if a = 3 ∨ a = 4 ∨ a = 5 then 2 else b
theorem takes_eq (a b : Int) : impl_takes.f a b = some (takesI a b) := by
 unfold impl_takes.f impl_isChange.f takesI
 by_cases h1 : a = 1
 ·simp [h1]
 ·by_cases h3 : a = 3
  ·simp [h3]
  ·by_cases h4 : a = 4
   ·simp [h4]
   ·by_cases h5 : a = 5
    ·simp [h5]
    ·simp [h1, h3, h4, h5]
theorem takesI_range {a b : Int} (h : shapeB a b = true) : 0 ≤ takesI a b ∧ takesI a b ≤ 16 := by
 have hr := shape_range h
 unfold takesI
 split
 ·omega
 ·split <;> omega
end Go.Proofs.YtbpffdhkeinmcaaDoor.L
namespace Go.Proofs.YtbpffdhkeinmcaaDoor.Pure
open Go.RowKit Go.Proofs.YtbpffdhkeinmcaaDoor.QE Go.Proofs.YtbpffdhkeinmcaaDoorW.PrintWords Go.Proofs.YtbpffdhkeinmcaaDoorW.PrintLast Go.Proofs.YtbpffdhkeinmcaaDoor.L
set_option linter.unusedVariables false
set_option linter.unusedSimpArgs false
theorem inK_byteI {z : Int} (h : Open.InK .u8 z) : 0 ≤ z ∧ z ≤ 255 := by
 (have h' : (Lit.int .u8 z).wf = true := h); (have e1 : IntKind.u8.min = 0 := by decide); (have e2 : IntKind.u8.max = 255 := by decide); (simp only [Lit.wf, e1, e2, Bool.and_eq_true, decide_eq_true_eq] at h')
 exact h'
theorem same_ev (l : List Int) (hl : l.length ≤ 1048576) : Ev (fun k => laws_same.f k l l) true := by
 unfold laws_same.f
 simp only [if_true]
 have key : ∀ d i, i + d = l.length → Ev (fun k => laws_same.l0 k l l (i : Int)) true := by
  intro d
  induction d with
  | zero =>
   intro i h
   refine Ev.step (fun k => rfl) ?_
   simp only [laws_same.l0, if_neg (show ¬ (i : Int) < (l.length : Int) by omega)]
   exact Ev.now _
  | succ d ih =>
   intro i h
   refine Ev.step (fun k => rfl) ?_
   simp only [laws_same.l0, if_pos (show (i : Int) < (l.length : Int) by omega), if_pos (show (0 : Int) ≤ (i : Int) by omega), if_true, wrap_nat_succ (show i < 9223372036854775807 by omega)]
   exact ih (i + 1) (by omega)
 exact key l.length 0 (by omega)
theorem tokens_full (s : ByteArray) (n : Int) (h : (tokensS s n).2 = true) : ((tokensS s n).1.length : Int) = n := by
 unfold tokensS at h ⊢
 split
 ·rename_i h1
  rw [if_pos h1] at h
  split
  ·rename_i h2
   simp only [List.length_append, List.length_map, List.length_replicate]; omega
  ·rename_i h2; rw [if_neg h2] at h; cases h
 ·rename_i h1; rw [if_neg h1] at h; cases h
theorem words_takes {x : Req'} (h : shapeB x.f0 x.f5 = true) : ((wordsS x).length : Int) = takesI x.f0 x.f5 := by
 have hr := shape_range h
 unfold wordsS takesI
 by_cases h1 : x.f0 = 1
 ·rw [if_pos h1, if_pos h1]; rfl
 ·rw [if_neg h1, if_neg h1]
  by_cases h35 : x.f0 = 3 ∨ x.f0 = 5
  ·rw [if_pos h35, if_pos (show x.f0 = 3 ∨ x.f0 = 4 ∨ x.f0 = 5 by omega)]
   split <;> rfl
  ·rw [if_neg h35]
   by_cases h4 : x.f0 = 4
   ·rw [if_pos h4, if_pos (show x.f0 = 3 ∨ x.f0 = 4 ∨ x.f0 = 5 by omega)]; rfl
   ·rw [if_neg h4, if_neg (show ¬ (x.f0 = 3 ∨ x.f0 = 4 ∨ x.f0 = 5) by omega)]
    by_cases h6 : x.f0 = 6
    ·rw [if_pos h6]
     have hs := shape_slots h h6
     unfold tokWords
     split
     ·rename_i ht; exact tokens_full _ _ ht
     ·rw [List.length_replicate]; omega
    ·rw [if_neg h6]
     (have : x.f0 = 2 := by omega); (have h5 : x.f5 = 0 := by unfold shapeB at h; rw [if_neg h6] at h; have := of_decide_eq_true h; omega); (rw [h5]; rfl)
theorem FnIdsBook : laws_FnIdsBook.Pure := by
 rintro c ⟨hl, hx⟩
 apply Ev.rounds
 unfold laws_FnIdsBook.f laws_big.f
 have hby : Byt c := fun x hm => inK_byteI (hx x hm)
 refine Ev.bind (evConst rfl) ?_
 by_cases hb : (c.length : Int) > 1048576
 ·simp only [hb, decide_true, if_true]
  exact Ev.now _
 (simp only [hb, decide_false, Bool.false_eq_true, if_false]); (obtain ⟨x1, x2, x3, x4, l, e0, hl13⟩ := drawSess_ok hby (by omega)); (have hspec := specIds_ev x1 x2 x3 x4 l (by omega)); (have himpl := implSessIds_ev x1 x2 x3 x4 l)
 refine Ev.bind e0 ?_
 cases hq : (confB x1 x2 x3 x4 && reqsB l) with
 | false =>
  rw [hq] at hspec himpl
  refine Ev.bind hspec (Ev.bind himpl ?_)
  simp only [Bool.false_eq_true, if_false, bne_self_eq_false, Bool.not_false]
  refine Ev.step (fun k => rfl) ?_
  simp only [laws_FnIdsBook.j0, if_true, beq_self_eq_true]
  exact Ev.now _
 | true =>
  (rw [hq] at hspec himpl); (rw [Bool.and_eq_true] at hq); (obtain ⟨hconf, hreqs⟩ := hq); (obtain ⟨h40, hall⟩ := reqs_all hreqs); (have hlen := ids_len (key := x1) (log := x2) hall)
  refine Ev.bind hspec (Ev.bind himpl ?_)
  simp only [if_true, bne_self_eq_false, Bool.false_eq_true, if_false, Bool.not_true]
  refine Ev.step (fun k => rfl) ?_
  simp only [laws_FnIdsBook.j0, Bool.false_eq_true, if_false]
  have key : ∀ d i, i + d = l.length → Ev (fun k => laws_FnIdsBook.l0 k l (idsS x1 x2 l) (idsS x1 x2 l) (((idsS x1 x2 (l.take i)).length : Nat) : Int) (i : Int) x1 x2 x3 x4) true := by
   intro d
   induction d with
   | zero =>
    intro i h
    refine Ev.step (fun k => rfl) ?_
    (simp only [laws_FnIdsBook.l0, if_neg (show ¬ (i : Int) < (l.length : Int) by omega)]); (rw [show l.take i = l from List.take_of_length_le (by omega)]); (simp only [if_true])
    exact Ev.bind (same_ev _ (by omega)) (Ev.now _)
   | succ d ih =>
    intro i h
    (have hlt : i < l.length := by omega); (have hr := hall l[i] (List.getElem_mem hlt))
    unfold reqB at hr
    (simp only [Bool.and_eq_true, decide_eq_true_eq] at hr); (have hsh := hr.1); (have hw := words_takes hsh); (have htk := takesI_range hsh); (have hrd : rd_T32 l (i : Int) = l[i] := by unfold rd_T32; rw [Int.toNat_natCast, getD_lt _ hlt]); (have htake := ids_take (key := x1) (log := x2) hlt)
    have hsplit : idsS x1 x2 l = idsS x1 x2 (l.take (i + 1)) ++ idsS x1 x2 (l.drop (i + 1)) := by
     unfold idsS
     rw [← List.flatMap_append, List.take_append_drop]
    have hlen1 : (idsS x1 x2 (l.take (i + 1))).length = (idsS x1 x2 (l.take i)).length + (wordsS l[i]).length := by
     rw [htake, List.length_append]; unfold idsOf; rw [List.length_map]
    have hle : (idsS x1 x2 (l.take (i + 1))).length ≤ (idsS x1 x2 l).length := by rw [hsplit, List.length_append]; omega
    have es : impl_ShapeTakes.f l[i].f0 l[i].f5 = some (takesI l[i].f0 l[i].f5) := by
     unfold impl_ShapeTakes.f
     simp only [isShape_eq, Option.bind_some, hsh, if_true, takes_eq]
    have ew : wrap64 ((((idsS x1 x2 (l.take i)).length : Nat) : Int) + takesI l[i].f0 l[i].f5) = (((idsS x1 x2 (l.take (i + 1))).length : Nat) : Int) := by
     rw [wrap_id (by omega) (by omega)]; omega
    have ih' := ih (i + 1) (by omega)
    refine Ev.step (fun k => rfl) ?_
    simp only [laws_FnIdsBook.l0, hrd, es, Option.bind_some, if_pos (show (i : Int) < (l.length : Int) by omega), if_pos (show (0 : Int) ≤ (i : Int) by omega), if_neg (show ¬ takesI l[i].f0 l[i].f5 < 0 by omega), ew, decide_eq_false (show ¬ (((idsS x1 x2 (l.take (i + 1))).length : Nat) : Int) > (((idsS x1 x2 l).length : Nat) : Int) by omega)]
    refine Ev.step (fun k => rfl) ?_
    simp only [laws_FnIdsBook.j2, hrd, Bool.false_eq_true, if_false, if_pos (show (i : Int) < (l.length : Int) by omega), if_pos (show (0 : Int) ≤ (i : Int) by omega), ew, wrap_nat_succ (show i < 9223372036854775807 by omega)]
    by_cases h1 : l[i].f0 = 1
    ·have hone : wordsS l[i] = [foldS l[i].f1] := by unfold wordsS; rw [if_pos h1]
     have hn1 : (wordsS l[i]).length = 1 := by rw [hone]; rfl
     have hval : rd (idsS x1 x2 l) (((idsS x1 x2 (l.take i)).length : Nat) : Int) = shelfS x1 x2 (foldS l[i].f1) := by
      unfold rd
      rw [Int.toNat_natCast, hsplit, htake, List.getD_eq_getElem?_getD, List.append_assoc, List.getElem?_append_right (Nat.le_refl _), Nat.sub_self]
      unfold idsOf
      rw [hone]
      rfl
     (have hf := foldS_size l[i].f1); (simp only [if_pos h1, if_pos (show (0 : Int) ≤ (((idsS x1 x2 (l.take i)).length : Nat) : Int) by omega), if_pos (show (((idsS x1 x2 (l.take i)).length : Nat) : Int) < (((idsS x1 x2 l).length : Nat) : Int) by omega)])
     refine Ev.bind (specFold_ev l[i].f1 (by omega)) (Ev.bind (implShelf_ev x1 x2 (foldS l[i].f1) (by omega)) ?_)
     simp only [hval, if_true]
     exact ih'
    ·simp only [if_neg h1]
     exact ih'
  exact key l.length 0 (by omega)
end Go.Proofs.YtbpffdhkeinmcaaDoor.Pure
