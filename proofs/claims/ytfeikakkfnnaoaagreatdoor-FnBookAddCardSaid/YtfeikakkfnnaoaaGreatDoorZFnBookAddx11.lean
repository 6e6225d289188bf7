/- Part of the proof of the law FnBookAdd: what it uses of the texts that this session and the kit's print wrote. -/
import Derived.Test.YtfeikakkfnnaoaaGreatDoorZFnBookAddx0
import Derived.Test.YtfeikakkfnnaoaaGreatDoorZFnBookAddx7
import Derived.Test.YtfeikakkfnnaoaaGreatDoorZFnBookAddx8
import Derived.Test.YtfeikakkfnnaoaaGreatDoorZFnBookAddx9
import Derived.Test.YtfeikakkfnnaoaaGreatDoorZFnBookAddx10
import Derived.Laws.BitsLemmas
import Derived.Lib.MapLaws
namespace Go.Proofs.YtfeikakkfnnaoaaGreatDoor.L
open Go.RowKit Go.Proofs.YtfeikakkfnnaoaaGreatDoorW.PrintWords Go.Proofs.YtfeikakkfnnaoaaGreatDoorW.PrintMore
set_option linter.unusedVariables false
set_option linter.unusedSimpArgs false
theorem wrap_id {x : Int} (h0 : -9223372036854775808 ≤ x) (h1 : x ≤ 9223372036854775807) : wrap64 x = x := by unfold wrap64; omega
theorem wrap_nat_succ {i : Nat} (h : i < 9223372036854775807) : wrap64 ((i : Int) + 1) = ((i + 1 : Nat) : Int) := by unfold wrap64; omega
theorem evVal {α : Type} {g : Nat → Option α} {r r' : α} (h : Ev g r) (e : r = r') : Ev g r' := e ▸ h
theorem evConst {α : Type} {o : Option α} {r : α} (h : o = some r) : Ev (fun _ => o) r := ⟨0, fun _ _ => h⟩
theorem loop_ev {σ ρ : Type} (n : Nat) (G : Nat → σ → Int → Option ρ) (s : Nat → σ) (r : ρ)
  (hstep : ∀ i, i < n → Ev (fun k => G k (s (i + 1)) ((i + 1 : Nat) : Int)) r → Ev (fun k => G k (s i) (i : Int)) r)
  (hend : Ev (fun k => G k (s n) (n : Int)) r) : Ev (fun k => G k (s 0) 0) r := by
 have key : ∀ d i, i + d = n → Ev (fun k => G k (s i) (i : Int)) r := by
  intro d
  induction d with
  | zero =>
   intro i h
   obtain rfl : i = n := by omega
   exact hend
  | succ d ih => intro i h; exact hstep i (by omega) (ih (i + 1) (by omega))
 exact key n 0 (by omega)
theorem search_ev {ρ : Type} (n : Nat) (G : Nat → Int → Option ρ) (p : Nat → Bool) (rno ryes : ρ)
  (hgo : ∀ i, i < n → p i = true → ∀ r, Ev (fun k => G k ((i + 1 : Nat) : Int)) r → Ev (fun k => G k (i : Int)) r)
  (hstop : ∀ i, i < n → p i = false → Ev (fun k => G k (i : Int)) rno)
  (hend : Ev (fun k => G k (n : Int)) ryes) : Ev (fun k => G k 0) (if (List.range n).all p then ryes else rno) := by
 have key : ∀ d i, i + d = n → Ev (fun k => G k (i : Int)) (if ((List.range n).drop i).all p then ryes else rno) := by
  intro d
  induction d with
  | zero =>
   intro i h
   (obtain rfl : i = n := by omega); (rw [List.drop_of_length_le (by simp)])
   exact hend
  | succ d ih =>
   intro i h
   (have hi : i < n := by omega); (rw [List.drop_eq_getElem_cons (by simpa using hi), List.getElem_range, List.all_cons])
   cases hp : p i with
   | true => simpa using hgo i hi hp _ (ih (i + 1) (by omega))
   | false => simpa using hstop i hi hp
 have := key n 0 (by omega)
 simpa using this
theorem all_range {α : Type} (l : List α) (z : α) (q : α → Bool) : (List.range l.length).all (fun i => q (l.getD i z)) = l.all q := by
 induction l with
 | nil => rfl
 | cons x xs ih =>
  rw [List.length_cons, List.range_succ_eq_map, List.all_cons, List.all_map, List.all_cons, ← ih]
  rfl
theorem getD_lt {α : Type} {l : List α} {i : Nat} (z : α) (h : i < l.length) : l.getD i z = l[i] := by simp [List.getD, h]
end Go.Proofs.YtfeikakkfnnaoaaGreatDoor.L
namespace Go.Proofs.YtfeikakkfnnaoaaGreatDoor.V
open Go Go.RowKit Go.Proofs.YtfeikakkfnnaoaaGreatDoorW.PrintWords Go.Proofs.YtfeikakkfnnaoaaGreatDoorW.PrintLast Go.Proofs.YtfeikakkfnnaoaaGreatDoorW.PrintMore
set_option linter.unusedVariables false
set_option linter.unusedSimpArgs false
def E4 {α : Type} (F : Nat → Nat → Nat → Nat → Option α) (r : α) : Prop := ∃ N, ∀ k m n p, N ≤ k → N ≤ m → N ≤ n → N ≤ p → F k m n p = some r
section
variable {α β : Type} {F G : Nat → Nat → Nat → Nat → Option α} {f c : Nat → Option α} {h : Nat → Option β} {r : α} {a d : β} {b g : Bool}
theorem E4.of (h : Ev f r) : E4 (fun k _ _ _ => f k) r := h.elim fun N h => ⟨N, fun k _ _ _ hk _ _ _ => h k hk⟩
theorem E4.dg (h : E4 F r) : Ev (fun k => F k k k k) r := h.elim fun N h => ⟨N, fun k hk => h k k k k hk hk hk hk⟩
theorem E4.now : E4 (fun _ _ _ _ => some r) r := ⟨0, fun _ _ _ _ _ _ _ _ => rfl⟩
theorem E4.val {r' : α} (h : E4 F r) (e : r = r') : E4 F r' := e ▸ h
theorem E4.e1 (h : E4 F r) : E4 (fun k m n p => F k k n p) r := h.elim fun N h => ⟨N, fun k m n p hk hm hn hp => h k k n p hk hk hn hp⟩
theorem E4.e2 (h : E4 F r) : E4 (fun k m n p => F k m k p) r := h.elim fun N h => ⟨N, fun k m n p hk hm hn hp => h k m k p hk hm hk hp⟩
theorem E4.e3 (h : E4 F r) : E4 (fun k m n p => F k m n k) r := h.elim fun N h => ⟨N, fun k m n p hk hm hn hp => h k m n k hk hm hn hk⟩
theorem E4.s1 (e : ∀ k m n p, F k (m + 1) n p = G k m n p) (h : E4 G r) : E4 F r := by
 obtain ⟨N, h⟩ := h
 refine ⟨N + 1, fun k m n p hk hm hn hp => ?_⟩
 (obtain ⟨m, rfl⟩ : ∃ m', m = m' + 1 := ⟨m - 1, by omega⟩); (rw [e]; exact h k m n p (by omega) (by omega) (by omega) (by omega))
theorem E4.s2 (e : ∀ k m n p, F k m (n + 1) p = G k m n p) (h : E4 G r) : E4 F r := by
 obtain ⟨N, h⟩ := h
 refine ⟨N + 1, fun k m n p hk hm hn hp => ?_⟩
 (obtain ⟨n, rfl⟩ : ∃ m', n = m' + 1 := ⟨n - 1, by omega⟩); (rw [e]; exact h k m n p (by omega) (by omega) (by omega) (by omega))
theorem E4.s3 (e : ∀ k m n p, F k m n (p + 1) = G k m n p) (h : E4 G r) : E4 F r := by
 obtain ⟨N, h⟩ := h
 refine ⟨N + 1, fun k m n p hk hm hn hp => ?_⟩
 (obtain ⟨p, rfl⟩ : ∃ m', p = m' + 1 := ⟨p - 1, by omega⟩); (rw [e]; exact h k m n p (by omega) (by omega) (by omega) (by omega))
theorem E4.eq (e : ∀ k m n p, F k m n p = G k m n p) (h : E4 G r) : E4 F r := h.elim fun N h => ⟨N, fun k m n p hk hm hn hp => (e k m n p).trans (h k m n p hk hm hn hp)⟩
theorem Ev.st (e : ∀ k, c (k + 1) = f k) (h : E4 (fun k _ _ _ => f k) r) : Ev c r := Ev.step e h.dg
theorem E4.bind {f : Nat → Nat → Nat → Nat → β → Option α} (hg : Ev h a) (hf : E4 (fun k m n p => f k m n p a) r) : E4 (fun k m n p => (h k).bind (f k m n p)) r := by
 (obtain ⟨N, h1⟩ := hg); (obtain ⟨M, h2⟩ := hf)
 refine ⟨max N M, fun k m n p hk hm hn hp => ?_⟩
 show (h k).bind _ = _
 rw [h1 k (by omega), Option.bind_some]
 exact h2 k m n p (by omega) (by omega) (by omega) (by omega)
theorem E4.ct (e : b = true) (h : E4 G r) : E4 (fun k m n p => cond b (G k m n p) (F k m n p)) r := by subst e; exact h
theorem E4.cf (e : b = false) (h : E4 F r) : E4 (fun k m n p => cond b (G k m n p) (F k m n p)) r := by subst e; exact h
theorem E4.ck (e : b = true) (h : E4 G r) : E4 (fun k m n p => chk true b (G k m n p)) r := by subst e; exact h
theorem E4.ckg (e : g = true → b = true) (h : E4 G r) : E4 (fun k m n p => chk g b (G k m n p)) r := by
 cases g
 ·cases b <;> exact h
 ·rw [e rfl]; exact h
theorem E4.gt {f : Nat → Nat → Nat → Nat → β → Option α} (e : b = true) (hg : Ev h a) (hf : E4 (fun k m n p => f k m n p a) r) : E4 (fun k m n p => (gcall b (h k) d).bind (f k m n p)) r := by subst e; exact E4.bind hg hf
theorem E4.gf {f : Nat → Nat → Nat → Nat → β → Option α} (e : b = false) (hf : E4 (fun k m n p => f k m n p d) r) : E4 (fun k m n p => (gcall b (h k) d).bind (f k m n p)) r := by subst e; exact hf
theorem loop4 (n : Nat) (F : Nat → Nat → Nat → Nat → Nat → Option α) (hstep : ∀ i, i < n → E4 (F (i + 1)) r → E4 (F i) r) (hend : E4 (F n) r) : E4 (F 0) r := by
 have key : ∀ d i, i + d = n → E4 (F i) r := by
  intro d
  induction d with
  | zero =>
   intro i h
   obtain rfl : i = n := by omega
   exact hend
  | succ d ih => intro i h; exact hstep i (by omega) (ih (i + 1) (by omega))
 exact key n 0 (by omega)
theorem search4 (n : Nat) (F : Nat → Nat → Nat → Nat → Nat → Option α) (p : Nat → Bool) (rno ryes : α)
  (hgo : ∀ i, i < n → p i = true → ∀ r, E4 (F (i + 1)) r → E4 (F i) r) (hstop : ∀ i, i < n → p i = false → E4 (F i) rno) (hend : E4 (F n) ryes) : E4 (F 0) (cond ((List.range n).all p) ryes rno) := by
 have key : ∀ d i, i + d = n → E4 (F i) (cond (((List.range n).drop i).all p) ryes rno) := by
  intro d
  induction d with
  | zero =>
   intro i h
   (obtain rfl : i = n := by omega); (rw [List.drop_of_length_le (by simp)])
   exact hend
  | succ d ih =>
   intro i h
   (have hi : i < n := by omega); (rw [List.drop_eq_getElem_cons (by simpa using hi), List.getElem_range, List.all_cons])
   cases hp : p i with
   | true => simpa using hgo i hi hp _ (ih (i + 1) (by omega))
   | false => simpa using hstop i hi hp
 have := key n 0 (by omega)
 simpa using this
end
theorem w64_def (x : Int) : w64 x = wrap64 x := by
 unfold w64 wrap64 IntKind.wrap
 (have e1 : (2 : Int) ^ 64 = 18446744073709551616 := by decide); (have e2 : (2 : Int) ^ (64 - 1) = 9223372036854775808 := by decide); (simp only [IntKind.bits, IntKind.signed, Bool.true_and, decide_eq_true_eq, e1, e2])
 split <;> omega
theorem w64_id {x : Int} (h0 : -9223372036854775808 ≤ x) (h1 : x ≤ 9223372036854775807) : w64 x = x := by rw [w64_def]; unfold wrap64; omega
theorem w64_succ {i : Nat} (h : i < 9223372036854775807) : w64 ((i : Int) + 1) = ((i + 1 : Nat) : Int) := by rw [w64_id (by omega) (by omega)]; omega
theorem inB_of {n l : Int} (h0 : 0 ≤ n) (h1 : n < l) : inB n l = true := by simp [inB, h0, h1]
theorem appOk_of {α β : Type} {xs : List α} {ys : List β} {z : Nat} (h : ((xs.length : Int) + (ys.length : Int)) * (z : Int) ≤ 70368744177664) : appOk xs ys z = true := okLe_iff.2 h
theorem sumOk_of {a b : ByteArray} (h : a.size + b.size ≤ 9223372036854775807) : sumOk a b = true := okLe_iff.2 (by
 have e : IntKind.i64.max = 9223372036854775807 := by decide
 rw [e]; omega)
theorem cutOk_of {l h n : Int} (h0 : 0 ≤ l) (h1 : l ≤ h) (h2 : h ≤ n) : cutOk l h n = true := by simp [cutOk, h0, h1, h2]
theorem mkOk_of {a b : Int} {z : Nat} (h0 : 0 ≤ a) (h1 : a ≤ b) (h2 : b * (z : Int) ≤ 281474976710656) : mkOk a b z = true := by
 unfold mkOk
 rw [okLe_iff.2 h2]
 simp [h0, h1]
end Go.Proofs.YtfeikakkfnnaoaaGreatDoor.V
namespace Go.Proofs.YtfeikakkfnnaoaaGreatDoor.L
open Go.RowKit Go.Proofs.YtfeikakkfnnaoaaGreatDoor.QA Go.Proofs.YtfeikakkfnnaoaaGreatDoorW.PrintWords Go.Proofs.YtfeikakkfnnaoaaGreatDoorW.PrintLast
set_option linter.unusedVariables false
set_option linter.unusedSimpArgs false
theorem within_eq (n lo hi : Int) : impl_within.f n lo hi = some (decide (lo ≤ n ∧ n ≤ hi)) := by
 unfold impl_within.f
 by_cases h : n ≥ lo
 ·rw [if_pos h]
  by_cases h2 : n ≤ hi <;> simp [h2] <;> omega
 ·rw [if_neg h]
  simp
  omega
end Go.Proofs.YtfeikakkfnnaoaaGreatDoor.L
namespace Go.Proofs.YtfeikakkfnnaoaaGreatDoor.L
open Go.RowKit Go.Proofs.YtfeikakkfnnaoaaGreatDoor.QA Go.Proofs.YtfeikakkfnnaoaaGreatDoorW.PrintWords Go.Proofs.YtfeikakkfnnaoaaGreatDoorW.PrintLast Go.Proofs.YtfeikakkfnnaoaaGreatDoorW.PrintMore
set_option linter.unusedVariables false
set_option linter.unusedSimpArgs false
def letB (s : ByteArray) (i : Nat) : Bool := decide (97 ≤ bt s (i : Int)) && decide (bt s (i : Int) ≤ 122)
def lettersB (s : ByteArray) : Bool := (List.range s.size).all (letB s)
def wordB (s : ByteArray) : Bool := decide (1 ≤ s.size ∧ s.size ≤ 32) && lettersB s
theorem specWordOk_ev (s : ByteArray) (hs : s.size ≤ 9223372036854775807) : Ev (fun k => spec_WordOk.f k s) (wordB s) := by
 unfold spec_WordOk.f wordB
 by_cases h1 : s.size < 1
 ·simp only [if_pos (show (s.size : Int) < 1 by omega), show ¬ (1 ≤ s.size ∧ s.size ≤ 32) by omega, decide_false, Bool.false_and]
  refine Ev.step (fun k => rfl) ?_
  simp only [spec_WordOk.j0, if_true]
  exact Ev.now _
 ·simp only [if_neg (show ¬ (s.size : Int) < 1 by omega)]
  refine Ev.step (fun k => rfl) ?_
  by_cases h2 : s.size ≤ 32
  ·simp only [spec_WordOk.j0, show ¬ ((s.size : Int) > 32) by omega, decide_false, Bool.false_eq_true, if_false, show (1 ≤ s.size ∧ s.size ≤ 32) by omega, decide_true, Bool.true_and]
   refine evVal (search_ev s.size (fun k i => spec_WordOk.l0 k s i) (letB s) false true ?_ ?_ ?_) ?_
   ·intro i hi hp r hr
    unfold letB at hp
    simp only [Bool.and_eq_true, decide_eq_true_eq] at hp
    refine Ev.step (fun k => ?_) hr
    (simp only [spec_WordOk.l0]); (rw [if_pos (by omega), if_pos (by omega), if_neg (by omega), if_neg (by omega), wrap_nat_succ (by omega)])
   ·intro i hi hp
    unfold letB at hp
    refine Ev.step (f := fun _ => some false) (fun k => ?_) (Ev.now _)
    (simp only [spec_WordOk.l0]); (rw [if_pos (by omega), if_pos (by omega)])
    by_cases h97 : bt s (i : Int) < 97
    ·rw [if_pos h97]
    ·rw [if_neg h97, if_pos (by simp at hp; omega)]
   ·refine Ev.step (f := fun _ => some true) (fun k => ?_) (Ev.now _)
    (simp only [spec_WordOk.l0]); (rw [if_neg (by omega)])
   ·unfold lettersB
    cases (List.range s.size).all (letB s) <;> rfl
  ·simp only [spec_WordOk.j0, show ((s.size : Int) > 32) by omega, decide_true, if_true, show ¬ (1 ≤ s.size ∧ s.size ≤ 32) by omega, decide_false, Bool.false_and]
   exact Ev.now _
theorem isWord_ev (s : ByteArray) (hs : s.size ≤ 9223372036854775807) : Ev (fun k => impl_isWord.f k s) (wordB s) := by
 unfold impl_isWord.f wordB
 refine evVal (search_ev s.size (fun k i => impl_isWord.l0 k s (s.size : Int) i) (letB s) false (decide (1 ≤ s.size ∧ s.size ≤ 32)) ?_ ?_ ?_) ?_
 ·intro i hi hp r hr
  unfold letB at hp
  simp only [Bool.and_eq_true, decide_eq_true_eq] at hp
  refine Ev.step (fun k => ?_) hr
  (simp only [impl_isWord.l0]); (rw [if_pos (by omega), if_pos (by omega), if_pos (by omega), if_neg (by omega), if_neg (by omega), wrap_nat_succ (by omega)])
 ·intro i hi hp
  unfold letB at hp
  refine Ev.step (f := fun _ => some false) (fun k => ?_) (Ev.now _)
  (simp only [impl_isWord.l0]); (rw [if_pos (by omega), if_pos (by omega), if_pos (by omega)])
  by_cases h97 : bt s (i : Int) < 97
  ·rw [if_pos h97]
  ·rw [if_neg h97, if_pos (by simp at hp; omega)]
 ·refine Ev.step (f := fun _ => some (decide (1 ≤ s.size ∧ s.size ≤ 32))) (fun k => ?_) (Ev.now _)
  (simp only [impl_isWord.l0, within_eq, Option.bind_some]); (rw [if_neg (by omega)])
  congr 2
  apply propext
  omega
 ·unfold lettersB
  cases (List.range s.size).all (letB s) <;> simp
theorem wordB_size {s : ByteArray} (h : wordB s = true) : 1 ≤ s.size ∧ s.size ≤ 32 := by
 unfold wordB at h
 rw [Bool.and_eq_true] at h
 exact of_decide_eq_true h.1
def padW (s : ByteArray) : List Int := (s.size : Int) :: (bytesOf s ++ List.replicate (32 - s.size) 0)
def padL (s : ByteArray) : List Int := if wordB s then padW s else List.replicate 33 0
theorem padL_length (s : ByteArray) : (padL s).length = 33 := by
 unfold padL padW
 split
 ·rename_i h
  have := wordB_size h
  simp [bytesOf_length]
  omega
 ·simp
theorem implPad_ev (s : ByteArray) (hs : s.size ≤ 9223372036854775807) : Ev (fun k => impl_pad.f k s) (padL s) := by
 unfold impl_pad.f padL
 refine Ev.bind (isWord_ev s hs) ?_
 cases h : wordB s with
 | false => simp only [Bool.false_eq_true, if_false]; exact Ev.now _
 | true =>
  simp only [if_true, if_pos (wordB_size h).2]
  exact Ev.now _
theorem specPad_ev (s : ByteArray) (hs : s.size ≤ 9223372036854775807) : Ev (fun k => spec_Pad.f k s) (padL s) := by
 unfold spec_Pad.f padL
 simp only [show 33 ≤ 281474976710656 by omega, if_true, Option.bind_some]
 refine Ev.bind (specWordOk_ev s hs) ?_
 cases h : wordB s with
 | false => simp only [Bool.false_eq_true, if_false]; exact Ev.now _
 | true =>
  have hb := wordB_size h
  have e0 : (List.replicate 33 (0 : Int)).set (0 : Int).toNat ((s.size : Int) % 256) = (s.size : Int) :: List.replicate 32 0 := by
   rw [show (0 : Int).toNat = 0 from rfl, List.replicate_succ, List.set_cons_zero]
   congr 1
   omega
  simp only [if_true, List.length_replicate, if_pos (show (0 : Int) < ((33 : Nat) : Int) by omega), e0]
  have key : ∀ d i, i + d = s.size → Ev (fun k => spec_Pad.l0 k s ((s.size : Int) :: ((bytesOf s).take i ++ List.replicate (32 - i) 0)) (i : Int)) (padW s) := by
   intro d
   induction d with
   | zero =>
    intro i hi
    refine evVal (Ev.step (f := fun _ => some ((s.size : Int) :: ((bytesOf s).take i ++ List.replicate (32 - i) 0))) (fun k => ?_) (Ev.now _)) ?_
    ·simp only [spec_Pad.l0]
     rw [if_neg (by omega)]
    ·unfold padW
     rw [List.take_of_length_le (by rw [bytesOf_length]; omega), show i = s.size by omega]
   | succ d ih =>
    intro i hi
    refine Ev.step (fun k => ?_) (ih (i + 1) (by omega))
    (have hl : (((s.size : Int) :: ((bytesOf s).take i ++ List.replicate (32 - i) 0)).length : Int) = 33 := by simp [bytesOf_length]; omega); (simp only [spec_Pad.l0]); (rw [if_pos (by omega), if_pos (by omega), wrap_nat_succ (by omega), if_pos (by omega), if_pos (by rw [hl]; omega)])
    congr 1
    rw [Int.toNat_natCast, List.set_cons_succ, List.set_append_right _ _ (by rw [List.length_take, bytesOf_length]; omega), List.length_take, bytesOf_length, Nat.min_eq_left (by omega), Nat.sub_self, show 32 - i = (32 - (i + 1)) + 1 by omega, List.replicate_succ, List.set_cons_zero, List.take_succ_eq_append_getElem (by rw [bytesOf_length]; omega), List.append_assoc]
    congr 3
    have := rd_bytesOf s (i : Int)
    unfold rd at this
    rw [Int.toNat_natCast, List.getD_eq_getElem?_getD, List.getElem?_eq_getElem (by rw [bytesOf_length]; omega)] at this
    exact this.symm
  have := key s.size 0 (by omega)
  simpa using this
theorem pow2_le {n m : Nat} (h : n ≤ m) : (2 : Int) ^ n ≤ 2 ^ m := by
 have : (2 : Nat) ^ n ≤ 2 ^ m := Nat.pow_le_pow_right (by omega) h
 exact_mod_cast this
theorem pow2_pos (n : Nat) : (1 : Int) ≤ 2 ^ n := by
 have : (1 : Nat) ≤ 2 ^ n := Nat.one_le_two_pow
 exact_mod_cast this
theorem pow_ev (n : Nat) (hn : n ≤ 61) : Ev (fun k => spec_l02Pow.f k (n : Int)) (2 ^ n) := by
 have key : ∀ m : Nat, m ≤ 61 → ∀ x : Int, 1 ≤ x → x * 2 ^ m ≤ 2305843009213693952 → Ev (fun k => spec_l02Pow.l0 k (m : Int) x) (x * 2 ^ m) := by
  intro m
  induction m with
  | zero =>
   intro hm x h1 h2
   refine Ev.step (f := fun _ => some _) (fun k => ?_) (Ev.now _)
   simp [spec_l02Pow.l0]
  | succ m ih =>
   intro hm x h1 h2
   (have e : x * 2 ^ (m + 1) = (2 * x) * 2 ^ m := by rw [Int.pow_succ, Int.mul_comm (2 ^ m) 2, ← Int.mul_assoc, Int.mul_comm x 2]); (have hp := pow2_pos m); (have hx : 2 * x ≤ (2 * x) * 2 ^ m := by have := Int.mul_le_mul_of_nonneg_left hp (show 0 ≤ 2 * x by omega); omega)
   refine evVal (Ev.step (fun k => ?_) (ih (by omega) (2 * x) (by omega) (by rw [← e]; exact h2))) e.symm
   (simp only [spec_l02Pow.l0]); (rw [if_pos (by omega), wrap_id (by omega) (by omega), wrap_id (by omega) (by omega)])
   congr 1
   omega
 have hle : (1 : Int) * 2 ^ n ≤ 2305843009213693952 := by
  have : (2 : Int) ^ n ≤ 2 ^ 61 := pow2_le hn
  omega
 (have := key n hn 1 (by omega) hle); (rw [Int.one_mul] at this)
 exact this
theorem shl_pow (x : Int) (n : Nat) (hn : n ≤ 64) : shl .i64 x (n : Int) = wrap64 (x * 2 ^ n) := by
 unfold shl
 rw [Int.toNat_natCast, Nat.min_eq_left (by exact hn), Go.Proofs.YtfeikakkfnnaoaaGreatDoorW.PrintLast.i64_w]
end Go.Proofs.YtfeikakkfnnaoaaGreatDoor.L
namespace Go.Proofs.YtfeikakkfnnaoaaGreatDoor.L
open Go.RowKit Go.Proofs.YtfeikakkfnnaoaaGreatDoorW.PrintWords Go.Proofs.YtfeikakkfnnaoaaGreatDoorW.PrintMore
theorem strOf_nums (l : List UInt8) : strOfNums (l.map fun b => (b.toNat : Int)) = ⟨l.toArray⟩ := by
 unfold strOfNums
 congr 1
 rw [List.map_map]
 have : (fun n : Int => UInt8.ofNat n.toNat) ∘ (fun b : UInt8 => (b.toNat : Int)) = id := by
  funext b
  simp
 rw [this]
 simp
end Go.Proofs.YtfeikakkfnnaoaaGreatDoor.L
namespace Go.Proofs.YtfeikakkfnnaoaaGreatDoor.L
open Go.RowKit Go.Proofs.YtfeikakkfnnaoaaGreatDoor.QA Go.Proofs.YtfeikakkfnnaoaaGreatDoorW.PrintWords Go.Proofs.YtfeikakkfnnaoaaGreatDoorW.PrintLast Go.Proofs.YtfeikakkfnnaoaaGreatDoorW.PrintMore
set_option linter.unusedVariables false
set_option linter.unusedSimpArgs false
theorem bits_xor_nat (k : IntKind) (j : Nat) (hj : j ≤ k.bits) (hk : ∀ n : Int, 0 ≤ n → n < 2 ^ j → k.wrap n = n) (a b : Nat) (ha : a < 2 ^ j) (hb : b < 2 ^ j) :
  Go.bits .xor k (a : Int) (b : Int) = ((a ^^^ b : Nat) : Int) := by
 (have hp : 2 ^ j ≤ 2 ^ k.bits := Nat.pow_le_pow_right (by decide) hj); (have ha' : a % 2 ^ k.bits = a := Nat.mod_eq_of_lt (Nat.lt_of_lt_of_le ha hp)); (have hb' : b % 2 ^ k.bits = b := Nat.mod_eq_of_lt (Nat.lt_of_lt_of_le hb hp)); (have cast : ∀ n : Nat, n < 2 ^ j → ((n : Nat) : Int) < 2 ^ j := fun n h => by exact_mod_cast h); (simp only [Go.bits, BitVec.ofInt_natCast, BitVec.toNat_xor, BitVec.toNat_ofNat, ha', hb'])
 exact hk _ (Int.natCast_nonneg _) (cast _ (Nat.xor_lt_two_pow ha hb))
theorem wraps_u32 (n : Int) (h₀ : 0 ≤ n) (h₁ : n < 2 ^ 32) : IntKind.u32.wrap n = n := by rw [IntKind.wrap_u32]; omega
theorem wraps_i64 (n : Int) (h₀ : 0 ≤ n) (h₁ : n < 2 ^ 32) : IntKind.i64.wrap n = n := by rw [IntKind.wrap_i64]; omega
theorem xor32 (a b : Nat) (ha : a < 4294967296) (hb : b < 4294967296) : Go.bits .xor .u32 (a : Int) (b : Int) = ((a ^^^ b : Nat) : Int) := bits_xor_nat .u32 32 (by decide) wraps_u32 a b ha hb
theorem xor64 (a b : Nat) (ha : a < 4294967296) (hb : b < 4294967296) : Go.bits .xor .i64 (a : Int) (b : Int) = ((a ^^^ b : Nat) : Int) := bits_xor_nat .i64 32 (by decide) wraps_i64 a b ha hb
theorem xor_lt (a b : Nat) (ha : a < 4294967296) (hb : b < 4294967296) : a ^^^ b < 4294967296 := Nat.xor_lt_two_pow (n := 32) ha hb
def hashStep (h : Nat) (d : Int) : Nat := ((h ^^^ d.toNat) * 16777619) % 4294967296
def hashFold (key : Nat) (l : List Int) : Nat := l.foldl hashStep key
theorem hashFold_lt (l : List Int) : ∀ key : Nat, key < 4294967296 → hashFold key l < 4294967296 := by
 induction l with
 | nil => intro k h; exact h
 | cons x xs ih => intro k h; exact ih _ (Nat.mod_lt _ (by decide))
def hashS (key : Nat) (s : ByteArray) : Nat := (hashFold key (padL s)) ^^^ (hashFold key (padL s) / 65536)
theorem hashS_lt (key : Nat) (s : ByteArray) (h : key < 4294967296) : hashS key s < 4294967296 := by
 have := hashFold_lt (padL s) key h
 exact xor_lt _ _ this (by omega)
theorem bytesOf_range (s : ByteArray) : ∀ x, x ∈ bytesOf s → 0 ≤ x ∧ x ≤ 255 := by
 intro x hx
 unfold bytesOf at hx
 (obtain ⟨b, _, rfl⟩ := List.mem_map.1 hx); (have := UInt8.toNat_lt b)
 omega
theorem padL_range (s : ByteArray) : ∀ x, x ∈ padL s → 0 ≤ x ∧ x ≤ 255 := by
 intro x hx
 unfold padL at hx
 split at hx
 ·rename_i h
  have hb := wordB_size h
  unfold padW at hx
  rcases List.mem_cons.1 hx with rfl | hx
  ·omega
  ·rcases List.mem_append.1 hx with hx | hx
   ·exact bytesOf_range s x hx
   ·have := (List.mem_replicate.1 hx).2; omega
 ·have := (List.mem_replicate.1 hx).2; omega
theorem take_fold {α σ : Type} (l : List α) (f : σ → α → σ) (s : σ) {i : Nat} (h : i < l.length) : (l.take (i + 1)).foldl f s = f ((l.take i).foldl f s) l[i] := by
 rw [List.take_succ_eq_append_getElem h, List.foldl_append]
 rfl
theorem implHash_ev (key : Nat) (s : ByteArray) (hk : key < 4294967296) (hs : s.size ≤ 9223372036854775807) : Ev (fun k => impl_hashWord.f k (key : Int) s) ((hashS key s : Nat) : Int) := by
 unfold impl_hashWord.f
 refine Ev.bind (implPad_ev s hs) ?_
 (have hr := padL_range s); (have hlt := fun i => hashFold_lt ((padL s).take i) key hk)
 unfold hashS
 (have hlt2 := hashFold_lt (padL s) key hk); (have hl33 := padL_length s)
 generalize padL s = l at hr hlt hlt2 hl33
 rw [show (key : Int) % 4294967296 = (key : Int) by omega]
 refine loop_ev l.length (fun k x i => impl_hashWord.l0 k x l (l.length : Int) i) (fun i => ((hashFold key (l.take i) : Nat) : Int)) _ ?_ ?_
 ·intro i hi h
  refine Ev.step (fun k => ?_) h
  (have hd := hr _ (List.getElem_mem hi)); (have hf := hlt i); (have e : hashFold key (l.take (i + 1)) = hashStep (hashFold key (l.take i)) l[i] := take_fold l hashStep key hi); (have er : rd l (i : Int) % 4294967296 = ((l[i].toNat : Nat) : Int) := by unfold rd; rw [Int.toNat_natCast, getD_lt _ hi]; omega); (simp only [impl_hashWord.l0]); (rw [if_pos (by omega), if_pos (by omega), if_pos (by omega), wrap_nat_succ (by omega), er, xor32 _ _ hf (by omega), e])
  unfold hashStep
  congr 1
  all_goals omega
 ·refine Ev.step (f := fun _ => some _) (fun k => ?_) (Ev.now _)
  (simp only [impl_hashWord.l0]); (rw [if_neg (by omega), List.take_length])
  generalize hashFold key l = h at hlt2
  (rw [show (h : Int) / 65536 = ((h / 65536 : Nat) : Int) by omega, xor32 h (h / 65536) hlt2 (by omega)]); (have := xor_lt h (h / 65536) hlt2 (by omega)); (rw [wrap_id (by omega) (by omega)])
def shelfS (key log : Int) (s : ByteArray) : Int := if (0 ≤ key ∧ key ≤ 4294967295) ∧ wordB s = true ∧ (0 ≤ log ∧ log ≤ 6) then ((hashS key.toNat s : Nat) : Int) % 2 ^ log.toNat else -1
theorem implShelfFor_ev (key log : Int) (s : ByteArray) (h1 : 0 ≤ key ∧ key ≤ 4294967295) (hw : wordB s = true) (h2 : 0 ≤ log ∧ log ≤ 6) (hs : s.size ≤ 9223372036854775807) : Ev (fun k => impl_shelfFor.f k key s log) (shelfS key log s) := by
 unfold shelfS
 (rw [if_pos ⟨h1, hw, h2⟩]); (obtain ⟨kn, rfl⟩ := Int.eq_ofNat_of_zero_le h1.1); (obtain ⟨ln, rfl⟩ := Int.eq_ofNat_of_zero_le h2.1)
 unfold impl_shelfFor.f
 refine Ev.bind (implHash_ev kn s (by omega) hs) ?_
 (have hl := hashS_lt kn s (by omega)); (have hp : (1 : Int) ≤ 2 ^ ln ∧ (2 : Int) ^ ln ≤ 64 := ⟨pow2_pos _, by have : (2 : Int) ^ ln ≤ 2 ^ 6 := pow2_le (by omega); omega⟩); (simp only [if_pos h2.1])
 refine evVal (Ev.now _) ?_
 rw [shl_pow 1 ln (by omega), Int.one_mul, wrap_id (x := (2 : Int) ^ ln) (by omega) (by omega), wrap_id (by omega) (by omega)]
 exact bits_mask .i64 32 (by decide) wraps_i64 ln (by omega) _ (by omega) (by omega)
theorem specHash_ev (key : Int) (s : ByteArray) (hs : s.size ≤ 9223372036854775807) : Ev (fun k => spec_HashWord.f k key s) (if (0 ≤ key ∧ key ≤ 4294967295) ∧ wordB s = true then ((hashS key.toNat s : Nat) : Int) else -1) := by
 unfold spec_HashWord.f
 have hno : Ev (fun k => spec_HashWord.j0 k key s true) (-1) := by
  refine Ev.step (fun k => rfl) ?_
  simp only [spec_HashWord.j0, if_true]
  exact Ev.now _
 by_cases h0 : key < 0
 ·simp only [if_pos h0]; exact evVal hno (by rw [if_neg (fun h => by omega)])
 ·by_cases h1 : key > 4294967295
  ·simp only [if_neg h0, if_pos h1]; exact evVal hno (by rw [if_neg (fun h => by omega)])
  ·simp only [if_neg h0, if_neg h1]
   refine Ev.bind (specWordOk_ev s hs) ?_
   cases hw : wordB s with
   | false => simp only [Bool.not_false]; exact evVal hno (by rw [if_neg (fun h => by cases h.2)])
   | true =>
    (simp only [Bool.not_true]); (rw [if_pos ⟨by omega, trivial⟩]); (obtain ⟨kn, rfl⟩ := Int.eq_ofNat_of_zero_le (show 0 ≤ key by omega))
    refine Ev.step (fun k => rfl) ?_
    simp only [spec_HashWord.j0, Bool.false_eq_true, if_false]
    refine Ev.bind (specPad_ev s hs) ?_
    (have hk : kn < 4294967296 := by omega); (have hr := padL_range s); (have hlt := fun i => hashFold_lt ((padL s).take i) kn hk); (rw [Int.toNat_natCast])
    unfold hashS
    (have hlt2 := hashFold_lt (padL s) kn hk); (have hl33 := padL_length s)
    generalize padL s = l at hr hlt hlt2 hl33
    refine loop_ev l.length (fun k x i => spec_HashWord.l0 k x l i) (fun i => ((hashFold kn (l.take i) : Nat) : Int)) _ ?_ ?_
    ·intro i hi h
     refine Ev.step (fun k => ?_) h
     (have hd := hr _ (List.getElem_mem hi)); (have hf := hlt i); (have e : hashFold kn (l.take (i + 1)) = hashStep (hashFold kn (l.take i)) l[i] := take_fold l hashStep kn hi); (have er : wrap64 (rd l (i : Int)) = ((l[i].toNat : Nat) : Int) := by unfold rd; rw [Int.toNat_natCast, getD_lt _ hi, wrap_id (by omega) (by omega)]; omega); (have hx := xor_lt (hashFold kn (l.take i)) l[i].toNat hf (by omega)); (simp only [spec_HashWord.l0]); (rw [if_pos (by omega), if_pos (by omega), wrap_nat_succ (by omega), er, xor64 _ _ hf (by omega), e])
     unfold hashStep
     rw [wrap_id (by omega) (by omega), Int.tmod_eq_emod_of_nonneg (by omega)]
     congr 1
     all_goals omega
    ·refine Ev.step (f := fun _ => some _) (fun k => ?_) (Ev.now _)
     (simp only [spec_HashWord.l0]); (rw [if_neg (by omega), List.take_length])
     generalize hashFold kn l = h at hlt2
     rw [Int.tdiv_eq_ediv_of_nonneg (by omega), wrap_id (by omega) (by omega), show (h : Int) / 65536 = ((h / 65536 : Nat) : Int) by omega, xor64 h (h / 65536) hlt2 (by omega)]
theorem specShelf_ev (key log : Int) (s : ByteArray) (hs : s.size ≤ 9223372036854775807) : Ev (fun k => spec_ShelfFor.f k key s log) (shelfS key log s) := by
 unfold spec_ShelfFor.f shelfS
 refine Ev.bind (specHash_ev key s hs) ?_
 by_cases h : (0 ≤ key ∧ key ≤ 4294967295) ∧ wordB s = true
 ·simp only [if_pos h, if_neg (show ¬ ((hashS key.toNat s : Nat) : Int) < 0 by omega)]
  have e : spec_l11Log.f log = some (decide (0 ≤ log ∧ log ≤ 6)) := by
   unfold spec_l11Log.f
   by_cases h0 : log ≥ 0
   ·rw [if_pos h0]; congr 1; rw [decide_eq_decide]; omega
   ·rw [if_neg h0, decide_eq_false (by omega)]
  simp only [e, Option.bind_some]
  by_cases h2 : 0 ≤ log ∧ log ≤ 6
  ·rw [if_pos ⟨h.1, h.2, h2⟩]
   (simp only [decide_eq_true h2, if_true]); (obtain ⟨ln, rfl⟩ := Int.eq_ofNat_of_zero_le h2.1)
   refine Ev.bind (pow_ev ln (by omega)) ?_
   (have hp : (1 : Int) ≤ 2 ^ ln := pow2_pos _); (simp only [if_neg (show ¬ (2 : Int) ^ ln = 0 by omega), Int.toNat_natCast])
   exact evVal (Ev.now _) (by rw [Int.tmod_eq_emod_of_nonneg (by omega)])
  ·simp only [decide_eq_false h2, Bool.false_eq_true, if_false]
   exact evVal (Ev.now _) (by rw [if_neg (fun h' => h2 h'.2.2)])
 ·simp only [if_neg h, show ((-1 : Int) < 0) by omega, if_true]
  exact evVal (Ev.now _) (by rw [if_neg (fun h' => h ⟨h'.1, h'.2.1⟩)])
theorem bt_getD (s : ByteArray) (i : Nat) : bt s (i : Int) = ((s.data.toList.getD i 0).toNat : Int) := by
 rw [← rd_bytesOf]
 unfold rd bytesOf
 rw [Int.toNat_natCast, List.getD_eq_getElem?_getD, List.getD_eq_getElem?_getD, List.getElem?_map]
 cases s.data.toList[i]? <;> rfl
def letU (b : UInt8) : Bool := decide (97 ≤ b.toNat ∧ b.toNat ≤ 122)
theorem lettersB_all (s : ByteArray) : lettersB s = s.data.toList.all letU := by
 unfold lettersB
 rw [← all_range s.data.toList 0 letU, data_length]
 congr 1
 funext i
 unfold letB letU
 (rw [bt_getD]); (rw [Bool.eq_iff_iff]); (simp only [Bool.and_eq_true, decide_eq_true_eq])
 omega
def lowU (b : UInt8) : UInt8 := if 65 ≤ b.toNat ∧ b.toNat ≤ 90 then UInt8.ofNat (b.toNat + 32) else b
def lowS (s : ByteArray) : ByteArray := ⟨(s.data.toList.map lowU).toArray⟩
theorem lowS_size (s : ByteArray) : (lowS s).size = s.size := by
 rw [← data_length (lowS s), ← data_length s]
 show (s.data.toList.map lowU).toArray.toList.length = _
 rw [List.toList_toArray, List.length_map]
def foldS (s : ByteArray) : ByteArray := if s.size ≤ 32 ∧ wordB (lowS s) = true then lowS s else ⟨#[]⟩
theorem foldS_size (s : ByteArray) : (foldS s).size ≤ 32 := by
 unfold foldS
 split
 ·rename_i h; rw [lowS_size]; exact h.1
 ·exact Nat.zero_le _
theorem dec_small (l : List UInt8) (hb : (l.getD 0 0).toNat < 128) : Lib.decodeL l = ((l.getD 0 0).toNat, 1) := by
 rw [Lib.decodeL_N]
 unfold Lib.decodeN
 rw [if_pos hb]
theorem dec_big (l : List UInt8) (hb : 128 ≤ (l.getD 0 0).toNat) : 128 ≤ (Lib.decodeL l).1 := by
 rw [Lib.decodeL_N]
 rcases Lib.decodeN_shape l.length (l.getD 0 0).toNat (l.getD 1 0).toNat (l.getD 2 0).toNat (l.getD 3 0).toNat with ⟨c, e⟩ | ⟨c1, c2, c3, cv, e⟩ | ⟨c1, c2, c3, c4, cv, cs, e⟩ | ⟨c1, c2, c3, c4, c5, cv, cw, e⟩ | e
 all_goals (rw [e]; dsimp only; omega)
theorem toU8 (x : Int) (h0 : 0 ≤ x) (h1 : x < 256) : (x.toNat.toUInt8).toNat = x.toNat := by
 rw [Nat.toUInt8, UInt8.toNat_ofNat']
 omega
theorem enc_big (r : Int) (h : 128 ≤ r) : ∃ b, b ∈ Lib.encodeRune r ∧ 128 ≤ b.toNat := by
 have hz : ∃ x, x ∈ Lib.encodeRuneZ r ∧ 128 ≤ x ∧ x < 256 := by
  unfold Lib.encodeRuneZ
  split
  ·omega
  ·split
   ·exact ⟨192 + r / 64, by simp, by omega, by omega⟩
   ·split
    ·exact ⟨224 + r / 4096, by simp, by omega, by omega⟩
    ·split
     ·exact ⟨240 + r / 262144, by simp, by omega, by omega⟩
     ·exact ⟨239, by simp, by omega, by omega⟩
 obtain ⟨x, hx, h0, h1⟩ := hz
 refine ⟨x.toNat.toUInt8, List.mem_map.2 ⟨x, hx, rfl⟩, ?_⟩
 rw [toU8 x (by omega) h1]
 omega
theorem lowR_small (n : Nat) (h : n < 128) : lowR (n : Int) = ((lowU (UInt8.ofNat n)).toNat : Int) := by
 unfold lowR lowU
 rw [UInt8.toNat_ofNat', show n % 2 ^ 8 = n by omega]
 by_cases h1 : 65 ≤ n
 ·by_cases h2 : n ≤ 90
  ·rw [if_pos (by omega), if_pos (by omega), if_pos ⟨h1, h2⟩, UInt8.toNat_ofNat']
   omega
  ·rw [if_pos (by omega), if_neg (by omega), if_neg (by omega), UInt8.toNat_ofNat']
   omega
 ·rw [if_neg (by omega), if_neg (by omega), UInt8.toNat_ofNat']
  omega
theorem lowR_big (n : Nat) (h : 128 ≤ n) : lowR (n : Int) = (n : Int) := by
 unfold lowR
 rw [if_pos (by omega), if_neg (by omega)]
theorem enc_low (b : UInt8) (h : b.toNat < 128) : Lib.encodeRune (lowR (b.toNat : Int)) = [lowU b] := by
 (have e : UInt8.ofNat b.toNat = b := by simp); (rw [lowR_small _ h, e])
 have hl : (lowU b).toNat < 128 := by
  unfold lowU
  split
  ·rename_i h2; rw [UInt8.toNat_ofNat']; omega
  ·exact h
 unfold Lib.encodeRune
 (rw [Lib.encodeRuneZ_one (by omega) (by omega)]); (simp only [List.map_cons, List.map_nil, Int.toNat_natCast])
 congr 1
 apply UInt8.toNat_inj.1
 rw [Nat.toUInt8, UInt8.toNat_ofNat']
 omega
theorem lowR_nonneg (n : Nat) : 0 ≤ lowR (n : Int) := by
 unfold lowR
 split
 ·split <;> omega
 ·omega
theorem mapD_small : ∀ l : List UInt8, (∀ b, b ∈ l → b.toNat < 128) → Lib.mapD lowR l = l.map lowU
 | [], _ => rfl
 | b :: l, h => by
  (have hb := h b (List.mem_cons_self ..)); (rw [Lib.mapD_step lowR (b :: l) (by simp), dec_small (b :: l) hb])
  show (if 0 ≤ lowR (b.toNat : Int) then Lib.encodeRune (lowR (b.toNat : Int)) else []) ++ Lib.mapD lowR l = _
  rw [if_pos (lowR_nonneg _), enc_low b hb, mapD_small l (fun x hx => h x (List.mem_cons_of_mem _ hx))]
  rfl
theorem mapD_big : ∀ (n : Nat) (l : List UInt8), l.length ≤ n → (∃ b, b ∈ l ∧ 128 ≤ b.toNat) → ∃ b, b ∈ Lib.mapD lowR l ∧ 128 ≤ b.toNat
 | 0, l, hn, ⟨b, hb, _⟩ => by
  obtain rfl : l = [] := List.eq_nil_of_length_eq_zero (by omega)
  cases hb
 | n + 1, [], _, ⟨b, hb, _⟩ => by cases hb
 | n + 1, c :: l, hn, ⟨b, hb, hb2⟩ => by
  rw [Lib.mapD_step lowR (c :: l) (by simp)]
  by_cases hc : c.toNat < 128
  ·rw [dec_small (c :: l) hc]
   have hbl : b ∈ l := by
    rcases List.mem_cons.1 hb with rfl | h
    ·omega
    ·exact h
   obtain ⟨x, hx, hx2⟩ := mapD_big n l (by simp only [List.length_cons] at hn; omega) ⟨b, hbl, hb2⟩
   exact ⟨x, List.mem_append_right _ hx, hx2⟩
  ·have h1 := dec_big (c :: l) (by show 128 ≤ c.toNat; omega)
   (rw [if_pos (lowR_nonneg _), lowR_big _ h1]); (obtain ⟨x, hx, hx2⟩ := enc_big ((Lib.decodeL (c :: l)).1 : Int) (by omega))
   exact ⟨x, List.mem_append_left _ hx, hx2⟩
theorem big_no_word (l : List UInt8) (h : ∃ b, b ∈ l ∧ 128 ≤ b.toNat) : wordB ⟨l.toArray⟩ = false := by
 unfold wordB
 rw [lettersB_all]
 have : (⟨l.toArray⟩ : ByteArray).data.toList.all letU = false := by
  (obtain ⟨b, hb, h2⟩ := h); (rw [List.all_eq_false])
  exact ⟨b, by simpa using hb, by unfold letU; simp; omega⟩
 rw [this, Bool.and_false]
theorem mapD_word (s : ByteArray) : (if wordB ⟨(Lib.mapD lowR s.data.toList).toArray⟩ = true then (⟨(Lib.mapD lowR s.data.toList).toArray⟩ : ByteArray) else ⟨#[]⟩) = if wordB (lowS s) = true then lowS s else ⟨#[]⟩ := by
 by_cases h : ∀ b, b ∈ s.data.toList → b.toNat < 128
 ·rw [mapD_small _ h]
  rfl
 ·have h2 : ∃ b, b ∈ s.data.toList ∧ 128 ≤ b.toNat := by
   obtain ⟨b, hb⟩ := Classical.not_forall.1 h
   exact ⟨b, by by_cases hm : b ∈ s.data.toList; exact hm; exact absurd (fun h' => absurd h' hm) hb, by by_cases hm : b.toNat < 128; exact absurd (fun _ => hm) hb; omega⟩
  rw [big_no_word _ (mapD_big _ _ (Nat.le_refl _) h2)]
  have h3 : ∃ b, b ∈ s.data.toList.map lowU ∧ 128 ≤ b.toNat := by
   obtain ⟨b, hb, hb2⟩ := h2
   refine ⟨lowU b, List.mem_map.2 ⟨b, hb, rfl⟩, ?_⟩
   unfold lowU
   rw [if_neg (by omega)]
   exact hb2
  rw [show wordB (lowS s) = false from big_no_word _ h3]
  rfl
theorem enc_len (r : Int) : (Lib.encodeRune r).length ≤ 4 := by
 unfold Lib.encodeRune
 rw [List.length_map]
 exact (Lib.encodeRuneZ_length r).2
theorem mapD_length : ∀ (n : Nat) (l : List UInt8), l.length ≤ n → (Lib.mapD lowR l).length ≤ 4 * l.length
 | 0, l, hn => by
  obtain rfl : l = [] := List.eq_nil_of_length_eq_zero (by omega)
  exact Nat.zero_le _
 | n + 1, [], _ => Nat.zero_le _
 | n + 1, c :: l, hn => by
  (have hw := Lib.decodeL_width (c :: l)); (rw [Lib.mapD_step lowR (c :: l) (by simp), List.length_append, if_pos (lowR_nonneg _)]); (have h1 := enc_len (lowR ((Lib.decodeL (c :: l)).1 : Int))); (have h2 := mapD_length n ((c :: l).drop (Lib.decodeL (c :: l)).2) (by rw [List.length_drop]; simp only [List.length_cons] at hn ⊢; omega)); (rw [List.length_drop] at h2); (simp only [List.length_cons] at h2 ⊢)
  omega
theorem implFold_ev (s : ByteArray) (hs : s.size ≤ 1048576) : Ev (fun k => impl_Fold.f k s) (foldS s) := by
 have e : strings_Map.f s = some ⟨(Lib.mapD lowR s.data.toList).toArray⟩ := by unfold strings_Map.f; rw [if_pos (by omega)]
 have hl : (⟨(Lib.mapD lowR s.data.toList).toArray⟩ : ByteArray).size ≤ 4194304 := by
  (have := mapD_length _ s.data.toList (Nat.le_refl _)); (rw [data_length] at this)
  show (Lib.mapD lowR s.data.toList).toArray.size ≤ _
  rw [List.size_toArray]
  omega
 have hm := mapD_word s
 unfold impl_Fold.f
 refine Ev.bind (evConst e) ?_
 clear e
 generalize (⟨(Lib.mapD lowR s.data.toList).toArray⟩ : ByteArray) = m at hl hm
 by_cases h : (s.size : Int) > 32
 ·simp only [if_pos h]
  exact evVal (Ev.now _) (by unfold foldS; rw [if_neg (by omega)])
 ·simp only [if_neg h]
  refine Ev.bind (isWord_ev m (by omega)) ?_
  have hf : foldS s = if wordB (lowS s) = true then lowS s else ⟨#[]⟩ := by
   unfold foldS
   by_cases hw : wordB (lowS s) = true
   ·rw [if_pos ⟨by omega, hw⟩, if_pos hw]
   ·rw [if_neg (fun h => hw h.2), if_neg hw]
  rw [hf, ← hm]
  cases wordB m with
  | true => simp only [if_true]; exact Ev.now _
  | false => simp only [Bool.false_eq_true, if_false]; exact Ev.now _
def lowI (x : Int) : Int := if x ≥ 65 then (if x ≤ 90 then (x + 32) % 256 else x) else x
theorem lowI_bt (s : ByteArray) (i : Nat) : lowI (bt s (i : Int)) = ((lowU (s.data.toList.getD i 0)).toNat : Int) := by
 (rw [bt_getD]); (have hb : (s.data.toList.getD i 0).toNat < 256 := UInt8.toNat_lt _)
 generalize s.data.toList.getD i 0 = b at hb
 unfold lowI lowU
 by_cases h1 : 65 ≤ b.toNat
 ·by_cases h2 : b.toNat ≤ 90
  ·rw [if_pos (by omega), if_pos (by omega), if_pos ⟨h1, h2⟩, UInt8.toNat_ofNat']; omega
  ·rw [if_pos (by omega), if_neg (by omega), if_neg (by omega)]
 ·rw [if_neg (by omega), if_neg (by omega)]
theorem strOf_low (s : ByteArray) : strOfNums ((s.data.toList.map lowU).map fun b => (b.toNat : Int)) = lowS s := strOf_nums _
theorem specFold_ev (s : ByteArray) (hs : s.size ≤ 1048576) : Ev (fun k => spec_Fold.f k s) (foldS s) := by
 unfold spec_Fold.f
 by_cases h : (s.size : Int) > 32
 ·simp only [if_pos h]
  exact evVal (Ev.now _) (by unfold foldS; rw [if_neg (by omega)])
 ·simp only [if_neg h]
  have hf : foldS s = if wordB (lowS s) = true then lowS s else ⟨#[]⟩ := by
   unfold foldS
   by_cases hw : wordB (lowS s) = true
   ·rw [if_pos ⟨by omega, hw⟩, if_pos hw]
   ·rw [if_neg (fun h => hw h.2), if_neg hw]
  refine loop_ev s.size (fun k x i => spec_Fold.l0 k s x i) (fun i => ((s.data.toList.map lowU).take i).map fun b => (b.toNat : Int)) (foldS s) ?_ ?_
  ·intro i hi hr
   refine Ev.step (fun k => ?_) hr
   have hil : i < (s.data.toList.map lowU).length := by rw [List.length_map, data_length]; exact hi
   have e2 : (((s.data.toList.map lowU).take (i + 1)).map fun b => (b.toNat : Int)) = (((s.data.toList.map lowU).take i).map fun b => (b.toNat : Int)) ++ [lowI (bt s (i : Int))] := by
    rw [List.take_succ_eq_append_getElem hil, List.map_append, lowI_bt, List.map_cons, List.map_nil, List.getElem_map, getD_lt 0 (by rw [data_length]; exact hi)]
   (have hl : ((((s.data.toList.map lowU).take i).map fun b => (b.toNat : Int))).length < 140737488355328 := by rw [List.length_map, List.length_take]; omega); (rw [e2]); (simp only [spec_Fold.l0]); (rw [if_pos (by omega), if_pos (by omega), wrap_nat_succ (by omega)]); (simp only [if_pos hl])
   unfold lowI
   by_cases h1 : bt s (i : Int) ≥ 65
   ·rw [if_pos h1, if_pos h1]
    by_cases h2 : bt s (i : Int) ≤ 90
    ·rw [if_pos h2, if_pos h2]
    ·rw [if_neg h2, if_neg h2]
   ·rw [if_neg h1, if_neg h1]
  ·refine Ev.step (fun k => rfl) ?_
   (simp only [spec_Fold.l0, if_neg (show ¬ ((s.size : Int) < (s.size : Int)) by omega)]); (rw [List.take_of_length_le (by rw [List.length_map, data_length]; omega), strOf_low])
   refine Ev.bind (specWordOk_ev (lowS s) (by rw [lowS_size]; omega)) ?_
   rw [hf]
   cases wordB (lowS s) with
   | true => simp only [if_true]; exact Ev.now _
   | false => simp only [Bool.false_eq_true, if_false]; exact Ev.now _
end Go.Proofs.YtfeikakkfnnaoaaGreatDoor.L
namespace Go.Proofs.YtfeikakkfnnaoaaGreatDoor.V
open Go Go.RowKit Go.Proofs.YtfeikakkfnnaoaaGreatDoor.L Go.Proofs.YtfeikakkfnnaoaaGreatDoor.QA Go.Proofs.YtfeikakkfnnaoaaGreatDoorW.PrintWords Go.Proofs.YtfeikakkfnnaoaaGreatDoorW.PrintLast Go.Proofs.YtfeikakkfnnaoaaGreatDoorW.PrintMore
set_option linter.unusedVariables false
set_option linter.unusedSimpArgs false
section
variable {α β : Type} {F G : Nat → Nat → Nat → Nat → Option α} {h : Nat → Option β} {r : α} {v d : β} {b : Bool}
theorem E4.gc {f : Nat → Nat → Nat → Nat → β → Option α} (hg : b = true → Ev h v) (hf : E4 (fun k m n p => f k m n p (cond b v d)) r) : E4 (fun k m n p => (gcall b (h k) d).bind (f k m n p)) r := by
 cases b
 ·exact hf
 ·exact E4.bind (hg rfl) hf
end
def shapeB (a b : Int) : Bool := if a = 6 then decide (1 ≤ b ∧ b ≤ 16) else decide (1 ≤ a ∧ a ≤ 5 ∧ b = 0)
def confB (a b c d : Int) : Bool := decide (0 ≤ a ∧ a ≤ 4294967295) && (decide (2 ≤ b ∧ b ≤ 6) && (decide (0 ≤ c ∧ c ≤ 64) && decide (1 ≤ d ∧ d ≤ 64)))
theorem confB_log {a b c d : Int} (h : confB a b c d = true) : 0 ≤ a ∧ a ≤ 4294967295 ∧ 2 ≤ b ∧ b ≤ 6 ∧ 0 ≤ c ∧ c ≤ 64 ∧ 1 ≤ d ∧ d ≤ 64 := by
 unfold confB at h
 simp only [Bool.and_eq_true, decide_eq_true_eq] at h
 omega
def reqB (x : S30) : Bool := shapeB x.f0 x.f5 && (decide (x.f1.size ≤ 100) && decide (x.f6.size ≤ 2000))
abbrev rqA (x : S30) : SV DD := .agg [.v (.int .i64 x.f0), .v (.string x.f1), .v (.int .i64 x.f2), .v (.int .i64 x.f3), .v (.int .i64 x.f4), .v (.int .i64 x.f5), .v (.string x.f6)]
abbrev cfA (a b c d : Int) : SV DD := .agg [.v (.int .i64 a), .v (.int .i64 b), .v (.int .i64 c), .v (.int .i64 d)]
theorem within_ev (n lo hi : Int) : Ev (fun k => c58 k [.v (.int .i64 n), .v (.int .i64 lo), .v (.int .i64 hi)]) (decide (lo ≤ n ∧ n ≤ hi)) :=
 Ev.st (fun k => g58_eq k n lo hi) (E4.now.val (by rw [Bool.eq_iff_iff]; simp only [Bool.and_eq_true, decide_eq_true_eq] <;> omega))
theorem deepLog_ev (b : Int) : Ev (fun k => c140 k [.v (.int .i64 b)]) (decide (2 ≤ b ∧ b ≤ 6)) :=
 Ev.st (fun k => g140_eq k b) (E4.bind (within_ev b 2 6) E4.now)
theorem isConf_ev (a b c d : Int) : Ev (fun k => c100 k [cfA a b c d]) (confB a b c d) := by
 refine Ev.st (fun k => g100_eq k a b c d) ?_
 refine E4.bind (within_ev a 0 4294967295) (E4.gc (fun _ => deepLog_ev b) (E4.gc (fun _ => within_ev c 0 64) (E4.gc (fun _ => within_ev d 1 64) (E4.now.val ?_))))
 unfold confB
 generalize decide (0 ≤ a ∧ a ≤ 4294967295) = d1
 generalize decide (2 ≤ b ∧ b ≤ 6) = d2
 generalize decide (0 ≤ c ∧ c ≤ 64) = d3
 generalize decide (1 ≤ d ∧ d ≤ 64) = d4
 cases d1 <;> cases d2 <;> cases d3 <;> cases d4 <;> rfl
theorem l16Log_ev (b : Int) : Ev (fun k => c129 k [.v (.int .i64 b)]) (decide (2 ≤ b ∧ b ≤ 6)) :=
 Ev.st (fun k => g129_eq k b) (E4.now.val (by rw [Bool.eq_iff_iff]; simp only [Bool.and_eq_true, decide_eq_true_eq] <;> omega))
theorem confOk_ev (a b c d : Int) : Ev (fun k => c82 k [cfA a b c d]) (confB a b c d) := by
 refine Ev.st (fun k => g82_eq k a b c d) ?_
 refine E4.gc (fun _ => l16Log_ev b) (E4.now.val ?_)
 unfold confB
 by_cases h1 : 0 ≤ a <;> by_cases h1' : a ≤ 4294967295 <;> by_cases h2 : 2 ≤ b <;> by_cases h2' : b ≤ 6 <;> by_cases h3 : 0 ≤ c <;> by_cases h3' : c ≤ 64 <;> by_cases h4 : 1 ≤ d <;> by_cases h4' : d ≤ 64 <;>
  simp [h1, h1', h2, h2', h3, h3', h4, h4']
theorem isShape_ev (a b : Int) : Ev (fun k => c104 k [.v (.int .i64 a), .v (.int .i64 b)]) (shapeB a b) := by
 refine Ev.st (fun k => g104_eq k a b) ?_
 unfold shapeB
 by_cases h6 : a = 6
 ·rw [if_pos h6]
  exact E4.ct (by simp [h6]) (E4.bind (within_ev b 1 16) E4.now)
 ·rw [if_neg h6]
  refine E4.cf (by simp [h6]) (E4.bind (within_ev a 1 5) (E4.now.val ?_))
  rw [Bool.eq_iff_iff]; simp only [Bool.and_eq_true, decide_eq_true_eq, beq_iff_eq] <;> omega
theorem l18Shape_ev (a b : Int) : Ev (fun k => c77 k [.v (.int .i64 a), .v (.int .i64 b)]) (shapeB a b) := by
 refine Ev.st (fun k => g77_eq k a b) ?_
 unfold shapeB
 by_cases h6 : a = 6
 ·rw [if_pos h6]
  exact E4.ct (by simp [h6]) (E4.now.val (by rw [Bool.eq_iff_iff]; simp only [Bool.and_eq_true, decide_eq_true_eq] <;> omega))
 ·rw [if_neg h6]
  refine E4.cf (by simp [h6]) (E4.now.val ?_)
  rw [Bool.eq_iff_iff]; simp only [Bool.and_eq_true, decide_eq_true_eq, beq_iff_eq] <;> omega
theorem isReq_ev (x : S30) : Ev (fun k => c53 k [rqA x]) (reqB x) := by
 refine Ev.st (fun k => g53_eq k x.f0 x.f1 x.f2 x.f3 x.f4 x.f5 x.f6) (E4.bind (isShape_ev x.f0 x.f5) (E4.now.val ?_))
 unfold reqB
 rw [Bool.and_assoc]
 congr 2 <;> (rw [decide_eq_decide]; omega)
theorem reqOk_ev (x : S30) : Ev (fun k => c44 k [rqA x]) (reqB x) := by
 refine Ev.st (fun k => g44_eq k x.f0 x.f1 x.f2 x.f3 x.f4 x.f5 x.f6) (E4.bind (l18Shape_ev x.f0 x.f5) (E4.now.val ?_))
 unfold reqB
 rw [Bool.and_assoc]
 congr 2 <;> (rw [decide_eq_decide]; omega)
theorem sfold_ev (s : ByteArray) (hs : s.size ≤ 1048576) : Ev (fun k => c12 k [.v (.string s)]) (foldS s) := Ev.step (f := fun k => spec_Fold.f k s) (fun k => by kernel_rfl) (specFold_ev s hs)
theorem isWord_ev' (s : ByteArray) (hs : s.size ≤ 1000000) : Ev (fun k => c57 k [.v (.string s)]) (wordB s) := by
 refine Ev.st (fun k => g57_eq k s) ?_
 have := search4 (α := Bool) s.size (fun i k m _ _ => L57_1 k m s (s.size : Int) (i : Int)) (letB s) false (decide (1 ≤ s.size ∧ s.size ≤ 32)) ?_ ?_ ?_
 ·refine this.e1.val ?_
  unfold wordB lettersB
  cases (List.range s.size).all (letB s) <;> simp
 ·intro i hi hp r hr
  unfold letB at hp
  (simp only [Bool.and_eq_true, decide_eq_true_eq] at hp); (have hb : byteAt s (i : Int) = bt s (i : Int) := by rw [bt_getD]; rfl)
  refine E4.s1 (fun k m n p => L57_1_eq k m _ _ _) (E4.ct (decide_eq_true (by omega)) (E4.ck (inB_of (by omega) (by omega)) (E4.ckg (fun _ => inB_of (by omega) (by omega)) (E4.cf ?_ ?_))))
  ·rw [hb, Bool.or_eq_false_iff, decide_eq_false_iff_not, decide_eq_false_iff_not]; omega
  ·rw [w64_succ (by omega)]; exact hr
 ·intro i hi hp
  unfold letB at hp
  (simp only [Bool.and_eq_false_iff, decide_eq_false_iff_not] at hp); (have hb : byteAt s (i : Int) = bt s (i : Int) := by rw [bt_getD]; rfl)
  refine E4.s1 (fun k m n p => L57_1_eq k m _ _ _) (E4.ct (decide_eq_true (by omega)) (E4.ck (inB_of (by omega) (by omega)) (E4.ckg (fun _ => inB_of (by omega) (by omega)) (E4.ct ?_ E4.now))))
  rw [hb, Bool.or_eq_true, decide_eq_true_eq, decide_eq_true_eq]; omega
 ·refine E4.s1 (fun k m n p => L57_1_eq k m _ _ _) (E4.cf (decide_eq_false (by omega)) (E4.bind (within_ev _ 1 32) (E4.now.val ?_)))
  rw [decide_eq_decide]; omega
theorem entry_ev (s : ByteArray) (n : Int) (hs : s.size ≤ 1000000) : Ev (fun k => c101 k [.agg [.v (.string s), .v (.int .i64 n)]]) (wordB s && decide (0 ≤ n ∧ n ≤ 65535)) := by
 refine Ev.st (fun k => g101_eq k s n) (E4.bind (isWord_ev' s hs) (E4.gc (fun _ => within_ev n 0 65535) (E4.now.val ?_)))
 cases wordB s <;> rfl
theorem weight_ev (a : Int) : Ev (fun k => c96 k [.v (.int .i64 a)]) (decide (0 ≤ a ∧ a ≤ 65535)) :=
 Ev.st (fun k => g96_eq k a) (E4.now.val (by rw [Bool.eq_iff_iff]; simp only [Bool.and_eq_true, decide_eq_true_eq] <;> omega))
def cmpL : List UInt8 → List UInt8 → Int
 | [], [] => 0
 | [], _ :: _ => -1
 | _ :: _, [] => 1
 | a :: x, b :: y => if a < b then -1 else if b < a then 1 else cmpL x y
theorem cmpL_less : ∀ x y : List UInt8, (decide (cmpL x y ≥ 0)) = !(Op.bytesLess x y)
 | [], [] => rfl
 | [], _ :: _ => rfl
 | _ :: _, [] => rfl
 | a :: x, b :: y => by
  unfold cmpL Op.bytesLess
  by_cases h : a < b
  ·simp [h]
  ·by_cases h' : b < a
   ·have hne : ¬ a = b := fun e => by subst e; exact h h'
    simp [h, h', hne]
   ·have he : a = b := by
     (have h1 : ¬ a.toNat < b.toNat := fun hh => h (UInt8.lt_iff_toNat_lt.mpr hh)); (have h2 : ¬ b.toNat < a.toNat := fun hh => h' (UInt8.lt_iff_toNat_lt.mpr hh))
     exact UInt8.toNat_inj.mp (by omega)
    (subst he); (have := cmpL_less x y); (simp only [h, if_false, this])
    simp
theorem bt_get (s : ByteArray) (i : Nat) (h : i < s.data.toList.length) : bt s (i : Int) = (s.data.toList[i].toNat : Int) := by
 have hs : i < s.size := by rw [data_length] at h; exact h
 unfold bt
 rw [dif_pos (by simpa using hs)]
 rfl
theorem drop_cons_get {α : Type} (l : List α) (i : Nat) (h : i < l.length) : l.drop i = l[i] :: l.drop (i + 1) := List.drop_eq_getElem_cons h
theorem ifold_ev (s : ByteArray) (hs : s.size ≤ 1048576) : Ev (fun k => c107 k [.v (.string s)]) (foldS s) := Ev.step (f := fun k => impl_Fold.f k s) (fun k => by kernel_rfl) (implFold_ev s hs)
theorem shelf_ev (key log : Int) (s : ByteArray) (h1 : 0 ≤ key ∧ key ≤ 4294967295) (hw : wordB s = true) (h2 : 0 ≤ log ∧ log ≤ 6) (hs : s.size ≤ 9223372036854775807) : Ev (fun k => c102 k [.v (.int .i64 key), .v (.string s), .v (.int .i64 log)]) (shelfS key log s) := Ev.step (f := fun k => impl_shelfFor.f k key s log) (fun k => by kernel_rfl) (implShelfFor_ev key log s h1 hw h2 hs)
theorem sshelf_ev (key log : Int) (s : ByteArray) (hs : s.size ≤ 9223372036854775807) : Ev (fun k => c130 k [.v (.int .i64 key), .v (.string s), .v (.int .i64 log)]) (shelfS key log s) := Ev.step (f := fun k => spec_ShelfFor.f k key s log) (fun k => by kernel_rfl) (specShelf_ev key log s hs)
theorem wordOk_ev' (s : ByteArray) (hs : s.size ≤ 1000000) : Ev (fun k => c56 k [.v (.string s)]) (wordB s) := by
 refine Ev.st (fun k => g56_eq k s) ?_
 unfold wordB
 by_cases h1 : 1 ≤ s.size ∧ s.size ≤ 32
 ·refine E4.cf (by rw [Bool.or_eq_false_iff, decide_eq_false_iff_not, decide_eq_false_iff_not]; omega) ?_
  have := search4 (α := Bool) s.size (fun i k m _ _ => L56_1 k m s (i : Int)) (letB s) false true ?_ ?_ ?_
  ·refine this.e1.val ?_
   rw [decide_eq_true h1]
   unfold lettersB
   cases (List.range s.size).all (letB s) <;> rfl
  ·intro i hi hp r hr
   unfold letB at hp
   (simp only [Bool.and_eq_true, decide_eq_true_eq] at hp); (have hb : byteAt s (i : Int) = bt s (i : Int) := by rw [bt_getD]; rfl)
   refine E4.s1 (fun k m n p => L56_1_eq k m _ _) (E4.ct (decide_eq_true (by omega)) (E4.ck (inB_of (by omega) (by omega)) (E4.ckg (fun _ => inB_of (by omega) (by omega)) (E4.cf ?_ ?_))))
   ·rw [hb, Bool.or_eq_false_iff, decide_eq_false_iff_not, decide_eq_false_iff_not]; omega
   ·rw [w64_succ (by omega)]; exact hr
  ·intro i hi hp
   unfold letB at hp
   (simp only [Bool.and_eq_false_iff, decide_eq_false_iff_not] at hp); (have hb : byteAt s (i : Int) = bt s (i : Int) := by rw [bt_getD]; rfl)
   refine E4.s1 (fun k m n p => L56_1_eq k m _ _) (E4.ct (decide_eq_true (by omega)) (E4.ck (inB_of (by omega) (by omega)) (E4.ckg (fun _ => inB_of (by omega) (by omega)) (E4.ct ?_ E4.now))))
   rw [hb, Bool.or_eq_true, decide_eq_true_eq, decide_eq_true_eq]; omega
  ·exact E4.s1 (fun k m n p => L56_1_eq k m _ _) (E4.cf (decide_eq_false (by omega)) E4.now)
 ·refine E4.ct (by rw [Bool.or_eq_true, decide_eq_true_eq, decide_eq_true_eq]; omega) (E4.now.val ?_)
  rw [decide_eq_false h1]; rfl
theorem full_ev (s : ByteArray) (n : Int) (hs : s.size ≤ 1000000) : Ev (fun k => c83 k [.agg [.v (.string s), .v (.int .i64 n)]]) (wordB s && decide (0 ≤ n ∧ n ≤ 65535)) := by
 refine Ev.st (fun k => g83_eq k s n) (E4.bind (wordOk_ev' s hs) (E4.now.val ?_))
 rw [Bool.and_assoc]
 congr 1
 rw [Bool.eq_iff_iff]; simp only [Bool.and_eq_true, decide_eq_true_eq] <;> omega
theorem wordCmp_ev (a b : ByteArray) (ha : a.size ≤ 1000000) (hb : b.size ≤ 1000000) : Ev (fun k => c84 k [.v (.string a), .v (.string b)]) (cmpL a.data.toList b.data.toList) := by
 refine Ev.st (fun k => g84_eq k a b) ?_
 have key : ∀ d i, i + d = a.size → i ≤ b.size → E4 (fun k m _ _ => L84_1 k m a b (i : Int)) (cmpL (a.data.toList.drop i) (b.data.toList.drop i)) := by
  intro d
  induction d with
  | zero =>
   intro i hi hib
   (have ea : a.data.toList.drop i = [] := List.drop_of_length_le (by rw [data_length]; omega)); (rw [ea])
   refine E4.s1 (fun k m n p => L84_1_eq k m _ _ _) (E4.cf (by rw [Bool.and_eq_false_iff, decide_eq_false_iff_not]; left; omega) ?_)
   by_cases h : i < b.size
   ·rw [drop_cons_get b.data.toList i (by rw [data_length]; exact h)]
    exact E4.ct (decide_eq_true (by omega)) E4.now
   ·rw [show b.data.toList.drop i = [] from List.drop_of_length_le (by rw [data_length]; omega)]
    exact E4.cf (decide_eq_false (by omega)) (E4.cf (decide_eq_false (by omega)) E4.now)
  | succ d ih =>
   intro i hi hib
   (have hia : i < a.size := by omega); (rw [drop_cons_get a.data.toList i (by rw [data_length]; exact hia)])
   by_cases h : i < b.size
   ·rw [drop_cons_get b.data.toList i (by rw [data_length]; exact h)]
    have e1 : byteAt a (i : Int) = ((a.data.toList[i]'(by rw [data_length]; exact hia)).toNat : Int) := by
     rw [show byteAt a (i : Int) = bt a (i : Int) from by rw [bt_getD]; rfl, bt_get]
    have e2 : byteAt b (i : Int) = ((b.data.toList[i]'(by rw [data_length]; exact h)).toNat : Int) := by
     rw [show byteAt b (i : Int) = bt b (i : Int) from by rw [bt_getD]; rfl, bt_get]
    refine E4.s1 (fun k m n p => L84_1_eq k m _ _ _) (E4.ct (by rw [Bool.and_eq_true, decide_eq_true_eq, decide_eq_true_eq]; omega) (E4.ck (inB_of (by omega) (by omega)) (E4.ck (inB_of (by omega) (by omega)) ?_)))
    rw [e1, e2]
    unfold cmpL
    by_cases hlt : a.data.toList[i]'(by rw [data_length]; exact hia) < b.data.toList[i]'(by rw [data_length]; exact h)
    ·have hn := UInt8.lt_iff_toNat_lt.mp hlt
     rw [if_pos hlt]
     exact E4.ct (decide_eq_true (by omega)) E4.now
    ·have hn : ¬ (a.data.toList[i]'(by rw [data_length]; exact hia)).toNat < (b.data.toList[i]'(by rw [data_length]; exact h)).toNat := fun hh => hlt (UInt8.lt_iff_toNat_lt.mpr hh)
     rw [if_neg hlt]
     refine E4.cf (decide_eq_false (by omega)) (E4.ck (inB_of (by omega) (by omega)) (E4.ck (inB_of (by omega) (by omega)) ?_))
     by_cases hgt : b.data.toList[i]'(by rw [data_length]; exact h) < a.data.toList[i]'(by rw [data_length]; exact hia)
     ·have hn2 := UInt8.lt_iff_toNat_lt.mp hgt
      rw [if_pos hgt]
      exact E4.ct (decide_eq_true (by omega)) E4.now
     ·have hn2 : ¬ (b.data.toList[i]'(by rw [data_length]; exact h)).toNat < (a.data.toList[i]'(by rw [data_length]; exact hia)).toNat := fun hh => hgt (UInt8.lt_iff_toNat_lt.mpr hh)
      rw [if_neg hgt]
      refine E4.cf (decide_eq_false (by omega)) ?_
      rw [w64_succ (by omega)]
      exact ih (i + 1) (by omega) (by omega)
   ·rw [show b.data.toList.drop i = [] from List.drop_of_length_le (by rw [data_length]; omega)]
    refine E4.s1 (fun k m n p => L84_1_eq k m _ _ _) (E4.cf (by rw [Bool.and_eq_false_iff, decide_eq_false_iff_not, decide_eq_false_iff_not]; right; omega) ?_)
    exact E4.cf (decide_eq_false (by omega)) (E4.ct (decide_eq_true (by omega)) E4.now)
 exact (key a.size 0 (by omega) (by omega)).e1
end Go.Proofs.YtfeikakkfnnaoaaGreatDoor.V
namespace Go.Proofs.YtfeikakkfnnaoaaGreatDoor.V
open Go Go.RowKit Go.Proofs.YtfeikakkfnnaoaaGreatDoor.L Go.Proofs.YtfeikakkfnnaoaaGreatDoor.QA Go.Proofs.YtfeikakkfnnaoaaGreatDoorW.PrintWords Go.Proofs.YtfeikakkfnnaoaaGreatDoorW.PrintLast Go.Proofs.YtfeikakkfnnaoaaGreatDoorW.PrintMore
set_option linter.unusedVariables false
set_option linter.unusedSimpArgs false
abbrev En := S83
abbrev bkA (a b c d : Int) (l : List En) : SV DD := .agg [.v (.int .i64 a), .v (.int .i64 b), .v (.int .i64 c), .v (.int .i64 d), .ro 83 l]
def entB (e : En) : Bool := wordB e.f0 && decide (0 ≤ e.f1 ∧ e.f1 ≤ 65535)
def lessB (a b : ByteArray) : Bool := Op.bytesLess a.data.toList b.data.toList
def stepB (l : List En) (i : Nat) : Bool := entB (l.getD i (⟨⟨#[]⟩, 0⟩ : En)) && (decide (i = 0) || lessB (l.getD (i - 1) (⟨⟨#[]⟩, 0⟩ : En)).f0 (l.getD i (⟨⟨#[]⟩, 0⟩ : En)).f0)
def rowsB (l : List En) : Bool := (List.range l.length).all (stepB l)
def cntS (a b : Int) (l : List En) (s : Int) : Nat := l.countP fun e => shelfS a b e.f0 == s
def shelvesB (a b : Int) (l : List En) : Bool := (List.range l.length).all fun i => decide (cntS a b l (shelfS a b (l.getD i (⟨⟨#[]⟩, 0⟩ : En)).f0) ≤ 4)
def bookB (a b c d : Int) (l : List En) : Bool := (confB a b c d && decide ((l.length : Int) ≤ d)) && (rowsB l && shelvesB a b l)
def Sm (l : List En) : Prop := l.length ≤ 1000000 ∧ ∀ e, e ∈ l → e.f0.size ≤ 1000000
theorem Sm.get {l : List En} (h : Sm l) (i : Nat) : (l.getD i (⟨⟨#[]⟩, 0⟩ : En)).f0.size ≤ 1000000 := by
 by_cases hi : i < l.length
 ·rw [getD_lt hi _]; exact h.2 _ (List.getElem_mem hi)
 ·rw [List.getD_eq_getElem?_getD, List.getElem?_eq_none (by omega)]; exact Nat.zero_le _
theorem countP_take {α : Type} (p : α → Bool) (l : List α) (i : Nat) (h : i < l.length) : (l.take (i + 1)).countP p = (l.take i).countP p + (if p l[i] = true then 1 else 0) := by
 rw [List.take_add_one, List.getElem?_eq_getElem h, List.countP_append]
 simp [List.countP_cons]
theorem l19Shelf_ev (a b c d : Int) (l : List En) (w : ByteArray) (hl : Sm l) (hw : w.size ≤ 1000000) : Ev (fun k => c85 k [bkA a b c d l, .v (.string w)]) ((cntS a b l (shelfS a b w) : Nat) : Int) := by
 refine Ev.st (fun k => g85_eq k a b c d l w) ?_
 have := loop4 (r := ((cntS a b l (shelfS a b w) : Nat) : Int)) l.length (fun i k m _ _ => L85_1 k m w (((l.take i).countP fun e => shelfS a b e.f0 == shelfS a b w : Nat) : Int) (i : Int) a b c d l) ?_ ?_
 ·exact this.e1
 ·intro i hi hr
  have hs := hl.get i
  refine E4.s1 (fun k m n p => L85_1_eq k m _ _ _ _ _ _ _ _) (E4.ct (decide_eq_true (by omega)) (E4.ck (inB_of (by omega) (by omega)) ?_))
  simp only [Int.toNat_natCast]
  refine E4.bind (sshelf_ev a b _ (by omega)) (E4.bind (sshelf_ev a b w (by omega)) ?_)
  (have hc := countP_take (fun e : En => shelfS a b e.f0 == shelfS a b w) l i hi); (have hle : (l.take i).countP (fun e : En => shelfS a b e.f0 == shelfS a b w) ≤ i := Nat.le_trans List.countP_le_length (by rw [List.length_take]; exact Nat.min_le_left _ _)); (have hlm := hl.1); (rw [getD_lt hi _]); (rw [w64_succ (i := i) (by omega)])
  cases hp : (shelfS a b l[i].f0 == shelfS a b w) with
  | true =>
   rw [if_pos hp] at hc
   refine E4.ct rfl ?_
   (rw [hc] at hr); (rw [w64_succ (i := (l.take i).countP fun e : En => shelfS a b e.f0 == shelfS a b w) (by omega)])
   exact hr
  | false =>
   have hc' : (l.take (i + 1)).countP (fun e : En => shelfS a b e.f0 == shelfS a b w) = (l.take i).countP (fun e : En => shelfS a b e.f0 == shelfS a b w) := by rw [hc, if_neg (by rw [hp]; exact Bool.false_ne_true)]; rfl
   refine E4.cf rfl ?_
   rw [hc'] at hr
   exact hr
 ·refine E4.s1 (fun k m n p => L85_1_eq k m _ _ _ _ _ _ _ _) (E4.cf (decide_eq_false (by omega)) (E4.now.val ?_))
  rw [List.take_length]; rfl
theorem less_neg (a b : ByteArray) : decide (cmpL a.data.toList b.data.toList ≥ 0) = !(lessB a b) := cmpL_less _ _
theorem bookOk_ev (a b c d : Int) (l : List En) (hl : Sm l) : Ev (fun k => c31 k [bkA a b c d l]) (bookB a b c d l) := by
 refine Ev.st (fun k => g31_eq k a b c d l) (E4.bind (confOk_ev a b c d) ?_)
 have hlm := hl.1
 unfold bookB
 cases h0 : (confB a b c d && decide ((l.length : Int) ≤ d)) with
 | false =>
  refine E4.ct ?_ (E4.now.val (by simp))
  rw [Bool.and_eq_false_iff] at h0
  rcases h0 with h | h
  ·rw [h]; rfl
  ·rw [decide_eq_false_iff_not] at h
   rw [decide_eq_true (show (l.length : Int) > d by omega)]; simp
 | true =>
  rw [Bool.and_eq_true, decide_eq_true_eq] at h0
  refine E4.cf (by rw [h0.1, decide_eq_false (show ¬ (l.length : Int) > d by omega)]; rfl) ?_
  -- the buckets
  have h2 : E4 (fun k m n _ => L31_2 k n (0 : Int) a b c d l) (shelvesB a b l) := by
   have := search4 (α := Bool) l.length (fun i k m n _ => L31_2 k n (i : Int) a b c d l) (fun i => decide (cntS a b l (shelfS a b (l.getD i (⟨⟨#[]⟩, 0⟩ : En)).f0) ≤ 4)) false true ?_ ?_ ?_
   ·refine this.val ?_
    unfold shelvesB
    cases (List.range l.length).all fun i => decide (cntS a b l (shelfS a b (l.getD i (⟨⟨#[]⟩, 0⟩ : En)).f0) ≤ 4) <;> rfl
   ·intro i hi hp r hr
    rw [decide_eq_true_eq] at hp
    refine E4.s2 (fun k m n p => L31_2_eq k n _ _ _ _ _ _) (E4.ct (decide_eq_true (by omega)) (E4.ck (inB_of (by omega) (by omega)) ?_))
    simp only [Int.toNat_natCast]
    refine E4.bind (l19Shelf_ev a b c d l _ hl (hl.get i)) (E4.cf (decide_eq_false (by omega)) ?_)
    rw [w64_succ (by omega)]; exact hr
   ·intro i hi hp
    rw [decide_eq_false_iff_not] at hp
    refine E4.s2 (fun k m n p => L31_2_eq k n _ _ _ _ _ _) (E4.ct (decide_eq_true (by omega)) (E4.ck (inB_of (by omega) (by omega)) ?_))
    simp only [Int.toNat_natCast]
    exact E4.bind (l19Shelf_ev a b c d l _ hl (hl.get i)) (E4.ct (decide_eq_true (by omega)) E4.now)
   ·exact E4.s2 (fun k m n p => L31_2_eq k n _ _ _ _ _ _) (E4.cf (decide_eq_false (by omega)) E4.now)
  have h1 := search4 (α := Bool) l.length (fun i k m n _ => L31_1 k m (i : Int) a b c d l) (stepB l) false (shelvesB a b l) ?_ ?_ ?_
  ·refine h1.e1.val ?_
   show _ = (true && (rowsB l && shelvesB a b l))
   rw [Bool.true_and]
   unfold rowsB
   cases (List.range l.length).all (stepB l) <;> rfl
  ·intro i hi hp r hr
   unfold stepB entB at hp
   rw [Bool.and_eq_true] at hp
   refine E4.s1 (fun k m n p => L31_1_eq k m _ _ _ _ _ _) (E4.ct (decide_eq_true (by omega)) (E4.ck (inB_of (by omega) (by omega)) ?_))
   simp only [Int.toNat_natCast]
   refine E4.bind (full_ev _ _ (hl.get i)) ?_
   rw [hp.1]
   by_cases hz : i = 0
   ·subst hz
    refine E4.ckg (fun h => by simp at h) (E4.ckg (fun h => by simp at h) (E4.gf (by simp) (E4.cf (by simp) ?_)))
    exact hr
   ·have h3 : w64 ((i : Int) - 1) = ((i - 1 : Nat) : Int) := by rw [w64_id (by omega) (by omega)]; omega
    (rw [h3]); (simp only [Int.toNat_natCast])
    refine E4.ckg (fun _ => inB_of (by omega) (by omega)) (E4.ckg (fun _ => inB_of (by omega) (by omega)) (E4.gt (by rw [decide_eq_true (show (i : Int) > 0 by omega)]; rfl) (wordCmp_ev _ _ (hl.get (i - 1)) (hl.get i)) (E4.cf ?_ ?_)))
    ·rw [less_neg]
     (have := hp.2); (rw [decide_eq_false hz, Bool.false_or] at this); (rw [this]; simp)
    ·rw [w64_succ (by omega)]; exact hr
  ·intro i hi hp
   unfold stepB entB at hp
   refine E4.s1 (fun k m n p => L31_1_eq k m _ _ _ _ _ _) (E4.ct (decide_eq_true (by omega)) (E4.ck (inB_of (by omega) (by omega)) ?_))
   simp only [Int.toNat_natCast]
   refine E4.bind (full_ev _ _ (hl.get i)) ?_
   cases he : (wordB (l.getD i (⟨⟨#[]⟩, 0⟩ : En)).f0 && decide (0 ≤ (l.getD i (⟨⟨#[]⟩, 0⟩ : En)).f1 ∧ (l.getD i (⟨⟨#[]⟩, 0⟩ : En)).f1 ≤ 65535)) with
   | false => exact E4.ckg (fun h => by simp at h) (E4.ckg (fun h => by simp at h) (E4.gf (by simp) (E4.ct (by simp) E4.now)))
   | true =>
    (rw [he, Bool.true_and, Bool.or_eq_false_iff, decide_eq_false_iff_not] at hp); (have h3 : w64 ((i : Int) - 1) = ((i - 1 : Nat) : Int) := by rw [w64_id (by omega) (by omega)]; omega); (rw [h3]); (simp only [Int.toNat_natCast])
    refine E4.ckg (fun _ => inB_of (by omega) (by omega)) (E4.ckg (fun _ => inB_of (by omega) (by omega)) (E4.gt (by rw [decide_eq_true (show (i : Int) > 0 by omega)]; rfl) (wordCmp_ev _ _ (hl.get (i - 1)) (hl.get i)) (E4.ct ?_ E4.now)))
    rw [less_neg, hp.2, decide_eq_true (show (i : Int) > 0 by omega)]; rfl
  ·exact E4.s1 (fun k m n p => L31_1_eq k m _ _ _ _ _ _) (E4.cf (decide_eq_false (by omega)) h2.e2)
def maxFrom (l : List Int) (m : Int) : Int := l.foldl (fun m x => cond (decide (x > m)) x m) m
theorem maxFrom_le (t : Int) : ∀ (l : List Int) (m : Int), maxFrom l m ≤ t ↔ m ≤ t ∧ ∀ x, x ∈ l → x ≤ t
 | [], m => by simp [maxFrom]
 | y :: l, m => by
  (have ih := maxFrom_le t l (cond (decide (y > m)) y m)); (have e : maxFrom (y :: l) m = maxFrom l (cond (decide (y > m)) y m) := rfl); (rw [e, ih])
  have h1 : cond (decide (y > m)) y m ≤ t ↔ m ≤ t ∧ y ≤ t := by
   by_cases h : y > m
   ·rw [decide_eq_true h]; simp only [cond_true]; omega
   ·rw [decide_eq_false h]; simp only [cond_false]; omega
  (rw [h1]); (simp only [List.mem_cons])
  constructor
  ·rintro ⟨⟨h2, h3⟩, h4⟩
   exact ⟨h2, fun x hx => hx.elim (fun e => e ▸ h3) (h4 x)⟩
  ·rintro ⟨h2, h3⟩
   exact ⟨⟨h2, h3 y (.inl rfl)⟩, fun x hx => h3 x (.inr hx)⟩
theorem max_ev (l : List Int) (h0 : 0 < l.length) (hl : l.length ≤ 1000000) : Ev (fun k => c103 k [.ro 3 l]) (maxFrom (l.drop 1) (l.getD 0 0)) := by
 refine Ev.st (fun k => g103_eq k l) (E4.cf (decide_eq_false (by omega)) (E4.ck (inB_of (by omega) (by omega)) ?_))
 have key : ∀ d i m, i + d = l.length → E4 (fun k f _ _ => L103_1 k f l m (i : Int)) (maxFrom (l.drop i) m) := by
  intro d
  induction d with
  | zero =>
   intro i m hi
   refine E4.s1 (fun k m n p => L103_1_eq k m _ _ _) (E4.cf (decide_eq_false (by omega)) (E4.now.val ?_))
   rw [List.drop_of_length_le (by omega)]; rfl
  | succ d ih =>
   intro i m hi
   have hil : i < l.length := by omega
   refine E4.s1 (fun k m n p => L103_1_eq k m _ _ _) (E4.ct (decide_eq_true (by omega)) (E4.ck (inB_of (by omega) (by omega)) ?_))
   (have e : l.getD ((i : Nat) : Int).toNat 0 = l[i] := by rw [Int.toNat_natCast]; exact getD_lt hil _); (simp only [e]); (rw [w64_succ (by omega), List.drop_eq_getElem_cons hil])
   exact ih (i + 1) _ (by omega)
 exact (key (l.length - 1) 1 _ (by omega)).e1
def cnts (a b : Int) (l : List En) (i : Nat) : List Int := (List.range (2 ^ b.toNat)).map fun s => (((l.take i).countP fun e => shelfS a b e.f0 == ((s : Nat) : Int) : Nat) : Int)
theorem cnts_length (a b : Int) (l : List En) (i : Nat) : (cnts a b l i).length = 2 ^ b.toNat := by simp [cnts]
theorem cnts_zero (a b : Int) (l : List En) : cnts a b l 0 = List.replicate (2 ^ b.toNat) 0 := by
 refine List.ext_getElem (by simp [cnts]) fun i h1 h2 => ?_
 simp [cnts]
theorem shelf_range {a b : Int} {s : ByteArray} (ha : 0 ≤ a ∧ a ≤ 4294967295) (hb : 2 ≤ b ∧ b ≤ 6) (hw : wordB s = true) : ∃ n : Nat, shelfS a b s = (n : Int) ∧ n < 2 ^ b.toNat := by
 unfold shelfS
 rw [if_pos ⟨ha, hw, by omega⟩]
 refine ⟨hashS a.toNat s % 2 ^ b.toNat, by simp, Nat.mod_lt _ (Nat.pow_pos (by decide))⟩
theorem cnts_succ {a b : Int} {l : List En} {i n : Nat} (h : i < l.length) (hs : shelfS a b l[i].f0 = (n : Int)) (hn : n < 2 ^ b.toNat) : (cnts a b l i).set n ((cnts a b l i).getD n 0 + 1) = cnts a b l (i + 1) := by
 refine List.ext_getElem (by simp [cnts]) fun j h1 h2 => ?_
 (have hj : j < 2 ^ b.toNat := by rw [cnts_length] at h2; exact h2); (have e1 : (cnts a b l i).getD n 0 = (cnts a b l i)[n]'(by rw [cnts_length]; exact hn) := getD_lt (by rw [cnts_length]; exact hn) _)
 have c1 : ∀ q (hq : q < 2 ^ b.toNat), (cnts a b l (i + 1))[q]'(by rw [cnts_length]; exact hq) = (cnts a b l i)[q]'(by rw [cnts_length]; exact hq) + (if n = q then 1 else 0) := fun q hq => by
  (simp only [cnts, List.getElem_map, List.getElem_range]); (rw [countP_take _ l i h])
  by_cases e : n = q
  ·subst e
   rw [if_pos rfl, hs, if_pos (by simp)]; omega
  ·rw [if_neg e, if_neg (by rw [hs]; simp; omega)]; omega
 rw [c1 j hj]
 by_cases e : n = j
 ·subst e
  rw [List.getElem_set_self, e1, if_pos rfl]
 ·rw [List.getElem_set_ne e, if_neg e, Int.add_zero]
theorem shl_conf {b : Int} (h : 2 ≤ b ∧ b ≤ 6) : shlI .i64 1 b = ((2 ^ b.toNat : Nat) : Int) ∧ 2 ^ b.toNat ≤ 64 ∧ 0 < 2 ^ b.toNat := by
 have : b = 2 ∨ b = 3 ∨ b = 4 ∨ b = 5 ∨ b = 6 := by omega
 rcases this with rfl | rfl | rfl | rfl | rfl <;> exact ⟨by rfl, by decide, by decide⟩
theorem cnts_max {a b : Int} {l : List En} (ha : 0 ≤ a ∧ a ≤ 4294967295) (hb : 2 ≤ b ∧ b ≤ 6) (hr : rowsB l = true) : decide (maxFrom ((cnts a b l l.length).drop 1) ((cnts a b l l.length).getD 0 0) ≤ 4) = shelvesB a b l := by
 have hp := (shl_conf hb).2.2
 have hwf : ∀ i, i < l.length → wordB (l.getD i (⟨⟨#[]⟩, 0⟩ : En)).f0 = true := fun i hi => by
  unfold rowsB at hr
  have := List.all_eq_true.1 hr i (List.mem_range.2 hi)
  unfold stepB entB at this
  simp only [Bool.and_eq_true] at this
  exact this.1.1
 have hlen := cnts_length a b l l.length
 have hall : maxFrom ((cnts a b l l.length).drop 1) ((cnts a b l l.length).getD 0 0) ≤ 4 ↔ ∀ s : Nat, s < 2 ^ b.toNat → cntS a b l (s : Int) ≤ 4 := by
  have e0 : ∀ (s : Nat) (h : s < (cnts a b l l.length).length), (cnts a b l l.length)[s] = ((cntS a b l (s : Int) : Nat) : Int) := fun s h => by
   simp [cnts, cntS, List.take_length]
  rw [maxFrom_le, getD_lt (by omega) _, e0]
  constructor
  ·rintro ⟨h1, h2⟩ s hs
   by_cases hz : s = 0
   ·subst hz; omega
   ·have := h2 ((cnts a b l l.length)[s]'(by omega)) (by
     rw [List.mem_iff_getElem]
     exact ⟨s - 1, by simp; omega, by rw [List.getElem_drop]; congr 1; omega⟩)
    rw [e0] at this; omega
  ·intro h
   refine ⟨by have := h 0 (by omega); omega, fun x hx => ?_⟩
   (obtain ⟨s, hs, rfl⟩ := List.mem_iff_getElem.1 (List.mem_of_mem_drop hx)); (rw [e0]); (have := h s (by omega))
   omega
 rw [Bool.eq_iff_iff, decide_eq_true_eq, hall]
 unfold shelvesB
 rw [List.all_eq_true]
 constructor
 ·intro h i hi
  (rw [List.mem_range] at hi); (rw [decide_eq_true_eq]); (obtain ⟨n, e, hn⟩ := shelf_range ha hb (hwf i hi)); (rw [e]; exact h n hn)
 ·intro h s hs
  by_cases hz : cntS a b l (s : Int) = 0
  ·omega
  ·have : 0 < l.countP fun e => shelfS a b e.f0 == ((s : Nat) : Int) := Nat.pos_of_ne_zero hz
   (rw [List.countP_pos_iff] at this); (obtain ⟨e, he, h1⟩ := this); (obtain ⟨i, hi, rfl⟩ := List.mem_iff_getElem.1 he); (have := h i (List.mem_range.2 hi)); (rw [decide_eq_true_eq, getD_lt hi _, eq_of_beq h1] at this)
   exact this
theorem lt_less (a b : ByteArray) : ltS a b = lessB a b := by unfold ltS lessB; rw [ByteArray.toList_eq, ByteArray.toList_eq]
theorem isBook_ev (a b c d : Int) (l : List En) (hl : Sm l) : Ev (fun k => c52 k [bkA a b c d l]) (bookB a b c d l) := by
 refine Ev.st (fun k => g52_eq k a b c d l) (E4.bind (isConf_ev a b c d) ?_)
 have hlm := hl.1
 unfold bookB
 cases h0 : (confB a b c d && decide ((l.length : Int) ≤ d)) with
 | false =>
  refine E4.ct ?_ (E4.now.val (by simp))
  rw [Bool.and_eq_false_iff] at h0
  rcases h0 with h | h
  ·rw [h]; rfl
  ·rw [decide_eq_false_iff_not] at h
   rw [decide_eq_true (show (l.length : Int) > d by omega)]; simp
 | true =>
  (rw [Bool.and_eq_true, decide_eq_true_eq] at h0); (obtain ⟨c1, c2, c3, c4, _⟩ := confB_log h0.1); (obtain ⟨hsh, hle, hpos⟩ := shl_conf ⟨c3, c4⟩)
  refine E4.cf (by rw [h0.1, decide_eq_false (show ¬ (l.length : Int) > d by omega)]; rfl) (E4.ck (decide_eq_true (by omega)) ?_)
  rw [hsh]
  refine E4.ck (mkOk_of (by omega) (by omega) (by omega)) ?_
  (rw [Int.toNat_natCast, ← cnts_zero a b l]); (have h1 := search4 (α := Bool) l.length (fun i k m n _ => L52_1 k m l (l.length : Int) (i : Int) a b c d (cnts a b l i)) (stepB l) false (decide (maxFrom ((cnts a b l l.length).drop 1) ((cnts a b l l.length).getD 0 0) ≤ 4)) ?_ ?_ ?_)
  ·refine h1.e1.val ?_
   show _ = (true && (rowsB l && shelvesB a b l))
   rw [Bool.true_and]
   cases hr : rowsB l with
   | true =>
    rw [cnts_max ⟨c1, c2⟩ ⟨c3, c4⟩ hr]
    unfold rowsB at hr
    rw [hr]; rfl
   | false =>
    unfold rowsB at hr
    rw [hr]; rfl
  ·intro i hi hp r hr
   have hp' := hp
   unfold stepB entB at hp
   (rw [Bool.and_eq_true, Bool.and_eq_true] at hp); (have hz := hl.get i); (obtain ⟨n, e, hn⟩ := shelf_range (a := a) (b := b) ⟨c1, c2⟩ ⟨c3, c4⟩ hp.1.1)
   refine E4.s1 (fun k m n p => L52_1_eq k m _ _ _ _ _ _ _ _) (E4.ct (decide_eq_true (by omega)) (E4.ck (inB_of (by omega) (by omega)) ?_))
   simp only [Int.toNat_natCast]
   refine E4.bind (entry_ev _ _ hz) ?_
   (rw [hp.1.1, hp.1.2]); (have h3 : i ≠ 0 → w64 ((i : Int) - 1) = ((i - 1 : Nat) : Int) := fun h => by rw [w64_id (by omega) (by omega)]; omega)
   refine E4.ckg (fun h => ?_) (E4.cf ?_ (E4.bind (shelf_ev a b _ ⟨c1, c2⟩ hp.1.1 (by omega) (by omega)) ?_))
   ·have hi0 : i ≠ 0 := fun e => by subst e; simp at h
    rw [h3 hi0]; exact inB_of (by omega) (by omega)
   ·by_cases hi0 : i = 0
    ·subst hi0; rfl
    ·rw [h3 hi0, Int.toNat_natCast, lt_less]
     (have := hp.2); (rw [decide_eq_false hi0, Bool.false_or] at this); (rw [this]; simp)
   ·rw [e]
    have hcl := cnts_length a b l i
    refine E4.ck (inB_of (by omega) (by rw [hcl]; omega)) (E4.ck (inB_of (by omega) (by rw [hcl]; omega)) ?_)
    (simp only [Int.toNat_natCast]); (rw [getD_lt hi _] at e); (have hs := cnts_succ hi e hn)
    have hb1 : 0 ≤ (cnts a b l i).getD n 0 ∧ (cnts a b l i).getD n 0 ≤ 1000000 := by
     (rw [getD_lt (by rw [hcl]; exact hn) _]); (simp only [cnts, List.getElem_map, List.getElem_range]); (have : (l.take i).countP (fun e => shelfS a b e.f0 == ((n : Nat) : Int)) ≤ i := Nat.le_trans List.countP_le_length (by rw [List.length_take]; exact Nat.min_le_left _ _))
     omega
    rw [w64_id (x := (cnts a b l i).getD n 0 + 1) (by omega) (by omega), hs, w64_succ (i := i) (by omega)]
    exact hr
  ·intro i hi hp
   unfold stepB entB at hp
   have hz := hl.get i
   refine E4.s1 (fun k m n p => L52_1_eq k m _ _ _ _ _ _ _ _) (E4.ct (decide_eq_true (by omega)) (E4.ck (inB_of (by omega) (by omega)) ?_))
   simp only [Int.toNat_natCast]
   refine E4.bind (entry_ev _ _ hz) ?_
   have h3 : i ≠ 0 → w64 ((i : Int) - 1) = ((i - 1 : Nat) : Int) := fun h => by rw [w64_id (by omega) (by omega)]; omega
   cases he : (wordB (l.getD i (⟨⟨#[]⟩, 0⟩ : En)).f0 && decide (0 ≤ (l.getD i (⟨⟨#[]⟩, 0⟩ : En)).f1 ∧ (l.getD i (⟨⟨#[]⟩, 0⟩ : En)).f1 ≤ 65535)) with
   | false => exact E4.ckg (fun h => by simp at h) (E4.ct rfl E4.now)
   | true =>
    (rw [he, Bool.true_and, Bool.or_eq_false_iff, decide_eq_false_iff_not] at hp); (rw [h3 hp.1])
    refine E4.ckg (fun _ => inB_of (by omega) (by omega)) (E4.ct ?_ E4.now)
    rw [Int.toNat_natCast, lt_less, hp.2, decide_eq_true (show (i : Int) > 0 by omega)]; rfl
  ·refine E4.s1 (fun k m n p => L52_1_eq k m _ _ _ _ _ _ _ _) (E4.cf (decide_eq_false (by omega)) ?_)
   exact E4.bind (max_ev _ (by rw [cnts_length]; exact hpos) (by rw [cnts_length]; omega)) E4.now
theorem less_irrefl : ∀ x : List UInt8, Op.bytesLess x x = false
 | [] => rfl
 | a :: x => by simp [Op.bytesLess, less_irrefl x]
theorem less_trans : ∀ {x y z : List UInt8}, Op.bytesLess x y = true → Op.bytesLess y z = true → Op.bytesLess x z = true
 | x, [], z, h, _ => by cases x <;> cases h
 | x, b :: y, [], _, h => by cases h
 | [], b :: y, c :: z, _, _ => rfl
 | a :: x, b :: y, c :: z, h1, h2 => by
  simp only [Op.bytesLess, Bool.or_eq_true, Bool.and_eq_true, decide_eq_true_eq, beq_iff_eq] at h1 h2 ⊢
  rcases h1 with h1 | ⟨rfl, h1⟩
  ·rcases h2 with h2 | ⟨rfl, h2⟩
   ·exact .inl (UInt8.lt_trans h1 h2)
   ·exact .inl h1
  ·rcases h2 with h2 | ⟨rfl, h2⟩
   ·exact .inl h2
   ·exact .inr ⟨rfl, less_trans h1 h2⟩
theorem less_total : ∀ x y : List UInt8, Op.bytesLess x y = true ∨ x = y ∨ Op.bytesLess y x = true
 | [], [] => .inr (.inl rfl)
 | [], _ :: _ => .inl rfl
 | _ :: _, [] => .inr (.inr rfl)
 | a :: x, b :: y => by
  simp only [Op.bytesLess, Bool.or_eq_true, Bool.and_eq_true, decide_eq_true_eq, beq_iff_eq]
  by_cases h : a < b
  ·exact .inl (.inl h)
  ·by_cases h' : b < a
   ·exact .inr (.inr (.inl h'))
   ·have he : a = b := by
     (have h1 : ¬ a.toNat < b.toNat := fun hh => h (UInt8.lt_iff_toNat_lt.mpr hh)); (have h2 : ¬ b.toNat < a.toNat := fun hh => h' (UInt8.lt_iff_toNat_lt.mpr hh))
     exact UInt8.toNat_inj.mp (by omega)
    subst he
    rcases less_total x y with h3 | rfl | h3
    ·exact .inl (.inr ⟨rfl, h3⟩)
    ·exact .inr (.inl rfl)
    ·exact .inr (.inr (.inr ⟨rfl, h3⟩))
theorem lessB_trans {a b c : ByteArray} (h1 : lessB a b = true) (h2 : lessB b c = true) : lessB a c = true := less_trans h1 h2
theorem lessB_irrefl (a : ByteArray) : lessB a a = false := less_irrefl _
theorem bytes_ext {a b : ByteArray} (h : a.data.toList = b.data.toList) : a = b := by
 cases a with | mk x => cases b with | mk y => congr 1; exact Array.toList_inj.1 h
theorem lessB_total (a b : ByteArray) : lessB a b = true ∨ a = b ∨ lessB b a = true := by
 rcases less_total a.data.toList b.data.toList with h | h | h
 ·exact .inl h
 ·exact .inr (.inl (bytes_ext h))
 ·exact .inr (.inr h)
theorem lessB_asymm {a b : ByteArray} (h : lessB a b = true) : lessB b a = false := by
 cases h' : lessB b a with
 | false => rfl
 | true => have := lessB_trans h h'; rw [lessB_irrefl] at this; cases this
theorem eqS_iff (a b : ByteArray) : eqS a b = true ↔ a = b := by
 unfold eqS
 rw [ByteArray.toList_eq, ByteArray.toList_eq, beq_iff_eq]
 exact ⟨bytes_ext, fun h => by rw [h]⟩
theorem eqS_refl (a : ByteArray) : eqS a a = true := (eqS_iff a a).2 rfl
theorem leS_iff (a b : ByteArray) : leS a b = (lessB a b || eqS a b) := by
 unfold leS lessB eqS; rw [ByteArray.toList_eq, ByteArray.toList_eq]
def cmpW (a b : ByteArray) : Int := cond (lessB a b) (-1) (cond (eqS a b) 0 1)
theorem compare_ev (a b : ByteArray) : Ev (fun k => c147 k [.v (.string a), .v (.string b)]) (cmpW a b) := by
 have nan : ∀ s : ByteArray, Ev (fun k => c176 k [.v (.string s)]) false := fun s => Ev.st (fun k => g176_eq k s) (E4.now.val (by rw [eqS_refl]; rfl))
 refine Ev.st (fun k => g147_eq k a b) (E4.bind (nan a) (E4.bind (nan b) (E4.cf rfl (E4.cf rfl ?_))))
 rw [lt_less, leS_iff]
 unfold cmpW
 cases h1 : lessB a b with
 | true => exact E4.ct rfl E4.now
 | false =>
  refine E4.cf rfl ?_
  cases h2 : eqS a b with
  | true => exact E4.cf rfl E4.now
  | false => exact E4.ct rfl E4.now
theorem find1_ev (x : En) (w : ByteArray) : Ev (fun k => c146 k [.agg [.v (.string x.f0), .v (.int .i64 x.f1)], .v (.string w)]) (cmpW x.f0 w) :=
 Ev.st (fun k => g146_eq k x.f0 x.f1 w) (E4.bind (compare_ev x.f0 w) E4.now)
theorem cmpW_neg (a b : ByteArray) : decide (cmpW a b < 0) = lessB a b := by
 unfold cmpW
 cases lessB a b with
 | true => rfl
 | false => cases eqS a b <;> rfl
def Asc (l : List En) : Prop := ∀ q r, q < r → r < l.length → lessB (l.getD q (⟨⟨#[]⟩, 0⟩ : En)).f0 (l.getD r (⟨⟨#[]⟩, 0⟩ : En)).f0 = true
theorem asc_of {l : List En} (h : rowsB l = true) : Asc l := by
 have step : ∀ i, 0 < i → i < l.length → lessB (l.getD (i - 1) (⟨⟨#[]⟩, 0⟩ : En)).f0 (l.getD i (⟨⟨#[]⟩, 0⟩ : En)).f0 = true := fun i h0 hi => by
  unfold rowsB at h
  have := List.all_eq_true.1 h i (List.mem_range.2 hi)
  unfold stepB at this
  rw [Bool.and_eq_true, decide_eq_false (show ¬ i = 0 by omega), Bool.false_or] at this
  exact this.2
 intro q r hqr
 induction r with
 | zero => omega
 | succ r ih =>
  intro hr
  (have hs := step (r + 1) (by omega) hr); (rw [Nat.add_sub_cancel] at hs)
  by_cases e : q = r
  ·subst e; exact hs
  ·exact lessB_trans (ih (by omega) (by omega)) hs
def lbW (l : List En) (w : ByteArray) : Nat := l.countP fun e => lessB e.f0 w
theorem lb_le (l : List En) (w : ByteArray) : lbW l w ≤ l.length := List.countP_le_length
theorem lb_spec {l : List En} (h : Asc l) (w : ByteArray) : ∀ q, q < l.length → (lessB (l.getD q (⟨⟨#[]⟩, 0⟩ : En)).f0 w = true ↔ q < lbW l w) := by
 -- the first q words, where all of them come before w
 have key : ∀ n, n ≤ l.length → ∀ m, m ≤ n → (∀ q, q < m → lessB (l.getD q (⟨⟨#[]⟩, 0⟩ : En)).f0 w = true) → (∀ q, m ≤ q → q < n → lessB (l.getD q (⟨⟨#[]⟩, 0⟩ : En)).f0 w = false) → (l.take n).countP (fun e => lessB e.f0 w) = m := by
  intro n
  induction n with
  | zero =>
   intro _ m hm _ _
   obtain rfl : m = 0 := by omega
   rfl
  | succ n ih =>
   intro hn m hm h1 h2
   rw [countP_take _ l n (by omega)]
   by_cases e : m = n + 1
   ·subst e
    (rw [ih (by omega) n (by omega) (fun q hq => h1 q (by omega)) (fun q q1 q2 => by omega)]); (have := h1 n (by omega)); (rw [getD_lt (show n < l.length by omega) _] at this); (rw [if_pos this])
   ·rw [ih (by omega) m (by omega) h1 (fun q q1 q2 => h2 q q1 (by omega))]
    (have := h2 n (by omega) (by omega)); (rw [getD_lt (show n < l.length by omega) _] at this); (rw [if_neg (by rw [this]; exact Bool.false_ne_true), Nat.add_zero])
 -- where the words that come before w end
 have ex : ∀ n, n ≤ l.length → ∃ m, m ≤ n ∧ (∀ q, q < m → lessB (l.getD q (⟨⟨#[]⟩, 0⟩ : En)).f0 w = true) ∧ ∀ q, m ≤ q → q < n → lessB (l.getD q (⟨⟨#[]⟩, 0⟩ : En)).f0 w = false := by
  intro n
  induction n with
  | zero => intro _; exact ⟨0, Nat.le_refl _, fun q hq => by omega, fun q _ hq => by omega⟩
  | succ n ih =>
   intro hn
   obtain ⟨m, hm, h1, h2⟩ := ih (by omega)
   by_cases e : m = n
   ·subst e
    cases hp : lessB (l.getD m (⟨⟨#[]⟩, 0⟩ : En)).f0 w with
    | true => exact ⟨m + 1, Nat.le_refl _, fun q hq => (if e : q = m then e ▸ hp else h1 q (by omega)), fun q q1 q2 => by omega⟩
    | false => exact ⟨m, by omega, h1, fun q q1 q2 => (by rw [show q = m by omega]; exact hp)⟩
   ·refine ⟨m, by omega, h1, fun q q1 q2 => ?_⟩
    by_cases e2 : q = n
    ·subst e2
     cases hp : lessB (l.getD q (⟨⟨#[]⟩, 0⟩ : En)).f0 w with
     | false => rfl
     | true =>
      (have h3 := h2 m (Nat.le_refl _) (by omega)); (have h4 := lessB_trans (h m q (by omega) (by omega)) hp); (rw [h3] at h4; cases h4)
    ·exact h2 q q1 (by omega)
 (obtain ⟨m, hm, h1, h2⟩ := ex l.length (Nat.le_refl _)); (have e := key l.length (Nat.le_refl _) m hm h1 h2); (rw [List.take_length] at e); (have e' : lbW l w = m := e); (rw [e'])
 intro q hq
 constructor
 ·intro h3
  by_cases h4 : q < m
  ·exact h4
  ·rw [h2 q (by omega) hq] at h3; cases h3
 ·exact h1 q
def foundB (l : List En) (w : ByteArray) : Bool := decide (lbW l w < l.length) && eqS (l.getD (lbW l w) (⟨⟨#[]⟩, 0⟩ : En)).f0 w
theorem mid_eq (i j : Nat) (h : i + j ≤ 4000000) : w64 (shrI .u64 (wu64 (w64 ((i : Int) + (j : Int)))) (1 : Int)) = (((i + j) / 2 : Nat) : Int) := by
 rw [w64_id (x := (i : Int) + (j : Int)) (by omega) (by omega)]
 have e : wu64 ((i : Int) + (j : Int)) = (i : Int) + (j : Int) := by
  show IntKind.wrap .u64 _ = _
  unfold IntKind.wrap
  (have e1 : (2 : Int) ^ 64 = 18446744073709551616 := by decide); (simp only [IntKind.bits, IntKind.signed, Bool.false_and, Bool.false_eq_true, if_false, e1])
  omega
 rw [e]
 have e2 : shrI .u64 ((i : Int) + (j : Int)) 1 = ((i : Int) + (j : Int)) / 2 := by
  show Int.fdiv _ (2 ^ min (1 : Int).toNat 64) = _
  (have : (2 : Int) ^ min (1 : Int).toNat 64 = 2 := by decide); (rw [this, Int.fdiv_eq_ediv_of_nonneg _ (by decide)])
 rw [e2, w64_id (by omega) (by omega)]
 omega
theorem cmpW_zero {a b : ByteArray} (h : lessB a b = false) : (cmpW a b == 0) = eqS a b := by
 unfold cmpW
 rw [h]
 cases eqS a b <;> rfl
theorem bookFind_ev (a b c d : Int) (l : List En) (w : ByteArray) (hl : Sm l) (h : Asc l) : Ev (fun k => c108 k [bkA a b c d l, .v (.string w)]) (((lbW l w : Nat) : Int), foundB l w) := by
 (have hlm := hl.1); (have hlb := lb_le l w); (have sp := lb_spec h w)
 refine Ev.st (fun k => g108_eq k a b c d l w) (E4.bind (a := (((lbW l w : Nat) : Int), foundB l w)) (Ev.st (fun k => g145_1_eq k l w) ?_) E4.now)
 have key : ∀ n i j, j - i ≤ n → i ≤ lbW l w → lbW l w ≤ j → j ≤ l.length → E4 (fun k m _ _ => L145_1_1 k m l w (l.length : Int) (i : Int) (j : Int)) (((lbW l w : Nat) : Int), foundB l w) := by
  intro n
  induction n with
  | zero =>
   intro i j hn h1 h2 h3
   obtain rfl : i = lbW l w := by omega
   refine E4.s1 (fun k m n p => L145_1_1_eq k m _ _ _ _ _) (E4.cf (decide_eq_false (by omega)) ?_)
   by_cases hlt : lbW l w < l.length
   ·refine E4.ckg (fun _ => inB_of (by omega) (by omega)) (E4.gt (decide_eq_true (by omega)) (find1_ev _ w) (E4.now.val ?_))
    simp only [Int.toNat_natCast]
    have hf : lessB (l.getD (lbW l w) (⟨⟨#[]⟩, 0⟩ : En)).f0 w = false := by
     cases hp : lessB (l.getD (lbW l w) (⟨⟨#[]⟩, 0⟩ : En)).f0 w with
     | false => rfl
     | true => have := (sp _ hlt).1 hp; omega
    rw [cmpW_zero hf]
    unfold foundB
    rw [decide_eq_true (show ((lbW l w : Nat) : Int) < (l.length : Int) by omega), decide_eq_true hlt]
   ·refine E4.ckg (fun hh => by rw [decide_eq_true_eq] at hh; omega) (E4.gf (decide_eq_false (by omega)) (E4.now.val ?_))
    unfold foundB
    rw [decide_eq_false (show ¬ ((lbW l w : Nat) : Int) < (l.length : Int) by omega), decide_eq_false hlt]; rfl
  | succ n ih =>
   intro i j hn h1 h2 h3
   by_cases hij : i < j
   ·have hm : (i + j) / 2 < l.length := by omega
    refine E4.s1 (fun k m n p => L145_1_1_eq k m _ _ _ _ _) (E4.ct (decide_eq_true (by omega)) ?_)
    rw [mid_eq i j (by omega)]
    refine E4.ck (inB_of (by omega) (by omega)) ?_
    simp only [Int.toNat_natCast]
    refine E4.bind (find1_ev _ w) ?_
    (rw [cmpW_neg]); (have s := sp ((i + j) / 2) hm)
    cases hp : lessB (l.getD ((i + j) / 2) (⟨⟨#[]⟩, 0⟩ : En)).f0 w with
    | true =>
     have := s.1 hp
     refine E4.ct rfl ?_
     rw [w64_succ (by omega)]
     exact ih _ _ (by omega) (by omega) h2 h3
    | false =>
     have : ¬ (i + j) / 2 < lbW l w := fun hh => by rw [s.2 hh] at hp; cases hp
     refine E4.cf rfl ?_
     exact ih _ _ (by omega) h1 (by omega) (by omega)
   ·exact ih i j (by omega) h1 h2 h3
 exact (key l.length 0 l.length (by omega) (by omega) hlb (Nat.le_refl _)).e1
def atW (l : List En) (w : ByteArray) : Int := cond (foundB l w) ((lbW l w : Nat) : Int) (-1)
theorem found_iff {l : List En} (h : Asc l) (w : ByteArray) : foundB l w = true ↔ ∃ q, q < l.length ∧ (l.getD q (⟨⟨#[]⟩, 0⟩ : En)).f0 = w := by
 have sp := lb_spec h w
 unfold foundB
 rw [Bool.and_eq_true, decide_eq_true_eq, eqS_iff]
 constructor
 ·rintro ⟨h1, h2⟩; exact ⟨_, h1, h2⟩
 ·rintro ⟨q, hq, e⟩
  have h1 : ¬ q < lbW l w := fun hh => by
   (have := (sp q hq).2 hh); (rw [e, lessB_irrefl] at this; cases this)
  have h2 : ¬ lbW l w < q := fun hh => by
   (have := h (lbW l w) q hh hq); (rw [e] at this); (have := (sp (lbW l w) (by omega)).1 this)
   omega
  have h3 : q = lbW l w := by omega
  exact h3 ▸ ⟨hq, e⟩
theorem l19At_ev (a b c d : Int) (l : List En) (w : ByteArray) (hl : Sm l) (h : Asc l) : Ev (fun k => c47 k [bkA a b c d l, .v (.string w)]) (atW l w) := by
 have hlm := hl.1
 refine Ev.st (fun k => g47_eq k a b c d l w) ?_
 have key : ∀ n i, i + n = l.length → (∀ q, q < i → (l.getD q (⟨⟨#[]⟩, 0⟩ : En)).f0 ≠ w) → E4 (fun k m _ _ => L47_1 k m w (i : Int) a b c d l) (atW l w) := by
  intro n
  induction n with
  | zero =>
   intro i hi hq
   refine E4.s1 (fun k m n p => L47_1_eq k m _ _ _ _ _ _ _) (E4.cf (decide_eq_false (by omega)) (E4.now.val ?_))
   unfold atW
   cases hf : foundB l w with
   | false => rfl
   | true =>
    obtain ⟨q, h1, h2⟩ := (found_iff h w).1 hf
    exact absurd h2 (hq q (by omega))
  | succ n ih =>
   intro i hi hq
   refine E4.s1 (fun k m n p => L47_1_eq k m _ _ _ _ _ _ _) (E4.ct (decide_eq_true (by omega)) (E4.ck (inB_of (by omega) (by omega)) ?_))
   simp only [Int.toNat_natCast]
   cases he : eqS (l.getD i (⟨⟨#[]⟩, 0⟩ : En)).f0 w with
   | true =>
    refine E4.ct rfl (E4.now.val ?_)
    (have hw := (eqS_iff _ _).1 he); (have hf := (found_iff h w).2 ⟨i, by omega, hw⟩)
    unfold atW
    (rw [hf]); (have hf' := hf)
    unfold foundB at hf'
    (rw [Bool.and_eq_true, decide_eq_true_eq, eqS_iff] at hf'); (have h1 : ¬ lbW l w < i := fun hh => hq _ hh hf'.2)
    have h2 : ¬ i < lbW l w := fun hh => by
     (have := (lb_spec h w i (by omega)).2 hh); (rw [hw, lessB_irrefl] at this; cases this)
    show (i : Int) = ((lbW l w : Nat) : Int)
    omega
   | false =>
    refine E4.cf rfl ?_
    rw [w64_succ (by omega)]
    refine ih (i + 1) (by omega) fun q hq' => ?_
    by_cases e : q = i
    ·subst e
     intro hw
     rw [hw, eqS_refl] at he; cases he
    ·exact hq q (by omega)
 exact (key l.length 0 (by omega) (fun q hq => by omega)).e1
theorem asc_iff (l : List En) : Asc l ↔ l.Pairwise fun x y => lessB x.f0 y.f0 = true := by
 rw [List.pairwise_iff_getElem]
 unfold Asc
 constructor
 ·intro h i j hi hj hij
  have := h i j hij hj
  rwa [getD_lt hi _, getD_lt hj _] at this
 ·intro h q r hqr hr
  rw [getD_lt (show q < l.length by omega) _, getD_lt hr _]
  exact h q r (by omega) hr hqr
theorem take_snoc {α : Type} (l : List α) (i : Nat) (h : i < l.length) : l.take (i + 1) = l.take i ++ [l[i]] := by
 rw [List.take_add_one, List.getElem?_eq_getElem h]; rfl
def withoutL (l : List En) (w : ByteArray) : List En := l.filter fun e => !(eqS e.f0 w)
theorem without_sm {l : List En} (h : Sm l) (w : ByteArray) : Sm (withoutL l w) := ⟨Nat.le_trans (List.length_filter_le _ _) h.1, fun e he => h.2 e (List.mem_filter.1 he).1⟩
theorem without_asc {l : List En} (h : Asc l) (w : ByteArray) : Asc (withoutL l w) := (asc_iff _).2 (((asc_iff l).1 h).filter _)
theorem without_not {l : List En} (w : ByteArray) (q : Nat) (hq : q < (withoutL l w).length) : ((withoutL l w).getD q (⟨⟨#[]⟩, 0⟩ : En)).f0 ≠ w := by
 (rw [getD_lt hq _]); (have this : (!(eqS ((withoutL l w)[q]).f0 w)) = true := (List.mem_filter.1 (List.getElem_mem hq)).2)
 intro e
 rw [e, eqS_refl] at this
 cases this
theorem l19Without_ev (a b c d : Int) (l : List En) (w : ByteArray) (hl : Sm l) : Ev (fun k => c50 k [bkA a b c d l, .v (.string w)]) (a, b, c, d, withoutL l w) := by
 have hlm := hl.1
 refine Ev.st (fun k => g50_eq k a b c d l w) ?_
 have := loop4 (r := (a, b, c, d, withoutL l w)) l.length (fun i k m _ _ => L50_1 k m w (i : Int) a b c d l (withoutL (l.take i) w)) ?_ ?_
 ·exact this.e1
 ·intro i hi hr
  have hle : (withoutL (l.take i) w).length ≤ i := Nat.le_trans (List.length_filter_le _ _) (by rw [List.length_take]; exact Nat.min_le_left _ _)
  refine E4.s1 (fun k m n p => L50_1_eq k m _ _ _ _ _ _ _ _) (E4.ct (decide_eq_true (by omega)) (E4.ck (inB_of (by omega) (by omega)) ?_))
  (simp only [J50_2_eq, Int.toNat_natCast]); (rw [w64_succ (i := i) (by omega)])
  have e : withoutL (l.take (i + 1)) w = withoutL (l.take i) w ++ (if (!(eqS l[i].f0 w)) = true then [l[i]] else []) := by
   unfold withoutL
   rw [take_snoc l i hi, List.filter_append]
   congr 1
   by_cases h : (!(eqS l[i].f0 w)) = true
   ·rw [if_pos h, List.filter_cons, if_pos h]; rfl
   ·rw [if_neg h, List.filter_cons, if_neg h]; rfl
  (have eg : l.getD i (⟨⟨#[]⟩, 0⟩ : En) = l[i] := getD_lt hi _); (rw [eg]); (rw [e] at hr)
  cases hp : eqS l[i].f0 w with
  | true =>
   (rw [hp] at hr); (rw [if_neg (by simp), List.append_nil] at hr)
   exact E4.cf rfl hr
  | false =>
   (rw [hp] at hr); (rw [if_pos (show (!false) = true from rfl)] at hr)
   refine E4.ct rfl (E4.ck (inB_of (by omega) (by omega)) (E4.ck (appOk_of (by simp only [List.length_cons, List.length_nil]; omega)) hr))
 ·refine E4.s1 (fun k m n p => L50_1_eq k m _ _ _ _ _ _ _ _) (E4.cf (decide_eq_false (by omega)) (E4.now.val ?_))
  rw [List.take_length]
def insL (l : List En) (e : En) : List En := l.take (lbW l e.f0) ++ [e] ++ l.drop (lbW l e.f0)
theorem cmp_neg_iff {a b : ByteArray} (hne : a ≠ b) : decide (cmpL a.data.toList b.data.toList < 0) = !(lessB b a) := by
 have h1 := cmpL_less a.data.toList b.data.toList
 have e : decide (cmpL a.data.toList b.data.toList < 0) = lessB a b := by
  have : decide (cmpL a.data.toList b.data.toList < 0) = !(decide (cmpL a.data.toList b.data.toList ≥ 0)) := by
   by_cases h : cmpL a.data.toList b.data.toList < 0
   ·rw [decide_eq_true h, decide_eq_false (by omega)]; rfl
   ·rw [decide_eq_false h, decide_eq_true (by omega)]; rfl
  rw [this, h1, Bool.not_not]; rfl
 rw [e]
 rcases lessB_total a b with h | h | h
 ·rw [h, lessB_asymm h]; rfl
 ·exact absurd h hne
 ·rw [h, lessB_asymm h]; rfl
theorem l19With_ev (a b c d : Int) (l : List En) (w : ByteArray) (n : Int) (hl : Sm l) (h : Asc l) (hw : w.size ≤ 1000000) : Ev (fun k => c49 k [bkA a b c d l, .agg [.v (.string w), .v (.int .i64 n)]]) (a, b, c, d, insL (withoutL l w) ⟨w, n⟩) := by
 refine Ev.st (fun k => g49_eq k a b c d l w n) (E4.bind (l19Without_ev a b c d l w hl) ?_)
 (have hrs := without_sm hl w); (have hra := without_asc h w); (have hrn := fun q hq => without_not (l := l) w q hq)
 generalize withoutL l w = r at hrs hra hrn
 (have hlm := hrs.1); (have hlb := lb_le r w); (have sp := lb_spec hra w); (have := loop4 (r := (a, b, c, d, insL r ⟨w, n⟩)) r.length (fun i k m _ _ => L49_1 k m (decide (lbW r w < i)) (i : Int) w n a b c d a b c d r (if lbW r w < i then r.take (lbW r w) ++ [⟨w, n⟩] ++ (r.drop (lbW r w)).take (i - lbW r w) else r.take i)) ?_ ?_)
 ·rw [decide_eq_false (show ¬ lbW r w < 0 by omega), if_neg (by omega)] at this
  exact this.e1
 ·intro i hi hr
  refine E4.s1 (fun k m n p => L49_1_eq k m _ _ _ _ _ _ _ _ _ _ _ _ _ _) (E4.ct (decide_eq_true (by omega)) ?_)
  refine E4.ckg (fun _ => inB_of (by omega) (by omega)) ?_
  (simp only [J49_2_eq, Int.toNat_natCast]); (have eg : r.getD i (⟨⟨#[]⟩, 0⟩ : En) = r[i] := getD_lt hi _); (rw [w64_succ (i := i) (by omega)])
  have hlen : (if lbW r w < i then r.take (lbW r w) ++ [(⟨w, n⟩ : En)] ++ (r.drop (lbW r w)).take (i - lbW r w) else r.take i).length ≤ i + 1 := by
   split <;> simp <;> omega
  by_cases h1 : lbW r w < i
  ·-- the entry is in already
   (rw [if_pos h1] at hlen ⊢); (rw [if_pos (show lbW r w < i + 1 by omega), decide_eq_true (show lbW r w < i + 1 by omega)] at hr); (rw [decide_eq_true h1])
   refine E4.gf rfl (E4.cf rfl (E4.ck (inB_of (by omega) (by omega)) (E4.ck (appOk_of (by simp only [List.length_cons, List.length_nil]; omega)) ?_)))
   have e : (r.drop (lbW r w)).take (i + 1 - lbW r w) = (r.drop (lbW r w)).take (i - lbW r w) ++ [r[i]] := by
    rw [show i + 1 - lbW r w = (i - lbW r w) + 1 by omega, take_snoc _ _ (by simp; omega), List.getElem_drop]
    congr 2
    congr 1; omega
   (rw [e] at hr); (rw [eg, List.append_assoc])
   exact hr
  ·rw [if_neg h1] at hlen ⊢
   rw [decide_eq_false h1]
   refine E4.gt rfl (wordCmp_ev w _ hw (hrs.get i)) ?_
   rw [cmp_neg_iff (fun e => hrn i hi e.symm)]
   by_cases h2 : i = lbW r w
   ·-- here it goes in
    have hp : lessB (r.getD i (⟨⟨#[]⟩, 0⟩ : En)).f0 w = false := by
     cases hp : lessB (r.getD i (⟨⟨#[]⟩, 0⟩ : En)).f0 w with
     | false => rfl
     | true => have := (sp i hi).1 hp; omega
    (rw [hp]); (rw [if_pos (show lbW r w < i + 1 by omega), decide_eq_true (show lbW r w < i + 1 by omega)] at hr)
    refine E4.ct rfl (E4.ck (appOk_of (by simp only [List.length_cons, List.length_nil]; omega)) (E4.ck (inB_of (by omega) (by omega)) (E4.ck (appOk_of (by simp only [List.length_append, List.length_cons, List.length_nil]; omega)) ?_)))
    have e : (r.drop (lbW r w)).take (i + 1 - lbW r w) = [r[i]] := by
     (rw [show i + 1 - lbW r w = 0 + 1 by omega, take_snoc _ _ (by simp; omega), List.getElem_drop]); (simp only [List.take_zero, List.nil_append])
     congr 2; omega
    (rw [e, ← h2] at hr); (rw [eg])
    exact hr
   ·have hp : lessB (r.getD i (⟨⟨#[]⟩, 0⟩ : En)).f0 w = true := (sp i hi).2 (by omega)
    (rw [hp]); (rw [if_neg (show ¬ lbW r w < i + 1 by omega), decide_eq_false (show ¬ lbW r w < i + 1 by omega), take_snoc r i hi] at hr)
    refine E4.cf rfl (E4.ck (inB_of (by omega) (by omega)) (E4.ck (appOk_of (by simp only [List.length_cons, List.length_nil]; omega)) ?_))
    rw [eg]
    exact hr
 ·refine E4.s1 (fun k m n p => L49_1_eq k m _ _ _ _ _ _ _ _ _ _ _ _ _ _) (E4.cf (decide_eq_false (by omega)) ?_)
  by_cases h1 : lbW r w < r.length
  ·rw [decide_eq_true h1, if_pos h1]
   refine E4.cf rfl (E4.now.val ?_)
   (have e : (r.drop (lbW r w)).take (r.length - lbW r w) = r.drop (lbW r w) := List.take_of_length_le (by rw [List.length_drop]; omega)); (rw [e]; rfl)
  ·have h2 : lbW r w = r.length := by omega
   rw [decide_eq_false h1, if_neg h1]
   refine E4.ct rfl (E4.ck (appOk_of (by simp only [List.length_take, List.length_cons, List.length_nil]; omega)) (E4.now.val ?_))
   unfold insL
   simp only [h2, List.take_length, List.drop_length, List.append_nil]
abbrev Rq := S30
abbrev BT := Int × Int × Int × Int × (List En) × Int × Bool × Int × (List S43) × (List Int)
def addS (a b d : Int) (l : List En) (s : ByteArray) (n : Int) : Int :=
 cond (eqS (foldS s) ⟨#[]⟩) 2 (cond (!(decide (0 ≤ n ∧ n ≤ 65535))) 3 (cond (foundB l (foldS s)) 5 (cond (decide ((l.length : Int) = d)) 6 (cond (decide (cntS a b l (shelfS a b (foldS s)) = 4)) 7 0))))
def addT (a b c d : Int) (l ins : List En) (x : Rq) : BT :=
 cond (bookB a b c d l) (cond (reqB x) (cond (addS a b d l x.f1 x.f2 == 0) (a, b, c, d, ins, 0, false, 0, [], []) (a, b, c, d, l, addS a b d l x.f1 x.f2, false, 0, [], [])) (a, b, c, d, l, 1, false, 0, [], [])) (0, 0, 0, 0, [], 1, false, 0, [], [])
theorem foldS_small (s : ByteArray) : (foldS s).size ≤ 32 := foldS_size s
theorem foldS_word {s : ByteArray} (h : eqS (foldS s) ⟨#[]⟩ = false) : wordB (foldS s) = true := by
 unfold foldS at h ⊢
 by_cases hc : s.size ≤ 32 ∧ wordB (lowS s) = true
 ·rw [if_pos hc]; exact hc.2
 ·rw [if_neg hc] at h; rw [eqS_refl] at h; cases h
theorem book_parts {a b c d : Int} {l : List En} (h : bookB a b c d l = true) : confB a b c d = true ∧ (l.length : Int) ≤ d ∧ rowsB l = true ∧ shelvesB a b l = true := by
 unfold bookB at h
 simp only [Bool.and_eq_true, decide_eq_true_eq] at h
 exact ⟨h.1.1, h.1.2, h.2.1, h.2.2⟩
theorem copy_ev (a b c d : Int) (l : List En) (hl : Sm l) : Ev (fun k => c45 k [bkA a b c d l]) (a, b, c, d, l) :=
 Ev.st (fun k => g45_eq k a b c d l) (E4.ck (appOk_of (by have := hl.1; simp only [List.length_nil]; omega)) (E4.now.val (by rw [List.nil_append])))
theorem atW_neg (l : List En) (w : ByteArray) : decide (atW l w ≥ 0) = foundB l w := by
 unfold atW
 cases foundB l w with
 | true => exact decide_eq_true (by show ((lbW l w : Nat) : Int) ≥ 0; omega)
 | false => rfl
theorem codeAdd_ev (a b c d : Int) (l : List En) (x : Rq) (hk : x.f0 = 3) (hl : Sm l) (h : Asc l) (hx : x.f1.size ≤ 1000000) : Ev (fun k => c46 k [bkA a b c d l, rqA x]) (addS a b d l x.f1 x.f2) := by
 (obtain ⟨x0, s, n, x3, x4, x5, t⟩ := x); (obtain rfl : x0 = 3 := hk); (have hx' : s.size ≤ 1000000 := hx); (have hf := foldS_small s)
 refine Ev.st (fun k => g46_eq k a b c d l 3 s n x3 x4 x5 t) (E4.bind (sfold_ev s (by omega)) (E4.bind (l19At_ev a b c d l (foldS s) hl h) (E4.cf rfl ?_)))
 show E4 _ (addS a b d l s n)
 unfold addS
 cases h1 : eqS (foldS s) ⟨#[]⟩ with
 | true => exact E4.ct rfl E4.now
 | false =>
  refine E4.cf rfl (E4.gf rfl (E4.gt rfl (weight_ev n) ?_))
  cases h2 : decide (0 ≤ n ∧ n ≤ 65535) with
  | false => exact E4.ct rfl E4.now
  | true =>
   refine E4.cf rfl (E4.ct rfl ?_)
   rw [atW_neg]
   cases h3 : foundB l (foldS s) with
   | true => exact E4.ct rfl E4.now
   | false =>
    refine E4.cf rfl ?_
    by_cases h4 : (l.length : Int) = d
    ·rw [decide_eq_true h4]
     exact E4.ct (by rw [h4]; exact beq_self_eq_true d) E4.now
    ·rw [decide_eq_false h4]
     refine E4.cf (by simpa using h4) (E4.bind (l19Shelf_ev a b c d l (foldS s) hl (by omega)) ?_)
     by_cases h5 : cntS a b l (shelfS a b (foldS s)) = 4
     ·rw [decide_eq_true h5]
      exact E4.ct (by rw [h5]; rfl) E4.now
     ·rw [decide_eq_false h5]
      refine E4.cf (by simp; omega) (E4.cf rfl E4.now)
theorem specAdd_ev (a b c d : Int) (l : List En) (x : Rq) (hk : x.f0 = 3) (hl : Sm l) (hx : x.f1.size ≤ 1000000) : Ev (fun k => c10 k [bkA a b c d l, rqA x]) (addT a b c d l (insL (withoutL l (foldS x.f1)) ⟨foldS x.f1, x.f2⟩) x) := by
 (have hx0 := hx); (have hk0 := hk); (obtain ⟨x0, s, n, x3, x4, x5, t⟩ := x); (obtain rfl : x0 = 3 := hk); (have hf := foldS_small s)
 refine Ev.st (fun k => g10_eq k a b c d l 3 s n x3 x4 x5 t) (E4.bind (bookOk_ev a b c d l hl) ?_)
 unfold addT
 cases hb : bookB a b c d l with
 | false => exact E4.ct rfl E4.now
 | true =>
  (obtain ⟨_, _, hr, _⟩ := book_parts hb); (have hA := asc_of hr)
  refine E4.cf rfl (E4.bind (reqOk_ev ⟨3, s, n, x3, x4, x5, t⟩) ?_)
  cases hq : reqB ⟨3, s, n, x3, x4, x5, t⟩ with
  | false => exact E4.ct rfl (E4.bind (copy_ev a b c d l hl) E4.now)
  | true =>
   refine E4.cf rfl (E4.bind (codeAdd_ev a b c d l ⟨3, s, n, x3, x4, x5, t⟩ rfl hl hA hx0) ?_)
   show E4 _ (cond (addS a b d l s n == 0) _ _)
   by_cases h0 : addS a b d l s n = 0
   ·rw [h0]
    refine E4.cf rfl (E4.bind (sfold_ev s (by have : s.size ≤ 1000000 := hx0; omega)) (E4.cf rfl (E4.cf rfl (E4.ct rfl ?_))))
    simp only [J10_3_eq]
    exact E4.ct rfl (E4.bind (l19With_ev a b c d l (foldS s) n hl hA (by omega)) E4.now)
   ·refine E4.ct (by simpa using h0) (E4.bind (copy_ev a b c d l hl) (E4.now.val ?_))
    rw [show (addS a b d l s n == 0) = false by simpa using h0]; rfl
theorem clone_ev (l : List En) (hl : Sm l) : Ev (fun k => c105 k [.ro 83 l]) l := by
 refine Ev.step (f := fun k => e105 k [.ro 83 l]) (fun k => by kernel_rfl) ⟨0, fun k _ => ?_⟩
 show cond (appOk ([] : List En) l 24) (some l) none = some l
 rw [appOk_of (by have := hl.1; simp only [List.length_nil]; omega)]; rfl
theorem insert_ev (l : List En) (p : Nat) (e : En) (hl : Sm l) (hp : p ≤ l.length) : Ev (fun k => c148 k [.fr 83 l, .v (.int .i64 (p : Int)), .fr 83 [e]]) (l.take p ++ [e] ++ l.drop p) := by
 refine Ev.step (f := fun k => e148 k [.fr 83 l, .v (.int .i64 (p : Int)), .fr 83 [e]]) (fun k => by kernel_rfl) ⟨0, fun k _ => ?_⟩
 show cond (decide (0 ≤ (p : Int)) && decide ((p : Int) ≤ (l.length : Int)) && decide (0 < [e].length) && okLe (((l.length : Int) + ([e].length : Int)) * 24) 70368744177664) (some (l.take ((p : Nat) : Int).toNat ++ [e] ++ l.drop ((p : Nat) : Int).toNat)) none = _
 (have := hl.1); (rw [decide_eq_true (show 0 ≤ (p : Int) by omega), decide_eq_true (show (p : Int) ≤ (l.length : Int) by omega), decide_eq_true (show 0 < [e].length by simp), okLe_iff.2 (by simp only [List.length_cons, List.length_nil]; omega), Int.toNat_natCast])
 rfl
theorem delete_ev (l : List En) (p q : Nat) (hpq : p < q) (hq : q ≤ l.length) : Ev (fun k => c111 k [.fr 83 l, .v (.int .i64 (p : Int)), .v (.int .i64 (q : Int))]) (l.take p ++ l.drop q) := by
 refine Ev.step (f := fun k => e111 k [.fr 83 l, .v (.int .i64 (p : Int)), .v (.int .i64 (q : Int))]) (fun k => by kernel_rfl) ⟨0, fun k _ => ?_⟩
 show cond (decide (0 ≤ (p : Int)) && decide ((p : Int) < (q : Int)) && decide ((q : Int) ≤ (l.length : Int))) (some (l.take ((p : Nat) : Int).toNat ++ l.drop ((q : Nat) : Int).toNat)) none = _
 rw [decide_eq_true (show 0 ≤ (p : Int) by omega), decide_eq_true (show (p : Int) < (q : Int) by omega), decide_eq_true (show (q : Int) ≤ (l.length : Int) by omega), Int.toNat_natCast, Int.toNat_natCast]
 rfl
theorem cloneBook_ev (a b c d : Int) (l : List En) (hl : Sm l) : Ev (fun k => c54 k [bkA a b c d l]) (a, b, c, d, l) :=
 Ev.st (fun k => g54_eq k a b c d l) (E4.bind (clone_ev l hl) E4.now)
abbrev lbA (a b c d : Int) (l : List En) : SV DD := .pb [.v (.int .i64 a), .v (.int .i64 b), .v (.int .i64 c), .v (.int .i64 d), .fr 83 l]
abbrev DT := Int × Bool × Int × (List S43) × (List Int) × Int × Int × Int × Int × (List En)
theorem first_ev (x : Rq) (hk : x.f0 = 3) (hx : x.f1.size ≤ 1000000) : Ev (fun k => c106 k [rqA x]) (cond (eqS (foldS x.f1) ⟨#[]⟩) 2 (cond (!(decide (0 ≤ x.f2 ∧ x.f2 ≤ 65535))) 3 0)) := by
 (obtain ⟨x0, s, n, x3, x4, x5, t⟩ := x); (obtain rfl : x0 = 3 := hk); (have hx' : s.size ≤ 1000000 := hx)
 refine Ev.st (fun k => g106_eq k 3 s n x3 x4 x5 t) (E4.cf rfl (E4.bind (ifold_ev s (by omega)) ?_))
 show E4 _ (cond (eqS (foldS s) ⟨#[]⟩) 2 (cond (!(decide (0 ≤ n ∧ n ≤ 65535))) 3 0))
 cases h1 : eqS (foldS s) ⟨#[]⟩ with
 | true => exact E4.ct rfl E4.now
 | false =>
  refine E4.cf rfl (E4.gf rfl (E4.gf rfl (E4.cf rfl (E4.gt rfl (within_ev n 0 65535) ?_))))
  cases h2 : decide (0 ≤ n ∧ n ≤ 65535) with
  | false => exact E4.ct rfl E4.now
  | true => exact E4.cf rfl E4.now
theorem add_ev (a b c d : Int) (l : List En) (w : ByteArray) (n : Int) (hl : Sm l) (hb : bookB a b c d l = true) (hw : wordB w = true) :
  Ev (fun k => c109 k [lbA a b c d l, .v (.int .i64 ((lbW l w : Nat) : Int)), .v (.bool (foundB l w)), .agg [.v (.string w), .v (.int .i64 n)]])
   (cond (foundB l w) ((5, false, 0, [], [], a, b, c, d, l) : DT) (cond (decide ((l.length : Int) = d)) (6, false, 0, [], [], a, b, c, d, l) (cond (decide (cntS a b l (shelfS a b w) = 4)) (7, false, 0, [], [], a, b, c, d, l) (0, false, 0, [], [], a, b, c, d, insL l ⟨w, n⟩)))) := by
 (obtain ⟨hc, hd, hr, hsv⟩ := book_parts hb); (obtain ⟨c1, c2, c3, c4, _⟩ := confB_log hc); (have hws := wordB_size hw); (have hlm := hl.1)
 have hwf : ∀ i, i < l.length → wordB (l.getD i (⟨⟨#[]⟩, 0⟩ : En)).f0 = true := fun i hi => by
  unfold rowsB at hr
  have := List.all_eq_true.1 hr i (List.mem_range.2 hi)
  unfold stepB entB at this
  simp only [Bool.and_eq_true] at this
  exact this.1.1
 refine Ev.st (fun k => g109_eq k ((lbW l w : Nat) : Int) (foundB l w) w n a b c d l) (E4.bind (shelf_ev a b w ⟨c1, c2⟩ hw (by omega) (by omega)) ?_)
 have := loop4 (r := (cond (foundB l w) ((5, false, 0, [], [], a, b, c, d, l) : DT) (cond (decide ((l.length : Int) = d)) (6, false, 0, [], [], a, b, c, d, l) (cond (decide (cntS a b l (shelfS a b w) = 4)) (7, false, 0, [], [], a, b, c, d, l) (0, false, 0, [], [], a, b, c, d, insL l ⟨w, n⟩))))) l.length (fun i k m _ _ => L109_1 k m ((lbW l w : Nat) : Int) (foundB l w) (shelfS a b w) (((l.take i).countP fun e => shelfS a b e.f0 == shelfS a b w : Nat) : Int) (l.length : Int) (i : Int) a b c d w n l) ?_ ?_
 ·exact this.e1
 ·intro i hi hr'
  refine E4.s1 (fun k m n p => L109_1_eq k m _ _ _ _ _ _ _ _ _ _ _ _ _) (E4.ct (decide_eq_true (by omega)) (E4.ck (inB_of (by omega) (by omega)) ?_))
  simp only [Int.toNat_natCast]
  refine E4.bind (shelf_ev a b _ ⟨c1, c2⟩ (hwf i hi) (by omega) (by have := hl.get i; omega)) ?_
  (have hc' := countP_take (fun e : En => shelfS a b e.f0 == shelfS a b w) l i hi); (have hle : (l.take i).countP (fun e : En => shelfS a b e.f0 == shelfS a b w) ≤ i := Nat.le_trans List.countP_le_length (by rw [List.length_take]; exact Nat.min_le_left _ _)); (have eg : l.getD i (⟨⟨#[]⟩, 0⟩ : En) = l[i] := getD_lt hi _); (rw [eg, w64_succ (i := i) (by omega)])
  cases hp : (shelfS a b l[i].f0 == shelfS a b w) with
  | true =>
   rw [if_pos hp] at hc'
   refine E4.ct rfl ?_
   (rw [hc'] at hr'); (rw [w64_succ (i := (l.take i).countP fun e : En => shelfS a b e.f0 == shelfS a b w) (by omega)])
   exact hr'
  | false =>
   have hc2 : (l.take (i + 1)).countP (fun e : En => shelfS a b e.f0 == shelfS a b w) = (l.take i).countP (fun e : En => shelfS a b e.f0 == shelfS a b w) := by rw [hc', if_neg (by rw [hp]; exact Bool.false_ne_true)]; rfl
   refine E4.cf rfl ?_
   rw [hc2] at hr'
   exact hr'
 ·refine E4.s1 (fun k m n p => L109_1_eq k m _ _ _ _ _ _ _ _ _ _ _ _ _) (E4.cf (decide_eq_false (by omega)) ?_)
  rw [List.take_length]
  cases h3 : foundB l w with
  | true => exact E4.ct rfl E4.now
  | false =>
   refine E4.cf rfl ?_
   by_cases h4 : (l.length : Int) = d
   ·rw [decide_eq_true h4]
    exact E4.ct (by rw [h4]; exact beq_self_eq_true d) E4.now
   ·rw [decide_eq_false h4]
    refine E4.cf (by simpa using h4) ?_
    by_cases h5 : cntS a b l (shelfS a b w) = 4
    ·rw [decide_eq_true h5]
     have h5' : (l.countP fun e : En => shelfS a b e.f0 == shelfS a b w) = 4 := h5
     exact E4.ct (by rw [h5']; rfl) E4.now
    ·rw [decide_eq_false h5]
     have h5' : ¬ (l.countP fun e : En => shelfS a b e.f0 == shelfS a b w) = 4 := h5
     exact E4.cf (by simp; omega) (E4.bind (insert_ev l (lbW l w) ⟨w, n⟩ hl (lb_le l w)) E4.now)
theorem implAdd_ev (a b c d : Int) (l : List En) (x : Rq) (hk : x.f0 = 3) (hl : Sm l) (hx : x.f1.size ≤ 1000000) : Ev (fun k => c11 k [bkA a b c d l, rqA x]) (addT a b c d l (insL l ⟨foldS x.f1, x.f2⟩) x) := by
 (have hx0 := hx); (obtain ⟨x0, s, n, x3, x4, x5, t⟩ := x); (obtain rfl : x0 = 3 := hk); (have hf := foldS_small s)
 refine Ev.st (fun k => g11_eq k a b c d l 3 s n x3 x4 x5 t) (E4.bind (isBook_ev a b c d l hl) ?_)
 unfold addT
 cases hb : bookB a b c d l with
 | false => exact E4.ct rfl E4.now
 | true =>
  (obtain ⟨_, _, hr, _⟩ := book_parts hb); (have hA := asc_of hr)
  refine E4.cf rfl (E4.bind (isReq_ev ⟨3, s, n, x3, x4, x5, t⟩) ?_)
  cases hq : reqB ⟨3, s, n, x3, x4, x5, t⟩ with
  | false => exact E4.ct rfl (E4.bind (cloneBook_ev a b c d l hl) E4.now)
  | true =>
   refine E4.cf rfl (E4.bind (cloneBook_ev a b c d l hl) ?_)
   -- what the change answers
   have hdo : Ev (fun k => c55 k [lbA a b c d l, rqA ⟨3, s, n, x3, x4, x5, t⟩]) (cond (addS a b d l s n == 0) ((0, false, 0, [], [], a, b, c, d, insL l ⟨foldS s, n⟩) : DT) (addS a b d l s n, false, 0, [], [], a, b, c, d, l)) := by
    refine Ev.st (fun k => g55_eq k 3 s n x3 x4 x5 t a b c d l) (E4.bind (first_ev ⟨3, s, n, x3, x4, x5, t⟩ rfl hx0) ?_)
    show E4 (fun k _ _ _ => cond ((cond (eqS (foldS s) ⟨#[]⟩) 2 (cond (!(decide (0 ≤ n ∧ n ≤ 65535))) 3 0) : Int) != 0) _ _) _
    unfold addS
    cases h1 : eqS (foldS s) ⟨#[]⟩ with
    | true => exact E4.ct rfl E4.now
    | false =>
     cases h2 : decide (0 ≤ n ∧ n ≤ 65535) with
     | false => exact E4.ct rfl E4.now
     | true =>
      refine E4.cf rfl (E4.bind (ifold_ev s (by have : s.size ≤ 1000000 := hx0; omega)) (E4.bind (bookFind_ev a b c d l (foldS s) hl hA) (E4.cf rfl (E4.cf rfl (E4.ct rfl ?_)))))
      refine E4.bind (add_ev a b c d l (foldS s) n hl hb (foldS_word h1)) (E4.now.val ?_)
      cases foundB l (foldS s) <;> cases decide ((l.length : Int) = d) <;> cases decide (cntS a b l (shelfS a b (foldS s)) = 4) <;> rfl
   refine E4.bind hdo (E4.now.val ?_)
   show _ = cond (addS a b d l s n == 0) _ _
   cases addS a b d l s n == 0 <;> rfl
theorem ents_of {l : List En} (h : rowsB l = true) : ∀ e, e ∈ l → entB e = true := fun e he => by
 obtain ⟨i, hi, rfl⟩ := List.mem_iff_getElem.1 he
 unfold rowsB at h
 have := List.all_eq_true.1 h i (List.mem_range.2 hi)
 unfold stepB at this
 rw [Bool.and_eq_true, getD_lt hi _] at this
 exact this.1
theorem rows_of {l : List En} (h : ∀ e, e ∈ l → entB e = true) (ha : Asc l) : rowsB l = true := by
 unfold rowsB
 rw [List.all_eq_true]
 intro i hi
 rw [List.mem_range] at hi
 unfold stepB
 rw [Bool.and_eq_true]
 refine ⟨by rw [getD_lt hi _]; exact h _ (List.getElem_mem hi), ?_⟩
 by_cases h0 : i = 0
 ·rw [decide_eq_true h0]; rfl
 ·rw [ha (i - 1) i (by omega) hi, Bool.or_true]
theorem ins_length (l : List En) (e : En) : (insL l e).length = l.length + 1 := by
 have := lb_le l e.f0
 unfold insL
 simp only [List.length_append, List.length_take, List.length_drop, List.length_cons, List.length_nil]
 omega
theorem ins_mem {l : List En} {e x : En} : x ∈ insL l e ↔ x = e ∨ x ∈ l := by
 unfold insL
 simp only [List.mem_append, List.mem_singleton]
 constructor
 ·rintro ((h | h) | h)
  ·exact .inr (List.mem_of_mem_take h)
  ·exact .inl h
  ·exact .inr (List.mem_of_mem_drop h)
 ·rintro (h | h)
  ·exact .inl (.inr h)
  ·rw [← List.take_append_drop (lbW l e.f0) l, List.mem_append] at h
   exact h.elim (fun h => .inl (.inl h)) .inr
theorem ins_count (l : List En) (e : En) (p : En → Bool) : (insL l e).countP p = l.countP p + (if p e = true then 1 else 0) := by
 unfold insL
 have : l.countP p = (l.take (lbW l e.f0)).countP p + (l.drop (lbW l e.f0)).countP p := by
  rw [← List.countP_append, List.take_append_drop]
 rw [List.countP_append, List.countP_append, this, List.countP_cons, List.countP_nil]
 omega
theorem lb_in (l : List En) (e : En) : lbW (insL l e) e.f0 = lbW l e.f0 := by
 unfold lbW
 rw [ins_count, if_neg (by rw [lessB_irrefl]; exact Bool.false_ne_true), Nat.add_zero]
theorem ins_at (l : List En) (e : En) : (insL l e).getD (lbW l e.f0) (⟨⟨#[]⟩, 0⟩ : En) = e := by
 have := lb_le l e.f0
 unfold insL
 rw [List.getD_eq_getElem?_getD, List.append_assoc, List.getElem?_append_right (by rw [List.length_take]; omega), List.length_take, Nat.min_eq_left this, Nat.sub_self]
 rfl
theorem ins_found (l : List En) (e : En) : foundB (insL l e) e.f0 = true := by
 have := lb_le l e.f0
 unfold foundB
 rw [lb_in, ins_at, eqS_refl, ins_length, decide_eq_true (show lbW l e.f0 < l.length + 1 by omega)]
 rfl
theorem ins_out (l : List En) (e : En) : (insL l e).take (lbW l e.f0) ++ (insL l e).drop (lbW l e.f0 + 1) = l := by
 have h := lb_le l e.f0
 unfold insL
 (have h1 : (l.take (lbW l e.f0)).length = lbW l e.f0 := by rw [List.length_take]; omega); (rw [List.append_assoc, List.take_append_of_le_length (by omega), List.take_of_length_le (by omega), List.drop_append_of_le_length' h1])
 exact List.take_append_drop _ _
where
 List.drop_append_of_le_length' {α : Type} {x : List α} {y : α} {z : List α} {n : Nat} (h : x.length = n) : (x ++ ([y] ++ z)).drop (n + 1) = z := by
  rw [← h, List.drop_append, List.drop_of_length_le (by omega), Nat.add_sub_cancel_left]
  rfl
theorem ins_asc {l : List En} {e : En} (h : Asc l) (hn : foundB l e.f0 = false) : Asc (insL l e) := by
 (have sp := lb_spec h e.f0); (have hp := (asc_iff l).1 h); (rw [asc_iff])
 unfold insL
 rw [List.pairwise_append, List.pairwise_append]
 have h1 : ∀ x, x ∈ l.take (lbW l e.f0) → lessB x.f0 e.f0 = true := fun x hx => by
  (obtain ⟨i, hi, rfl⟩ := List.mem_iff_getElem.1 hx); (rw [List.length_take] at hi); (rw [List.getElem_take]); (have := (sp i (by omega)).2 (by omega))
  rwa [getD_lt (show i < l.length by omega) _] at this
 have h2 : ∀ x, x ∈ l.drop (lbW l e.f0) → lessB e.f0 x.f0 = true := fun x hx => by
  (obtain ⟨i, hi, rfl⟩ := List.mem_iff_getElem.1 hx); (rw [List.length_drop] at hi); (rw [List.getElem_drop])
  rcases lessB_total e.f0 (l[lbW l e.f0 + i]'(by omega)).f0 with h3 | h3 | h3
  ·exact h3
  ·have : foundB l e.f0 = true := (found_iff h e.f0).2 ⟨lbW l e.f0 + i, by omega, by rw [getD_lt (show lbW l e.f0 + i < l.length by omega) _]; exact h3.symm⟩
   rw [this] at hn; cases hn
  ·have := (sp (lbW l e.f0 + i) (by omega)).1 (by rw [getD_lt (show lbW l e.f0 + i < l.length by omega) _]; exact h3)
   omega
 refine ⟨⟨hp.sublist (List.take_sublist _ _), List.pairwise_singleton _ _, fun x hx y hy => ?_⟩, hp.sublist (List.drop_sublist _ _), fun x hx y hy => ?_⟩
 ·rw [List.mem_singleton.1 hy]; exact h1 x hx
 ·rcases List.mem_append.1 hx with hx | hx
  ·exact lessB_trans (h1 x hx) (h2 y hy)
  ·rw [List.mem_singleton.1 hx]; exact h2 y hy
theorem shelves_iff (a b : Int) (l : List En) : shelvesB a b l = true ↔ ∀ x, x ∈ l → cntS a b l (shelfS a b x.f0) ≤ 4 := by
 unfold shelvesB
 rw [List.all_eq_true]
 constructor
 ·intro h x hx
  (obtain ⟨i, hi, rfl⟩ := List.mem_iff_getElem.1 hx); (have := h i (List.mem_range.2 hi))
  rwa [decide_eq_true_eq, getD_lt hi _] at this
 ·intro h i hi
  (rw [List.mem_range] at hi); (rw [decide_eq_true_eq, getD_lt hi _])
  exact h _ (List.getElem_mem hi)
theorem add_zero {a b d : Int} {l : List En} {s : ByteArray} {n : Int} (h : addS a b d l s n = 0) : eqS (foldS s) ⟨#[]⟩ = false ∧ (0 ≤ n ∧ n ≤ 65535) ∧ foundB l (foldS s) = false ∧ (l.length : Int) ≠ d ∧ cntS a b l (shelfS a b (foldS s)) ≠ 4 := by
 unfold addS at h
 cases h1 : eqS (foldS s) ⟨#[]⟩ with
 | true => rw [h1] at h; cases h
 | false =>
  rw [h1] at h
  by_cases h2 : 0 ≤ n ∧ n ≤ 65535
  ·rw [decide_eq_true h2] at h
   cases h3 : foundB l (foldS s) with
   | true => rw [h3] at h; cases h
   | false =>
    rw [h3] at h
    by_cases h4 : (l.length : Int) = d
    ·rw [decide_eq_true h4] at h; cases h
    ·rw [decide_eq_false h4] at h
     by_cases h5 : cntS a b l (shelfS a b (foldS s)) = 4
     ·rw [decide_eq_true h5] at h; cases h
     ·exact ⟨rfl, h2, rfl, h4, h5⟩
  ·rw [decide_eq_false h2] at h; cases h
theorem ins_book {a b c d : Int} {l : List En} {s : ByteArray} {n : Int} (hb : bookB a b c d l = true) (h : addS a b d l s n = 0) : bookB a b c d (insL l ⟨foldS s, n⟩) = true := by
 (obtain ⟨k1, k2, k3, k4⟩ := book_parts hb); (obtain ⟨z1, z2, z3, z4, z5⟩ := add_zero h); (have hA := asc_of k3); (have hw := foldS_word z1)
 unfold bookB
 have r1 : rowsB (insL l ⟨foldS s, n⟩) = true := rows_of (fun e he => by
  rcases ins_mem.1 he with rfl | he
  ·unfold entB; rw [hw, decide_eq_true z2]; rfl
  ·exact ents_of k3 e he) (ins_asc hA z3)
 have hpos : ∀ t, 0 < cntS a b l t → cntS a b l t ≤ 4 := fun t ht => by
  (have ht' : 0 < l.countP fun e => shelfS a b e.f0 == t := ht); (rw [List.countP_pos_iff] at ht'); (obtain ⟨e, he, h1⟩ := ht'); (have := (shelves_iff a b l).1 k4 e he)
  rwa [eq_of_beq h1] at this
 have r2 : shelvesB a b (insL l ⟨foldS s, n⟩) = true := (shelves_iff _ _ _).2 fun x hx => by
  (have e1 : cntS a b (insL l ⟨foldS s, n⟩) (shelfS a b x.f0) = cntS a b l (shelfS a b x.f0) + (if (shelfS a b (foldS s) == shelfS a b x.f0) = true then 1 else 0) := ins_count l ⟨foldS s, n⟩ fun e => shelfS a b e.f0 == shelfS a b x.f0); (rw [e1])
  by_cases he : (shelfS a b (foldS s) == shelfS a b x.f0) = true
  ·rw [if_pos he, ← eq_of_beq he]
   by_cases h0 : 0 < cntS a b l (shelfS a b (foldS s))
   ·have := hpos _ h0; omega
   ·omega
  ·rw [if_neg he]
   by_cases h0 : 0 < cntS a b l (shelfS a b x.f0)
   ·have := hpos _ h0; omega
   ·omega
 rw [k1, r1, r2, ins_length, decide_eq_true (by omega)]; rfl
theorem ins_sm {l : List En} {e : En} (h : Sm l) (hl : l.length ≤ 999999) (he : e.f0.size ≤ 1000000) : Sm (insL l e) := ⟨by rw [ins_length]; omega, fun x hx => by
 rcases ins_mem.1 hx with rfl | hx
 ·exact he
 ·exact h.2 x hx⟩
end Go.Proofs.YtfeikakkfnnaoaaGreatDoor.V
namespace Go.Proofs.YtfeikakkfnnaoaaGreatDoor.V
open Go Go.RowKit Go.Proofs.YtfeikakkfnnaoaaGreatDoor.L Go.Proofs.YtfeikakkfnnaoaaGreatDoor.QA Go.Proofs.YtfeikakkfnnaoaaGreatDoorW.PrintWords Go.Proofs.YtfeikakkfnnaoaaGreatDoorW.PrintLast Go.Proofs.YtfeikakkfnnaoaaGreatDoorW.PrintMore
set_option linter.unusedVariables false
set_option linter.unusedSimpArgs false
theorem low_word {w : ByteArray} (h : wordB w = true) : lowS w = w := by
 (have h2 : lettersB w = true := by unfold wordB at h; rw [Bool.and_eq_true] at h; exact h.2); (rw [lettersB_all, List.all_eq_true] at h2)
 unfold lowS
 refine bytes_ext ?_
 show (w.data.toList.map lowU).toArray.toList = w.data.toList
 refine (List.map_congr_left (g := id) fun b hb => ?_).trans (List.map_id _)
 have := h2 b hb
 unfold letU at this
 rw [decide_eq_true_eq] at this
 unfold lowU
 rw [if_neg (by omega)]; rfl
theorem fold_word {w : ByteArray} (h : wordB w = true) : foldS w = w := by
 have hs := wordB_size h
 unfold foldS
 rw [low_word h, if_pos ⟨hs.2, h⟩]
theorem first14_ev (q : Int) (s : ByteArray) (hq : q = 1 ∨ q = 4) (hs : s.size ≤ 1000000) (h1 : eqS (foldS s) ⟨#[]⟩ = false) : Ev (fun k => c106 k [rqA ⟨q, s, 0, 0, 0, 0, ⟨#[]⟩⟩]) 0 := by
 refine Ev.st (fun k => g106_eq k q s 0 0 0 0 ⟨#[]⟩) ?_
 rcases hq with rfl | rfl <;> exact E4.cf rfl (E4.bind (ifold_ev s (by omega)) (E4.cf h1 (E4.gf rfl (E4.gf rfl (E4.cf rfl (E4.gf rfl (E4.cf rfl E4.now)))))))
theorem req14 {q : Int} {s : ByteArray} (hq : q = 1 ∨ q = 4) (hs : s.size ≤ 100) : reqB ⟨q, s, 0, 0, 0, 0, ⟨#[]⟩⟩ = true := by
 unfold reqB
 have : shapeB q 0 = true := by rcases hq with rfl | rfl <;> rfl
 show (shapeB q 0 && (decide (s.size ≤ 100) && decide ((⟨#[]⟩ : ByteArray).size ≤ 2000))) = true
 rw [this, decide_eq_true hs]; rfl
theorem check_ev (a b c d : Int) (l : List En) (s : ByteArray) (hl : Sm l) (hb : bookB a b c d l = true) (hs : s.size ≤ 100) (h1 : eqS (foldS s) ⟨#[]⟩ = false) :
  Ev (fun k => c11 k [bkA a b c d l, rqA ⟨1, s, 0, 0, 0, 0, ⟨#[]⟩⟩]) ((a, b, c, d, l, 0, foundB l (foldS s), cond (foundB l (foldS s)) (l.getD (lbW l (foldS s)) (⟨⟨#[]⟩, 0⟩ : En)).f1 0, [], []) : BT) := by
 (obtain ⟨_, _, hr, _⟩ := book_parts hb); (have hA := asc_of hr)
 have hdo : Ev (fun k => c55 k [lbA a b c d l, rqA ⟨1, s, 0, 0, 0, 0, ⟨#[]⟩⟩]) ((0, foundB l (foldS s), cond (foundB l (foldS s)) (l.getD (lbW l (foldS s)) (⟨⟨#[]⟩, 0⟩ : En)).f1 0, [], [], a, b, c, d, l) : DT) := by
  refine Ev.st (fun k => g55_eq k 1 s 0 0 0 0 ⟨#[]⟩ a b c d l) (E4.bind (first14_ev 1 s (.inl rfl) (by omega) h1) (E4.cf rfl (E4.bind (ifold_ev s (by omega)) (E4.bind (bookFind_ev a b c d l (foldS s) hl hA) (E4.ct rfl ?_)))))
  cases hf : foundB l (foldS s) with
  | true =>
   have h2 : lbW l (foldS s) < l.length := by
    unfold foundB at hf
    rw [Bool.and_eq_true, decide_eq_true_eq] at hf
    exact hf.1
   exact E4.ct rfl (E4.ck (inB_of (by show (0 : Int) ≤ ((lbW l (foldS s) : Nat) : Int); omega) (by show ((lbW l (foldS s) : Nat) : Int) < _; omega)) (E4.now.val rfl))
  | false =>
   simp only [J55_1_eq]
   exact E4.cf rfl E4.now
 refine Ev.st (fun k => g11_eq k a b c d l 1 s 0 0 0 0 ⟨#[]⟩) (E4.bind (isBook_ev a b c d l hl) (E4.cf (by rw [hb]; rfl) (E4.bind (isReq_ev ⟨1, s, 0, 0, 0, 0, ⟨#[]⟩⟩) (E4.cf (by rw [req14 (.inl rfl) hs]; rfl) (E4.bind (cloneBook_ev a b c d l hl) (E4.bind hdo E4.now))))))
theorem drop_ev (a b c d : Int) (l : List En) (s : ByteArray) (hl : Sm l) (hb : bookB a b c d l = true) (hs : s.size ≤ 100) (h1 : eqS (foldS s) ⟨#[]⟩ = false) (hf : foundB l (foldS s) = true) :
  Ev (fun k => c11 k [bkA a b c d l, rqA ⟨4, s, 0, 0, 0, 0, ⟨#[]⟩⟩]) ((a, b, c, d, l.take (lbW l (foldS s)) ++ l.drop (lbW l (foldS s) + 1), 0, false, 0, [], []) : BT) := by
 (obtain ⟨_, _, hr, _⟩ := book_parts hb); (have hA := asc_of hr); (have hlm := hl.1)
 have h2 : lbW l (foldS s) < l.length := by
  have hf' := hf
  unfold foundB at hf'
  rw [Bool.and_eq_true, decide_eq_true_eq] at hf'
  exact hf'.1
 have hdo : Ev (fun k => c55 k [lbA a b c d l, rqA ⟨4, s, 0, 0, 0, 0, ⟨#[]⟩⟩]) ((0, false, 0, [], [], a, b, c, d, l.take (lbW l (foldS s)) ++ l.drop (lbW l (foldS s) + 1)) : DT) := by
  refine Ev.st (fun k => g55_eq k 4 s 0 0 0 0 ⟨#[]⟩ a b c d l) (E4.bind (first14_ev 4 s (.inr rfl) (by omega) h1) (E4.cf rfl (E4.bind (ifold_ev s (by omega)) (E4.bind (bookFind_ev a b c d l (foldS s) hl hA) ?_))))
  refine E4.cf rfl (E4.cf rfl (E4.cf rfl (E4.cf rfl (E4.cf ?_ (E4.ct rfl ?_)))))
  ·show (!(foundB l (foldS s))) = false
   rw [hf]; rfl
  (simp only [J55_2_eq]); (rw [w64_succ (i := lbW l (foldS s)) (by omega)])
  exact E4.bind (delete_ev l (lbW l (foldS s)) (lbW l (foldS s) + 1) (by omega) (by omega)) E4.now
 refine Ev.st (fun k => g11_eq k a b c d l 4 s 0 0 0 0 ⟨#[]⟩) (E4.bind (isBook_ev a b c d l hl) (E4.cf (by rw [hb]; rfl) (E4.bind (isReq_ev ⟨4, s, 0, 0, 0, 0, ⟨#[]⟩⟩) (E4.cf (by rw [req14 (.inr rfl) hs]; rfl) (E4.bind (cloneBook_ev a b c d l hl) (E4.bind hdo E4.now))))))
theorem beqB_self (b : ByteArray) : (b == b) = true := by
 cases b with
 | mk d => show (d == d) = true; simp
theorem same_ev (l : List En) (hl : Sm l) : Ev (fun k => c14 k [.ro 83 l, .ro 83 l]) true := by
 have hlm := hl.1
 refine Ev.st (fun k => g14_eq k l l) (E4.cf (by simp) ?_)
 have := loop4 (r := true) l.length (fun i k m _ _ => L14_1 k m l l (i : Int)) ?_ ?_
 ·exact this.e1
 ·intro i hi hr
  refine E4.s1 (fun k m n p => L14_1_eq k m _ _ _) (E4.ct (decide_eq_true (by omega)) (E4.ck (inB_of (by omega) (by omega)) (E4.ck (inB_of (by omega) (by omega)) (E4.cf (by simp [beqB_self]) ?_))))
  rw [w64_succ (i := i) (by omega)]; exact hr
 ·exact E4.s1 (fun k m n p => L14_1_eq k m _ _ _) (E4.cf (decide_eq_false (by omega)) E4.now)
end Go.Proofs.YtfeikakkfnnaoaaGreatDoor.V
