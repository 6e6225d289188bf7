/- Part of the proof of the law FnTextsBack: what it uses of the texts that this session and the kit's print wrote. -/
import Derived.Test.YtgnbfmoifnfneaaDoorZFnTextsBackx0
import Derived.Test.YtgnbfmoifnfneaaDoorZFnTextsBackx5
import Derived.Test.YtgnbfmoifnfneaaDoorZFnTextsBackx6
import Derived.Test.YtgnbfmoifnfneaaDoorZFnTextsBackx7
import Derived.Test.YtgnbfmoifnfneaaDoorZFnTextsBackx8
import Derived.Test.YtgnbfmoifnfneaaDoorZFnTextsBackx9
import Derived.Test.YtgnbfmoifnfneaaDoorZFnTextsBackx10
import Derived.Test.YtgnbfmoifnfneaaDoorZFnTextsBackx11
import Derived.RowKit
import Derived.Deep.Slices
import Derived.WideShapes
import Derived.ProofKit
import Derived.Lib.ItoaNum
import Derived.Lib.ItoaLen
import Derived.Laws.Strings
import Derived.Lib.SplitLaws
import Derived.Lib.AtoiAllCases
import Derived.KernelRfl
namespace Go.Proofs.YtgnbfmoifnfneaaDoor.V
open Go Go.RowKit Go.Proofs.YtgnbfmoifnfneaaDoorW.PrintWords Go.Proofs.YtgnbfmoifnfneaaDoorW.PrintLast Go.Proofs.YtgnbfmoifnfneaaDoorW.PrintMore
set_option linter.unusedVariables false
set_option linter.unusedSimpArgs false
def Byt (l : List Int) : Prop := ∀ x, x ∈ l → 0 ≤ x ∧ x ≤ 255
theorem getD_byt {l : List Int} (h : Byt l) (i : Nat) : 0 ≤ l.getD i 0 ∧ l.getD i 0 ≤ 255 := by
 rw [List.getD_eq_getElem?_getD]
 cases e : l[i]? with
 | none => simp
 | some x => exact h x (List.mem_of_getElem? e)
theorem w64_def (x : Int) : w64 x = wrap64 x := by
 unfold w64 wrap64 IntKind.wrap
 (have e1 : (2 : Int) ^ 64 = 18446744073709551616 := by decide); (have e2 : (2 : Int) ^ (64 - 1) = 9223372036854775808 := by decide); (simp only [IntKind.bits, IntKind.signed, Bool.true_and, decide_eq_true_eq, e1, e2])
 split <;> omega
theorem w64_id {x : Int} (h0 : -9223372036854775808 ≤ x) (h1 : x ≤ 9223372036854775807) : w64 x = x := by rw [w64_def]; unfold wrap64; omega
def Tot {α : Type} (f : Nat → Option α) (Q : α → Prop) : Prop := ∃ r, Ev f r ∧ Q r
section
variable {α β : Type} {f g : Nat → Option α} {Q R : α → Prop} {b : Bool}
theorem Tot.now {r : α} (h : Q r) : Tot (fun _ => some r) Q := ⟨r, Ev.now r, h⟩
theorem Tot.step {c : Nat → Option α} (h : ∀ k, c (k + 1) = f k) (hf : Tot f Q) : Tot c Q := hf.elim fun r hr => ⟨r, Ev.step h hr.1, hr.2⟩
theorem Tot.bind {h : Nat → Option β} {S : β → Prop} {f : Nat → β → Option α} (hg : Tot h S) (hf : ∀ r, S r → Tot (fun k => f k r) Q) : Tot (fun k => (h k).bind (f k)) Q := by
 (obtain ⟨r, h1, h2⟩ := hg); (obtain ⟨x, h3, h4⟩ := hf r h2)
 exact ⟨x, Ev.bind h1 h3, h4⟩
theorem Tot.ite (h1 : b = true → Tot g Q) (h2 : b = false → Tot f Q) : Tot (fun k => cond b (g k) (f k)) Q := by
 cases b
 ·exact h2 rfl
 ·exact h1 rfl
theorem Tot.chk (h1 : b = true) (h2 : Tot g Q) : Tot (fun k => chk true b (g k)) Q := by subst h1; exact h2
theorem Tot.mono (h : Tot f Q) (hQ : ∀ r, Q r → R r) : Tot f R := h.elim fun r hr => ⟨r, hr.1, hQ r hr.2⟩
end
theorem inB_of {n l : Int} (h0 : 0 ≤ n) (h1 : n < l) : inB n l = true := by simp [inB, h0, h1]
def Cur (p s b : Int) : Prop := 0 ≤ p ∧ p ≤ b ∧ 0 ≤ s ∧ s ≤ 65521
theorem Cur.le {p s b b' : Int} (h : Cur p s b) (hb : b ≤ b') : Cur p s b' := ⟨h.1, Int.le_trans h.2.1 hb, h.2.2⟩
theorem tmod_range {a n : Int} (ha : 0 ≤ a) (hn : 0 < n) : 0 ≤ Int.tmod a n ∧ Int.tmod a n < n := by
 rw [Int.tmod_eq_emod_of_nonneg ha]
 exact ⟨Int.emod_nonneg _ (by omega), Int.emod_lt_of_pos _ hn⟩
theorem pick_tot {c : List Int} (hc : Byt c) (hl : c.length ≤ 1048576) {p s b : Int} (h : Cur p s b) (hb : b ≤ 4611686018427387904) (n : Int) :
  Tot (fun k => c40 k [.pb [.ro 5 c, .v (.int .i64 p), .v (.int .i64 s)], .v (.int .i64 n)]) fun r => 0 ≤ r.1 ∧ (1 ≤ n → r.1 < n) ∧ r.2.1 = c ∧ Cur r.2.2.1 r.2.2.2 (b + 1) := by
 obtain ⟨h1, h2, h3, h4⟩ := h
 refine Tot.step (fun k => g40_eq k n c p s) ?_
 dsimp only [g40, g40_n1, g40_n2, g40_n4]
 (have e1 : w64 (p + 1) = p + 1 := w64_id (by omega) (by omega)); (have hs := tmod_range (a := w64 ((w64 (s * 1103)) + 12345)) (n := 65521) (by rw [w64_id (x := s * 1103) (by omega) (by omega), w64_id (by omega) (by omega)]; omega) (by omega))
 refine Tot.ite (fun hn => ?_) (fun hn => ?_)
 ·have hn := of_decide_eq_true hn
  exact Tot.now ⟨by simp, by simp; omega, rfl, h1, by simp; omega, h3, h4⟩
 (have hn := of_decide_eq_false hn); (have hn0 : (n != 0) = true := by simp; omega)
 refine Tot.ite (fun h5 => ?_) (fun h5 => ?_)
 ·have h5 := of_decide_eq_true h5
  refine Tot.chk (inB_of h1 h5) (Tot.chk hn0 (Tot.now ?_))
  (have hr := getD_byt hc p.toNat); (have ht := tmod_range (a := w64 (c.getD p.toNat 0)) (n := n) (by rw [w64_id (by omega) (by omega)]; omega) (by omega))
  exact ⟨ht.1, fun _ => ht.2, rfl, by rw [e1]; simp; omega, by rw [e1]; simp; omega, h3, h4⟩
 have h5 := of_decide_eq_false h5
 refine Tot.ite (fun h6 => ?_) (fun h6 => ?_)
 ·have h6 := of_decide_eq_true h6
  have hq := tmod_range (a := p) (n := (c.length : Int)) h1 h6
  refine Tot.chk (by simp; intro e; rw [e] at h6; simp at h6) (Tot.chk (inB_of hq.1 hq.2) (Tot.chk hn0 (Tot.now ?_)))
  have hr := getD_byt hc (Int.tmod p (c.length : Int)).toNat
  have ht := tmod_range (a := w64 ((w64 (Int.tdiv (Int.tmod (w64 ((w64 (s * 1103)) + 12345)) 65521) 7)) + (w64 (c.getD (Int.tmod p (c.length : Int)).toNat 0)))) (n := n) (by
   generalize c.getD (Int.tmod p (c.length : Int)).toNat 0 = r at hr
   generalize Int.tmod (w64 ((w64 (s * 1103)) + 12345)) 65521 = t at hs
   (rw [Int.tdiv_eq_ediv_of_nonneg hs.1]); (simp only [w64_def])
   unfold wrap64
   omega) (by omega)
  exact ⟨ht.1, fun _ => ht.2, rfl, by rw [e1]; simp; omega, by rw [e1]; simp; omega, hs.1, by simp; omega⟩
 ·refine Tot.chk hn0 (Tot.now ⟨by simp, fun _ => by simp; omega, rfl, by rw [e1]; simp; omega, by rw [e1]; simp; omega, hs.1, by simp; omega⟩)
theorem wide_tot {c : List Int} (hc : Byt c) (hl : c.length ≤ 1048576) {p s b : Int} (h : Cur p s b) (hb : b ≤ 4611686018427387000) (n : Int) (hn : 1 ≤ n) :
  Tot (fun k => c55 k [.pb [.ro 5 c, .v (.int .i64 p), .v (.int .i64 s)], .v (.int .i64 n)]) fun r => 0 ≤ r.1 ∧ r.1 < n ∧ r.2.1 = c ∧ Cur r.2.2.1 r.2.2.2 (b + 3) := by
 refine Tot.step (fun k => g55_eq k n c p s) ?_
 dsimp only [g55]
 refine Tot.bind (pick_tot hc hl h (by omega) 256) ?_
 rintro ⟨x1, _, p1, s1⟩ ⟨a1, b1, rfl, c1⟩
 refine Tot.bind (pick_tot hc hl c1 (by omega) 256) ?_
 rintro ⟨x2, _, p2, s2⟩ ⟨a2, b2, rfl, c2⟩
 refine Tot.bind (pick_tot hc hl c2 (by omega) 256) ?_
 rintro ⟨x3, _, p3, s3⟩ ⟨a3, b3, rfl, c3⟩
 try dsimp only at *
 (have b1 := b1 (by omega); have b2 := b2 (by omega); have b3 := b3 (by omega)); (have hp : 0 ≤ w64 (w64 (w64 (65536 * x1) + w64 (256 * x2)) + x3) := by simp only [w64_def]; unfold wrap64; omega); (have ht := tmod_range (n := n) hp (by omega))
 exact Tot.chk (by simp; omega) (Tot.now ⟨ht.1, ht.2, rfl, c3.le (by omega)⟩)
theorem raw_tot {c : List Int} (hc : Byt c) (hl : c.length ≤ 1048576) {p s b : Int} (h : Cur p s b) (hb : b ≤ 4611686018427387000) :
  Tot (fun k => c43 k [.pb [.ro 5 c, .v (.int .i64 p), .v (.int .i64 s)]]) fun r => r.2.1 = c ∧ Cur r.2.2.1 r.2.2.2 (b + 2) := by
 refine Tot.step (fun k => g43_eq k c p s) ?_
 dsimp only [g43]
 repeat' first
  | (refine Tot.bind (pick_tot hc hl (by assumption) (by omega) _) ?_; rintro ⟨_, _, _, _⟩ ⟨_, hlt, rfl, _⟩; have hlt := hlt (by decide); dsimp only at *)
  | refine Tot.chk (inB_of (by assumption) (by simp only [List.length_cons, List.length_nil]; omega)) ?_
  | refine Tot.ite (fun _ => ?_) (fun _ => ?_)
  | exact Tot.now ⟨rfl, Cur.le (by assumption) (by omega)⟩
theorem once_tot {c : List Int} (hc : Byt c) (hl : c.length ≤ 1048576) {p s b : Int} (h : Cur p s b) (hb : b ≤ 4611686018427387000) (n : Int) :
  Tot (fun k => c22 k [.pb [.ro 5 c, .v (.int .i64 p), .v (.int .i64 s)], .v (.int .i64 n)]) fun r => r.2.1 = c ∧ Cur r.2.2.1 r.2.2.2 (b + 1) := by
 refine Tot.step (fun k => g22_eq k n c p s) ?_
 dsimp only [g22]
 refine Tot.bind (pick_tot hc hl h (by omega) _) ?_
 rintro ⟨_, _, _, _⟩ ⟨_, _, rfl, _⟩
 exact Tot.now ⟨rfl, by assumption⟩
theorem conf_tot {c : List Int} (hc : Byt c) (hl : c.length ≤ 1048576) {p s b : Int} (h : Cur p s b) (hb : b ≤ 4611686018427380000) :
  Tot (fun k => c39 k [.pb [.ro 5 c, .v (.int .i64 p), .v (.int .i64 s)]]) fun r => r.2.2.2.2.1 = c ∧ Cur r.2.2.2.2.2.1 r.2.2.2.2.2.2 (b + 6) := by
 refine Tot.step (fun k => g39_eq k c p s) ?_
 dsimp only [g39]
 repeat' first
  | (refine Tot.bind (pick_tot hc hl (by assumption) (by omega) _) ?_; rintro ⟨_, _, _, _⟩ ⟨_, hlt, rfl, _⟩; have hlt := hlt (by decide); dsimp only at *)
  | (refine Tot.bind (wide_tot hc hl (by assumption) (by omega) _ (by decide)) ?_; rintro ⟨_, _, _, _⟩ ⟨_, _, rfl, _⟩; dsimp only at *)
  | refine Tot.chk (inB_of (by assumption) (by simp only [List.length_cons, List.length_nil]; omega)) ?_
  | refine Tot.ite (fun _ => ?_) (fun _ => ?_)
  | exact Tot.now ⟨rfl, Cur.le (by assumption) (by omega)⟩
theorem key_tot {c : List Int} (hc : Byt c) (hl : c.length ≤ 1048576) {p s b : Int} (h : Cur p s b) (hb : b ≤ 4611686018427380000) :
  Tot (fun k => c41 k [.pb [.ro 5 c, .v (.int .i64 p), .v (.int .i64 s)]]) fun r => r.2.1 = c ∧ Cur r.2.2.1 r.2.2.2 (b + 7) := by
 refine Tot.step (fun k => g41_eq k c p s) ?_
 dsimp only [g41]
 repeat' first
  | (refine Tot.bind (pick_tot hc hl (by assumption) (by omega) _) ?_; rintro ⟨_, _, _, _⟩ ⟨_, hlt, rfl, _⟩; have hlt := hlt (by decide); dsimp only at *)
  | (refine Tot.bind (wide_tot hc hl (by assumption) (by omega) _ (by decide)) ?_; rintro ⟨_, _, _, _⟩ ⟨_, _, rfl, _⟩; dsimp only at *)
  | (refine Tot.bind (raw_tot hc hl (by assumption) (by omega)) ?_; rintro ⟨_, _, _, _⟩ ⟨rfl, _⟩; dsimp only at *)
  | refine Tot.chk (inB_of (by assumption) (by simp only [List.length_cons, List.length_nil]; omega)) ?_
  | refine Tot.ite (fun _ => ?_) (fun _ => ?_)
  | exact Tot.now ⟨rfl, Cur.le (by assumption) (by omega)⟩
theorem log_tot {c : List Int} (hc : Byt c) (hl : c.length ≤ 1048576) {p s b : Int} (h : Cur p s b) (hb : b ≤ 4611686018427380000) :
  Tot (fun k => c42 k [.pb [.ro 5 c, .v (.int .i64 p), .v (.int .i64 s)]]) fun r => r.2.1 = c ∧ Cur r.2.2.1 r.2.2.2 (b + 6) := by
 refine Tot.step (fun k => g42_eq k c p s) ?_
 dsimp only [g42]
 repeat' first
  | (refine Tot.bind (pick_tot hc hl (by assumption) (by omega) _) ?_; rintro ⟨_, _, _, _⟩ ⟨_, hlt, rfl, _⟩; have hlt := hlt (by decide); dsimp only at *)
  | (refine Tot.bind (raw_tot hc hl (by assumption) (by omega)) ?_; rintro ⟨_, _, _, _⟩ ⟨rfl, _⟩; dsimp only at *)
  | refine Tot.chk (inB_of (by assumption) (by simp only [List.length_cons, List.length_nil]; omega)) ?_
  | refine Tot.ite (fun _ => ?_) (fun _ => ?_)
  | exact Tot.now ⟨rfl, Cur.le (by assumption) (by omega)⟩
theorem badConf_tot {c : List Int} (hc : Byt c) (hl : c.length ≤ 1048576) {p s b : Int} (h : Cur p s b) (hb : b ≤ 4611686018427370000) :
  Tot (fun k => c21 k [.pb [.ro 5 c, .v (.int .i64 p), .v (.int .i64 s)]]) fun r => r.2.2.2.2.1 = c ∧ Cur r.2.2.2.2.2.1 r.2.2.2.2.2.2 (b + 20) := by
 refine Tot.step (fun k => g21_eq k c p s) ?_
 dsimp only [g21, g21_n1, g21_n2, g21_n4, g21_n6]
 repeat' first
  | (refine Tot.bind (conf_tot hc hl (by assumption) (by omega)) ?_; rintro ⟨_, _, _, _, _, _, _⟩ ⟨rfl, _⟩; dsimp only at *)
  | (refine Tot.bind (pick_tot hc hl (by assumption) (by omega) _) ?_; rintro ⟨_, _, _, _⟩ ⟨_, hlt, rfl, _⟩; have hlt := hlt (by decide); dsimp only at *)
  | (refine Tot.bind (key_tot hc hl (by assumption) (by omega)) ?_; rintro ⟨_, _, _, _⟩ ⟨rfl, _⟩; dsimp only at *)
  | (refine Tot.bind (log_tot hc hl (by assumption) (by omega)) ?_; rintro ⟨_, _, _, _⟩ ⟨rfl, _⟩; dsimp only at *)
  | (refine Tot.bind (raw_tot hc hl (by assumption) (by omega)) ?_; rintro ⟨_, _, _, _⟩ ⟨rfl, _⟩; dsimp only at *)
  | refine Tot.chk (inB_of (by assumption) (by simp only [List.length_cons, List.length_nil]; omega)) ?_
  | refine Tot.ite (fun _ => ?_) (fun _ => ?_)
  | exact Tot.now ⟨rfl, Cur.le (by assumption) (by omega)⟩
def LTot {α : Type} (F : Nat → Nat → Option α) (Q : α → Prop) : Prop := ∃ r, Q r ∧ ∃ N, ∀ k m, N ≤ k → N ≤ m → F k m = some r
section
variable {α β : Type} {F G : Nat → Nat → Option α} {f : Nat → Option α} {Q : α → Prop} {b : Bool}
theorem LTot.diag (h : LTot F Q) : Tot (fun k => F k k) Q := by
 obtain ⟨r, hQ, N, h⟩ := h
 exact ⟨r, ⟨N, fun k hk => h k k hk hk⟩, hQ⟩
theorem LTot.step (e : ∀ k m, F k (m + 1) = G k m) (h : LTot G Q) : LTot F Q := by
 obtain ⟨r, hQ, N, h⟩ := h
 refine ⟨r, hQ, N + 1, fun k m hk hm => ?_⟩
 (obtain ⟨m, rfl⟩ : ∃ m', m = m' + 1 := ⟨m - 1, by omega⟩); (rw [e]; exact h k m (by omega) (by omega))
theorem LTot.of (h : Tot f Q) : LTot (fun k _ => f k) Q := by
 obtain ⟨r, ⟨N, h⟩, hQ⟩ := h
 exact ⟨r, hQ, N, fun k m hk _ => h k hk⟩
theorem LTot.bind {h : Nat → Option β} {S : β → Prop} {f : Nat → Nat → β → Option α} (hg : Tot h S) (hf : ∀ r, S r → LTot (fun k m => f k m r) Q) : LTot (fun k m => (h k).bind (f k m)) Q := by
 (obtain ⟨r, ⟨N, h1⟩, h2⟩ := hg); (obtain ⟨x, hQ, M, h3⟩ := hf r h2)
 refine ⟨x, hQ, max N M, fun k m hk hm => ?_⟩
 show (h k).bind _ = _
 rw [h1 k (by omega), Option.bind_some]
 exact h3 k m (by omega) (by omega)
theorem LTot.ite (h1 : b = true → LTot G Q) (h2 : b = false → LTot F Q) : LTot (fun k m => cond b (G k m) (F k m)) Q := by
 cases b
 ·exact h2 rfl
 ·exact h1 rfl
theorem LTot.chk (h1 : b = true) (h2 : LTot G Q) : LTot (fun k m => chk true b (G k m)) Q := by subst h1; exact h2
end
theorem appOk_of {α β : Type} {xs : List α} {ys : List β} {z : Nat} (h : ((xs.length : Int) + (ys.length : Int)) * (z : Int) ≤ 70368744177664) : appOk xs ys z = true := okLe_iff.2 h
theorem sumOk_of {a b : ByteArray} (h : a.size + b.size ≤ 9223372036854775807) : sumOk a b = true := okLe_iff.2 (by
 (have e : IntKind.i64.max = 9223372036854775807 := by decide); (rw [e]; omega))
theorem sizeOk_of {s : ByteArray} (h : s.size ≤ 9223372036854775807) : sizeOk s = true := okLe_iff.2 (by omega)
theorem cutOk_of {l h n : Int} (h0 : 0 ≤ l) (h1 : l ≤ h) (h2 : h ≤ n) : cutOk l h n = true := by simp [cutOk, h0, h1, h2]
theorem strB_size (xs : List Int) : (strB xs).size = xs.length := by
 show (List.toArray _).size = _
 simp
theorem getD_size {l : List ByteArray} {m : Nat} (h : ∀ x, x ∈ l → x.size ≤ m) (i : Nat) : (l.getD i (⟨#[]⟩ : ByteArray)).size ≤ m := by
 rw [List.getD_eq_getElem?_getD]
 cases e : l[i]? with
 | none => exact Nat.zero_le _
 | some x => exact h x (List.mem_of_getElem? e)
theorem extract_le (s : ByteArray) (a b : Nat) : (s.extract a b).size ≤ s.size := by rw [ByteArray.size_extract]; omega
theorem wordL_tot {c : List Int} (hc : Byt c) (hl : c.length ≤ 1048576) (n : Int) (hn : n ≤ 32) : ∀ (d : Nat) (xs : List Int) (p s b : Int), (xs.length : Int) + d = n → Cur p s b → b + 2 * d ≤ 4611686018427387000 →
  LTot (fun k m => g56_l4 k (fun y0 y1 y2 y3 y4 => some (strB y4, y1, y2, y3)) m n c p s xs) fun r => r.1.size ≤ 32 ∧ r.2.1 = c ∧ Cur r.2.2.1 r.2.2.2 (b + 2 * d)
 | 0, xs, p, s, b, hd, h, hb => by
  refine LTot.step (fun k m => rfl) ?_
  dsimp only [g56_l4, g56_l4_b, g56_n1, g56_n2, g56_n5, g56_n8, g56_n10, g56_n11]
  refine LTot.ite (fun hx => absurd (of_decide_eq_true hx) (by omega)) fun _ => LTot.of (Tot.now ⟨by rw [strB_size]; omega, rfl, h.le (by omega)⟩)
 | d + 1, xs, p, s, b, hd, h, hb => by
  refine LTot.step (fun k m => rfl) ?_
  dsimp only [g56_l4, g56_l4_b, g56_n1, g56_n2, g56_n5, g56_n8, g56_n10, g56_n11]
  refine LTot.ite (fun _ => ?_) (fun hx => absurd (of_decide_eq_false hx) (by omega))
  refine LTot.bind (pick_tot hc hl h (by omega) 3) ?_
  rintro ⟨x1, c1, p1, s1⟩ ⟨a1, b1, e1, h1⟩
  have b1 := b1 (by decide)
  try dsimp only at *
  subst e1
  refine LTot.chk (inB_of a1 (by simp only [List.length_cons, List.length_nil]; omega)) ?_
  refine LTot.bind (pick_tot hc hl h1 (by omega) _) ?_
  rintro ⟨x2, c2, p2, s2⟩ ⟨a2, b2, e2, h2⟩
  try dsimp only at *
  subst e2
  refine LTot.chk (appOk_of (by simp only [List.length_cons, List.length_nil]; omega)) ?_
  obtain ⟨r, hr, hN⟩ := wordL_tot hc hl n hn d (xs ++ [wu8 (w64 (97 + x2))]) p2 s2 (b + 1 + 1) (by rw [List.length_append]; simp only [List.length_cons, List.length_nil]; omega) h2 (by omega)
  exact ⟨r, ⟨hr.1, hr.2.1, hr.2.2.le (by omega)⟩, hN⟩
theorem word_tot {c : List Int} (hc : Byt c) (hl : c.length ≤ 1048576) {p s b : Int} (h : Cur p s b) (hb : b ≤ 4611686018427380000) :
  Tot (fun k => c56 k [.pb [.ro 5 c, .v (.int .i64 p), .v (.int .i64 s)]]) fun r => r.1.size ≤ 32 ∧ r.2.1 = c ∧ Cur r.2.2.1 r.2.2.2 (b + 66) := by
 refine Tot.step (fun k => g56_eq k c p s) ?_
 dsimp only [g56, g56_n1, g56_n2, g56_n5, g56_n8, g56_n10, g56_n11]
 refine Tot.bind (pick_tot hc hl h (by omega) 4) ?_
 rintro ⟨x1, c1, p1, s1⟩ ⟨a1, b1, e1, h1⟩
 have b1 := b1 (by decide)
 try dsimp only at *
 subst e1
 refine Tot.chk (inB_of a1 (by simp only [List.length_cons, List.length_nil]; omega)) ?_
 have hg : 1 ≤ ([3, 5, 8, 32] : List Int).getD x1.toNat 0 ∧ ([3, 5, 8, 32] : List Int).getD x1.toNat 0 ≤ 32 := by
  obtain rfl | rfl | rfl | rfl : x1 = 0 ∨ x1 = 1 ∨ x1 = 2 ∨ x1 = 3 := by omega
  all_goals decide
 refine Tot.bind (pick_tot hc hl h1 (by omega) _) ?_
 rintro ⟨x2, c2, p2, s2⟩ ⟨a2, b2, e2, h2⟩
 have b2 := b2 hg.1
 try dsimp only at *
 (subst e2); (have ew : w64 (1 + x2) = 1 + x2 := w64_id (by omega) (by omega)); (rw [ew]); (obtain ⟨d, hd⟩ : ∃ d : Nat, (d : Int) = 1 + x2 := ⟨(1 + x2).toNat, by omega⟩)
 exact (wordL_tot hc hl (1 + x2) (by omega) d [] p2 s2 (b + 1 + 1) (by simp only [List.length_nil]; omega) h2 (by omega)).diag.mono fun r hr => ⟨hr.1, hr.2.1, hr.2.2.le (by omega)⟩
theorem badWord_tot {c : List Int} (hc : Byt c) (hl : c.length ≤ 1048576) {p s b : Int} (h : Cur p s b) (hb : b ≤ 4611686018427370000) :
  Tot (fun k => c57 k [.pb [.ro 5 c, .v (.int .i64 p), .v (.int .i64 s)]]) fun r => r.1.size ≤ 96 ∧ r.2.1 = c ∧ Cur r.2.2.1 r.2.2.2 (b + 70) := by
 refine Tot.step (fun k => g57_eq k c p s) ?_
 dsimp only [g57, ]
 refine Tot.bind (word_tot hc hl h (by omega)) ?_
 rintro ⟨w, c1, p1, s1⟩ ⟨hw, e1, h1⟩
 try dsimp only at *
 subst e1
 refine Tot.bind (pick_tot hc hl h1 (by omega) _) ?_
 rintro ⟨x1, c1, p1, s1⟩ ⟨a1, b1, e1, h1⟩
 have b1 := b1 (by decide)
 try dsimp only at *
 subst e1
 refine Tot.ite (fun _ => ?_) fun _ => Tot.ite (fun _ => ?_) fun _ => Tot.ite (fun _ => ?_) fun _ => ?_
 ·have ew : w64 ((w.size : Int) + 1) = w.size + 1 := w64_id (by omega) (by omega)
  rw [ew]
  refine Tot.bind (pick_tot hc hl h1 (by omega) _) ?_
  rintro ⟨x2, c2, p2, s2⟩ ⟨a2, b2, e2, h2⟩
  have b2 := b2 (by omega)
  try dsimp only at *
  subst e2
  refine Tot.chk (cutOk_of (by omega) a2 (by omega)) ?_
  refine Tot.bind (pick_tot hc hl h2 (by omega) _) ?_
  rintro ⟨x3, c3, p3, s3⟩ ⟨a3, b3, e3, h3⟩
  have b3 := b3 (by decide)
  try dsimp only at *
  (subst e3); (have z1 := extract_le w (0 : Int).toNat x2.toNat); (have z2 := extract_le w x2.toNat (w.size : Int).toNat); (have z3 := getD_size (l := [(⟨#[]⟩ : ByteArray), ⟨#[65]⟩, ⟨#[45]⟩, ⟨#[0]⟩, ⟨#[122, 122]⟩, ⟨#[123]⟩]) (m := 2) (by decide) x3.toNat)
  refine Tot.chk (inB_of a3 (by simp only [List.length_cons, List.length_nil]; omega)) ?_
  refine Tot.chk (sumOk_of (by omega)) (Tot.chk (cutOk_of a2 (by omega) (by omega)) (Tot.chk (sumOk_of (by rw [ByteArray.size_append]; omega)) (Tot.now ⟨?_, rfl, h3.le (by omega)⟩)))
  dsimp only
  rw [ByteArray.size_append, ByteArray.size_append]; omega
 ·exact Tot.now ⟨Nat.zero_le _, rfl, h1.le (by omega)⟩
 ·refine Tot.chk (sumOk_of (by omega)) ?_
  refine Tot.bind (pick_tot hc hl h1 (by omega) _) ?_
  rintro ⟨x2, c2, p2, s2⟩ ⟨a2, b2, e2, h2⟩
  have b2 := b2 (by decide)
  try dsimp only at *
  (subst e2); (have hz : (⟨#[97, 97, 97, 97, 97, 97, 97, 97, 97, 97, 97, 97, 97, 97, 97, 97, 97, 97, 97, 97, 97, 97, 97, 97, 97, 97, 97, 97, 97, 97, 97, 97]⟩ : ByteArray).size = 32 := rfl); (have z1 := extract_le (⟨#[97, 97, 97, 97, 97, 97, 97, 97, 97, 97, 97, 97, 97, 97, 97, 97, 97, 97, 97, 97, 97, 97, 97, 97, 97, 97, 97, 97, 97, 97, 97, 97]⟩ : ByteArray) (0 : Int).toNat x2.toNat); (rw [hz] at z1)
  refine Tot.chk (cutOk_of (by omega) a2 (by rw [hz]; omega)) (Tot.chk (sumOk_of (by rw [ByteArray.size_append]; omega)) (Tot.now ⟨?_, rfl, h2.le (by omega)⟩))
  dsimp only
  rw [ByteArray.size_append, ByteArray.size_append]; omega
 ·exact Tot.now ⟨by dsimp only; omega, rfl, h1.le (by omega)⟩
theorem textL_tot {c : List Int} (hc : Byt c) (hl : c.length ≤ 1048576) : ∀ (d : Nat) (t : ByteArray) (p s b : Int), t.size + 99 * d ≤ 1000000 → Cur p s b → b + 100 * d ≤ 4611686018427360000 →
  LTot (fun k m => g58_l4 k (fun y0 y1 y2 y3 y4 => some (y0, y2, y3, y4)) m t (d : Int) c p s) fun r => r.1.size ≤ t.size + 99 * d ∧ r.2.1 = c ∧ Cur r.2.2.1 r.2.2.2 (b + 100 * d)
 | 0, t, p, s, b, hd, h, hb => by
  refine LTot.step (fun k m => rfl) ?_
  dsimp only [g58_l4, g58_l4_b, g58_n1, g58_n2, g58_n5, g58_n8, g58_n10, g58_n11]
  refine LTot.ite (fun hx => absurd (of_decide_eq_true hx) (by simp)) fun _ => LTot.of (Tot.now ⟨by dsimp only; omega, rfl, h.le (by omega)⟩)
 | d + 1, t, p, s, b, hd, h, hb => by
  refine LTot.step (fun k m => rfl) ?_
  dsimp only [g58_l4, g58_l4_b, g58_n1, g58_n2, g58_n5, g58_n8, g58_n10, g58_n11]
  refine LTot.ite (fun _ => ?_) (fun hx => absurd (of_decide_eq_false hx) (by omega))
  refine LTot.bind (badWord_tot hc hl h (by omega)) ?_
  rintro ⟨w, c1, p1, s1⟩ ⟨z1, e1, h1⟩
  try dsimp only at *
  subst e1
  refine LTot.chk (sumOk_of (by omega)) ?_
  refine LTot.bind (pick_tot hc hl h1 (by omega) _) ?_
  rintro ⟨x2, c2, p2, s2⟩ ⟨a2, b2, e2, h2⟩
  have b2 := b2 (by decide)
  try dsimp only at *
  subst e2
  refine LTot.chk (inB_of a2 (by simp only [List.length_cons, List.length_nil]; omega)) ?_
  have z3 := getD_size (l := [(⟨#[32]⟩ : ByteArray), ⟨#[10]⟩, ⟨#[32, 32]⟩, ⟨#[9, 32, 13]⟩, ⟨#[32]⟩]) (m := 3) (by decide) x2.toNat
  generalize ([(⟨#[32]⟩ : ByteArray), ⟨#[10]⟩, ⟨#[32, 32]⟩, ⟨#[9, 32, 13]⟩, ⟨#[32]⟩]).getD x2.toNat ⟨#[]⟩ = q at z3
  refine LTot.chk (sumOk_of (by rw [ByteArray.size_append]; omega)) ?_
  (have ew : w64 (((d + 1 : Nat) : Int) - 1) = (d : Int) := by rw [w64_id (by omega) (by omega)]; omega); (rw [ew]); (obtain ⟨r, hr, hN⟩ := textL_tot hc hl d ((t ++ w) ++ q) p2 s2 (b + 70 + 1) (by rw [ByteArray.size_append, ByteArray.size_append]; omega) h2 (by omega)); (rw [ByteArray.size_append, ByteArray.size_append] at hr)
  exact ⟨r, ⟨by omega, hr.2.1, hr.2.2.le (by omega)⟩, hN⟩
theorem text_tot {c : List Int} (hc : Byt c) (hl : c.length ≤ 1048576) {p s b : Int} (h : Cur p s b) (hb : b ≤ 4611686018427200000) (n : Int) (hn0 : 0 ≤ n) (hn : n ≤ 1000) :
  Tot (fun k => c58 k [.pb [.ro 5 c, .v (.int .i64 p), .v (.int .i64 s)], .v (.int .i64 n)]) fun r => r.1.size ≤ 99 * n.toNat ∧ r.2.1 = c ∧ Cur r.2.2.1 r.2.2.2 (b + 1 + 100 * n) := by
 refine Tot.step (fun k => g58_eq k n c p s) ?_
 dsimp only [g58, g58_n1, g58_n2, g58_n5, g58_n8, g58_n10, g58_n11]
 (have ew : w64 (n + 1) = n + 1 := w64_id (by omega) (by omega)); (rw [ew])
 refine Tot.bind (pick_tot hc hl h (by omega) _) ?_
 rintro ⟨x1, c1, p1, s1⟩ ⟨a1, b1, e1, h1⟩
 have b1 := b1 (by omega)
 try dsimp only at *
 (subst e1); (obtain ⟨d, rfl⟩ : ∃ d : Nat, x1 = (d : Int) := ⟨x1.toNat, by omega⟩)
 refine (textL_tot hc hl d ⟨#[]⟩ p1 s1 (b + 1) (by show 0 + _ ≤ _; omega) h1 (by omega)).diag.mono fun r hr => ⟨?_, hr.2.1, hr.2.2.le (by omega)⟩
 (have h0 : (⟨#[]⟩ : ByteArray).size = 0 := rfl); (have := hr.1); (rw [h0] at this)
 omega
theorem req_tot {c : List Int} (hc : Byt c) (hl : c.length ≤ 1048576) {p s b : Int} (h : Cur p s b) (hb : b ≤ 4611686018427100000) :
  Tot (fun k => c44 k [.pb [.ro 5 c, .v (.int .i64 p), .v (.int .i64 s)]]) fun r => (r.2.1.size ≤ 1000 ∧ r.2.2.2.2.2.2.1.size ≤ 100000) ∧ r.2.2.2.2.2.2.2.1 = c ∧ Cur r.2.2.2.2.2.2.2.2.1 r.2.2.2.2.2.2.2.2.2 (b + 5000) := by
 refine Tot.step (fun k => g44_eq k c p s) ?_
 dsimp only [g44, g44_n1, g44_n2, g44_n3, g44_n4, g44_n6, g44_n7, g44_n9, g44_n10, g44_n12, g44_n14, g44_n16, g44_n18, g44_n19, g44_n20]
 repeat' first
  | (refine Tot.bind (pick_tot hc hl (by assumption) (by omega) _) ?_; rintro ⟨_, _, _, _⟩ ⟨_, hlt, rfl, _⟩; have hlt := hlt (by decide); try dsimp only at *)
  | (refine Tot.bind (wide_tot hc hl (by assumption) (by omega) _ (by decide)) ?_; rintro ⟨_, _, _, _⟩ ⟨_, _, rfl, _⟩; try dsimp only at *)
  | (refine Tot.bind (word_tot hc hl (by assumption) (by omega)) ?_; rintro ⟨_, _, _, _⟩ ⟨_, rfl, _⟩; try dsimp only at *)
  | (refine Tot.bind (badWord_tot hc hl (by assumption) (by omega)) ?_; rintro ⟨_, _, _, _⟩ ⟨_, rfl, _⟩; try dsimp only at *)
  | (refine Tot.bind (once_tot hc hl (by assumption) (by omega) _) ?_; rintro ⟨_, _, _, _⟩ ⟨rfl, _⟩; try dsimp only at *)
  | (rw [w64_id (by omega) (by omega)]; refine Tot.bind (text_tot hc hl (by assumption) (by omega) _ (by omega) (by omega)) ?_; rintro ⟨_, _, _, _⟩ ⟨_, rfl, _⟩; try dsimp only at *)
  | refine Tot.chk (inB_of (by assumption) (by simp only [List.length_cons, List.length_nil]; omega)) ?_
  | refine Tot.ite (fun _ => ?_) (fun _ => ?_)
  | exact Tot.now ⟨⟨by first | (dsimp only; omega) | exact Nat.zero_le _, by first | (dsimp only; omega) | exact Nat.zero_le _⟩, rfl, Cur.le (by assumption) (by omega)⟩
theorem mkOk_of {a b : Int} {z : Nat} (h0 : 0 ≤ a) (h1 : a ≤ b) (h2 : b * (z : Int) ≤ 281474976710656) : mkOk a b z = true := by
 unfold mkOk
 rw [okLe_iff.2 h2]
 simp [h0, h1]
theorem badReq_tot {c : List Int} (hc : Byt c) (hl : c.length ≤ 1048576) {p s b : Int} (h : Cur p s b) (hb : b ≤ 4611686018427000000) :
  Tot (fun k => c23 k [.pb [.ro 5 c, .v (.int .i64 p), .v (.int .i64 s)]]) fun r => r.2.2.2.2.2.2.2.1 = c ∧ Cur r.2.2.2.2.2.2.2.2.1 r.2.2.2.2.2.2.2.2.2 (b + 5010) := by
 refine Tot.step (fun k => g23_eq k c p s) ?_
 dsimp only [g23, g23_n1, g23_n2, g23_n4, g23_n6]
 repeat' first
  | (refine Tot.bind (req_tot hc hl (by assumption) (by omega)) ?_; rintro ⟨_, _, _, _, _, _, _, _, _, _⟩ ⟨_, rfl, _⟩; try dsimp only at *)
  | (refine Tot.bind (pick_tot hc hl (by assumption) (by omega) _) ?_; rintro ⟨_, _, _, _⟩ ⟨_, hlt, rfl, _⟩; have hlt := hlt (by decide); try dsimp only at *)
  | (refine Tot.bind (raw_tot hc hl (by assumption) (by omega)) ?_; rintro ⟨_, _, _, _⟩ ⟨rfl, _⟩; try dsimp only at *)
  | refine Tot.chk (inB_of (by assumption) (by simp only [List.length_cons, List.length_nil]; omega)) ?_
  | refine Tot.chk (mkOk_of (by rw [w64_id (by omega) (by omega)]; omega) (Int.le_refl _) (by rw [w64_id (by omega) (by omega)]; omega)) ?_
  | refine Tot.ite (fun _ => ?_) (fun _ => ?_)
  | exact Tot.now ⟨rfl, Cur.le (by assumption) (by omega)⟩
theorem lineL_tot {c : List Int} {p s a1 a3 a4 a5 a6 b : Int} {w t : ByteArray} (h : Cur p s b) : ∀ (d : Nat) (i : Nat) (xs : List Int), i + d = xs.length → xs.length ≤ 100000 →
  LTot (fun k m => g24_l7 k (fun y0 y1 y2 y3 y4 y5 y6 y7 y8 y9 y10 y11 => some (y4, y5, y6, y7, y8, y9, strB y11, y1, y2, y3)) m (i : Int) c p s a1 w a3 a4 a5 a6 t xs) fun r => r.2.2.2.2.2.2.2.1 = c ∧ Cur r.2.2.2.2.2.2.2.2.1 r.2.2.2.2.2.2.2.2.2 b
 | 0, i, xs, hd, hx => by
  refine LTot.step (fun k m => rfl) ?_
  dsimp only [g24_l7, g24_l7_b, g24_n1, g24_n2, g24_n3, g24_n4, g24_n6, g24_n8, g24_n11, g24_n13, g24_n14, g24_n15, g24_n17, g24_n18, g24_n20, g24_n21]
  refine LTot.ite (fun hx => absurd (of_decide_eq_true hx) (by omega)) fun _ => LTot.of (Tot.now ⟨rfl, h⟩)
 | d + 1, i, xs, hd, hx => by
  refine LTot.step (fun k m => rfl) ?_
  dsimp only [g24_l7, g24_l7_b, g24_n1, g24_n2, g24_n3, g24_n4, g24_n6, g24_n8, g24_n11, g24_n13, g24_n14, g24_n15, g24_n17, g24_n18, g24_n20, g24_n21]
  (have hi : inB (i : Int) (xs.length : Int) = true := inB_of (by omega) (by omega)); (have ew : w64 ((i : Int) + 1) = ((i + 1 : Nat) : Int) := by rw [w64_id (by omega) (by omega)]; omega)
  refine LTot.ite (fun _ => LTot.chk hi (LTot.ite (fun _ => LTot.chk hi ?_) fun _ => ?_)) (fun hx => absurd (of_decide_eq_false hx) (by omega))
  ·rw [ew]
   exact lineL_tot h d (i + 1) (xs.set (i : Int).toNat 32) (by rw [List.length_set]; omega) (by rw [List.length_set]; exact hx)
  ·rw [ew]
   exact lineL_tot h d (i + 1) xs (by omega) hx
theorem line_tot {c : List Int} (hc : Byt c) (hl : c.length ≤ 1048576) {p s b : Int} (h : Cur p s b) (hb : b ≤ 4611686018427000000) :
  Tot (fun k => c24 k [.pb [.ro 5 c, .v (.int .i64 p), .v (.int .i64 s)]]) fun r => r.2.2.2.2.2.2.2.1 = c ∧ Cur r.2.2.2.2.2.2.2.2.1 r.2.2.2.2.2.2.2.2.2 (b + 5000) := by
 refine Tot.step (fun k => g24_eq k c p s) ?_
 dsimp only [g24, g24_n1, g24_n2, g24_n3, g24_n4, g24_n6, g24_n8, g24_n11, g24_n13, g24_n14, g24_n15, g24_n17, g24_n18, g24_n20, g24_n21]
 refine Tot.bind (req_tot hc hl h (by omega)) ?_
 rintro ⟨a1, w, a3, a4, a5, a6, t, c1, p1, s1⟩ ⟨⟨_, ht⟩, e1, h1⟩
 try dsimp only at *
 (subst e1); (have hlen : (bytesS t).length = t.size := by unfold bytesS; rw [List.length_map, Array.length_toList]; rfl)
 refine Tot.ite (fun _ => Tot.chk (sizeOk_of (by omega)) ?_) fun _ => Tot.now ⟨rfl, h1⟩
 exact (lineL_tot h1 (bytesS t).length 0 (bytesS t) (by omega) (by omega)).diag
theorem cur_open {c : List Int} (hl : c.length ≤ 1048576) : Tot (fun k => c20 k [.ro 5 c]) fun r => r.1 = c ∧ Cur r.2.1 r.2.2 0 := by
 refine Tot.step (fun k => g20_eq k c) (Tot.now ⟨rfl, ?_⟩)
 (have ht := tmod_range (a := (c.length : Int)) (n := 1000) (by omega) (by omega)); (have e : w64 (59 + Int.tmod (c.length : Int) 1000) = 59 + Int.tmod (c.length : Int) 1000 := w64_id (by omega) (by omega))
 dsimp only
 rw [e]
 exact ⟨by omega, by omega, by omega, by omega⟩
theorem drawConfText_tot {c : List Int} (hc : Byt c) (hl : c.length ≤ 1048576) : Tot (fun k => c9 k [.ro 5 c]) fun _ => True := by
 refine Tot.step (fun k => g9_eq k c) ?_
 dsimp only [g9]
 refine Tot.bind (cur_open hl) ?_
 rintro ⟨c1, p1, s1⟩ ⟨e1, h1⟩
 try dsimp only at *
 subst e1
 refine Tot.bind (badConf_tot hc hl h1 (by omega)) ?_
 rintro ⟨a1, a2, a3, a4, c2, p2, s2⟩ ⟨e2, h2⟩
 exact Tot.now trivial
theorem drawReqText_tot {c : List Int} (hc : Byt c) (hl : c.length ≤ 1048576) : Tot (fun k => c10 k [.ro 5 c]) fun _ => True := by
 refine Tot.step (fun k => g10_eq k c) ?_
 dsimp only [g10]
 refine Tot.bind (cur_open hl) ?_
 rintro ⟨c1, p1, s1⟩ ⟨e1, h1⟩
 try dsimp only at *
 subst e1
 refine Tot.bind (once_tot hc hl h1 (by omega) _) ?_
 rintro ⟨x, c2, p2, s2⟩ ⟨e2, h2⟩
 try dsimp only at *
 subst e2
 refine Tot.ite (fun _ => ?_) (fun _ => ?_)
 ·refine Tot.bind (badReq_tot hc hl h2 (by omega)) ?_
  rintro ⟨_, _, _, _, _, _, _, _, _, _⟩ _
  exact Tot.now trivial
 ·refine Tot.bind (line_tot hc hl h2 (by omega)) ?_
  rintro ⟨_, _, _, _, _, _, _, _, _, _⟩ _
  exact Tot.now trivial
end Go.Proofs.YtgnbfmoifnfneaaDoor.V
namespace Go.Proofs.YtgnbfmoifnfneaaDoor.Open
open Go.RowKit Go.Proofs.YtgnbfmoifnfneaaDoorW.PrintWords
open Go.ChangeShapes Go.WideShapes
set_option linter.unusedVariables false
def InK (k : IntKind) (n : Int) : Prop := (Lit.int k n).wf = true
def InL {α : Type} (W : α → Prop) (xs : List α) : Prop := xs.length ≤ 9223372036854775807 ∧ ∀ x, x ∈ xs → W x
structure Opens {α : Type} (P : Program) (t : TypeId) (d : Kd α) (W : α → Prop) : Prop where
 cells : P.cellsOf t = d.sz
 reads : ∀ {H : Type} (enc : TypeId × Value → H) (w : World) (base fuel : Nat) (held : Bool) (cs : List Value) (x : DataW H × List MemPlace),
  DataW.trod enc P w base (fun _ => true) held fuel t cs = some x → ∃ y, d.K w y cs ∧ W y
theorem opens_int {P : Program} {t : TypeId} {k : IntKind} (ht : P.underlying t = some (.int k)) (hc : P.cellsOf t = 1) : Opens P t (Kd.int k) (InK k) := by
 refine ⟨hc, ?_⟩
 intro H enc w base fuel held cs x h
 cases fuel with
 | zero => simp [DataW.trod] at h
 | succ n =>
  unfold DataW.trod at h
  rw [ht] at h
  split at h <;> simp_all
  rename_i h2
  obtain ⟨⟨rfl, h3⟩, _⟩ := h
  exact ⟨_, rfl, h3⟩
theorem opens_slice {α : Type} {P : Program} {t e : TypeId} {d : Kd α} {W : α → Prop} (ht : P.underlying t = some (.slice e)) (hc : P.cellsOf t = 1) (z : α) (he : Opens P e d W) : Opens P t (Kd.slice e d) (InL W) := by
 refine ⟨hc, ?_⟩
 intro H enc w base fuel held cs x h
 rcases Go.Deep.open_slice ht h with ⟨rfl, _⟩ | ⟨a, len, cap, m, n, D, Pl, rfl, hb, hl, hm, hmm, rfl, hx⟩
 ·exact ⟨[], ⟨none, 0, rfl, Nat.le_refl _, rfl, by simp, fun h0 => absurd h0 (by simp)⟩, by simp, by simp⟩
 ·simp only [if_true] at hmm
  (subst hmm); (have hm' : m ≤ 9223372036854775807 := by simpa [maxLen] using hm)
  have each : ∀ i, i < m → ∃ y : α, ∃ c : List Value, c.length = d.sz ∧ d.K w y c ∧ W y ∧ ∀ j u, c[j]? = some u → w.cell? (a.add (i * d.sz + j)) = some u := by
   intro i hi
   (obtain ⟨cs', h1, h2⟩ := hx i hi); (obtain ⟨y, hK, hW⟩ := he.reads enc w base n held cs' _ h2); (obtain ⟨_, hlen, hcell⟩ := World.cells?_some h1)
   refine ⟨y, cs', d.K_len hK, hK, hW, fun j u hu => ?_⟩
   have hj : j < P.cellsOf e := by
    rw [← hlen]
    exact (List.getElem?_eq_some_iff.1 hu).1
   (have := hcell j hj); (rw [Go.Deep.add_add, he.cells] at this); (rw [this]; exact hu)
  (haveI : Inhabited α := ⟨z⟩); (obtain ⟨f, hf⟩ := Go.Deep.choose_lt each)
  refine ⟨(List.range len).map f, ⟨some a, m, ?_, ?_, ?_⟩, ?_, ?_⟩
  ·simp
  ·simp; exact hl
  ·refine ⟨by simp, by simp; omega, fun _ => ⟨a, rfl, fun j p hj => ?_⟩⟩
   (have hj1 : j < len := by have := (List.getElem?_eq_some_iff.1 hj).1; simpa using this); (have hp : f j = p := by simpa [hj1] using hj); (obtain ⟨c, h1, h2, _, h3⟩ := hf j (by omega))
   exact ⟨c, h1, hp ▸ h2, h3⟩
  ·simp; omega
  ·intro y hy
   (obtain ⟨i, hi, rfl⟩ := List.mem_map.1 hy); (obtain ⟨c, _, _, hW, _⟩ := hf i (by have := List.mem_range.1 hi; omega))
   exact hW
theorem open_arg {α : Type} {H : Type} {enc : TypeId × Value → H} {P : Program} {w : World} {t : TypeId} {d : Kd α} {W : α → Prop} (ho : Opens P t d W) {v : Value} {dd : DataW H} {ps : List MemPlace}
  (h : DataW.Trod enc P w 0 (fun _ => true) true t v dd ps) : ∃ y, d.K w y v.cells.toList ∧ W y := by
 obtain ⟨fuel, hf⟩ := h
 exact ho.reads enc w 0 fuel true _ _ hf
end Go.Proofs.YtgnbfmoifnfneaaDoor.Open
namespace Go.Proofs.YtgnbfmoifnfneaaDoor.L
open Go.RowKit Go.Proofs.YtgnbfmoifnfneaaDoorW.PrintWords Go.Proofs.YtgnbfmoifnfneaaDoorW.PrintMore
set_option linter.unusedVariables false
set_option linter.unusedSimpArgs false
theorem wrap_id {x : Int} (h0 : -9223372036854775808 ≤ x) (h1 : x ≤ 9223372036854775807) : wrap64 x = x := by unfold wrap64; omega
theorem wrap_nat_succ {i : Nat} (h : i < 9223372036854775807) : wrap64 ((i : Int) + 1) = ((i + 1 : Nat) : Int) := by unfold wrap64; omega
theorem evVal {α : Type} {g : Nat → Option α} {r r' : α} (h : Ev g r) (e : r = r') : Ev g r' := e ▸ h
theorem evConst {α : Type} {o : Option α} {r : α} (h : o = some r) : Ev (fun _ => o) r := ⟨0, fun _ _ => h⟩
theorem evBindc {α β : Type} {o : Option α} {f : Nat → α → Option β} {a : α} {r : β} (h : o = some a) (k : Ev (fun n => f n a) r) : Ev (fun n => o.bind (f n)) r := Ev.bind (evConst h) k
theorem search_ev {ρ : Type} (n : Nat) (G : Nat → Int → Option ρ) (p : Nat → Bool) (rno ryes : ρ)
  (hgo : ∀ i, i < n → p i = true → ∀ r, Ev (fun k => G k ((i + 1 : Nat) : Int)) r → Ev (fun k => G k (i : Int)) r)
  (hstop : ∀ i, i < n → p i = false → Ev (fun k => G k (i : Int)) rno)
  (hend : Ev (fun k => G k (n : Int)) ryes) : Ev (fun k => G k 0) (if (List.range n).all p then ryes else rno) := by
 have key : ∀ d i, i + d = n → Ev (fun k => G k (i : Int)) (if ((List.range n).drop i).all p then ryes else rno) := by
  intro d
  induction d with
  | zero =>
   intro i h
   (obtain rfl : i = n := by omega); (rw [List.drop_of_length_le (by simp)])
   exact hend
  | succ d ih =>
   intro i h
   (have hi : i < n := by omega); (rw [List.drop_eq_getElem_cons (by simpa using hi), List.getElem_range, List.all_cons])
   cases hp : p i with
   | true => simpa using hgo i hi hp _ (ih (i + 1) (by omega))
   | false => simpa using hstop i hi hp
 have := key n 0 (by omega)
 simpa using this
theorem all_range {α : Type} (l : List α) (z : α) (q : α → Bool) : (List.range l.length).all (fun i => q (l.getD i z)) = l.all q := by
 induction l with
 | nil => rfl
 | cons x xs ih =>
  rw [List.length_cons, List.range_succ_eq_map, List.all_cons, List.all_map, List.all_cons, ← ih]
  rfl
theorem getD_lt {α : Type} {l : List α} {i : Nat} (z : α) (h : i < l.length) : l.getD i z = l[i] := by simp [List.getD, h]
end Go.Proofs.YtgnbfmoifnfneaaDoor.L
namespace Go.Proofs.YtgnbfmoifnfneaaDoor.L
open Go.RowKit Go.Proofs.YtgnbfmoifnfneaaDoor.QA Go.Proofs.YtgnbfmoifnfneaaDoorW.PrintWords Go.Proofs.YtgnbfmoifnfneaaDoorW.PrintLast
set_option linter.unusedVariables false
set_option linter.unusedSimpArgs false
theorem within_eq (n lo hi : Int) : impl_within.f n lo hi = some (decide (lo ≤ n ∧ n ≤ hi)) := by
 unfold impl_within.f
 by_cases h : n ≥ lo
 ·rw [if_pos h]
  by_cases h2 : n ≤ hi <;> simp [h2] <;> omega
 ·rw [if_neg h]
  simp
  omega
end Go.Proofs.YtgnbfmoifnfneaaDoor.L
namespace Go.Proofs.YtgnbfmoifnfneaaDoor.L
open Go.RowKit Go.Proofs.YtgnbfmoifnfneaaDoor.QA Go.Proofs.YtgnbfmoifnfneaaDoorW.PrintWords Go.Proofs.YtgnbfmoifnfneaaDoorW.PrintLast Go.Proofs.YtgnbfmoifnfneaaDoorW.PrintMore
set_option linter.unusedVariables false
set_option linter.unusedSimpArgs false
def confB (a b c d : Int) : Bool := decide (0 ≤ a ∧ a ≤ 4294967295) && (decide (2 ≤ b ∧ b ≤ 6) && (decide (0 ≤ c ∧ c ≤ 64) && decide (1 ≤ d ∧ d ≤ 64)))
theorem isConf_eq (a b c d : Int) : impl_isConf.f a b c d = some (confB a b c d) := by
 unfold impl_isConf.f impl_isDeepLog.f confB
 simp only [within_eq, Option.bind_some]
 by_cases h1 : 0 ≤ a ∧ a ≤ 4294967295 <;> by_cases h2 : 2 ≤ b ∧ b ≤ 6 <;> by_cases h3 : 0 ≤ c ∧ c ≤ 64 <;> simp [h1, h2, h3]
theorem confOk_eq (a b c d : Int) : spec_ConfOk.f a b c d = some (confB a b c d) := by
 unfold spec_ConfOk.f spec_l16Log.f confB
 by_cases h1 : 0 ≤ a <;> by_cases h1' : a ≤ 4294967295 <;> by_cases h2 : 2 ≤ b <;> by_cases h2' : b ≤ 6 <;> by_cases h3 : 0 ≤ c <;> by_cases h3' : c ≤ 64 <;> by_cases h4 : 1 ≤ d <;> by_cases h4' : d ≤ 64 <;>
  simp [h1, h1', h2, h2', h3, h3', h4, h4']
theorem confB_log {a b c d : Int} (h : confB a b c d = true) : 0 ≤ a ∧ a ≤ 4294967295 ∧ 2 ≤ b ∧ b ≤ 6 ∧ 0 ≤ c ∧ c ≤ 64 ∧ 1 ≤ d ∧ d ≤ 64 := by
 unfold confB at h
 simp only [Bool.and_eq_true, decide_eq_true_eq] at h
 omega
end Go.Proofs.YtgnbfmoifnfneaaDoor.L
namespace Go.Proofs.YtgnbfmoifnfneaaDoor.L
open Go.RowKit Go.Proofs.YtgnbfmoifnfneaaDoorW.PrintWords Go.Proofs.YtgnbfmoifnfneaaDoorW.PrintMore
theorem evIf {α : Type} {p : Prop} [Decidable p] {g h : Nat → Option α} {r : α} (hp : p) (hg : Ev g r) : Ev (fun k => if p then g k else h k) r := by simp only [if_pos hp]; exact hg
theorem strOf_nums (l : List UInt8) : strOfNums (l.map fun b => (b.toNat : Int)) = ⟨l.toArray⟩ := by
 unfold strOfNums
 congr 1
 rw [List.map_map]
 have : (fun n : Int => UInt8.ofNat n.toNat) ∘ (fun b : UInt8 => (b.toNat : Int)) = id := by
  funext b
  simp
 rw [this]
 simp
end Go.Proofs.YtgnbfmoifnfneaaDoor.L
namespace Go.Proofs.YtgnbfmoifnfneaaDoor.L
open Go.RowKit Go.Proofs.YtgnbfmoifnfneaaDoor.QA Go.Proofs.YtgnbfmoifnfneaaDoorW.PrintWords Go.Proofs.YtgnbfmoifnfneaaDoorW.PrintLast Go.Proofs.YtgnbfmoifnfneaaDoorW.PrintMore
set_option linter.unusedVariables false
set_option linter.unusedSimpArgs false
def digI (u : Nat) : List Int := (Lib.decDigits u).map fun b => (b.toNat : Int)
theorem digI_small {u : Nat} (h : u < 10) : digI u = [((48 + u : Nat) : Int)] := by
 unfold digI
 rw [Lib.decDigits, dif_pos h, List.map_cons, List.map_nil, UInt8.toNat_ofNat']
 congr 2
 omega
theorem digI_big {u : Nat} (h : ¬ u < 10) : digI u = digI (u / 10) ++ [((48 + u % 10 : Nat) : Int)] := by
 unfold digI
 rw [Lib.decDigits, dif_neg h, List.map_append, List.map_cons, List.map_nil, UInt8.toNat_ofNat']
 congr 3
 omega
def numS (n : Int) : ByteArray := ⟨(Lib.itoa n).toArray⟩
theorem numS_pos {n : Int} (h : 0 ≤ n) : numS n = strOfNums (digI n.toNat) := by
 unfold numS Lib.itoa digI
 rw [if_neg (by omega), strOf_nums]
theorem numLoop_ev (n : Int) (hn : 0 ≤ n) : ∀ (u : Nat) (acc : List Int), 0 < u → u < 1000000000000000000 → acc.length + u < 140737488355320 → Ev (fun k => spec_l04Num.l0 k n acc (u : Int)) (strOfNums (digI u ++ acc)) := by
 intro u
 induction u using Nat.strongRecOn with
 | _ u ih =>
  intro acc h0 hu hl
  refine Ev.step (fun k => rfl) ?_
  (have e1 : Int.tmod (u : Int) 10 = ((u % 10 : Nat) : Int) := by rw [Int.tmod_eq_emod_of_nonneg (by omega)]; omega); (have e2 : wrap64 (Int.tdiv (u : Int) 10) = ((u / 10 : Nat) : Int) := by rw [Int.tdiv_eq_ediv_of_nonneg (by omega), wrap_id (by omega) (by omega)]; omega); (have e3 : (wrap64 (48 + ((u % 10 : Nat) : Int))) % 256 = ((48 + u % 10 : Nat) : Int) := by rw [wrap_id (by omega) (by omega)]; omega); (simp only [spec_l04Num.l0, if_neg (show ¬ (u : Int) = 0 by omega), e1, e2, e3, if_neg (show ¬ ((u % 10 : Nat) : Int) < 0 by omega), Option.bind_some, List.length_cons, List.length_nil, if_pos (show 0 + 1 + acc.length < 140737488355328 by omega)])
  by_cases hs : u < 10
  ·rw [digI_small hs, show u / 10 = 0 by omega, show u % 10 = u by omega]
   refine Ev.step (fun k => rfl) ?_
   simp only [spec_l04Num.l0, show ((0 : Nat) : Int) = 0 from rfl, if_true, if_neg (show ¬ n < 0 by omega)]
   exact Ev.now _
  ·have := ih (u / 10) (by omega) ([((48 + u % 10 : Nat) : Int)] ++ acc) (by omega) (by omega) (by simp only [List.length_append, List.length_cons, List.length_nil]; omega)
   rw [digI_big hs, List.append_assoc]
   exact this
theorem specNum_ev (n : Int) (h0 : 0 ≤ n) (h1 : n ≤ 100000000000000) : Ev (fun k => spec_l04Num.f k n) (numS n) := by
 unfold spec_l04Num.f
 by_cases h : n = 0
 ·subst h
  simp only [if_true]
  exact evVal (Ev.now _) (by rw [numS_pos (by omega), show (0 : Int).toNat = 0 from rfl, digI_small (by omega)]; rfl)
 ·simp only [if_neg h]
  (have := numLoop_ev n h0 n.toNat [] (by omega) (by omega) (by simp only [List.length_nil]; omega)); (rw [Int.toNat_of_nonneg h0] at this); (rw [numS_pos h0])
  simpa using this
theorem itoa_eq (n : Int) (h0 : 0 ≤ n) (h1 : n ≤ 100000000000000) : strconv_Itoa_36.f n = some (numS n) := by
 unfold strconv_Itoa_36.f numS
 rw [if_pos (by omega)]
theorem numS_size (n : Int) (h0 : 0 ≤ n) (h1 : n ≤ 100000000000000) : (numS n).size ≤ 21 := by
 have := Lib.itoa_length_le n (by omega) (by omega)
 unfold numS
 simpa [ByteArray.size] using this
def confTextS (a b c d : Int) : ByteArray := if confB a b c d && decide (a ≤ 999999999) then ((((((((⟨#[107, 101, 121, 32]⟩ : ByteArray) ++ numS a) ++ (⟨#[32, 108, 111, 103, 32]⟩ : ByteArray)) ++ numS b) ++ (⟨#[32, 98, 111, 117, 110, 100, 32]⟩ : ByteArray)) ++ numS c) ++ (⟨#[32, 99, 97, 112, 32]⟩ : ByteArray)) ++ numS d) else ⟨#[]⟩
theorem l4 : (⟨#[107, 101, 121, 32]⟩ : ByteArray).size = 4 := rfl
theorem l5 : (⟨#[32, 108, 111, 103, 32]⟩ : ByteArray).size = 5 := rfl
theorem l7 : (⟨#[32, 98, 111, 117, 110, 100, 32]⟩ : ByteArray).size = 7 := rfl
theorem l5' : (⟨#[32, 99, 97, 112, 32]⟩ : ByteArray).size = 5 := rfl
theorem specText_ev (a b c d : Int) : Ev (fun k => spec_ConfText.f k a b c d) (confTextS a b c d) := by
 unfold spec_ConfText.f
 simp only [confOk_eq, Option.bind_some]
 have hno : ∀ r, r = (⟨#[]⟩ : ByteArray) → Ev (fun k => spec_ConfText.j0 k true a b c d) r := by
  rintro r rfl
  refine Ev.step (fun k => rfl) ?_
  simp only [spec_ConfText.j0, if_true]
  exact Ev.now _
 cases hc : confB a b c d with
 | false =>
  simp only [Bool.false_eq_true, if_false]
  exact hno _ (by unfold confTextS; rw [hc, Bool.false_and, if_neg (by decide)])
 | true =>
  (have h := confB_log hc); (have e : spec_l26Num.f a = some (decide (a ≤ 999999999)) := by unfold spec_l26Num.f; rw [if_pos (by omega)]); (simp only [if_true, e, Option.bind_some])
  by_cases h9 : a ≤ 999999999
  ·simp only [h9, decide_true, Bool.not_true]
   (have ha := numS_size a (by omega) (by omega)); (have hb := numS_size b (by omega) (by omega)); (have hcc := numS_size c (by omega) (by omega)); (have hd := numS_size d (by omega) (by omega)); (have hr : confTextS a b c d = ((((((((⟨#[107, 101, 121, 32]⟩ : ByteArray) ++ numS a) ++ (⟨#[32, 108, 111, 103, 32]⟩ : ByteArray)) ++ numS b) ++ (⟨#[32, 98, 111, 117, 110, 100, 32]⟩ : ByteArray)) ++ numS c) ++ (⟨#[32, 99, 97, 112, 32]⟩ : ByteArray)) ++ numS d) := by unfold confTextS; rw [hc, decide_eq_true h9, if_pos (by decide)]); (rw [hr])
   refine Ev.step (fun k => rfl) ?_
   simp only [spec_ConfText.j0, Bool.false_eq_true, if_false]
   refine Ev.bind (specNum_ev a (by omega) (by omega)) ?_
   refine evIf (by omega) (evIf (by simp only [ByteArray.size_append, l4]; omega) ?_)
   refine Ev.bind (specNum_ev b (by omega) (by omega)) ?_
   refine evIf (by simp only [ByteArray.size_append, l4, l5]; omega) (evIf (by simp only [ByteArray.size_append, l4, l5]; omega) ?_)
   refine Ev.bind (specNum_ev c (by omega) (by omega)) ?_
   refine evIf (by simp only [ByteArray.size_append, l4, l5, l7]; omega) (evIf (by simp only [ByteArray.size_append, l4, l5, l7]; omega) ?_)
   refine Ev.bind (specNum_ev d (by omega) (by omega)) ?_
   refine evIf (by simp only [ByteArray.size_append, l4, l5, l7, l5']; omega) ?_
   exact Ev.now _
  ·simp only [h9, decide_false, Bool.not_false]
   exact hno _ (by unfold confTextS; rw [decide_eq_false h9, Bool.and_false, if_neg (by decide)])
theorem implTextIn_ev (a b c d : Int) : Ev (fun k => impl_confText.f k a b c d) (confTextS a b c d) := by
 unfold impl_confText.f
 simp only [isConf_eq, Option.bind_some]
 have hno : ∀ r, r = (⟨#[]⟩ : ByteArray) → Ev (fun k => impl_confText.j0 k true a b c d) r := by
  rintro r rfl
  refine Ev.step (fun k => rfl) ?_
  simp only [impl_confText.j0, if_true]
  exact Ev.now _
 cases hc : confB a b c d with
 | false =>
  simp only [Bool.false_eq_true, if_false]
  exact hno _ (by unfold confTextS; rw [hc, Bool.false_and, if_neg (by decide)])
 | true =>
  (have h := confB_log hc); (simp only [if_true])
  by_cases h9 : a ≤ 999999999
  ·simp only [show ¬ a > 999999999 by omega, decide_false]
   (have ha := numS_size a (by omega) (by omega)); (have hb := numS_size b (by omega) (by omega)); (have hcc := numS_size c (by omega) (by omega)); (have hd := numS_size d (by omega) (by omega)); (have hr : confTextS a b c d = ((((((((⟨#[107, 101, 121, 32]⟩ : ByteArray) ++ numS a) ++ (⟨#[32, 108, 111, 103, 32]⟩ : ByteArray)) ++ numS b) ++ (⟨#[32, 98, 111, 117, 110, 100, 32]⟩ : ByteArray)) ++ numS c) ++ (⟨#[32, 99, 97, 112, 32]⟩ : ByteArray)) ++ numS d) := by unfold confTextS; rw [hc, decide_eq_true h9, if_pos (by decide)]); (rw [hr])
   refine Ev.step (fun k => rfl) ?_
   simp only [impl_confText.j0, Bool.false_eq_true, if_false]
   refine Ev.bind (evConst (itoa_eq a (by omega) (by omega))) ?_
   refine evIf (by omega) (evIf (by simp only [ByteArray.size_append, l4]; omega) ?_)
   refine Ev.bind (evConst (itoa_eq b (by omega) (by omega))) ?_
   refine evIf (by simp only [ByteArray.size_append, l4, l5]; omega) (evIf (by simp only [ByteArray.size_append, l4, l5]; omega) ?_)
   refine Ev.bind (evConst (itoa_eq c (by omega) (by omega))) ?_
   refine evIf (by simp only [ByteArray.size_append, l4, l5, l7]; omega) (evIf (by simp only [ByteArray.size_append, l4, l5, l7]; omega) ?_)
   refine Ev.bind (evConst (itoa_eq d (by omega) (by omega))) ?_
   refine evIf (by simp only [ByteArray.size_append, l4, l5, l7, l5']; omega) ?_
   exact Ev.now _
  ·simp only [show a > 999999999 by omega, decide_true]
   exact hno _ (by unfold confTextS; rw [decide_eq_false h9, Bool.and_false, if_neg (by decide)])
theorem ba_ext {a b : ByteArray} (h : a.data.toList = b.data.toList) : a = b := by
 cases a; cases b
 congr 1
 exact Array.ext' h
theorem ba_append (a b : ByteArray) : (a ++ b).data.toList = a.data.toList ++ b.data.toList := by simp
def spc : ByteArray := ⟨#[32]⟩
def joinS : List ByteArray → ByteArray
 | [] => ⟨#[]⟩
 | [p] => p
 | p :: q :: r => (p ++ spc) ++ joinS (q :: r)
def noSp (p : ByteArray) : Prop := ∀ b, b ∈ p.data.toList → b ≠ 32
theorem joinS_data (p q : ByteArray) (r : List ByteArray) : (joinS (p :: q :: r)).data.toList = p.data.toList ++ 32 :: (joinS (q :: r)).data.toList := by
 show ((p ++ spc) ++ joinS (q :: r)).data.toList = _
 rw [ba_append, ba_append]
 simp [spc]
theorem index_skip : ∀ (p r : List UInt8), (∀ b, b ∈ p → b ≠ 32) → Lib.index (p ++ 32 :: r) [32] = (p.length : Int)
 | [], r, _ => by simp [Lib.index, List.isPrefixOf]
 | c :: p, r, h => by
  (have hc : c ≠ 32 := h c (List.mem_cons_self ..)); (have hp : ([32] : List UInt8).isPrefixOf (c :: (p ++ 32 :: r)) = false := by simp [List.isPrefixOf, Ne.symm hc]); (have ih := index_skip p r (fun b hb => h b (List.mem_cons_of_mem _ hb))); (rw [List.cons_append, Lib.index, hp, ih]); (simp only [Bool.false_eq_true, if_false, List.length_cons]); (rw [if_neg (by rw [beq_iff_eq]; omega)])
  omega
theorem index_none : ∀ p : List UInt8, (∀ b, b ∈ p → b ≠ 32) → Lib.index p [32] = -1
 | [], _ => by simp [Lib.index]
 | c :: p, h => by
  (have hc : c ≠ 32 := h c (List.mem_cons_self ..)); (have hp : ([32] : List UInt8).isPrefixOf (c :: p) = false := by simp [List.isPrefixOf, Ne.symm hc]); (rw [Lib.index, hp, index_none p (fun b hb => h b (List.mem_cons_of_mem _ hb))])
  simp
theorem split_join : ∀ ps : List ByteArray, ps ≠ [] → (∀ p, p ∈ ps → noSp p) → Lib.splitB spc 0 (Lib.countB (joinS ps) spc) (joinS ps) = ps
 | [], h, _ => absurd rfl h
 | [p], _, h => by
  (have hx : Lib.indexB (joinS [p]) spc = -1 := index_none p.data.toList (h p (List.mem_cons_self ..))); (rw [Lib.countB_miss _ _ hx, Lib.splitB_zero])
  rfl
 | p :: q :: r, _, h => by
  have hd := joinS_data p q r
  have hx : Lib.indexB (joinS (p :: q :: r)) spc = (p.size : Int) := by
   show Lib.index _ _ = _
   (rw [hd]); (have := index_skip p.data.toList (joinS (q :: r)).data.toList (h p (List.mem_cons_self ..))); (rw [data_length] at this)
   exact this
  have hsz : (joinS (p :: q :: r)).size = p.size + 1 + (joinS (q :: r)).size := by
   rw [← data_length, hd, List.length_append, List.length_cons, data_length, data_length]; omega
  have e1 : (joinS (p :: q :: r)).extract (p.size + spc.size) (joinS (p :: q :: r)).size = joinS (q :: r) := by
   apply ba_ext
   (rw [Lib.extract_data, hd, show spc.size = 1 from rfl, hsz]); (rw [List.drop_append, List.drop_of_length_le (by rw [data_length]; omega), data_length, show p.size + 1 - p.size = 1 by omega, List.nil_append, List.drop_succ_cons, List.drop_zero, List.take_of_length_le (by rw [data_length]; omega)])
  have e2 : (joinS (p :: q :: r)).extract 0 (p.size + 0) = p := by
   apply ba_ext
   rw [Lib.extract_data, hd, List.drop_zero, List.take_append_of_le_length (by rw [data_length]; omega), List.take_of_length_le (by rw [data_length]; omega)]
  rw [Lib.countB_hit _ _ p.size (by decide) hx, e1, Nat.add_comm 1, Lib.splitB_hit _ _ _ _ p.size hx, e1, e2, split_join (q :: r) (by simp) (fun x hx => h x (List.mem_cons_of_mem _ hx))]
theorem dec_digits : ∀ (u : Nat) (b : UInt8), b ∈ Lib.decDigits u → 48 ≤ b.toNat ∧ b.toNat ≤ 57 := by
 intro u
 induction u using Nat.strongRecOn with
 | _ u ih =>
  intro b hb
  rw [Lib.decDigits] at hb
  split at hb
  ·rename_i h
   (rw [List.mem_singleton] at hb); (rw [hb, UInt8.toNat_ofNat'])
   omega
  ·rcases List.mem_append.1 hb with hb | hb
   ·exact ih (u / 10) (by omega) b hb
   ·rw [List.mem_singleton] at hb
    rw [hb, UInt8.toNat_ofNat']
    omega
theorem dec_ne (u : Nat) : Lib.decDigits u ≠ [] := by
 rw [Lib.decDigits]
 split
 ·simp
 ·simp
theorem parse_append : ∀ (l1 l2 : List UInt8) (acc u : Nat), Lib.parseUint10 acc l1 = .ok u → Lib.parseUint10 acc (l1 ++ l2) = Lib.parseUint10 u l2
 | [], l2, acc, u, h => by
  simp only [Lib.parseUint10] at h
  injection h with h
  subst h; rfl
 | c :: l1, l2, acc, u, h => by
  (rw [List.cons_append]); (simp only [Lib.parseUint10] at h ⊢)
  split at h
  ·rename_i h0
   rw [if_pos h0]
   split at h
   ·cases h
   ·rename_i h1
    rw [if_neg h1]
    split at h
    ·cases h
    ·rename_i h2
     rw [if_neg h2]
     exact parse_append l1 l2 _ u h
  ·cases h
theorem parse_dec : ∀ u : Nat, u < 1000000000000000000 → Lib.parseUint10 0 (Lib.decDigits u) = .ok u := by
 intro u
 induction u using Nat.strongRecOn with
 | _ u ih =>
  intro hu
  have one : ∀ acc d : Nat, d < 10 → acc < 1000000000000000000 → Lib.parseUint10 acc [UInt8.ofNat (48 + d)] = .ok (acc * 10 + d) := by
   intro acc d hd ha
   (have e : (UInt8.ofNat (48 + d)).toNat = 48 + d := by rw [UInt8.toNat_ofNat']; omega); (simp only [Lib.parseUint10, e]); (rw [if_pos (by omega), if_neg (by omega), if_neg (by omega)])
   congr 1
   omega
  rw [Lib.decDigits]
  by_cases h : u < 10
  ·rw [dif_pos h]
   have := one 0 u h (by omega)
   simpa using this
  ·rw [dif_neg h, parse_append _ _ 0 (u / 10) (ih (u / 10) (by omega) (by omega)), one (u / 10) (u % 10) (by omega) (by omega)]
   congr 1
   omega
theorem numS_data (n : Int) : (numS n).data.toList = Lib.itoa n := by unfold numS; simp
theorem numS_noSp {n : Int} (h0 : 0 ≤ n) : noSp (numS n) := by
 intro b hb
 rw [numS_data] at hb
 unfold Lib.itoa at hb
 (rw [if_neg (by omega)] at hb); (have := dec_digits _ b hb)
 intro e
 rw [e] at this
 exact absurd this.1 (by decide)
theorem atoi_num {n : Int} (h0 : 0 ≤ n) (h1 : n ≤ 999999999) : Lib.atoiAll (numS n).data.toList = .ok n := by
 rw [numS_data]
 unfold Lib.itoa
 (rw [if_neg (by omega)]); (have hp := parse_dec n.toNat (by omega)); (have hd := dec_digits n.toNat); (have hne := dec_ne n.toNat)
 generalize hl : Lib.decDigits n.toNat = l at hp hd hne
 cases l with
 | nil => exact absurd rfl hne
 | cons c r =>
  (have hc := hd c (List.mem_cons_self ..)); (rw [Lib.atoiAll_plain c r (by omega) (by omega)]); (have hm : Lib.parseMag (c :: r) = .ok n.toNat := by unfold Lib.parseMag; rw [if_neg (by simp)]; exact hp); (rw [hm])
  unfold Lib.signless
  (simp only); (rw [if_neg (by omega)])
  congr 1
  omega
theorem lineNumber_num {n : Int} (h0 : 0 ≤ n) (h1 : n ≤ 999999999) : impl_lineNumber.f (numS n) = some (n, true) := by
 have hl := numS_size n h0 (by omega)
 unfold impl_lineNumber.f
 (rw [if_pos (by omega), atoi_num h0 h1]); (simp only [itoa_eq n h0 (by omega), Option.bind_some, if_true]); (rw [if_pos ⟨h0, h1⟩])
theorem itoa_len9 {n : Int} (h0 : 0 ≤ n) (h1 : n ≤ 999999999) : 1 ≤ (numS n).size ∧ (numS n).size ≤ 9 := by
 have key : ∀ (m u : Nat), u < 10 ^ (m + 1) → (Lib.decDigits u).length ≤ m + 1 := by
  intro m
  induction m with
  | zero => intro u hu; rw [Lib.decDigits, dif_pos (by omega)]; simp
  | succ m ih =>
   intro u hu
   rw [Lib.decDigits]
   split
   ·simp
   ·rw [List.length_append, List.length_singleton]
    have := ih (u / 10) (by rw [Nat.pow_succ] at hu; omega)
    omega
 have e : (numS n).size = (Lib.decDigits n.toNat).length := by
  rw [← data_length, numS_data]
  unfold Lib.itoa
  rw [if_neg (by omega)]
 (have := key 8 n.toNat (by omega)); (have hne := dec_ne n.toNat); (rw [e])
 refine ⟨?_, this⟩
 cases h : Lib.decDigits n.toNat with
 | nil => exact absurd h hne
 | cons _ _ => simp
end Go.Proofs.YtgnbfmoifnfneaaDoor.L
namespace Go.Proofs.YtgnbfmoifnfneaaDoor.L
open Go.RowKit Go.Proofs.YtgnbfmoifnfneaaDoor.QA Go.Proofs.YtgnbfmoifnfneaaDoorW.PrintWords Go.Proofs.YtgnbfmoifnfneaaDoorW.PrintLast
set_option linter.unusedVariables false
set_option linter.unusedSimpArgs false
def psOf (a b c d : Int) : List ByteArray := [⟨#[107, 101, 121]⟩, numS a, ⟨#[108, 111, 103]⟩, numS b, ⟨#[98, 111, 117, 110, 100]⟩, numS c, ⟨#[99, 97, 112]⟩, numS d]
def isE (s : ByteArray) (a b c d : Int) : Prop := confB a b c d = true ∧ a ≤ 999999999 ∧ s = confTextS a b c d
theorem e_join {s : ByteArray} {a b c d : Int} (h : isE s a b c d) : s = joinS (psOf a b c d) := by
 (obtain ⟨h1, h2, h3⟩ := h); (rw [h3])
 unfold confTextS
 rw [h1, decide_eq_true h2, if_pos (by decide)]
 apply ba_ext
 unfold psOf
 simp [joinS, spc, ByteArray.data_append]
theorem e_size {s : ByteArray} {a b c d : Int} (h : isE s a b c d) : s.size ≤ 60 := by
 (obtain ⟨h1, h2, h3⟩ := h); (have hl := confB_log h1); (have ha := itoa_len9 (n := a) (by omega) (by omega)); (have hb := itoa_len9 (n := b) (by omega) (by omega)); (have hc := itoa_len9 (n := c) (by omega) (by omega)); (have hd := itoa_len9 (n := d) (by omega) (by omega)); (rw [h3])
 unfold confTextS
 (rw [h1, decide_eq_true h2, if_pos (by decide)]); (simp only [ByteArray.size_append, l4, l5, l7, l5'])
 omega
theorem noSp_of {p : ByteArray} (h : p.data.toList.all (fun b => b != 32) = true) : noSp p := fun b hb => by
 have := List.all_eq_true.1 h b hb
 simpa using this
theorem e_noSp {s : ByteArray} {a b c d : Int} (h : isE s a b c d) : ∀ p, p ∈ psOf a b c d → noSp p := by
 (obtain ⟨h1, h2, h3⟩ := h); (have hl := confB_log h1)
 intro p hp
 unfold psOf at hp
 simp only [List.mem_cons, List.not_mem_nil, or_false] at hp
 rcases hp with rfl | rfl | rfl | rfl | rfl | rfl | rfl | rfl
 ·exact noSp_of (by decide)
 ·exact numS_noSp (by omega)
 ·exact noSp_of (by decide)
 ·exact numS_noSp (by omega)
 ·exact noSp_of (by decide)
 ·exact numS_noSp (by omega)
 ·exact noSp_of (by decide)
 ·exact numS_noSp (by omega)
theorem implE {s : ByteArray} {a b c d : Int} (h : isE s a b c d) : Ev (fun k => impl_ConfRead.f k s) (a, b, c, d, true) := by
 (have hs := e_size h); (have hj := e_join h); (have hn := e_noSp h); (obtain ⟨h1, h2, h3⟩ := h); (have hl := confB_log h1); (have hsp := split_join (psOf a b c d) (by simp [psOf]) hn); (rw [← hj] at hsp)
 have e : strings_Split.f s (⟨#[32]⟩ : ByteArray) = some (psOf a b c d) := by
  unfold strings_Split.f
  rw [if_pos ⟨by omega, by decide⟩]
  exact congrArg some hsp
 unfold impl_ConfRead.f
 rw [e]
 refine Ev.bind (Ev.now (psOf a b c d)) ?_
 refine evIf rfl ?_
 (have r1 : impl_lineNumber.f (rdOf ByteArray.empty (psOf a b c d) ((2 * 0 + 1 : Nat) : Int)) = some (a, true) := lineNumber_num (by omega) (by omega)); (have r2 : impl_lineNumber.f (rdOf ByteArray.empty (psOf a b c d) ((2 * (0 + 1) + 1 : Nat) : Int)) = some (b, true) := lineNumber_num (by omega) (by omega)); (have r3 : impl_lineNumber.f (rdOf ByteArray.empty (psOf a b c d) ((2 * (0 + 1 + 1) + 1 : Nat) : Int)) = some (c, true) := lineNumber_num (by omega) (by omega)); (have r4 : impl_lineNumber.f (rdOf ByteArray.empty (psOf a b c d) ((2 * (0 + 1 + 1 + 1) + 1 : Nat) : Int)) = some (d, true) := lineNumber_num (by omega) (by omega))
 unfold crGo
 refine evBindc r1 ?_
 simp only [if_true]
 unfold crGo
 refine evBindc r2 ?_
 simp only [if_true]
 unfold crGo
 refine evBindc r3 ?_
 simp only [if_true]
 unfold crGo
 refine evBindc r4 ?_
 simp only [if_true]
 unfold crGo
 refine Ev.bind (show Ev (fun k => impl_confText.f k a b c d) (confTextS a b c d) from implTextIn_ev a b c d) ?_
 rw [← h3]
 exact evIf rfl (Ev.now _)
theorem implConfText_ev (a b c d : Int) : Ev (fun k => impl_ConfText.f k a b c d) (confTextS a b c d) := by
 unfold impl_ConfText.f
 exact Ev.bind (implTextIn_ev a b c d) (Ev.now _)
theorem isE_of {a b c d : Int} (h : confTextS a b c d ≠ (⟨#[]⟩ : ByteArray)) : isE (confTextS a b c d) a b c d := by
 by_cases hb : (confB a b c d && decide (a ≤ 999999999)) = true
 ·rw [Bool.and_eq_true, decide_eq_true_eq] at hb
  exact ⟨hb.1, hb.2, rfl⟩
 ·exact absurd (by unfold confTextS; rw [if_neg hb]) h
def shapeB (a b : Int) : Bool := if a = 6 then decide (1 ≤ b ∧ b ≤ 16) else decide (1 ≤ a ∧ a ≤ 5 ∧ b = 0)
theorem isShape_eq (a b : Int) : impl_isShape.f a b = some (shapeB a b) := by
 unfold impl_isShape.f shapeB
 simp only [within_eq, Option.bind_some]
 by_cases h6 : a = 6
 ·simp [h6]
 ·by_cases h1 : 1 ≤ a ∧ a ≤ 5
  ·simp [h6, h1]
   by_cases hb : b = 0 <;> simp [hb]
  ·simp [h6, h1]
   omega
theorem l18Shape_eq (a b : Int) : spec_l18Shape.f a b = some (shapeB a b) := by
 unfold spec_l18Shape.f shapeB
 by_cases h6 : a = 6
 ·simp only [h6, if_true]
  by_cases h1 : b ≥ 1
  ·have h1' : 1 ≤ b := h1
   by_cases h2 : b ≤ 16 <;> simp [h1', h2]
  ·have h1' : ¬ 1 ≤ b := h1
   simp [h1']
 ·rw [if_neg h6, if_neg h6]
  by_cases h1 : a ≥ 1
  ·rw [if_pos h1]
   by_cases h2 : a ≤ 6
   ·rw [if_pos h2]
    (have h3 : a ≤ 5 := by omega); (have h1' : 1 ≤ a := h1)
    by_cases hb : b = 0 <;> simp [hb, h1', h3]
   ·rw [if_neg h2]
    have h3 : ¬ a ≤ 5 := by omega
    simp [h3]
  ·rw [if_neg h1]
   have h1' : ¬ 1 ≤ a := h1
   simp [h1']
theorem shape_range {a b : Int} (h : shapeB a b = true) : 1 ≤ a ∧ a ≤ 6 ∧ 0 ≤ b ∧ b ≤ 16 ∧ (a ≠ 6 → b = 0) ∧ (a = 6 → 1 ≤ b) := by
 unfold shapeB at h
 by_cases h6 : a = 6
 ·rw [if_pos h6] at h
  have := of_decide_eq_true h
  omega
 ·rw [if_neg h6] at h
  have := of_decide_eq_true h
  omega
end Go.Proofs.YtgnbfmoifnfneaaDoor.L
namespace Go.Proofs.YtgnbfmoifnfneaaDoor.L
open Go.RowKit Go.Proofs.YtgnbfmoifnfneaaDoor.QA Go.Proofs.YtgnbfmoifnfneaaDoorW.PrintWords Go.Proofs.YtgnbfmoifnfneaaDoorW.PrintLast Go.Proofs.YtgnbfmoifnfneaaDoorW.PrintMore
set_option linter.unusedVariables false
set_option linter.unusedSimpArgs false
theorem numS_sz (n : Int) (h0 : 0 ≤ n) (h1 : n ≤ 100000000000000) : (numS n).size ≤ 21 := by
 have := Lib.itoa_length_le n (by omega) (by omega)
 unfold numS
 simpa [ByteArray.size] using this
def reqQ (a : Int) (w : ByteArray) (e : Int) (t : ByteArray) : Bool := shapeB a e && (decide (w.size ≤ 100) && decide (t.size ≤ 2000))
theorem specReqOk_q (a : Int) (w : ByteArray) (b c d e : Int) (t : ByteArray) : spec_ReqOk.f a w b c d e t = some (reqQ a w e t) := by
 unfold spec_ReqOk.f reqQ
 rw [l18Shape_eq, Option.bind_some]
 cases shapeB a e with
 | false => rfl
 | true =>
  simp only [if_true, Bool.true_and]
  by_cases h : w.size ≤ 100
  ·rw [if_pos (by omega)]
   simp only [h, decide_true, Bool.true_and]
   congr 2
   simp; omega
  ·rw [if_neg (by omega)]
   simp [h]
theorem isReq_q (a : Int) (w : ByteArray) (b c d e : Int) (t : ByteArray) : impl_isReq.f a w b c d e t = some (reqQ a w e t) := by
 unfold impl_isReq.f reqQ
 rw [isShape_eq, Option.bind_some]
 cases shapeB a e with
 | false => rfl
 | true =>
  simp only [if_true, Bool.true_and]
  by_cases h : w.size ≤ 100
  ·rw [if_pos (by omega)]
   simp only [h, decide_true, Bool.true_and]
   congr 2
   simp; omega
  ·rw [if_neg (by omega)]
   simp [h]
def gapU8 (b : UInt8) : Bool := ([9, 10, 13, 32] : List UInt8).contains b
def goodW (s : ByteArray) : Bool := decide (0 < s.size) && !(s.data.toList.any gapU8)
theorem data_size (s : ByteArray) : s.data.toList.length = s.size := (Lib.size_eq s).symm
theorem bt_data (s : ByteArray) {i : Nat} (h : i < s.size) : bt s (i : Int) = ((s.data.toList.getD i 0).toNat : Int) := by
 unfold bt
 rw [dif_pos (by simpa using h), getD_lt _ (by rw [data_size]; exact h)]
 rfl
theorem gap_eq (b : UInt8) : spec_l01Gap.f (b.toNat : Int) = some (gapU8 b) := by
 unfold spec_l01Gap.f gapU8
 (have e9 : ((b.toNat : Int) = 9) ↔ b = 9 := ⟨fun h => UInt8.toNat_inj.mp (by have e : (9 : UInt8).toNat = 9 := rfl; omega), fun h => by rw [h]; rfl⟩); (have e10 : ((b.toNat : Int) = 10) ↔ b = 10 := ⟨fun h => UInt8.toNat_inj.mp (by have e : (10 : UInt8).toNat = 10 := rfl; omega), fun h => by rw [h]; rfl⟩); (have e13 : ((b.toNat : Int) = 13) ↔ b = 13 := ⟨fun h => UInt8.toNat_inj.mp (by have e : (13 : UInt8).toNat = 13 := rfl; omega), fun h => by rw [h]; rfl⟩); (have e32 : ((b.toNat : Int) = 32) ↔ b = 32 := ⟨fun h => UInt8.toNat_inj.mp (by have e : (32 : UInt8).toNat = 32 := rfl; omega), fun h => by rw [h]; rfl⟩)
 by_cases h9 : b = 9
 ·subst h9; rfl
 by_cases h10 : b = 10
 ·subst h10; rfl
 by_cases h13 : b = 13
 ·subst h13; rfl
 rw [if_neg (fun e => h9 (e9.1 e)), if_neg (fun e => h10 (e10.1 e)), if_neg (fun e => h13 (e13.1 e))]
 congr 1
 rw [Bool.eq_iff_iff, beq_iff_eq, e32]
 simp [h9, h10, h13]
theorem any_false {l : List UInt8} {p : UInt8 → Bool} : (l.any p = false) ↔ (List.range l.length).all (fun i => !p (l.getD i 0)) = true := by
 rw [all_range l 0 (fun b => !p b), List.all_eq_true]
 simp
theorem specWord_ev (s : ByteArray) (hs : s.size ≤ 9223372036854775807) : Ev (fun k => spec_l26Word.f k s) (goodW s) := by
 unfold spec_l26Word.f goodW
 refine evVal (search_ev s.size (fun k i => spec_l26Word.l0 k s i) (fun i => !gapU8 (s.data.toList.getD i 0)) false (decide (0 < s.size)) ?_ ?_ ?_) ?_
 ·intro i hi hp r hr
  rw [Bool.not_eq_true'] at hp
  refine Ev.step (fun k => ?_) hr
  (simp only [spec_l26Word.l0, bt_data s hi, gap_eq, hp, Option.bind_some, Bool.false_eq_true, if_false]); (rw [if_pos (by omega), if_pos (by omega), wrap_nat_succ (by omega)])
 ·intro i hi hp
  rw [Bool.not_eq_false'] at hp
  refine Ev.step (f := fun _ => some false) (fun k => ?_) (Ev.now _)
  (simp only [spec_l26Word.l0, bt_data s hi, gap_eq, hp, Option.bind_some, if_true]); (rw [if_pos (by omega), if_pos (by omega)])
 ·refine Ev.step (f := fun _ => some _) (fun k => ?_) (Ev.now _)
  (simp only [spec_l26Word.l0]); (rw [if_neg (by omega)])
  congr 1
  rw [decide_eq_decide]
  omega
 ·have h := @any_false s.data.toList gapU8
  rw [data_size] at h
  cases hA : (List.range s.size).all fun i => !gapU8 (s.data.toList.getD i 0) with
  | true => rw [h.2 hA]; simp
  | false =>
   have : s.data.toList.any gapU8 = true := by
    cases hB : s.data.toList.any gapU8 with
    | true => rfl
    | false => rw [h.1 hB] at hA; cases hA
   rw [this]; simp
theorem num_eq (n : Int) : spec_l26Num.f n = some (decide (0 ≤ n ∧ n ≤ 999999999)) := by
 unfold spec_l26Num.f
 by_cases h : n ≥ 0
 ·rw [if_pos h]; congr 1; rw [decide_eq_decide]; omega
 ·rw [if_neg h, decide_eq_false (by omega)]
theorem indexAny_any (chars : List UInt8) : ∀ l : List UInt8, decide (0 ≤ Lib.indexAny l chars) = l.any (fun b => chars.contains b)
 | [] => rfl
 | x :: xs => by
  (have hge := Lib.indexAny_ge chars xs); (rw [List.any_cons, ← indexAny_any chars xs])
  show decide ((0 : Int) ≤ (if chars.contains x = true then 0 else if (Lib.indexAny xs chars == -1) = true then -1 else Lib.indexAny xs chars + 1)) = _
  cases chars.contains x with
  | true => simp
  | false =>
   simp only [Bool.false_eq_true, if_false, Bool.false_or, beq_iff_eq]
   by_cases h : Lib.indexAny xs chars = -1
   ·rw [if_pos h, h]
   ·rw [if_neg h, decide_eq_decide]
    omega
theorem containsAny_eq (s : ByteArray) (h : s.size ≤ 100) : strings_ContainsAny.f s ⟨#[9, 10, 13, 32]⟩ = some (s.data.toList.any gapU8) := by
 unfold strings_ContainsAny.f
 rw [if_pos ⟨by omega, by decide, by decide, by decide⟩]
 congr 1
 exact indexAny_any _ _
theorem contains_eq (s : ByteArray) : strings_Contains.f s ⟨#[10]⟩ = some (s.data.toList.any (· == 10)) := by
 unfold strings_Contains.f
 rw [if_pos (by decide)]
 congr 1
 have h := Lib.contains_iff_indexByte s.data.toList 10
 show decide (0 ≤ Lib.indexByte s.data.toList 10) = _
 rw [← h, List.contains_eq_any_beq]
 congr 1
 funext b
 rw [Bool.eq_iff_iff, beq_iff_eq, beq_iff_eq]
 exact eq_comm
abbrev NoT : ByteArray := ⟨#[]⟩
def inN (n : Int) : Prop := 0 ≤ n ∧ n ≤ 999999999
instance (n : Int) : Decidable (inN n) := inferInstanceAs (Decidable (_ ∧ _))
def kindW (a : Int) : ByteArray := if a = 1 then ⟨#[99, 104, 101, 99, 107, 32]⟩ else if a = 2 then ⟨#[116, 111, 112, 32]⟩ else if a = 3 then ⟨#[97, 100, 100, 32]⟩ else if a = 4 then ⟨#[100, 114, 111, 112, 32]⟩ else if a = 5 then ⟨#[115, 101, 116, 32]⟩ else ⟨#[116, 101, 120, 116, 32]⟩
def okT (w t : ByteArray) : Bool := t.toList.isEmpty && goodW w
def reqTextS (a : Int) (w : ByteArray) (b c d e : Int) (t : ByteArray) : ByteArray :=
  if reqQ a w e t = true then
    if a = 6 then (if (w.toList.isEmpty = true ∧ b = 0 ∧ c = 0 ∧ d = 0) ∧ t.data.toList.any (· == 10) = false then ((kindW 6 ++ numS e) ++ ⟨#[32]⟩) ++ t else NoT)
    else if okT w t = true then
      (if a = 2 then (if b = 0 ∧ inN c ∧ inN d then ((((kindW 2 ++ w) ++ ⟨#[32]⟩) ++ numS c) ++ ⟨#[32]⟩) ++ numS d else NoT)
       else if a = 3 ∨ a = 5 then (if (c = 0 ∧ d = 0) ∧ inN b then ((kindW a ++ w) ++ ⟨#[32]⟩) ++ numS b else NoT)
       else (if b = 0 ∧ c = 0 ∧ d = 0 then kindW a ++ w else NoT))
    else NoT
  else NoT
theorem reqTextS_14 {a : Int} {w : ByteArray} {b c d e : Int} {t : ByteArray} (ha : a = 1 ∨ a = 4) (hq : reqQ a w e t = true) : reqTextS a w b c d e t = if okT w t = true then (if b = 0 ∧ c = 0 ∧ d = 0 then kindW a ++ w else NoT) else NoT := by
 unfold reqTextS
 rw [hq, if_pos rfl, if_neg (show ¬ a = 6 by omega), if_neg (show ¬ a = 2 by omega), if_neg (show ¬ (a = 3 ∨ a = 5) by omega)]
theorem reqTextS_2 {w : ByteArray} {b c d e : Int} {t : ByteArray} (hq : reqQ 2 w e t = true) : reqTextS 2 w b c d e t = if okT w t = true then (if b = 0 ∧ inN c ∧ inN d then ((((kindW 2 ++ w) ++ ⟨#[32]⟩) ++ numS c) ++ ⟨#[32]⟩) ++ numS d else NoT) else NoT := by
 unfold reqTextS
 rw [hq, if_pos rfl, if_neg (show ¬ (2 : Int) = 6 by decide), if_pos (show (2 : Int) = 2 from rfl)]
theorem reqTextS_35 {a : Int} {w : ByteArray} {b c d e : Int} {t : ByteArray} (ha : a = 3 ∨ a = 5) (hq : reqQ a w e t = true) : reqTextS a w b c d e t = if okT w t = true then (if (c = 0 ∧ d = 0) ∧ inN b then ((kindW a ++ w) ++ ⟨#[32]⟩) ++ numS b else NoT) else NoT := by
 unfold reqTextS
 rw [hq, if_pos rfl, if_neg (show ¬ a = 6 by omega), if_neg (show ¬ a = 2 by omega), if_pos ha]
theorem empty_iff (l : List UInt8) : (l = []) ↔ l.isEmpty = true := by cases l <;> simp
theorem toList_size (s : ByteArray) : s.toList.isEmpty = decide (s.size = 0) := by
 rw [Lib.toList_data, Lib.size_eq]
 cases s.data.toList <;> simp
theorem kinds {a : Int} (h : 1 ≤ a ∧ a ≤ 6) : a = 1 ∨ a = 2 ∨ a = 3 ∨ a = 4 ∨ a = 5 ∨ a = 6 := by omega
theorem reqQ_facts {a : Int} {w : ByteArray} {e : Int} {t : ByteArray} (h : reqQ a w e t = true) : (1 ≤ a ∧ a ≤ 6) ∧ (0 ≤ e ∧ e ≤ 16) ∧ (a ≠ 6 → e = 0) ∧ w.size ≤ 100 ∧ t.size ≤ 2000 := by
 unfold reqQ at h
 (simp only [Bool.and_eq_true, decide_eq_true_eq] at h); (have := shape_range h.1)
 exact ⟨by omega, by omega, this.2.2.2.2.1, h.2.1, h.2.2⟩
theorem specReqText_ev (a : Int) (w : ByteArray) (b c d e : Int) (t : ByteArray) : Ev (fun k => spec_ReqText.f k a w b c d e t) (reqTextS a w b c d e t) := by
 unfold spec_ReqText.f
 have hno0 : Ev (fun k => spec_ReqText.j0 k true a w b c d e t) NoT := by
  refine Ev.step (fun k => rfl) ?_
  simp only [spec_ReqText.j0, if_true]
  exact Ev.now _
 have hno2 : Ev (fun k => spec_ReqText.j2 k true a w b c d e t) NoT := by
  refine Ev.step (fun k => rfl) ?_
  simp only [spec_ReqText.j2, if_true]
  exact Ev.now _
 simp only [specReqOk_q, num_eq, Option.bind_some]
 cases hq : reqQ a w e t with
 | false => simp only [Bool.false_eq_true, if_false]; exact evVal hno0 (by unfold reqTextS; rw [hq, if_neg (by decide)])
 | true =>
  (simp only [if_true]); (obtain ⟨ha, he, he0, hw, ht⟩ := reqQ_facts hq)
  by_cases hn : inN b ∧ inN c ∧ inN d
  ·obtain ⟨hb, hc, hd⟩ := hn
   (have nb := numS_sz b hb.1 (by have := hb.2; omega)); (have nc := numS_sz c hc.1 (by have := hc.2; omega)); (have nd := numS_sz d hd.1 (by have := hd.2; omega)); (have ne := numS_sz e he.1 (by omega)); (have evb := specNum_ev b hb.1 (by have := hb.2; omega)); (have evc := specNum_ev c hc.1 (by have := hc.2; omega)); (have evd := specNum_ev d hd.1 (by have := hd.2; omega)); (have eve := specNum_ev e he.1 (by omega)); (have s1 : (⟨#[32]⟩ : ByteArray).size = 1 := rfl); (simp only [decide_eq_true (show 0 ≤ b ∧ b ≤ 999999999 from hb), decide_eq_true (show 0 ≤ c ∧ c ≤ 999999999 from hc), decide_eq_true (show 0 ≤ d ∧ d ≤ 999999999 from hd), if_true, Bool.not_true])
   -- a word is asked for
   have htail : ∀ A, Ev (fun k => spec_ReqText.j2 k false a w b c d e t) A → Ev (fun k => if t.toList = ([] : List UInt8) then ((spec_l26Word.f k w).bind fun x => (if x = true then (spec_ReqText.j2 k false a w b c d e t) else (spec_ReqText.j2 k true a w b c d e t))) else (spec_ReqText.j2 k true a w b c d e t)) (if okT w t = true then A else NoT) := by
    intro A hA
    unfold okT
    by_cases h : t.toList = ([] : List UInt8)
    ·simp only [if_pos h, (empty_iff _).1 h, Bool.true_and]
     refine Ev.bind (specWord_ev w (by omega)) ?_
     cases goodW w with
     | true => simp only [if_true]; exact hA
     | false => simp only [Bool.false_eq_true, if_false]; exact hno2
    ·simp only [if_neg h, show t.toList.isEmpty = false by cases hh : t.toList.isEmpty with | false => rfl | true => exact absurd ((empty_iff _).2 hh) h, Bool.false_and, Bool.false_eq_true, if_false]
     exact hno2
   rcases kinds ha with rfl | rfl | rfl | rfl | rfl | rfl
   ·refine Ev.step (fun k => rfl) ?_
    simp only [spec_ReqText.j0, Bool.false_eq_true, if_false, show ¬ ((1 : Int) = 3) by decide, show ((1 : Int) == 2) = false by decide, show ((1 : Int) == 5) = false by decide]
    refine Ev.step (fun k => rfl) ?_
    simp only [spec_ReqText.j1, Bool.false_eq_true, if_false, show ¬ ((1 : Int) = 6) by decide]
    by_cases h : b = 0 ∧ c = 0 ∧ d = 0
    ·simp only [if_pos h.1, if_pos h.2.1, if_pos h.2.2]
     refine evVal (htail (kindW 1 ++ w) ?_) (by rw [reqTextS_14 (by decide) hq, if_pos h])
     refine Ev.step (fun k => rfl) ?_
     simp only [spec_ReqText.j2, Bool.false_eq_true, if_false, if_true]
     exact evIf (by omega) (Ev.now _)
    ·refine evVal (r := NoT) ?_ (by rw [reqTextS_14 (by decide) hq, if_neg h]; split <;> rfl)
     by_cases h1 : c = 0
     ·by_cases h2 : d = 0
      ·simp only [if_pos h1, if_pos h2, if_neg (show ¬ b = 0 from fun h3 => h ⟨h3, h1, h2⟩)]; exact hno2
      ·simp only [if_pos h1, if_neg h2]; exact hno2
     ·simp only [if_neg h1]; exact hno2
   ·refine Ev.step (fun k => rfl) ?_
    simp only [spec_ReqText.j0, Bool.false_eq_true, if_false, show ¬ ((2 : Int) = 3) by decide, show ((2 : Int) == 2) = true by decide, show ((2 : Int) == 5) = false by decide]
    refine Ev.step (fun k => rfl) ?_
    simp only [spec_ReqText.j1, Bool.false_eq_true, if_false, if_true, show ¬ ((2 : Int) = 6) by decide]
    by_cases h : b = 0
    ·simp only [if_pos h]
     refine evVal (htail (((((kindW 2 ++ w) ++ ⟨#[32]⟩) ++ numS c) ++ ⟨#[32]⟩) ++ numS d) ?_) (by rw [reqTextS_2 hq, if_pos (show b = 0 ∧ inN c ∧ inN d from ⟨h, hc, hd⟩)])
     refine Ev.step (fun k => rfl) ?_
     (have s4 : (⟨#[116, 111, 112, 32]⟩ : ByteArray).size = 4 := rfl); (simp only [spec_ReqText.j2, Bool.false_eq_true, if_false, if_true, show ¬ ((2 : Int) = 1) by decide])
     refine evIf (by omega) (evIf (by rw [ByteArray.size_append, s4]; omega) (Ev.bind evc ?_))
     refine evIf (by simp only [ByteArray.size_append, s4, s1]; omega) (evIf (by simp only [ByteArray.size_append, s4, s1]; omega) (Ev.bind evd ?_))
     exact evIf (by simp only [ByteArray.size_append, s4, s1]; omega) (Ev.now _)
    ·simp only [if_neg h]
     exact evVal hno2 (by rw [reqTextS_2 hq, if_neg (show ¬ (b = 0 ∧ inN c ∧ inN d) from fun hh => h hh.1)]; split <;> rfl)
   ·refine Ev.step (fun k => rfl) ?_
    simp only [spec_ReqText.j0, Bool.false_eq_true, if_false, if_true, show ((3 : Int) == 2) = false by decide]
    refine Ev.step (fun k => rfl) ?_
    simp only [spec_ReqText.j1, Bool.false_eq_true, if_false, if_true, show ¬ ((3 : Int) = 6) by decide]
    by_cases h : c = 0 ∧ d = 0
    ·simp only [if_pos h.1, if_pos h.2]
     refine evVal (htail (((kindW 3 ++ w) ++ ⟨#[32]⟩) ++ numS b) ?_) (by rw [reqTextS_35 (by decide) hq, if_pos (show (c = 0 ∧ d = 0) ∧ inN b from ⟨h, hb⟩)])
     refine Ev.step (fun k => rfl) ?_
     (have s4 : (⟨#[97, 100, 100, 32]⟩ : ByteArray).size = 4 := rfl); (simp only [spec_ReqText.j2, Bool.false_eq_true, if_false, if_true, show ¬ ((3 : Int) = 1) by decide, show ¬ ((3 : Int) = 2) by decide])
     refine evIf (by omega) (evIf (by rw [ByteArray.size_append, s4]; omega) (Ev.bind evb ?_))
     exact evIf (by simp only [ByteArray.size_append, s4, s1]; omega) (Ev.now _)
    ·refine evVal (r := NoT) ?_ (by rw [reqTextS_35 (by decide) hq, if_neg (show ¬ ((c = 0 ∧ d = 0) ∧ inN b) from fun hh => h hh.1)]; split <;> rfl)
     by_cases h1 : c = 0
     ·simp only [if_pos h1, if_neg (show ¬ d = 0 from fun h2 => h ⟨h1, h2⟩)]; exact hno2
     ·simp only [if_neg h1]; exact hno2
   ·refine Ev.step (fun k => rfl) ?_
    simp only [spec_ReqText.j0, Bool.false_eq_true, if_false, show ¬ ((4 : Int) = 3) by decide, show ((4 : Int) == 2) = false by decide, show ((4 : Int) == 5) = false by decide]
    refine Ev.step (fun k => rfl) ?_
    simp only [spec_ReqText.j1, Bool.false_eq_true, if_false, show ¬ ((4 : Int) = 6) by decide]
    by_cases h : b = 0 ∧ c = 0 ∧ d = 0
    ·simp only [if_pos h.1, if_pos h.2.1, if_pos h.2.2]
     refine evVal (htail (kindW 4 ++ w) ?_) (by rw [reqTextS_14 (by decide) hq, if_pos h])
     refine Ev.step (fun k => rfl) ?_
     simp only [spec_ReqText.j2, Bool.false_eq_true, if_false, if_true, show ¬ ((4 : Int) = 1) by decide, show ¬ ((4 : Int) = 2) by decide, show ¬ ((4 : Int) = 3) by decide]
     exact evIf (by omega) (Ev.now _)
    ·refine evVal (r := NoT) ?_ (by rw [reqTextS_14 (by decide) hq, if_neg h]; split <;> rfl)
     by_cases h1 : c = 0
     ·by_cases h2 : d = 0
      ·simp only [if_pos h1, if_pos h2, if_neg (show ¬ b = 0 from fun h3 => h ⟨h3, h1, h2⟩)]; exact hno2
      ·simp only [if_pos h1, if_neg h2]; exact hno2
     ·simp only [if_neg h1]; exact hno2
   ·refine Ev.step (fun k => rfl) ?_
    simp only [spec_ReqText.j0, Bool.false_eq_true, if_false, show ¬ ((5 : Int) = 3) by decide, show ((5 : Int) == 2) = false by decide, show ((5 : Int) == 5) = true by decide]
    refine Ev.step (fun k => rfl) ?_
    simp only [spec_ReqText.j1, Bool.false_eq_true, if_false, if_true, show ¬ ((5 : Int) = 6) by decide]
    by_cases h : c = 0 ∧ d = 0
    ·simp only [if_pos h.1, if_pos h.2]
     refine evVal (htail (((kindW 5 ++ w) ++ ⟨#[32]⟩) ++ numS b) ?_) (by rw [reqTextS_35 (by decide) hq, if_pos (show (c = 0 ∧ d = 0) ∧ inN b from ⟨h, hb⟩)])
     refine Ev.step (fun k => rfl) ?_
     (have s4 : (⟨#[115, 101, 116, 32]⟩ : ByteArray).size = 4 := rfl); (simp only [spec_ReqText.j2, Bool.false_eq_true, if_false, if_true, show ¬ ((5 : Int) = 1) by decide, show ¬ ((5 : Int) = 2) by decide, show ¬ ((5 : Int) = 3) by decide, show ¬ ((5 : Int) = 4) by decide])
     refine evIf (by omega) (evIf (by rw [ByteArray.size_append, s4]; omega) (Ev.bind evb ?_))
     exact evIf (by simp only [ByteArray.size_append, s4, s1]; omega) (Ev.now _)
    ·refine evVal (r := NoT) ?_ (by rw [reqTextS_35 (by decide) hq, if_neg (show ¬ ((c = 0 ∧ d = 0) ∧ inN b) from fun hh => h hh.1)]; split <;> rfl)
     by_cases h1 : c = 0
     ·simp only [if_pos h1, if_neg (show ¬ d = 0 from fun h2 => h ⟨h1, h2⟩)]; exact hno2
     ·simp only [if_neg h1]; exact hno2
   ·refine Ev.step (fun k => rfl) ?_
    simp only [spec_ReqText.j0, Bool.false_eq_true, if_false, show ¬ ((6 : Int) = 3) by decide, show ((6 : Int) == 2) = false by decide, show ((6 : Int) == 5) = false by decide]
    refine Ev.step (fun k => rfl) ?_
    simp only [spec_ReqText.j1, Bool.false_eq_true, if_false, if_true]
    by_cases h : b = 0 ∧ c = 0 ∧ d = 0
    ·simp only [if_pos h.1, if_pos h.2.1, if_pos h.2.2]
     by_cases hwe : w.toList.isEmpty = true
     ·have e1 : (w.toList != ([] : List UInt8)) = false := by rw [(empty_iff _).2 hwe]; rfl
      simp only [e1]
      refine Ev.step (fun k => rfl) ?_
      (simp only [spec_ReqText.j2, Bool.false_eq_true, if_false, show ¬ ((6 : Int) = 1) by decide, show ¬ ((6 : Int) = 2) by decide, show ¬ ((6 : Int) = 3) by decide, show ¬ ((6 : Int) = 4) by decide, show ¬ ((6 : Int) = 5) by decide]); (have s5 : (⟨#[116, 101, 120, 116, 32]⟩ : ByteArray).size = 5 := rfl)
      refine evVal (search_ev t.size (fun k i => spec_ReqText.l0 k i 6 w b c d e t) (fun i => !(t.data.toList.getD i 0 == 10)) NoT (((kindW 6 ++ numS e) ++ ⟨#[32]⟩) ++ t) ?_ ?_ ?_) ?_
      ·intro i hi hp r hr
       (rw [Bool.not_eq_true', beq_eq_false_iff_ne] at hp); (have hb10 : ¬ ((t.data.toList.getD i 0).toNat : Int) = 10 := fun hh => hp (UInt8.toNat_inj.mp (by have e : (10 : UInt8).toNat = 10 := rfl; omega)))
       refine Ev.step (fun k => ?_) hr
       (simp only [spec_ReqText.l0, bt_data t hi]); (rw [if_pos (by omega), if_pos (by omega), if_neg hb10, wrap_nat_succ (by omega)])
      ·intro i hi hp
       rw [Bool.not_eq_false', beq_iff_eq] at hp
       refine Ev.step (f := fun _ => some _) (fun k => ?_) (Ev.now _)
       (simp only [spec_ReqText.l0, bt_data t hi, hp]); (rw [if_pos (by omega), if_pos (by omega), if_pos (show ((UInt8.toNat 10 : Nat) : Int) = 10 from rfl)])
      ·refine Ev.step (fun k => rfl) ?_
       simp only [spec_ReqText.l0, if_neg (show ¬ (t.size : Int) < (t.size : Int) by omega)]
       refine Ev.bind eve ?_
       exact evIf (by omega) (evIf (by rw [ByteArray.size_append, s5]; omega) (evIf (by simp only [ByteArray.size_append, s5, s1]; omega) (Ev.now _)))
      ·have ha := @any_false t.data.toList (· == 10)
       rw [data_size] at ha
       unfold reqTextS
       rw [hq, if_pos rfl, if_pos rfl]
       cases hA : (List.range t.size).all fun i => !(t.data.toList.getD i 0 == 10) with
       | true => rw [if_pos rfl, if_pos ⟨⟨hwe, h⟩, ha.2 hA⟩]
       | false => rw [if_neg (by decide), if_neg (fun hh => by rw [ha.1 hh.2] at hA; cases hA)]
     ·have e1 : (w.toList != ([] : List UInt8)) = true := by rw [bne_iff_ne]; exact fun hh => hwe ((empty_iff _).1 hh)
      simp only [e1]
      exact evVal hno2 (by unfold reqTextS; rw [hq, if_pos rfl, if_pos rfl, if_neg (fun hh => hwe hh.1.1)])
    ·refine evVal (r := NoT) ?_ (by unfold reqTextS; rw [hq, if_pos rfl, if_pos rfl, if_neg (fun hh => h hh.1.2)])
     by_cases h1 : c = 0
     ·by_cases h2 : d = 0
      ·simp only [if_pos h1, if_pos h2, if_neg (show ¬ b = 0 from fun h3 => h ⟨h3, h1, h2⟩)]; exact hno2
      ·simp only [if_pos h1, if_neg h2]; exact hno2
     ·simp only [if_neg h1]; exact hno2
  ·have hz : inN 0 := by decide
   refine evVal (r := NoT) ?_ ?_
   ·by_cases h1 : 0 ≤ b ∧ b ≤ 999999999
    ·by_cases h2 : 0 ≤ c ∧ c ≤ 999999999
     ·simp only [decide_eq_true h1, decide_eq_true h2, if_true, decide_eq_false (show ¬ (0 ≤ d ∧ d ≤ 999999999) from fun h3 => hn ⟨h1, h2, h3⟩), Bool.not_false]; exact hno0
     ·simp only [decide_eq_true h1, decide_eq_false h2, if_true, Bool.false_eq_true, if_false]; exact hno0
    ·simp only [decide_eq_false h1, Bool.false_eq_true, if_false]; exact hno0
   ·unfold reqTextS
    rw [hq, if_pos rfl]
    by_cases h6 : a = 6
    ·rw [if_pos h6, if_neg (fun hh => hn (by rw [hh.1.2.1, hh.1.2.2.1, hh.1.2.2.2]; exact ⟨hz, hz, hz⟩))]
    ·rw [if_neg h6]
     split
     ·by_cases h2 : a = 2
      ·rw [if_pos h2, if_neg (fun hh => hn ⟨by rw [hh.1]; exact hz, hh.2⟩)]
      ·rw [if_neg h2]
       by_cases h35 : a = 3 ∨ a = 5
       ·rw [if_pos h35, if_neg (fun hh => hn ⟨hh.2, by rw [hh.1.1]; exact hz, by rw [hh.1.2]; exact hz⟩)]
       ·rw [if_neg h35, if_neg (fun hh => hn (by rw [hh.1, hh.2.1, hh.2.2]; exact ⟨hz, hz, hz⟩))]
     ·rfl
theorem l0_end (x : ByteArray) (L : List Int) : Ev (fun k => impl_reqText.l0 k x L (L.length : Int) (L.length : Int)) x := by
 refine Ev.step (f := fun _ => some x) (fun k => ?_) (Ev.now _)
 (simp only [impl_reqText.l0]); (rw [if_neg (by omega)])
theorem l0_step (x r : ByteArray) (L : List Int) (i : Nat) (hi : i < L.length) (hl : L.length ≤ 100) (hx : x.size ≤ 100000)
  (h : inN (rd L (i : Int)) → Ev (fun k => impl_reqText.l0 k (x ++ (⟨#[32]⟩ ++ numS (rd L (i : Int)))) L (L.length : Int) ((i + 1 : Nat) : Int)) r) :
  Ev (fun k => impl_reqText.l0 k x L (L.length : Int) (i : Int)) (if inN (rd L (i : Int)) then r else NoT) := by
 have s1 : (⟨#[32]⟩ : ByteArray).size = 1 := rfl
 by_cases hn : inN (rd L (i : Int))
 ·rw [if_pos hn]
  have ns := numS_sz _ hn.1 (by have := hn.2; omega)
  refine Ev.step (fun k => ?_) (h hn)
  (simp only [impl_reqText.l0, within_eq, decide_eq_true (show 0 ≤ rd L (i : Int) ∧ rd L (i : Int) ≤ 999999999 from hn), Option.bind_some, if_true, itoa_eq _ hn.1 (show rd L (i : Int) ≤ 100000000000000 by have := hn.2; omega)]); (rw [if_pos (by omega), if_pos (by omega), if_pos (by omega), if_pos (by omega), if_pos (by rw [ByteArray.size_append, s1]; omega), wrap_nat_succ (by omega)])
 ·rw [if_neg hn]
  refine Ev.step (f := fun _ => some NoT) (fun k => ?_) (Ev.now _)
  (simp only [impl_reqText.l0, within_eq, decide_eq_false (show ¬ (0 ≤ rd L (i : Int) ∧ rd L (i : Int) ≤ 999999999) from hn), Option.bind_some, Bool.false_eq_true, if_false]); (rw [if_pos (by omega), if_pos (by omega), if_pos (by omega)])
theorem j1_ev (x r : ByteArray) (L : List Int) (z : Bool) (a : Int) (w : ByteArray) (b c d e : Int) (t : ByteArray) (hx : x.size ≤ 1000) (hw : w.size ≤ 100)
  (h : Ev (fun k => impl_reqText.l0 k ((x ++ ⟨#[32]⟩) ++ w) L (L.length : Int) 0) r) :
  Ev (fun k => impl_reqText.j1 k x L z a w b c d e t) (if z = true then NoT else r) := by
 have s1 : (⟨#[32]⟩ : ByteArray).size = 1 := rfl
 refine Ev.step (fun k => rfl) ?_
 simp only [impl_reqText.j1]
 cases z with
 | true => simp only [if_true]; exact Ev.now _
 | false =>
  simp only [Bool.false_eq_true, if_false]
  exact evIf (by omega) (evIf (by rw [ByteArray.size_append, s1]; omega) h)
theorem j0_ev (x r : ByteArray) (L : List Int) (a : Int) (w : ByteArray) (b c d e : Int) (t : ByteArray) (y0 : Int) (y1 : ByteArray) (y2 y3 y4 y5 : Int) (y6 : ByteArray) (hx : x.size ≤ 1000) (hw : w.size ≤ 100)
  (h : Ev (fun k => impl_reqText.l0 k ((x ++ ⟨#[32]⟩) ++ w) L (L.length : Int) 0) r) :
  Ev (fun k => impl_reqText.j0 k x L a w b c d e t y0 y1 y2 y3 y4 y5 y6) (if (!(y0 == 0) || (!(y1.toList.isEmpty) || (!(y2 == 0) || (!(y3 == 0) || (!(y4 == 0) || (!(y5 == 0) || !(y6.toList.isEmpty))))))) = true then NoT else if goodW w = true then r else NoT) := by
 refine Ev.step (fun k => rfl) ?_
 simp only [impl_reqText.j0, beq_nil_u8]
 generalize (!(y0 == 0) || (!(y1.toList.isEmpty) || (!(y2 == 0) || (!(y3 == 0) || (!(y4 == 0) || (!(y5 == 0) || !(y6.toList.isEmpty))))))) = T
 cases T with
 | true => simp only [if_true]; exact j1_ev x r L true a w b c d e t hx hw h
 | false =>
  simp only [Bool.false_eq_true, if_false]
  by_cases hz : w.toList = ([] : List UInt8)
  ·have : goodW w = false := by
    (have := toList_size w); (rw [(empty_iff _).1 hz] at this); (have h0 := of_decide_eq_true this.symm)
    unfold goodW
    rw [decide_eq_false (by omega)]; rfl
   simp only [if_pos hz, this, Bool.false_eq_true, if_false]
   exact j1_ev x r L true a w b c d e t hx hw h
  ·have : goodW w = !(w.data.toList.any gapU8) := by
    (have h1 := toList_size w); (have h2 : w.toList.isEmpty = false := by cases hh : w.toList.isEmpty with | false => rfl | true => exact absurd ((empty_iff _).2 hh) hz); (rw [h2] at h1); (have h0 := of_decide_eq_false h1.symm)
    unfold goodW
    rw [decide_eq_true (by omega)]; rfl
   simp only [if_neg hz, this]
   refine Ev.bind (evConst (containsAny_eq w (by omega))) ?_
   refine evVal (j1_ev x r L (w.data.toList.any gapU8) a w b c d e t hx hw h) ?_
   cases w.data.toList.any gapU8 <;> rfl
def kindN (a : Int) : ByteArray := if a = 1 then ⟨#[99, 104, 101, 99, 107]⟩ else if a = 2 then ⟨#[116, 111, 112]⟩ else if a = 3 then ⟨#[97, 100, 100]⟩ else if a = 4 then ⟨#[100, 114, 111, 112]⟩ else if a = 5 then ⟨#[115, 101, 116]⟩ else ⟨#[116, 101, 120, 116]⟩
theorem kindN_at {a : Int} (h : 1 ≤ a ∧ a ≤ 6) : reqWordAt.f a = some (kindN a) := by
 rcases kinds h with rfl | rfl | rfl | rfl | rfl | rfl <;> rfl
theorem kindN_w {a : Int} (h : 1 ≤ a ∧ a ≤ 6) : kindN a ++ ⟨#[32]⟩ = kindW a := by
 rcases kinds h with rfl | rfl | rfl | rfl | rfl | rfl <;> rfl
theorem kindN_size {a : Int} (h : 1 ≤ a ∧ a ≤ 6) : (kindN a).size ≤ 5 := by
 rcases kinds h with rfl | rfl | rfl | rfl | rfl | rfl <;> decide
theorem implReqTextIn_ev (a : Int) (w : ByteArray) (b c d e : Int) (t : ByteArray) : Ev (fun k => impl_reqText.f k a w b c d e t) (reqTextS a w b c d e t) := by
 unfold impl_reqText.f
 simp only [isReq_q, Option.bind_some]
 cases hq : reqQ a w e t with
 | false => simp only [Bool.false_eq_true, if_false]; exact evVal (Ev.now _) (by unfold reqTextS; rw [hq, if_neg (by decide)])
 | true =>
  (simp only [if_true]); (obtain ⟨ha, he, he0, hw, ht⟩ := reqQ_facts hq)
  refine Ev.bind (evConst (kindN_at ha)) ?_
  (have hk := kindN_size ha); (have s1 : (⟨#[32]⟩ : ByteArray).size = 1 := rfl)
  by_cases h6 : a = 6
  ·subst h6
   simp only [if_true, beq_nil_u8]
   by_cases hz : w.toList.isEmpty = true ∧ b = 0 ∧ c = 0 ∧ d = 0
   ·obtain ⟨z0, rfl, rfl, rfl⟩ := hz
    simp only [z0, show ((0 : Int) == 0) = true by decide, Bool.not_true, Bool.or_false, Bool.false_eq_true, if_false]
    refine Ev.bind (evConst (contains_eq t)) ?_
    cases hc : t.data.toList.any (· == 10) with
    | true => simp only [if_true]; exact evVal (Ev.now _) (by unfold reqTextS; rw [hq, if_pos rfl, if_pos rfl, if_neg (fun hh => by rw [hc] at hh; cases hh.2)])
    | false =>
     (simp only [Bool.false_eq_true, if_false]); (have ns := numS_sz e he.1 (by omega))
     refine evIf (by omega) (Ev.bind (evConst (itoa_eq e he.1 (by omega))) ?_)
     refine evIf (by simp only [ByteArray.size_append, s1]; omega) (evIf (by simp only [ByteArray.size_append, s1]; omega) (evIf (by simp only [ByteArray.size_append, s1]; omega) ?_))
     refine evVal (Ev.now _) ?_
     unfold reqTextS
     rw [hq, if_pos rfl, if_pos rfl, if_pos ⟨⟨z0, rfl, rfl, rfl⟩, hc⟩, kindN_w ha]
   ·have : (!(w.toList.isEmpty) || (!(b == 0) || (!(c == 0) || !(d == 0)))) = true := by
     cases hw : w.toList.isEmpty with
     | false => rfl
     | true =>
      simp only [Bool.not_true, Bool.false_or, Bool.or_eq_true, Bool.not_eq_true', beq_eq_false_iff_ne]
      by_cases h1 : b = 0
      ·by_cases h2 : c = 0
       ·exact Or.inr (Or.inr (fun h3 => hz ⟨hw, h1, h2, h3⟩))
       ·exact Or.inr (Or.inl h2)
      ·exact Or.inl h1
    simp only [this, if_true]
    exact evVal (Ev.now _) (by unfold reqTextS; rw [hq, if_pos rfl, if_pos rfl, if_neg (fun hh => hz hh.1)])
  ·simp only [if_neg h6]
   (have hee := he0 h6); (have hK : ((kindN a ++ ⟨#[32]⟩) ++ w).size ≤ 1000 := by simp only [ByteArray.size_append, s1]; omega)
   rcases kinds ha with rfl | rfl | rfl | rfl | rfl | rfl
   ·simp only [if_neg (show ¬ (1 : Int) = 2 by decide), if_neg (show ¬ (1 : Int) = 3 by decide), if_neg (show ¬ (1 : Int) = 5 by decide)]
    refine evVal (j0_ev _ _ [] 1 w b c d e t _ _ _ _ _ _ _ (by omega) hw (l0_end _ [])) ?_
    rw [reqTextS_14 (by decide) hq, kindN_w ha, hee]
    unfold okT
    by_cases h1 : b = 0 <;> by_cases h2 : c = 0 <;> by_cases h3 : d = 0 <;> cases t.toList.isEmpty <;> cases goodW w <;> simp [h1, h2, h3, empty_toList_u8]
   ·simp only [if_true]
    refine evVal (j0_ev _ _ [c, d] 2 w b c d e t _ _ _ _ _ _ _ (by omega) hw (l0_step _ _ [c, d] 0 (by simp) (by simp) (by omega) (fun hc => l0_step _ _ [c, d] 1 (by simp) (by simp) (by have hc1 : inN c := hc; have := numS_sz c hc1.1 (by have := hc1.2; omega); simp only [ByteArray.size_append, s1] at hK ⊢; show _ + (1 + (numS c).size) ≤ 100000; omega) (fun _ => l0_end _ [c, d])))) ?_
    rw [reqTextS_2 hq, kindN_w ha, hee]
    unfold okT
    (have e0 : rd [c, d] ((0 : Nat) : Int) = c := rfl); (have e1 : rd [c, d] ((1 : Nat) : Int) = d := rfl); (simp only [e0, e1])
    by_cases h1 : b = 0 <;> by_cases h2 : inN c <;> by_cases h3 : inN d <;> cases t.toList.isEmpty <;> cases goodW w <;> simp [h1, h2, h3, empty_toList_u8, ByteArray.append_assoc]
   ·simp only [if_neg (show ¬ (3 : Int) = 2 by decide), if_true]
    refine evVal (j0_ev _ _ [b] 3 w b c d e t _ _ _ _ _ _ _ (by omega) hw (l0_step _ _ [b] 0 (by simp) (by simp) (by omega) (fun _ => l0_end _ [b]))) ?_
    rw [reqTextS_35 (by decide) hq, kindN_w ha, hee]
    unfold okT
    (have e0 : rd [b] ((0 : Nat) : Int) = b := rfl); (simp only [e0])
    by_cases h1 : inN b <;> by_cases h2 : c = 0 <;> by_cases h3 : d = 0 <;> cases t.toList.isEmpty <;> cases goodW w <;> simp [h1, h2, h3, empty_toList_u8, ByteArray.append_assoc]
   ·simp only [if_neg (show ¬ (4 : Int) = 2 by decide), if_neg (show ¬ (4 : Int) = 3 by decide), if_neg (show ¬ (4 : Int) = 5 by decide)]
    refine evVal (j0_ev _ _ [] 4 w b c d e t _ _ _ _ _ _ _ (by omega) hw (l0_end _ [])) ?_
    rw [reqTextS_14 (by decide) hq, kindN_w ha, hee]
    unfold okT
    by_cases h1 : b = 0 <;> by_cases h2 : c = 0 <;> by_cases h3 : d = 0 <;> cases t.toList.isEmpty <;> cases goodW w <;> simp [h1, h2, h3, empty_toList_u8]
   ·simp only [if_neg (show ¬ (5 : Int) = 2 by decide), if_neg (show ¬ (5 : Int) = 3 by decide), if_true]
    refine evVal (j0_ev _ _ [b] 5 w b c d e t _ _ _ _ _ _ _ (by omega) hw (l0_step _ _ [b] 0 (by simp) (by simp) (by omega) (fun _ => l0_end _ [b]))) ?_
    rw [reqTextS_35 (by decide) hq, kindN_w ha, hee]
    unfold okT
    (have e0 : rd [b] ((0 : Nat) : Int) = b := rfl); (simp only [e0])
    by_cases h1 : inN b <;> by_cases h2 : c = 0 <;> by_cases h3 : d = 0 <;> cases t.toList.isEmpty <;> cases goodW w <;> simp [h1, h2, h3, empty_toList_u8, ByteArray.append_assoc]
   ·exact absurd rfl h6
theorem implReqText_ev (a : Int) (w : ByteArray) (b c d e : Int) (t : ByteArray) : Ev (fun k => impl_ReqText.f k a w b c d e t) (reqTextS a w b c d e t) := Ev.bind (a := reqTextS a w b c d e t) (implReqTextIn_ev a w b c d e t) (Ev.now _)
inductive IsT : ByteArray → Int → ByteArray → Int → Int → Int → Int → ByteArray → Prop
 | text (e : Int) (t : ByteArray) : (0 ≤ e ∧ e ≤ 16) → t.size ≤ 2000 → IsT (joinS [kindN 6, numS e, t]) 6 NoT 0 0 0 e t
 | top (w : ByteArray) (c d : Int) : goodW w = true → w.size ≤ 100 → inN c → inN d → IsT (joinS [kindN 2, w, numS c, numS d]) 2 w 0 c d 0 NoT
 | num (a : Int) (w : ByteArray) (b : Int) : (a = 3 ∨ a = 5) → goodW w = true → w.size ≤ 100 → inN b → IsT (joinS [kindN a, w, numS b]) a w b 0 0 0 NoT
 | bare (a : Int) (w : ByteArray) : (a = 1 ∨ a = 4) → goodW w = true → w.size ≤ 100 → IsT (joinS [kindN a, w]) a w 0 0 0 0 NoT
theorem empty_eq {t : ByteArray} (h : t.toList.isEmpty = true) : t = NoT := by
 rw [Lib.toList_data] at h
 apply ba_ext
 cases hh : t.data.toList with
 | nil => rfl
 | cons _ _ => rw [hh] at h; cases h
theorem okT_facts {w t : ByteArray} (h : okT w t = true) : t = NoT ∧ goodW w = true := by
 unfold okT at h
 rw [Bool.and_eq_true] at h
 exact ⟨empty_eq h.1, h.2⟩
theorem kindW_join (a : Int) (ha : 1 ≤ a ∧ a ≤ 6) (w : ByteArray) : kindW a ++ w = joinS [kindN a, w] := by
 rw [← kindN_w ha]; rfl
theorem isT_of {a : Int} {w : ByteArray} {b c d e : Int} {t s : ByteArray} (h : reqTextS a w b c d e t = s) (hs : s ≠ NoT) : IsT s a w b c d e t := by
 cases hq : reqQ a w e t with
 | false => unfold reqTextS at h; rw [hq, if_neg (by decide)] at h; exact absurd h.symm hs
 | true =>
  obtain ⟨ha, he, he0, hw, ht⟩ := reqQ_facts hq
  rcases kinds ha with rfl | rfl | rfl | rfl | rfl | rfl
  ·rw [reqTextS_14 (by decide) hq] at h
   split at h
   ·rename_i hk
    split at h
    ·rename_i hz
     (obtain ⟨rfl, hg⟩ := okT_facts hk); (obtain ⟨rfl, rfl, rfl⟩ := hz); (obtain rfl := he0 (by decide)); (rw [kindW_join 1 ha] at h); (subst h)
     exact .bare 1 w (.inl rfl) hg hw
    ·exact absurd h.symm hs
   ·exact absurd h.symm hs
  ·rw [reqTextS_2 hq] at h
   split at h
   ·rename_i hk
    split at h
    ·rename_i hz
     (obtain ⟨rfl, hg⟩ := okT_facts hk); (obtain ⟨rfl, hc, hd⟩ := hz); (obtain rfl := he0 (by decide))
     have e1 : ((((kindW 2 ++ w) ++ ⟨#[32]⟩) ++ numS c) ++ ⟨#[32]⟩) ++ numS d = joinS [kindN 2, w, numS c, numS d] := by
      rw [← kindN_w ha]
      show _ = (kindN 2 ++ spc) ++ ((w ++ spc) ++ ((numS c ++ spc) ++ numS d))
      simp only [ByteArray.append_assoc]
      rfl
     (rw [e1] at h); (subst h)
     exact .top w c d hg hw hc hd
    ·exact absurd h.symm hs
   ·exact absurd h.symm hs
  ·rw [reqTextS_35 (by decide) hq] at h
   split at h
   ·rename_i hk
    split at h
    ·rename_i hz
     (obtain ⟨rfl, hg⟩ := okT_facts hk); (obtain ⟨⟨rfl, rfl⟩, hb⟩ := hz); (obtain rfl := he0 (by decide))
     have e1 : ((kindW 3 ++ w) ++ ⟨#[32]⟩) ++ numS b = joinS [kindN 3, w, numS b] := by
      rw [← kindN_w ha]
      show _ = (kindN 3 ++ spc) ++ ((w ++ spc) ++ numS b)
      simp only [ByteArray.append_assoc]
      rfl
     (rw [e1] at h); (subst h)
     exact .num 3 w b (.inl rfl) hg hw hb
    ·exact absurd h.symm hs
   ·exact absurd h.symm hs
  ·rw [reqTextS_14 (by decide) hq] at h
   split at h
   ·rename_i hk
    split at h
    ·rename_i hz
     (obtain ⟨rfl, hg⟩ := okT_facts hk); (obtain ⟨rfl, rfl, rfl⟩ := hz); (obtain rfl := he0 (by decide)); (rw [kindW_join 4 ha] at h); (subst h)
     exact .bare 4 w (.inr rfl) hg hw
    ·exact absurd h.symm hs
   ·exact absurd h.symm hs
  ·rw [reqTextS_35 (by decide) hq] at h
   split at h
   ·rename_i hk
    split at h
    ·rename_i hz
     (obtain ⟨rfl, hg⟩ := okT_facts hk); (obtain ⟨⟨rfl, rfl⟩, hb⟩ := hz); (obtain rfl := he0 (by decide))
     have e1 : ((kindW 5 ++ w) ++ ⟨#[32]⟩) ++ numS b = joinS [kindN 5, w, numS b] := by
      rw [← kindN_w ha]
      show _ = (kindN 5 ++ spc) ++ ((w ++ spc) ++ numS b)
      simp only [ByteArray.append_assoc]
      rfl
     (rw [e1] at h); (subst h)
     exact .num 5 w b (.inr rfl) hg hw hb
    ·exact absurd h.symm hs
   ·exact absurd h.symm hs
  ·unfold reqTextS at h
   rw [hq, if_pos rfl, if_pos rfl] at h
   split at h
   ·rename_i hz
    (obtain ⟨⟨hwe, rfl, rfl, rfl⟩, _⟩ := hz); (obtain rfl := empty_eq hwe)
    have e1 : ((kindW 6 ++ numS e) ++ ⟨#[32]⟩) ++ t = joinS [kindN 6, numS e, t] := by
     rw [← kindN_w ha]
     show _ = (kindN 6 ++ spc) ++ ((numS e ++ spc) ++ t)
     simp only [ByteArray.append_assoc]
     rfl
    (rw [e1] at h); (subst h)
    exact .text e t he ht
   ·exact absurd h.symm hs
theorem goodW_noSp {w : ByteArray} (h : goodW w = true) : noSp w := by
 unfold goodW at h
 rw [Bool.and_eq_true, Bool.not_eq_true', List.any_eq_false] at h
 intro b hb e
 (have := h.2 b hb); (rw [e] at this)
 exact this rfl
theorem kindN_noSp {a : Int} (ha : 1 ≤ a ∧ a ≤ 6) : noSp (kindN a) := by
 have key : ∀ l : ByteArray, l.data.toList.all (fun b => b != 32) = true → noSp l := fun l h b hb => by
  have := List.all_eq_true.1 h b hb
  simpa using this
 rcases kinds ha with rfl | rfl | rfl | rfl | rfl | rfl <;> exact key _ (by decide)
theorem joinS_size2 (p q : ByteArray) (r : List ByteArray) : (joinS (p :: q :: r)).size = p.size + 1 + (joinS (q :: r)).size := by
 rw [← data_length, joinS_data, List.length_append, List.length_cons, data_length, data_length]; omega
theorem isT_size {s : ByteArray} {a : Int} {w : ByteArray} {b c d e : Int} {t : ByteArray} (h : IsT s a w b c d e t) : 3 ≤ s.size ∧ s.size ≤ 2020 := by
 cases h with
 | text e t he ht =>
  (have h1 := itoa_len9 (n := e) he.1 (by omega)); (rw [joinS_size2, joinS_size2])
  show 3 ≤ 4 + 1 + ((numS e).size + 1 + t.size) ∧ 4 + 1 + ((numS e).size + 1 + t.size) ≤ 2020
  omega
 | top w c d hg hw hc hd =>
  (have h1 := itoa_len9 (n := c) hc.1 hc.2); (have h2 := itoa_len9 (n := d) hd.1 hd.2); (rw [joinS_size2, joinS_size2, joinS_size2])
  show 3 ≤ 3 + 1 + (w.size + 1 + ((numS c).size + 1 + (numS d).size)) ∧ 3 + 1 + (w.size + 1 + ((numS c).size + 1 + (numS d).size)) ≤ 2020
  omega
 | num a w b ha hg hw hb =>
  (have h1 := itoa_len9 (n := b) hb.1 hb.2); (rw [joinS_size2, joinS_size2]); (have h2 := kindN_size (a := a) (by omega)); (have h3 : 3 ≤ (kindN a).size := by rcases ha with rfl | rfl <;> decide)
  show 3 ≤ (kindN a).size + 1 + (w.size + 1 + (numS b).size) ∧ (kindN a).size + 1 + (w.size + 1 + (numS b).size) ≤ 2020
  omega
 | bare a w ha hg hw =>
  (rw [joinS_size2]); (have h2 := kindN_size (a := a) (by omega)); (have h3 : 3 ≤ (kindN a).size := by rcases ha with rfl | rfl <;> decide)
  show 3 ≤ (kindN a).size + 1 + w.size ∧ (kindN a).size + 1 + w.size ≤ 2020
  omega
theorem split_hit (p q : ByteArray) (r : List ByteArray) (k : Nat) (hp : noSp p) : Lib.splitB spc 0 (k + 1) (joinS (p :: q :: r)) = p :: Lib.splitB spc 0 k (joinS (q :: r)) := by
 have hd := joinS_data p q r
 have hx : Lib.indexB (joinS (p :: q :: r)) spc = (p.size : Int) := by
  show Lib.index _ _ = _
  (rw [hd]); (have := index_skip p.data.toList (joinS (q :: r)).data.toList hp); (rw [data_length] at this)
  exact this
 have hsz := joinS_size2 p q r
 have e1 : (joinS (p :: q :: r)).extract (p.size + spc.size) (joinS (p :: q :: r)).size = joinS (q :: r) := by
  apply ba_ext
  (rw [Lib.extract_data, hd, show spc.size = 1 from rfl, hsz]); (rw [List.drop_append, List.drop_of_length_le (by rw [data_length]; omega), data_length, show p.size + 1 - p.size = 1 by omega, List.nil_append, List.drop_succ_cons, List.drop_zero, List.take_of_length_le (by rw [data_length]; omega)])
 have e2 : (joinS (p :: q :: r)).extract 0 (p.size + 0) = p := by
  apply ba_ext
  rw [Lib.extract_data, hd, List.drop_zero, List.take_append_of_le_length (by rw [data_length]; omega), List.take_of_length_le (by rw [data_length]; omega)]
 rw [Lib.splitB_hit _ _ _ _ p.size hx, e1, e2]
theorem rrKind_at {a : Int} (ha : 1 ≤ a ∧ a ≤ 6) : rrKind (kindN a) 7 0 0 = a := by
 rcases kinds ha with rfl | rfl | rfl | rfl | rfl | rfl <;> simp only [rrKind, Lib.toList_data] <;> rfl
theorem splitN_at (s : ByteArray) (hs : 2 ≤ s.size) (h2 : s.size ≤ 1048576) : strings_SplitN.f s (⟨#[32]⟩ : ByteArray) 3 = some (Lib.splitB spc 0 2 s) := by
 unfold strings_SplitN.f
 rw [if_pos ⟨by omega, by decide, by decide, by decide⟩]
 have : min (3 : Int).toNat (s.size + 1) - 1 = 2 := by
  show min 3 (s.size + 1) - 1 = 2
  omega
 rw [this]
 rfl
theorem split_at {s : ByteArray} {ps : List ByteArray} (hj : s = joinS ps) (h2 : s.size ≤ 1048576) (hn : ps ≠ []) (hp : ∀ p, p ∈ ps → noSp p) : strings_Split.f s (⟨#[32]⟩ : ByteArray) = some ps := by
 unfold strings_Split.f
 (rw [if_pos ⟨by omega, by decide⟩]); (have := split_join ps hn hp); (rw [← hj] at this)
 exact congrArg some this
theorem readReq_isT {s : ByteArray} {a : Int} {w : ByteArray} {b c d e : Int} {t : ByteArray} (h : IsT s a w b c d e t) : impl_readReq.f s = some (a, w, b, c, d, e, t) := by
 have hs := isT_size h
 unfold impl_readReq.f
 rw [splitN_at s (by omega) (by omega), Option.bind_some]
 cases h with
 | text e t he ht =>
  have e1 : Lib.splitB spc 0 2 (joinS [kindN 6, numS e, t]) = [kindN 6, numS e, t] := by
   rw [split_hit _ _ _ 1 (kindN_noSp (by decide)), split_hit _ _ _ 0 (numS_noSp he.1), Lib.splitB_zero]; rfl
  (rw [e1, if_pos (by simp)]); (have e0 : rdOf ByteArray.empty [kindN 6, numS e, t] 0 = kindN 6 := rfl); (have e2 : rdOf ByteArray.empty [kindN 6, numS e, t] 1 = numS e := rfl); (have e3 : rdOf ByteArray.empty [kindN 6, numS e, t] 2 = t := rfl); (rw [e0, rrKind_at (by decide), if_pos rfl, if_neg (by simp), e2, e3, lineNumber_num he.1 (by omega)])
  rfl
 | top w c d hg hw hc hd =>
  (have e1 : Lib.splitB spc 0 2 (joinS [kindN 2, w, numS c, numS d]) = kindN 2 :: Lib.splitB spc 0 1 (joinS [w, numS c, numS d]) := split_hit _ _ _ 1 (kindN_noSp (by decide))); (have e0 : ∀ l, rdOf ByteArray.empty (kindN 2 :: l) 0 = kindN 2 := fun _ => rfl); (rw [e1, if_pos (by simp), e0, rrKind_at (by decide), if_neg (by decide)])
  rw [split_at (ps := [kindN 2, w, numS c, numS d]) rfl (by omega) (by simp) (fun p hp => by
   simp only [List.mem_cons, List.not_mem_nil, or_false] at hp
   rcases hp with rfl | rfl | rfl | rfl
   ·exact kindN_noSp (by decide)
   ·exact goodW_noSp hg
   ·exact numS_noSp hc.1
   ·exact numS_noSp hd.1), Option.bind_some, if_pos (by simp)]
  (have r1 : impl_lineNumber.f (rdOf ByteArray.empty [kindN 2, w, numS c, numS d] ((0 + 2 : Nat) : Int)) = some (c, true) := lineNumber_num hc.1 hc.2); (have r2 : impl_lineNumber.f (rdOf ByteArray.empty [kindN 2, w, numS c, numS d] ((0 + 1 + 2 : Nat) : Int)) = some (d, true) := lineNumber_num hd.1 hd.2)
  unfold rrNums
  rw [if_pos (by simp), r1, Option.bind_some]
  unfold rrNums
  rw [if_pos (by simp), r2, Option.bind_some]
  rfl
 | num a w b ha hg hw hb =>
  (have ha' : 1 ≤ a ∧ a ≤ 6 := by omega); (have e1 : Lib.splitB spc 0 2 (joinS [kindN a, w, numS b]) = kindN a :: Lib.splitB spc 0 1 (joinS [w, numS b]) := split_hit _ _ _ 1 (kindN_noSp ha')); (have e0 : ∀ l, rdOf ByteArray.empty (kindN a :: l) 0 = kindN a := fun _ => rfl); (rw [e1, if_pos (by simp), e0, rrKind_at ha', if_neg (by omega)])
  rw [split_at (ps := [kindN a, w, numS b]) rfl (by omega) (by simp) (fun p hp => by
   simp only [List.mem_cons, List.not_mem_nil, or_false] at hp
   rcases hp with rfl | rfl | rfl
   ·exact kindN_noSp ha'
   ·exact goodW_noSp hg
   ·exact numS_noSp hb.1), Option.bind_some, if_pos (by simp)]
  have r1 : impl_lineNumber.f (rdOf ByteArray.empty [kindN a, w, numS b] ((0 + 2 : Nat) : Int)) = some (b, true) := lineNumber_num hb.1 hb.2
  unfold rrNums
  rw [if_pos (by simp), r1, Option.bind_some]
  unfold rrNums
  rw [if_neg (by simp)]
  unfold rrNums
  rw [if_pos (by simp), if_pos ha, if_neg (by omega), if_neg (by omega)]
  rfl
 | bare a w ha hg hw =>
  (have ha' : 1 ≤ a ∧ a ≤ 6 := by omega); (have e1 : Lib.splitB spc 0 2 (joinS [kindN a, w]) = kindN a :: Lib.splitB spc 0 1 (joinS [w]) := split_hit _ _ _ 1 (kindN_noSp ha')); (have e0 : ∀ l, rdOf ByteArray.empty (kindN a :: l) 0 = kindN a := fun _ => rfl); (rw [e1, if_pos (by simp), e0, rrKind_at ha', if_neg (by omega)])
  rw [split_at (ps := [kindN a, w]) rfl (by omega) (by simp) (fun p hp => by
   simp only [List.mem_cons, List.not_mem_nil, or_false] at hp
   rcases hp with rfl | rfl
   ·exact kindN_noSp ha'
   ·exact goodW_noSp hg), Option.bind_some, if_pos (by simp)]
  unfold rrNums
  rw [if_neg (by simp)]
  unfold rrNums
  rw [if_neg (by simp)]
  unfold rrNums
  rw [if_pos (by simp), if_neg (by omega), if_neg (by omega), if_neg (by omega)]
  rfl
end Go.Proofs.YtgnbfmoifnfneaaDoor.L
namespace Go.Proofs.YtgnbfmoifnfneaaDoor.V
open Go Go.RowKit Go.Proofs.YtgnbfmoifnfneaaDoor.QA Go.Proofs.YtgnbfmoifnfneaaDoor.L Go.Proofs.YtgnbfmoifnfneaaDoorW.PrintWords Go.Proofs.YtgnbfmoifnfneaaDoorW.PrintLast Go.Proofs.YtgnbfmoifnfneaaDoorW.PrintMore
set_option linter.unusedVariables false
set_option linter.unusedSimpArgs false
section
variable {α : Type} {g f : Nat → Option α} {r : α} {b : Bool}
theorem Ev.ct (h : b = true) (hg : Ev g r) : Ev (fun k => cond b (g k) (f k)) r := by subst h; exact hg
theorem Ev.cf (h : b = false) (hg : Ev f r) : Ev (fun k => cond b (g k) (f k)) r := by subst h; exact hg
theorem Ev.gt {d : α} (h : b = true) (hg : Ev g r) : Ev (fun k => gcall b (g k) d) r := by subst h; exact hg
end
theorem eqS_iff {a b : ByteArray} : eqS a b = true ↔ a = b := by
 unfold eqS
 rw [beq_iff_eq, Lib.toList_data, Lib.toList_data]
 exact ⟨ba_ext, fun h => by rw [h]⟩
theorem eqS_false {a b : ByteArray} : eqS a b = false ↔ a ≠ b := by
 rw [← Bool.not_eq_true, eqS_iff]
theorem ba_beq (w : ByteArray) : (w == w) = true := by
 show (w.data == w.data) = true
 simp
theorem c11_ev (a b c d : Int) : Ev (fun k => c11 k [.agg [.v (.int .i64 a), .v (.int .i64 b), .v (.int .i64 c), .v (.int .i64 d)]]) (confTextS a b c d) :=
 Ev.step (f := fun k => impl_ConfText.f k a b c d) (fun k => by kernel_rfl) (implConfText_ev a b c d)
theorem c13_ev (a b c d : Int) : Ev (fun k => c13 k [.agg [.v (.int .i64 a), .v (.int .i64 b), .v (.int .i64 c), .v (.int .i64 d)]]) (confTextS a b c d) :=
 Ev.step (f := fun k => spec_ConfText.f k a b c d) (fun k => by kernel_rfl) (specText_ev a b c d)
theorem c12_ev (a : Int) (w : ByteArray) (b c d e : Int) (t : ByteArray) : Ev (fun k => c12 k [.agg [.v (.int .i64 a), .v (.string w), .v (.int .i64 b), .v (.int .i64 c), .v (.int .i64 d), .v (.int .i64 e), .v (.string t)]]) (reqTextS a w b c d e t) :=
 Ev.step (f := fun k => impl_ReqText.f k a w b c d e t) (fun k => by kernel_rfl) (implReqText_ev a w b c d e t)
theorem c14_ev (a : Int) (w : ByteArray) (b c d e : Int) (t : ByteArray) : Ev (fun k => c14 k [.agg [.v (.int .i64 a), .v (.string w), .v (.int .i64 b), .v (.int .i64 c), .v (.int .i64 d), .v (.int .i64 e), .v (.string t)]]) (reqTextS a w b c d e t) :=
 Ev.step (f := fun k => spec_ReqText.f k a w b c d e t) (fun k => by kernel_rfl) (specReqText_ev a w b c d e t)
theorem c15_ev {s : ByteArray} {a b c d : Int} (h : isE s a b c d) : Ev (fun k => c15 k [.v (.string s)]) (a, b, c, d, true) :=
 Ev.step (f := fun k => impl_ConfRead.f k s) (fun k => by kernel_rfl) (implE h)
theorem c6_ev {s : ByteArray} {a : Int} {w : ByteArray} {b c d e : Int} {t : ByteArray} (h : IsT s a w b c d e t) (he : reqTextS a w b c d e t = s) : Ev (fun k => c6 k [.v (.string s)]) (a, w, b, c, d, e, t, true) := by
 refine Ev.step (f := fun k => impl_ReqRead.f k s) (fun k => by kernel_rfl) ?_
 unfold impl_ReqRead.f
 (rw [readReq_isT h]); (have hz := isT_size h)
 have hs0 : ¬ s.toList = ([] : List UInt8) := fun h1 => by
  (rw [Lib.toList_data] at h1); (have : s.data.toList.length = s.size := by rw [Array.length_toList]; rfl); (rw [h1] at this)
  simp at this; omega
 simp only [Option.bind_some, if_neg hs0]
 refine Ev.bind (implReqTextIn_ev a w b c d e t) ?_
 rw [if_pos (by rw [he])]
 exact Ev.now _
theorem law_ev (code : List Int) (hc : Byt code) : Ev (fun k => c4 k [.ro 5 code]) true := by
 refine Ev.step (fun k => g4_eq k code) ?_
 dsimp only [g4, g4_n1, g4_n2, g4_n3, g4_n5, g4_n7, g4_n8, g4_n9, g4_n11, g4_n13, g4_n14]
 refine Ev.bind (a := decide ((code.length : Int) > 1048576)) (Ev.step (fun k => g8_eq k code) (Ev.now _)) ?_
 by_cases hl : (code.length : Int) > 1048576
 ·exact Ev.ct (decide_eq_true hl) (Ev.now _)
 refine Ev.cf (decide_eq_false hl) ?_
 obtain ⟨⟨a, b, c, d⟩, h9, _⟩ := drawConfText_tot hc (by omega)
 refine Ev.bind h9 ?_
 obtain ⟨⟨k, w, p, q, r, e, t⟩, h10, _⟩ := drawReqText_tot hc (by omega)
 refine Ev.bind h10 ?_
 refine Ev.bind (c11_ev a b c d) (Ev.bind (c12_ev k w p q r e t) (Ev.bind (c13_ev a b c d) ?_))
 have s1 : ∀ s : ByteArray, (!eqS s s) = false := fun s => by rw [eqS_iff.2 rfl]; rfl
 refine Ev.bind (Ev.gt (by rw [s1]; rfl) (c14_ev k w p q r e t)) ?_
 refine Ev.cf (by rw [s1, s1]; rfl) ?_
 have last : Ev (fun n => cond (!eqS (reqTextS k w p q r e t) ⟨#[]⟩) ((c6 n [.v (.string (reqTextS k w p q r e t))]).bind fun (r18 : Int × ByteArray × Int × Int × Int × Int × ByteArray × Bool) => cond ((!r18.2.2.2.2.2.2.2) || (!((r18.1 == k) && ((r18.2.1 == w) && ((r18.2.2.1 == p) && ((r18.2.2.2.1 == q) && ((r18.2.2.2.2.1 == r) && ((r18.2.2.2.2.2.1 == e) && (r18.2.2.2.2.2.2.1 == t))))))))) (some false) (some true)) (some true)) true := by
  by_cases h : reqTextS k w p q r e t = ⟨#[]⟩
  ·exact Ev.cf (by rw [eqS_iff.2 h]; rfl) (Ev.now _)
  ·refine Ev.ct (by rw [eqS_false.2 h]; rfl) (Ev.bind (c6_ev (isT_of rfl h) rfl) (Ev.cf ?_ (Ev.now _)))
   simp [ba_beq]
 by_cases h : confTextS a b c d = ⟨#[]⟩
 ·exact Ev.cf (by rw [eqS_iff.2 h]; rfl) last
 ·refine Ev.ct (by rw [eqS_false.2 h]; rfl) (Ev.bind (c15_ev (isE_of h)) (Ev.cf ?_ last))
  simp
end Go.Proofs.YtgnbfmoifnfneaaDoor.V
namespace Go.Proofs.YtgnbfmoifnfneaaDoor.V
open Go
set_option linter.unusedVariables false
set_option linter.unusedSimpArgs false
theorem ts_all : ∀ t, (tiD t).kind ≠ .other → t ∈ tsD := by
 intro t h
 unfold tiD at h
 split at h <;> first | exact absurd rfl h | (unfold tsD; decide)
theorem ts_ok : tsD.all (fun t => infoB Tryd.prog LD t && typeB Tryd.prog LD t) = true := by kernel_rfl
theorem cellL : ∀ t x, (cellD t x).length = (tiD t).sz := by
 intro t x
 unfold cellD
 split <;> first | rfl | simp
theorem formL : ∀ t x s, s ∈ cellD t x → (∃ u, s = .v u ∧ u.oneCell' = true) ∨ ∃ e ys, s = .ro e ys := by
  intro t x s hs
  unfold cellD at hs
  split at hs <;> first
    | (rw [List.eq_of_mem_replicate hs]; exact .inl ⟨_, rfl, rfl⟩)
    | (simp only [List.mem_cons, List.not_mem_nil, or_false] at hs
       repeat' (first | (obtain rfl := hs; first | exact .inl ⟨_, rfl, rfl⟩ | exact .inr ⟨_, _, rfl⟩) | (rcases hs with hs | hs)))
theorem list_ok {t : TypeId} {s : SV DD} {xs : List (DD t)} (h : listOf t s = some xs) : canon s = .ro t xs := by
 unfold listOf at h
 split at h
 ·obtain ⟨e, rfl⟩ := castL_eq h
  subst e; rfl
 ·split at h
  ·rename_i hb
   (obtain rfl := Nat.eq_of_beq_eq_true hb); (obtain rfl := Option.some.inj h)
   rfl
  ·cases h
 ·cases h
theorem makeL : ∀ t cs x, makeD t cs = some x → cellD t x = cs.map canon := by
  intro t cs x h
  unfold makeD at h
  split at h <;> first
    | (cases h; done)
    | (obtain rfl := Option.some.inj h; rfl)
    | (repeat' (split at h)
       all_goals first
         | (cases h; done)
         | (obtain rfl := Option.some.inj h
            simp only [List.map_cons, List.map_nil]
            repeat (rename_i hl; rw [list_ok hl])
            rfl))
theorem flatL : ∀ t x, (zeroC t).any isNl = false → ∀ s, s ∈ cellD t x → ∃ u, s = .v u := by
  intro t x hz s hs
  unfold cellD at hs
  split at hs <;> first
    | (cases hz; done)
    | (rw [List.eq_of_mem_replicate hs]; exact ⟨_, rfl⟩)
    | (simp only [List.mem_cons, List.not_mem_nil, or_false] at hs
       repeat' (first | (obtain rfl := hs; exact ⟨_, rfl⟩) | (rcases hs with hs | hs)))
theorem zdL : ∀ t e, (tiD t).kind = .slice e → cellD e (zeroD e) = (zeroC e).map canon := by
 intro t e h
 unfold tiD at h
 split at h <;> first
  | (cases h; done)
  | (injection h with h; subst h; rfl)
theorem byteL : ∀ e, (tiD e).kind = .int .u8 → (tiD e).sz = 1 ∧ (tiD e).bytes = 1 ∧ (zeroC e) = [.v (.int .u8 0)] ∧ (∀ n, ∃ x, makeD e [.v (.int .u8 n)] = some x) ∧ ∀ x, ∃ n, cellD e x = [.v (.int .u8 n)] := by
 intro e h
 unfold tiD at h
 split at h <;> first
  | (cases h; done)
  | exact ⟨rfl, rfl, rfl, fun n => ⟨n, rfl⟩, fun x => ⟨x, rfl⟩⟩
theorem eqt_all : eqtL.all (fun p => eqtB Tryd.prog p.1 p.2) = true := by kernel_rfl
theorem all_look {α : Type} {f : Nat × α → Bool} {m : List (Nat × α)} {n : Nat} {x : α} (h : m.all f = true) (hl : look m n = some x) : f (n, x) = true := List.all_eq_true.1 h _ (look_mem hl)
theorem eqt_gen {P : Program} {m : List (Nat × List Nat)} (h : m.all (fun p => eqtB P p.1 p.2) = true) (t : TypeId) (g : List Nat) (hg : g = match look m t with
  | some l => l
  | none => []) (hne : g ≠ []) : eqtB P t g = true := by
 cases hl : look m t with
 | none => rw [hl] at hg; exact absurd hg hne
 | some l => rw [hl] at hg; rw [hg]; exact all_look h hl
theorem eqt_ok' : ∀ t, eqtD t ≠ [] → eqtB Tryd.prog t (eqtD t) = true := fun t h => eqt_gen eqt_all t (eqtD t) rfl h
theorem eqt_ok : ∀ t, LD.eqt t ≠ [] → eqtB Tryd.prog t (LD.eqt t) = true := eqt_ok'
theorem lay_ok : LayOk Tryd.prog LD := layOk_of ts_all ts_ok eqt_ok ⟨byteL, cellL, formL, makeL, flatL, zdL⟩
theorem sigs_ok : sigL.all (fun p => Nat.ble p.2.all.length 900) = true := by kernel_rfl
theorem small_ok : ∀ f, (sigD f).all.length ≤ 900 := by
 intro f
 unfold sigD
 split
 ·rename_i s hl
  exact Nat.le_of_ble_eq_true (List.all_eq_true.1 sigs_ok _ (look_mem hl))
 ·exact Nat.zero_le _
theorem mixed_ok : Tryd.prog.follows .mixedOrders = true := by kernel_rfl
theorem names_ok : Tryd.prog.funcs.toList.all (fun fn => !(fn.name == "runtime.NumGoroutine")) = true := by kernel_rfl
theorem name_ok : ∀ (f : FuncId) (fn : Func), Tryd.prog.funcs[f]? = some fn → (fn.name == "runtime.NumGoroutine") = false := fun f fn h => by
 have := List.all_eq_true.1 names_ok fn (List.mem_of_getElem? (by rw [Array.getElem?_toList]; exact h))
 simpa using this
theorem ctx_ok {Tab : TabP} (hk : TabKept Tab) (hx : ∀ (f : FuncId) (h : Nat → List (SV DD) → Option (RT DD (sigD f).all)), extD f = some h → ∀ k q r, h k q = some r → Meets Tryd.prog LD Tab (sigD f) f q r ∧ Callable Tryd.prog f) : CtxOk CD Tab where
 kept := hk
 lay := lay_ok
 mixed := mixed_ok
 small := small_ok
 name := name_ok
 ext := hx
end Go.Proofs.YtgnbfmoifnfneaaDoor.V
namespace Go.Proofs.YtgnbfmoifnfneaaDoor.V
open Go Go.RowKit Go.Proofs.YtgnbfmoifnfneaaDoor.QA Go.Proofs.YtgnbfmoifnfneaaDoorW.PrintWords
set_option linter.unusedVariables false
set_option linter.unusedSimpArgs false
theorem flat_bytes {W : World} {A : Option Addr} {c : Nat} {xs : List Int} (h : Kd.C (Kd.int .u8) W A xs.length xs) (hc : xs.length ≤ c) : FlatArg LD W (.ro 5 (xs : List (DD 5))) (.slice A xs.length c) := by
 refine ⟨(fun cs e => by cases e), fun st V tm F hF => .c ?_⟩
 by_cases hn : xs = []
 ·subst hn; exact .ro0 _ _ _
 (obtain ⟨_, _, hr⟩ := h); (have hpos : 0 < xs.length := List.length_pos_iff.2 hn); (obtain ⟨ad, rfl, hcell⟩ := hr hpos)
 have each : ∀ i (hi : i < xs.length), W.cell? (ad.add i) = some (.int .u8 xs[i]) := fun i hi => by
  (obtain ⟨q, hq, hk, hcc⟩ := hcell i xs[i] (List.getElem?_eq_getElem hi)); (have e : q = [.int .u8 xs[i]] := hk); (have h0 := hcc 0 (.int .u8 xs[i]) (by rw [e]; rfl)); (rw [show i * (Kd.int .u8).sz + 0 = i by rw [show (Kd.int .u8).sz = 1 from rfl]; omega] at h0)
  exact h0
 (have h0 := each 0 hpos); (rw [show ad.add 0 = ad by simp [Addr.add]] at h0); (obtain ⟨b, off, sp⟩ := ad)
 have hsp : sp = none := by
  unfold World.cell? at h0
  split at h0
  ·cases sp with
   | none => rfl
   | some x => simp at h0
  ·cases h0
 subst hsp
 have hb : b < W.heap.size := by
  unfold World.cell? at h0
  split at h0
  ·rename_i hh; exact (Array.getElem?_eq_some_iff.1 hh).1
  ·cases h0
 have each' : ∀ i (hi : i < xs.length), W.cell? ⟨b, off + i, none⟩ = some (.int .u8 (xs.getD i 0)) := fun i hi => by
  (have := each i hi); (rw [show (⟨b, off, none⟩ : Addr).add i = ⟨b, off + i, none⟩ by unfold Addr.add; split <;> simp_all] at this); (rw [this, getD_lt hi])
 (have key : ∀ (x z : Int), z = x → CR LD W F (.v (.int .u8 x)) (.int .u8 z) := fun x z e => by rw [e]; exact CR.v _ rfl); (have hv : ∀ i (hi : i < xs.length), xs.getD i 0 = xs[i] := fun i hi => getD_lt hi 0)
 generalize hu : (fun i => xs.getD i 0) = u at each' hv
 refine CR.ro (L := LD) 5 xs b off c (fun i j => .int .u8 (u i)) hn hc (hF b hb) (fun i j hi hj => ?_) (fun i j hi hj => ?_)
 ·have hj : j < 1 := hj
  (obtain rfl : j = 0 := by omega); (have h1 := each' i hi); (have e : off + i * (LD.ti 5).sz + 0 = off + i := by rw [show (LD.ti 5).sz = 1 from rfl]; omega); (rw [e, h1, ← hu])
 ·have hj : j < 1 := hj
  obtain rfl : j = 0 := by omega
  exact key xs[i] (u i) (by rw [← hu]; exact hv i hi)
theorem law_calls1 {kk : Nat} {A : Option Addr} {c : Nat} {y0 : List Int} {W : World} (hr : Kd.C (Kd.int .u8) W A y0.length y0) (hc : y0.length ≤ c) (hk : c4 kk [.ro 5 y0] = some true) (hG : TabG W) : Calls Tryd.prog 4 #[.slice A y0.length c] W fun | .returned v, W' => v = .bool true ∧ Below W.heap.size W W' | _, _ => False := by
 refine law_calls (C := CD) (Tab := TabD W) (ctx_ok (tabD_kept W) (ext_ok hG)) (f := 4) (by kernel_rfl) (az := [.ro 5 y0]) (vals := [.slice A y0.length c]) (tabW_here W) rfl ?_ (k := kk) (r := (true : Bool)) hk rfl
 intro p hp
 obtain rfl : p = 0 := by simp at hp; omega
 exact flat_bytes hr hc
end Go.Proofs.YtgnbfmoifnfneaaDoor.V
namespace Go.Proofs.YtgnbfmoifnfneaaDoor.QA
open Go Go.RowKit Go.Proofs.YtgnbfmoifnfneaaDoorW.PrintWords
set_option linter.unusedVariables false
noncomputable def laws_FnTextsBack.f (k : Nat) (y0 : List Int) : Option Bool := open Classical in if V.c4 k [.ro 5 y0] = some true then some true else none
theorem laws_FnTextsBack.calls (k : Nat) (A0 : Option Addr) (c0 : Nat) (l0 : List Int) (r : Bool) (w : World) (hr0 : Kd.C (Kd.int .u8) w A0 l0.length l0) (hc0 : l0.length ≤ c0) (h : laws_FnTextsBack.f k l0 = some r) (hG : TabG w) :
  Calls Tryd.prog 4 #[.slice A0 l0.length c0] w fun e w' => e = .returned (.bool r) ∧ Below w.heap.size w w' := by
 unfold laws_FnTextsBack.f at h
 split at h
 ·rename_i h1
  obtain rfl := Option.some.inj h
  refine (V.law_calls1 hr0 hc0 h1 hG).mono fun e W' he => ?_
  cases e with
  | returned v => exact ⟨by rw [he.1], he.2⟩
  | panicked chain => exact he.elim
  | outgrown => exact he.elim
 ·cases h
end Go.Proofs.YtgnbfmoifnfneaaDoor.QA
namespace Go.Proofs.YtgnbfmoifnfneaaDoor.Pure
open Go Go.RowKit Go.Proofs.YtgnbfmoifnfneaaDoor.QA
theorem FnTextsBack (y0 : List Int) (h : Open.InL (fun z => Open.InK .u8 z) y0) : ∃ k, laws_FnTextsBack.f k y0 = some true := by
 have hb : V.Byt y0 := fun x hx => by
  (have h' : (Lit.int .u8 x).wf = true := h.2 x hx); (have e1 : IntKind.u8.min = 0 := by decide); (have e2 : IntKind.u8.max = 255 := by decide); (simp only [Lit.wf, e1, e2, Bool.and_eq_true, decide_eq_true_eq] at h')
  exact h'
 obtain ⟨k, hk⟩ := V.law_ev y0 hb
 exact ⟨k, by unfold laws_FnTextsBack.f; rw [if_pos (hk k (Nat.le_refl _))]⟩
end Go.Proofs.YtgnbfmoifnfneaaDoor.Pure
