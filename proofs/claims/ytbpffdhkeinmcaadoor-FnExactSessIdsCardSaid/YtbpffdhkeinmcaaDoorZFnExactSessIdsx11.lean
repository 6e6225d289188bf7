/- Part of the proof of the law FnExactSessIds: what it uses of the texts that this session and the kit's print wrote. -/
import Derived.Test.YtbpffdhkeinmcaaDoorZFnExactSessIdsx2
import Derived.Test.YtbpffdhkeinmcaaDoorZFnExactSessIdsx3
import Derived.Test.YtbpffdhkeinmcaaDoorZFnExactSessIdsx4
import Derived.Test.YtbpffdhkeinmcaaDoorZFnExactSessIdsx5
import Derived.Test.YtbpffdhkeinmcaaDoorZFnExactSessIdsx6
import Derived.Test.YtbpffdhkeinmcaaDoorZFnExactSessIdsx7
import Derived.Test.YtbpffdhkeinmcaaDoorZFnExactSessIdsx8
import Derived.Test.YtbpffdhkeinmcaaDoorZFnExactSessIdsx9
import Derived.Test.YtbpffdhkeinmcaaDoorZFnExactSessIdsx10
import Derived.Lib.FieldsP
import Derived.Laws.BitsLemmas
namespace Go.Proofs.YtbpffdhkeinmcaaDoor.L
open Go.RowKit Go.Proofs.YtbpffdhkeinmcaaDoor.QC Go.Proofs.YtbpffdhkeinmcaaDoorW.PrintWords Go.Proofs.YtbpffdhkeinmcaaDoorW.PrintLast Go.Proofs.YtbpffdhkeinmcaaDoorW.PrintMore
set_option linter.unusedVariables false
set_option linter.unusedSimpArgs false
def gapU (b : UInt8) : Bool := decide (b.toNat = 9 ∨ b.toNat = 10 ∨ b.toNat = 13 ∨ b.toNat = 32)
theorem gapR_eq (n : Nat) : gapR n = decide (n = 9 ∨ n = 10 ∨ n = 13 ∨ n = 32) := by
  unfold gapR
  by_cases h1 : n = 9
  · subst h1; rfl
  · rw [if_neg (by omega)]
    by_cases h2 : n = 10
    · subst h2; rfl
    · rw [if_neg (by omega)]
      by_cases h3 : n = 13
      · subst h3; rfl
      · rw [if_neg (by omega)]
        rw [decide_eq_decide]
        omega
def endU (bs : List UInt8) (i : Nat) : Nat := i + ((bs.drop i).takeWhile fun b => !gapU b).length
theorem endU_gap {bs : List UInt8} {i : Nat} (hi : i < bs.length) (h : gapU (bs.getD i 0) = true) : endU bs i = i := by
  unfold endU
  rw [getD_lt 0 hi] at h
  rw [List.drop_eq_getElem_cons hi, List.takeWhile_cons, h]
  rfl
theorem endU_go {bs : List UInt8} {i : Nat} (hi : i < bs.length) (h : gapU (bs.getD i 0) = false) : endU bs i = endU bs (i + 1) := by
  unfold endU
  rw [getD_lt 0 hi] at h
  rw [List.drop_eq_getElem_cons hi, List.takeWhile_cons, h]
  simp only [Bool.not_false, if_true, List.length_cons]
  omega
theorem endU_end {bs : List UInt8} {i : Nat} (hi : bs.length ≤ i) : endU bs i = i := by
  unfold endU
  rw [List.drop_of_length_le hi]
  rfl
theorem endU_le {bs : List UInt8} {i : Nat} (hi : i ≤ bs.length) : i ≤ endU bs i ∧ endU bs i ≤ bs.length := by
  unfold endU
  have := (List.takeWhile_sublist (fun b => !gapU b) (l := bs.drop i)).length_le
  rw [List.length_drop] at this
  omega
def startB (bs : List UInt8) (i : Nat) : Bool := !gapU (bs.getD i 0) && (decide (i = 0) || gapU (bs.getD (i - 1) 0))
theorem startB_yes {bs : List UInt8} {i : Nat} (h0 : gapU (bs.getD i 0) = false) (h : i = 0 ∨ gapU (bs.getD (i - 1) 0) = true) : startB bs i = true := by
  unfold startB
  rw [h0]
  rcases h with h | h
  · subst h; rfl
  · rw [h]; simp
def spFrom (bs : List UInt8) : Nat → Nat → List (Nat × Nat)
  | 0, _ => []
  | d + 1, i => if startB bs i = true then (i, endU bs i) :: spFrom bs d (i + 1) else spFrom bs d (i + 1)
theorem spFrom_step (bs : List UInt8) (i : Nat) (h : i < bs.length) : spFrom bs (bs.length - i) i = if startB bs i = true then (i, endU bs i) :: spFrom bs (bs.length - (i + 1)) (i + 1) else spFrom bs (bs.length - (i + 1)) (i + 1) := by
  rw [show bs.length - i = (bs.length - (i + 1)) + 1 by omega]
  rfl
theorem spFrom_end (bs : List UInt8) : spFrom bs (bs.length - bs.length) bs.length = [] := by rw [Nat.sub_self]; rfl
theorem jump (bs : List UInt8) : ∀ (w pos : Nat), pos + w ≤ bs.length → 0 < pos → gapU (bs.getD (pos - 1) 0) = false → (∀ j, j < w → gapU (bs.getD (pos + j) 0) = false) →
    endU bs pos = endU bs (pos + w) ∧ spFrom bs (bs.length - pos) pos = spFrom bs (bs.length - (pos + w)) (pos + w) ∧ gapU (bs.getD (pos + w - 1) 0) = false
  | 0, pos, _, _, hg, _ => ⟨rfl, rfl, hg⟩
  | w + 1, pos, hle, hp, hg, hj => by
    have h0 := hj 0 (by omega)
    rw [Nat.add_zero] at h0
    obtain ⟨e1, e2, e3⟩ := jump bs w (pos + 1) (by omega) (by omega) (by rw [show pos + 1 - 1 = pos by omega]; exact h0) (fun j h => by have := hj (j + 1) (by omega); rwa [show pos + (j + 1) = pos + 1 + j by omega] at this)
    refine ⟨by rw [endU_go (by omega) h0, e1]; congr 1; omega, ?_, by rw [show pos + (w + 1) - 1 = pos + 1 + w - 1 by omega]; exact e3⟩
    rw [spFrom_step bs pos (by omega), if_neg (by unfold startB; rw [hg]; simp; omega), e2]
    rw [show pos + 1 + w = pos + (w + 1) by omega]
theorem dec_at (s : ByteArray) (pos : Nat) (h : pos < s.data.toList.length) :
    ((Utf8.decode s pos).2 = 1 ∧ gapR (Utf8.decode s pos).1 = gapU (s.data.toList.getD pos 0)) ∨
    (1 ≤ (Utf8.decode s pos).2 ∧ pos + (Utf8.decode s pos).2 ≤ s.data.toList.length ∧ gapR (Utf8.decode s pos).1 = false ∧ ∀ j, j < (Utf8.decode s pos).2 → gapU (s.data.toList.getD (pos + j) 0) = false) := by
  rw [Lib.decode_N]
  generalize hl : s.data.toList = bs at h
  have wide : ∀ n : Nat, 128 ≤ n → gapR n = false := fun n hn => by rw [gapR_eq, decide_eq_false_iff_not]; omega
  have wideU : ∀ i : Nat, 128 ≤ (bs.getD i 0).toNat → gapU (bs.getD i 0) = false := fun i hn => by unfold gapU; rw [decide_eq_false_iff_not]; omega
  by_cases hb : (bs.getD pos 0).toNat < 128
  · left
    have : Lib.decodeN (bs.length - pos) (bs.getD pos 0).toNat (bs.getD (pos + 1) 0).toNat (bs.getD (pos + 2) 0).toNat (bs.getD (pos + 3) 0).toNat = ((bs.getD pos 0).toNat, 1) := by unfold Lib.decodeN; rw [if_pos hb]
    rw [this]
    exact ⟨rfl, by rw [gapR_eq]; rfl⟩
  · right
    have h0 := wideU pos (by omega)
    rcases Lib.decodeN_shape (bs.length - pos) (bs.getD pos 0).toNat (bs.getD (pos + 1) 0).toNat (bs.getD (pos + 2) 0).toNat (bs.getD (pos + 3) 0).toNat with ⟨c, e⟩ | ⟨c1, c2, c3, cv, e⟩ | ⟨c1, c2, c3, c4, cv, cs, e⟩ | ⟨c1, c2, c3, c4, c5, cv, cw, e⟩ | e
    · omega
    · rw [e]
      refine ⟨by show 1 ≤ 2; omega, by show pos + 2 ≤ _; omega, wide _ cv, fun j hj => ?_⟩
      have hj : j < 2 := hj
      match j, hj with
      | 0, _ => exact h0
      | 1, _ => exact wideU _ (by omega)
    · rw [e]
      refine ⟨by show 1 ≤ 3; omega, by show pos + 3 ≤ _; omega, wide _ (by omega), fun j hj => ?_⟩
      have hj : j < 3 := hj
      match j, hj with
      | 0, _ => exact h0
      | 1, _ => exact wideU _ (by omega)
      | 2, _ => exact wideU _ (by omega)
    · rw [e]
      refine ⟨by show 1 ≤ 4; omega, by show pos + 4 ≤ _; omega, wide _ (by omega), fun j hj => ?_⟩
      have hj : j < 4 := hj
      match j, hj with
      | 0, _ => exact h0
      | 1, _ => exact wideU _ (by omega)
      | 2, _ => exact wideU _ (by omega)
      | 3, _ => exact wideU _ (by omega)
    · rw [e]
      refine ⟨by show 1 ≤ 1; omega, by show pos + 1 ≤ _; omega, by rw [gapR_eq]; decide, fun j hj => ?_⟩
      have hj : j < 1 := hj
      obtain rfl : j = 0 := by omega
      exact h0
theorem spans_eq (s : ByteArray) : ∀ (f pos : Nat) (st : Option Nat) (acc : List (Nat × Nat)), s.data.toList.length ≤ pos + f → pos ≤ s.data.toList.length →
    (∀ a, st = some a → 0 < pos ∧ gapU (s.data.toList.getD (pos - 1) 0) = false) → (st = none → pos = 0 ∨ gapU (s.data.toList.getD (pos - 1) 0) = true) →
    Lib.closeSpans s (Lib.spansFromP gapR s f pos st acc) = acc ++ ((match st with | some a => [(a, endU s.data.toList pos)] | none => []) ++ spFrom s.data.toList (s.data.toList.length - pos) pos) := by
  have hsz : s.data.toList.length = s.size := data_length s
  intro f
  induction f with
  | zero =>
    intro pos st acc hf hp hs hn
    obtain rfl : pos = s.data.toList.length := by omega
    rw [spFrom_end, List.append_nil]
    unfold Lib.spansFromP Lib.closeSpans
    cases st with
    | none => simp
    | some a => simp only; rw [endU_end (Nat.le_refl _), hsz]
  | succ f ih =>
    intro pos st acc hf hp hs hn
    by_cases hlt : pos < s.data.toList.length
    · unfold Lib.spansFromP
      rw [if_pos (by omega)]
      rcases dec_at s pos hlt with ⟨hw, hg⟩ | ⟨hw, hfit, hg, hj⟩
      · rw [hw, hg]
        cases hgp : gapU (s.data.toList.getD pos 0) with
        | true =>
          simp only [if_true]
          have hnx : (pos + 1 = 0 ∨ gapU (s.data.toList.getD (pos + 1 - 1) 0) = true) := .inr (by rw [Nat.add_sub_cancel]; exact hgp)
          have e2 : spFrom s.data.toList (s.data.toList.length - pos) pos = spFrom s.data.toList (s.data.toList.length - (pos + 1)) (pos + 1) := by rw [spFrom_step _ _ hlt, if_neg (by unfold startB; rw [hgp]; simp)]
          cases st with
          | none => simp only; rw [ih (pos + 1) none acc (by omega) (by omega) (fun a h => by cases h) (fun _ => hnx), e2]
          | some a =>
            simp only
            rw [ih (pos + 1) none _ (by omega) (by omega) (fun a h => by cases h) (fun _ => hnx), e2, endU_gap hlt hgp]
            simp
        | false =>
          simp only [Bool.false_eq_true, if_false]
          have hnx : 0 < pos + 1 ∧ gapU (s.data.toList.getD (pos + 1 - 1) 0) = false := ⟨by omega, by rw [Nat.add_sub_cancel]; exact hgp⟩
          cases st with
          | none =>
            simp only
            rw [ih (pos + 1) (some pos) acc (by omega) (by omega) (fun a h => hnx) (fun h => by cases h), spFrom_step _ _ hlt, if_pos (startB_yes hgp (hn rfl)), endU_go hlt hgp]
            simp
          | some a =>
            simp only
            have := (hs a rfl)
            rw [ih (pos + 1) (some a) acc (by omega) (by omega) (fun a h => hnx) (fun h => by cases h), spFrom_step _ _ hlt, if_neg (by unfold startB; rw [this.2]; simp; omega), endU_go hlt hgp]
      · rw [hg]
        simp only [Bool.false_eq_true, if_false]
        generalize hwe : (Utf8.decode s pos).2 = w at hw hfit hj
        have h0 := hj 0 (by omega)
        rw [Nat.add_zero] at h0
        cases st with
        | none =>
          simp only
          obtain ⟨e1, e2, e3⟩ := jump s.data.toList (w - 1) (pos + 1) (by omega) (by omega) (by rw [Nat.add_sub_cancel]; exact h0) (fun j h => by have := hj (j + 1) (by omega); rwa [show pos + (j + 1) = pos + 1 + j by omega] at this)
          rw [show pos + 1 + (w - 1) = pos + w by omega] at e1 e2 e3
          rw [ih (pos + w) (some pos) acc (by omega) (by omega) (fun a h => ⟨by omega, e3⟩) (fun h => by cases h), spFrom_step _ _ hlt, if_pos (startB_yes h0 (hn rfl)), endU_go hlt h0, e1, e2]
          simp
        | some a =>
          simp only
          have hpre := hs a rfl
          obtain ⟨e1, e2, e3⟩ := jump s.data.toList w pos hfit hpre.1 hpre.2 hj
          rw [ih (pos + w) (some a) acc (by omega) (by omega) (fun a h => ⟨by omega, e3⟩) (fun h => by cases h), e1, e2]
    · obtain rfl : pos = s.data.toList.length := by omega
      rw [Lib.spansFromP_end _ _ _ _ _ _ (by omega), spFrom_end, List.append_nil]
      unfold Lib.closeSpans
      cases st with
      | none => simp
      | some a => simp only; rw [endU_end (Nat.le_refl _), hsz]
def cutS (s : ByteArray) (x : Nat × Nat) : ByteArray := s.extract x.1 x.2
def piecesS (s : ByteArray) : List ByteArray := (spFrom s.data.toList s.data.toList.length 0).map (cutS s)
theorem fields_eq (s : ByteArray) : Lib.goFieldsP gapR s = piecesS s := by
  unfold Lib.goFieldsP Lib.spansOfP piecesS
  rw [spans_eq s s.size 0 none [] (by rw [data_length]; omega) (Nat.zero_le _) (fun a h => by cases h) (fun _ => .inl rfl)]
  rfl
theorem extract_size (s : ByteArray) (a b : Nat) : (s.extract a b).size ≤ s.size := by
  rw [← data_length, ← data_length, Lib.extract_data]
  simp only [List.length_take, List.length_drop]
  omega
def tokS (t : ByteArray) : ByteArray := if (foldS t).toList = [] then (⟨#[63]⟩ : ByteArray) else foldS t
def tokensS (s : ByteArray) (n : Int) : List ByteArray × Bool :=
  if s.size ≤ 2000 ∧ 1 ≤ n ∧ n ≤ 16 then (if (piecesS s).length ≤ n.toNat then ((piecesS s).map tokS ++ List.replicate (n.toNat - (piecesS s).length) (⟨#[]⟩ : ByteArray), true) else ([], false)) else ([], false)
theorem gap_ev (s : ByteArray) (i : Nat) : spec_l01Gap.f (bt s (i : Int)) = some (gapU (s.data.toList.getD i 0)) := by
  rw [bt_getD]
  unfold spec_l01Gap.f gapU
  generalize (s.data.toList.getD i 0).toNat = n
  by_cases h1 : n = 9
  · subst h1; rfl
  · rw [if_neg (by omega)]
    by_cases h2 : n = 10
    · subst h2; rfl
    · rw [if_neg (by omega)]
      by_cases h3 : n = 13
      · subst h3; rfl
      · rw [if_neg (by omega)]
        congr 1
        rw [Bool.eq_iff_iff]
        simp
        omega
theorem pad_ev (n : Nat) (hn : n ≤ 16) : ∀ (d : Nat) (out : List ByteArray), out.length + d = n → Ev (fun k => spec_Tokens.l2 k (n : Int) out) (out ++ List.replicate d (⟨#[]⟩ : ByteArray), true)
  | 0, out, h => by
    refine Ev.step (f := fun _ => some (out, true)) (fun k => ?_) (evVal (Ev.now _) (by simp))
    simp only [spec_Tokens.l2, if_neg (show ¬ (out.length : Int) < (n : Int) by omega)]
  | d + 1, out, h => by
    refine Ev.step (fun k => ?_) (evVal (pad_ev n hn d (out ++ [(⟨#[]⟩ : ByteArray)]) (by rw [List.length_append, List.length_singleton]; omega)) (by rw [List.append_assoc, List.replicate_succ, List.singleton_append]))
    simp only [spec_Tokens.l2, if_pos (show (out.length : Int) < (n : Int) by omega), if_pos (show out.length < 8796093022208 by omega)]
theorem end_ev (s : ByteArray) (n : Int) (out : List ByteArray) (i : Nat) (hs : s.size ≤ 2000) (r : List ByteArray × Bool) : ∀ (d e : Nat), e + d = s.size → Ev (fun k => spec_Tokens.j4 k s n out (i : Int) ((endU s.data.toList e : Nat) : Int)) r → Ev (fun k => spec_Tokens.l1 k s n out (i : Int) (e : Int)) r
  | 0, e, h, hr => by
    rw [endU_end (by rw [data_length]; omega)] at hr
    refine Ev.step (fun k => ?_) hr
    simp only [spec_Tokens.l1, if_neg (show ¬ (e : Int) < (s.size : Int) by omega)]
  | d + 1, e, h, hr => by
    have hlt : e < s.data.toList.length := by rw [data_length]; omega
    cases hg : gapU (s.data.toList.getD e 0) with
    | true =>
      rw [endU_gap hlt hg] at hr
      refine Ev.step (fun k => ?_) hr
      simp only [spec_Tokens.l1, if_pos (show (e : Int) < (s.size : Int) by omega), if_pos (show (0 : Int) ≤ (e : Int) by omega), gap_ev, hg, Option.bind_some, if_true]
    | false =>
      rw [endU_go hlt hg] at hr
      refine Ev.step (fun k => ?_) (end_ev s n out i hs r d (e + 1) (by omega) hr)
      simp only [spec_Tokens.l1, if_pos (show (e : Int) < (s.size : Int) by omega), if_pos (show (0 : Int) ≤ (e : Int) by omega), gap_ev, hg, Option.bind_some, Bool.false_eq_true, if_false, wrap_nat_succ (show e < 9223372036854775807 by omega)]
theorem tok_ev (s : ByteArray) (n : Nat) (hn : n ≤ 16) (hs : s.size ≤ 2000) : ∀ (d i : Nat) (out : List ByteArray), i + d = s.size → out.length ≤ n →
    Ev (fun k => spec_Tokens.l0 k s (n : Int) out (i : Int)) (if out.length + (spFrom s.data.toList d i).length ≤ n then (out ++ ((spFrom s.data.toList d i).map fun x => tokS (cutS s x)) ++ List.replicate (n - (out.length + (spFrom s.data.toList d i).length)) (⟨#[]⟩ : ByteArray), true) else ([], false))
  | 0, i, out, hi, ho => by
    rw [if_pos (by simpa [spFrom] using ho)]
    refine Ev.step (fun k => ?_) (evVal (pad_ev n hn (n - out.length) out (by omega)) (by simp [spFrom]))
    simp only [spec_Tokens.l0, if_neg (show ¬ (i : Int) < (s.size : Int) by omega)]
  | d + 1, i, out, hi, ho => by
    have hlt : i < s.data.toList.length := by rw [data_length]; omega
    have hle := endU_le (bs := s.data.toList) (i := i) (by omega)
    rw [data_length] at hle
    have hskip : startB s.data.toList i = false → Ev (fun k => spec_Tokens.j2 k s (n : Int) out (i : Int) true) (if out.length + (spFrom s.data.toList (d + 1) i).length ≤ n then (out ++ ((spFrom s.data.toList (d + 1) i).map fun x => tokS (cutS s x)) ++ List.replicate (n - (out.length + (spFrom s.data.toList (d + 1) i).length)) (⟨#[]⟩ : ByteArray), true) else ([], false)) := by
      intro hst
      have e : spFrom s.data.toList (d + 1) i = spFrom s.data.toList d (i + 1) := by
        show (if startB s.data.toList i = true then _ else _) = _
        rw [hst]; rfl
      rw [e]
      refine Ev.step (fun k => ?_) (tok_ev s n hn hs d (i + 1) out (by omega) ho)
      simp only [spec_Tokens.j2, if_true, wrap_nat_succ (show i < 9223372036854775807 by omega)]
    have htake : startB s.data.toList i = true → Ev (fun k => spec_Tokens.j2 k s (n : Int) out (i : Int) false) (if out.length + (spFrom s.data.toList (d + 1) i).length ≤ n then (out ++ ((spFrom s.data.toList (d + 1) i).map fun x => tokS (cutS s x)) ++ List.replicate (n - (out.length + (spFrom s.data.toList (d + 1) i).length)) (⟨#[]⟩ : ByteArray), true) else ([], false)) := by
      intro hst
      have e : spFrom s.data.toList (d + 1) i = (i, endU s.data.toList i) :: spFrom s.data.toList d (i + 1) := by
        show (if startB s.data.toList i = true then _ else _) = _
        rw [hst]; rfl
      rw [e]
      refine Ev.step (fun k => rfl) ?_
      simp only [spec_Tokens.j2, Bool.false_eq_true, if_false]
      refine end_ev s (n : Int) out i hs _ (d + 1) i (by omega) ?_
      refine Ev.step (fun k => rfl) ?_
      by_cases hfull : out.length = n
      · simp only [spec_Tokens.j4, if_pos (show (out.length : Int) = (n : Int) by omega)]
        refine evVal (Ev.now _) ?_
        rw [if_neg (by rw [List.length_cons]; omega)]
      · simp only [spec_Tokens.j4, if_neg (show ¬ (out.length : Int) = (n : Int) by omega), if_pos (show (0 : Int) ≤ (i : Int) by omega), if_pos (show (i : Int) ≤ ((endU s.data.toList i : Nat) : Int) by omega), if_pos (show ((endU s.data.toList i : Nat) : Int) ≤ (s.size : Int) by omega), Int.toNat_natCast]
        refine Ev.bind (specFold_ev (s.extract i (endU s.data.toList i)) (by have := extract_size s i (endU s.data.toList i); omega)) ?_
        have hrec := tok_ev s n hn hs d (i + 1) (out ++ [tokS (cutS s (i, endU s.data.toList i))]) (by omega) (by rw [List.length_append, List.length_singleton]; omega)
        rw [List.length_append, List.length_singleton] at hrec
        have hv : (if out.length + 1 + (spFrom s.data.toList d (i + 1)).length ≤ n then (out ++ [tokS (cutS s (i, endU s.data.toList i))] ++ ((spFrom s.data.toList d (i + 1)).map fun x => tokS (cutS s x)) ++ List.replicate (n - (out.length + 1 + (spFrom s.data.toList d (i + 1)).length)) (⟨#[]⟩ : ByteArray), true) else ([], false)) = (if out.length + ((i, endU s.data.toList i) :: spFrom s.data.toList d (i + 1)).length ≤ n then (out ++ (((i, endU s.data.toList i) :: spFrom s.data.toList d (i + 1)).map fun x => tokS (cutS s x)) ++ List.replicate (n - (out.length + ((i, endU s.data.toList i) :: spFrom s.data.toList d (i + 1)).length)) (⟨#[]⟩ : ByteArray), true) else ([], false)) := by
          rw [List.length_cons, List.map_cons, show out.length + 1 + (spFrom s.data.toList d (i + 1)).length = out.length + ((spFrom s.data.toList d (i + 1)).length + 1) by omega]
          simp only [List.append_assoc, List.singleton_append]
        rw [hv] at hrec
        have htk : tokS (cutS s (i, endU s.data.toList i)) = if (foldS (s.extract i (endU s.data.toList i))).toList = [] then (⟨#[63]⟩ : ByteArray) else foldS (s.extract i (endU s.data.toList i)) := rfl
        by_cases ht : (foldS (s.extract i (endU s.data.toList i))).toList = ([] : List UInt8)
        · rw [htk, if_pos ht] at hrec
          simp only [if_pos ht, if_pos (show out.length < 8796093022208 by omega), wrap_nat_succ (show i < 9223372036854775807 by omega)]
          exact hrec
        · rw [htk, if_neg ht] at hrec
          simp only [if_neg ht, if_pos (show out.length < 8796093022208 by omega), wrap_nat_succ (show i < 9223372036854775807 by omega)]
          exact hrec
    refine Ev.step (fun k => rfl) ?_
    cases hg : gapU (s.data.toList.getD i 0) with
    | true =>
      simp only [spec_Tokens.l0, if_pos (show (i : Int) < (s.size : Int) by omega), if_pos (show (0 : Int) ≤ (i : Int) by omega), gap_ev, hg, Option.bind_some, if_true]
      exact hskip (by unfold startB; rw [hg]; rfl)
    | false =>
      by_cases hi0 : i = 0
      · subst hi0
        simp only [spec_Tokens.l0, if_pos (show ((0 : Nat) : Int) < (s.size : Int) by omega), if_pos (show (0 : Int) ≤ ((0 : Nat) : Int) by omega), gap_ev, hg, Option.bind_some, Bool.false_eq_true, if_false, if_neg (show ¬ ((0 : Nat) : Int) > 0 by omega)]
        exact htake (by unfold startB; rw [hg]; rfl)
      · have ew : wrap64 ((i : Int) - 1) = ((i - 1 : Nat) : Int) := by rw [wrap_id (by omega) (by omega)]; omega
        simp only [spec_Tokens.l0, if_pos (show (i : Int) < (s.size : Int) by omega), if_pos (show (0 : Int) ≤ (i : Int) by omega), gap_ev, hg, Option.bind_some, Bool.false_eq_true, if_false, if_pos (show (i : Int) > 0 by omega), ew, if_pos (show (0 : Int) ≤ ((i - 1 : Nat) : Int) by omega), if_pos (show ((i - 1 : Nat) : Int) < (s.size : Int) by omega)]
        cases hg2 : gapU (s.data.toList.getD (i - 1) 0) with
        | true => exact htake (by unfold startB; rw [hg, hg2]; simp)
        | false => exact hskip (by unfold startB; rw [hg, hg2]; simp; omega)
theorem specTokens_ev (s : ByteArray) (n : Int) : Ev (fun k => spec_Tokens.f k s n) (tokensS s n) := by
  unfold spec_Tokens.f tokensS
  have hno : Ev (fun k => spec_Tokens.j0 k s n true) ([], false) := by
    refine Ev.step (fun k => rfl) ?_
    simp only [spec_Tokens.j0, if_true]
    exact Ev.now _
  by_cases h1 : (s.size : Int) > 2000
  · simp only [if_pos h1, if_neg (show ¬ (s.size ≤ 2000 ∧ 1 ≤ n ∧ n ≤ 16) by omega)]; exact hno
  · by_cases h2 : n < 1
    · simp only [if_neg h1, if_pos h2, if_neg (show ¬ (s.size ≤ 2000 ∧ 1 ≤ n ∧ n ≤ 16) by omega)]; exact hno
    · by_cases h3 : n > 16
      · simp only [if_neg h1, if_neg h2, h3, decide_true, if_neg (show ¬ (s.size ≤ 2000 ∧ 1 ≤ n ∧ n ≤ 16) by omega)]; exact hno
      · simp only [if_neg h1, if_neg h2, h3, decide_false, if_pos (show (s.size ≤ 2000 ∧ 1 ≤ n ∧ n ≤ 16) by omega)]
        refine Ev.step (fun k => rfl) ?_
        simp only [spec_Tokens.j0, Bool.false_eq_true, if_false]
        obtain ⟨m, rfl⟩ := Int.eq_ofNat_of_zero_le (show 0 ≤ n by omega)
        have := tok_ev s m (by omega) (by omega) s.size 0 [] (by omega) (Nat.zero_le _)
        refine evVal this ?_
        unfold piecesS
        rw [data_length, Int.toNat_natCast, List.length_nil, Nat.zero_add, List.nil_append, List.length_map, List.map_map]
        rfl
theorem mem_pieces_size {s t : ByteArray} (h : t ∈ piecesS s) : t.size ≤ s.size := by
  obtain ⟨x, _, rfl⟩ := List.mem_map.1 h
  exact extract_size s _ _
theorem implTokens_ev (s : ByteArray) (n : Int) : Ev (fun k => impl_Tokens.f k s n) (tokensS s n) := by
  unfold impl_Tokens.f tokensS
  have hno : Ev (fun k => impl_Tokens.j0 k s n true) ([], false) := by
    refine Ev.step (fun k => rfl) ?_
    simp only [impl_Tokens.j0, if_true]
    exact Ev.now _
  by_cases h1 : (s.size : Int) > 2000
  · simp only [if_pos h1, if_neg (show ¬ (s.size ≤ 2000 ∧ 1 ≤ n ∧ n ≤ 16) by omega)]; exact hno
  · simp only [if_neg h1, within_eq, Option.bind_some]
    by_cases h2 : 1 ≤ n ∧ n ≤ 16
    · simp only [h2, and_self, decide_true, Bool.not_true, and_true, if_pos (show s.size ≤ 2000 by omega)]
      refine Ev.step (fun k => rfl) ?_
      simp only [impl_Tokens.j0, Bool.false_eq_true, if_false]
      refine Ev.bind (evConst (show strings_FieldsFunc.f s = some (piecesS s) by unfold strings_FieldsFunc.f; rw [if_pos (by omega), fields_eq])) ?_
      have hsz : ∀ t, t ∈ piecesS s → t.size ≤ 2000 := fun t ht => by have := mem_pieces_size ht; omega
      generalize piecesS s = p at hsz
      obtain ⟨m, rfl⟩ := Int.eq_ofNat_of_zero_le (show 0 ≤ n by omega)
      by_cases h3 : (p.length : Int) > (m : Int)
      · simp only [if_pos h3, Int.toNat_natCast, if_neg (show ¬ p.length ≤ m by omega)]
        exact Ev.now _
      · simp only [if_neg h3, if_pos (show (0 : Int) ≤ (m : Int) by omega), Int.toNat_natCast, if_pos (show m ≤ 17592186044416 by omega), if_pos (show p.length ≤ m by omega)]
        refine loop_ev p.length (fun k x i => impl_Tokens.l0 k x p (p.length : Int) i) (fun i => (p.take i).map tokS ++ List.replicate (m - i) (⟨#[]⟩ : ByteArray)) _ ?_ ?_
        · intro i hi hr
          have hmem : p.getD i ByteArray.empty ∈ p := by rw [getD_lt _ hi]; exact List.getElem_mem _
          have hrd : rdOf ByteArray.empty p (i : Int) = p[i] := by unfold rdOf; rw [Int.toNat_natCast, getD_lt _ hi]
          have hlen : ((p.take i).map tokS ++ List.replicate (m - i) (⟨#[]⟩ : ByteArray)).length = m := by rw [List.length_append, List.length_map, List.length_take, List.length_replicate]; omega
          have hset : ∀ v : ByteArray, ((p.take i).map tokS ++ List.replicate (m - i) (⟨#[]⟩ : ByteArray)).set i v = (p.take i).map tokS ++ v :: List.replicate (m - (i + 1)) (⟨#[]⟩ : ByteArray) := by
            intro v
            rw [List.set_append_right _ _ (by rw [List.length_map, List.length_take]; omega), List.length_map, List.length_take, Nat.min_eq_left (by omega), Nat.sub_self, show m - i = (m - (i + 1)) + 1 by omega, List.replicate_succ, List.set_cons_zero]
          have hset2 : ∀ v v' : ByteArray, ((p.take i).map tokS ++ v :: List.replicate (m - (i + 1)) (⟨#[]⟩ : ByteArray)).set i v' = (p.take i).map tokS ++ v' :: List.replicate (m - (i + 1)) (⟨#[]⟩ : ByteArray) := by
            intro v v'
            rw [List.set_append_right _ _ (by rw [List.length_map, List.length_take]; omega), List.length_map, List.length_take, Nat.min_eq_left (by omega), Nat.sub_self, List.set_cons_zero]
          have hget : ∀ v : ByteArray, rdOf ByteArray.empty ((p.take i).map tokS ++ v :: List.replicate (m - (i + 1)) (⟨#[]⟩ : ByteArray)) (i : Int) = v := by
            intro v
            unfold rdOf
            rw [Int.toNat_natCast, List.getD_eq_getElem?_getD, List.getElem?_append_right (by rw [List.length_map, List.length_take]; omega), List.length_map, List.length_take, Nat.min_eq_left (by omega), Nat.sub_self]
            rfl
          have hnext : (p.take (i + 1)).map tokS ++ List.replicate (m - (i + 1)) (⟨#[]⟩ : ByteArray) = (p.take i).map tokS ++ tokS p[i] :: List.replicate (m - (i + 1)) (⟨#[]⟩ : ByteArray) := by
            rw [List.take_succ_eq_append_getElem hi, List.map_append, List.append_assoc]
            rfl
          refine Ev.step (fun k => rfl) ?_
          simp only [impl_Tokens.l0, if_pos (show (i : Int) < (p.length : Int) by omega), if_pos (show (0 : Int) ≤ (i : Int) by omega), hrd, hlen, if_pos (show (i : Int) < (m : Int) by omega), Int.toNat_natCast, hset, Option.bind_some, wrap_nat_succ (show i < 9223372036854775807 by omega)]
          refine Ev.bind (implFold_ev p[i] (by have := hsz _ hmem; rw [getD_lt _ hi] at this; omega)) ?_
          simp only [hget, hset2]
          rw [hnext] at hr
          by_cases ht : (foldS p[i]).toList = ([] : List UInt8)
          · simp only [if_pos ht]
            rw [show tokS p[i] = (⟨#[63]⟩ : ByteArray) by unfold tokS; rw [if_pos ht]] at hr
            exact hr
          · simp only [if_neg ht]
            rw [show tokS p[i] = foldS p[i] by unfold tokS; rw [if_neg ht]] at hr
            exact hr
        · refine Ev.step (f := fun _ => some _) (fun k => ?_) (evVal (Ev.now ((p.take p.length).map tokS ++ List.replicate (m - p.length) (⟨#[]⟩ : ByteArray), true)) (by rw [List.take_length]))
          simp only [impl_Tokens.l0, if_neg (show ¬ (p.length : Int) < (p.length : Int) by omega)]
    · simp only [show decide (1 ≤ n ∧ n ≤ 16) = false from decide_eq_false h2, Bool.not_false, if_neg (show ¬ (s.size ≤ 2000 ∧ 1 ≤ n ∧ n ≤ 16) by omega)]; exact hno
end Go.Proofs.YtbpffdhkeinmcaaDoor.L
namespace Go.Proofs.YtbpffdhkeinmcaaDoor.L
open Go.RowKit Go.Proofs.YtbpffdhkeinmcaaDoor.QC Go.Proofs.YtbpffdhkeinmcaaDoorW.PrintWords Go.Proofs.YtbpffdhkeinmcaaDoorW.PrintLast Go.Proofs.YtbpffdhkeinmcaaDoorW.PrintMore
set_option linter.unusedVariables false
set_option linter.unusedSimpArgs false
theorem pow2_le {n m : Nat} (h : n ≤ m) : (2 : Int) ^ n ≤ 2 ^ m := by
  have : (2 : Nat) ^ n ≤ 2 ^ m := Nat.pow_le_pow_right (by omega) h
  exact_mod_cast this
theorem pow2_pos (n : Nat) : (1 : Int) ≤ 2 ^ n := by
  have : (1 : Nat) ≤ 2 ^ n := Nat.one_le_two_pow
  exact_mod_cast this
theorem pow_ev (n : Nat) (hn : n ≤ 61) : Ev (fun k => spec_l02Pow.f k (n : Int)) (2 ^ n) := by
  have key : ∀ m : Nat, m ≤ 61 → ∀ x : Int, 1 ≤ x → x * 2 ^ m ≤ 2305843009213693952 → Ev (fun k => spec_l02Pow.l0 k (m : Int) x) (x * 2 ^ m) := by
    intro m
    induction m with
    | zero =>
      intro hm x h1 h2
      refine Ev.step (f := fun _ => some _) (fun k => ?_) (Ev.now _)
      simp [spec_l02Pow.l0]
    | succ m ih =>
      intro hm x h1 h2
      have e : x * 2 ^ (m + 1) = (2 * x) * 2 ^ m := by rw [Int.pow_succ, Int.mul_comm (2 ^ m) 2, ← Int.mul_assoc, Int.mul_comm x 2]
      have hp := pow2_pos m
      have hx : 2 * x ≤ (2 * x) * 2 ^ m := by have := Int.mul_le_mul_of_nonneg_left hp (show 0 ≤ 2 * x by omega); omega
      refine evVal (Ev.step (fun k => ?_) (ih (by omega) (2 * x) (by omega) (by rw [← e]; exact h2))) e.symm
      simp only [spec_l02Pow.l0]
      rw [if_pos (by omega), wrap_id (by omega) (by omega), wrap_id (by omega) (by omega)]
      congr 1
      omega
  have hle : (1 : Int) * 2 ^ n ≤ 2305843009213693952 := by
    have : (2 : Int) ^ n ≤ 2 ^ 61 := pow2_le hn
    omega
  have := key n hn 1 (by omega) hle
  rw [Int.one_mul] at this
  exact this
theorem shl_pow (x : Int) (n : Nat) (hn : n ≤ 64) : shl .i64 x (n : Int) = wrap64 (x * 2 ^ n) := by
  unfold shl
  rw [Int.toNat_natCast, Nat.min_eq_left (by exact hn), Go.Proofs.YtbpffdhkeinmcaaDoorW.PrintLast.i64_w]
end Go.Proofs.YtbpffdhkeinmcaaDoor.L
namespace Go.Proofs.YtbpffdhkeinmcaaDoor.L
open Go.RowKit Go.Proofs.YtbpffdhkeinmcaaDoor.QC Go.Proofs.YtbpffdhkeinmcaaDoorW.PrintWords Go.Proofs.YtbpffdhkeinmcaaDoorW.PrintLast Go.Proofs.YtbpffdhkeinmcaaDoorW.PrintMore
set_option linter.unusedVariables false
set_option linter.unusedSimpArgs false
theorem bits_xor_nat (k : IntKind) (j : Nat) (hj : j ≤ k.bits) (hk : ∀ n : Int, 0 ≤ n → n < 2 ^ j → k.wrap n = n) (a b : Nat) (ha : a < 2 ^ j) (hb : b < 2 ^ j) :
    Go.bits .xor k (a : Int) (b : Int) = ((a ^^^ b : Nat) : Int) := by
  have hp : 2 ^ j ≤ 2 ^ k.bits := Nat.pow_le_pow_right (by decide) hj
  have ha' : a % 2 ^ k.bits = a := Nat.mod_eq_of_lt (Nat.lt_of_lt_of_le ha hp)
  have hb' : b % 2 ^ k.bits = b := Nat.mod_eq_of_lt (Nat.lt_of_lt_of_le hb hp)
  have cast : ∀ n : Nat, n < 2 ^ j → ((n : Nat) : Int) < 2 ^ j := fun n h => by exact_mod_cast h
  simp only [Go.bits, BitVec.ofInt_natCast, BitVec.toNat_xor, BitVec.toNat_ofNat, ha', hb']
  exact hk _ (Int.natCast_nonneg _) (cast _ (Nat.xor_lt_two_pow ha hb))
theorem wraps_u32 (n : Int) (h₀ : 0 ≤ n) (h₁ : n < 2 ^ 32) : IntKind.u32.wrap n = n := by rw [IntKind.wrap_u32]; omega
theorem wraps_i64 (n : Int) (h₀ : 0 ≤ n) (h₁ : n < 2 ^ 32) : IntKind.i64.wrap n = n := by rw [IntKind.wrap_i64]; omega
theorem xor32 (a b : Nat) (ha : a < 4294967296) (hb : b < 4294967296) : Go.bits .xor .u32 (a : Int) (b : Int) = ((a ^^^ b : Nat) : Int) := bits_xor_nat .u32 32 (by decide) wraps_u32 a b ha hb
theorem xor64 (a b : Nat) (ha : a < 4294967296) (hb : b < 4294967296) : Go.bits .xor .i64 (a : Int) (b : Int) = ((a ^^^ b : Nat) : Int) := bits_xor_nat .i64 32 (by decide) wraps_i64 a b ha hb
theorem xor_lt (a b : Nat) (ha : a < 4294967296) (hb : b < 4294967296) : a ^^^ b < 4294967296 := Nat.xor_lt_two_pow (n := 32) ha hb
def hashStep (h : Nat) (d : Int) : Nat := ((h ^^^ d.toNat) * 16777619) % 4294967296
def hashFold (key : Nat) (l : List Int) : Nat := l.foldl hashStep key
theorem hashFold_lt (l : List Int) : ∀ key : Nat, key < 4294967296 → hashFold key l < 4294967296 := by
  induction l with
  | nil => intro k h; exact h
  | cons x xs ih => intro k h; exact ih _ (Nat.mod_lt _ (by decide))
def hashS (key : Nat) (s : ByteArray) : Nat := (hashFold key (padL s)) ^^^ (hashFold key (padL s) / 65536)
theorem hashS_lt (key : Nat) (s : ByteArray) (h : key < 4294967296) : hashS key s < 4294967296 := by
  have := hashFold_lt (padL s) key h
  exact xor_lt _ _ this (by omega)
theorem bytesOf_range (s : ByteArray) : ∀ x, x ∈ bytesOf s → 0 ≤ x ∧ x ≤ 255 := by
  intro x hx
  unfold bytesOf at hx
  obtain ⟨b, _, rfl⟩ := List.mem_map.1 hx
  have := UInt8.toNat_lt b
  omega
theorem padL_range (s : ByteArray) : ∀ x, x ∈ padL s → 0 ≤ x ∧ x ≤ 255 := by
  intro x hx
  unfold padL at hx
  split at hx
  · rename_i h
    have hb := wordB_size h
    unfold padW at hx
    rcases List.mem_cons.1 hx with rfl | hx
    · omega
    · rcases List.mem_append.1 hx with hx | hx
      · exact bytesOf_range s x hx
      · have := (List.mem_replicate.1 hx).2; omega
  · have := (List.mem_replicate.1 hx).2; omega
theorem take_fold {α σ : Type} (l : List α) (f : σ → α → σ) (s : σ) {i : Nat} (h : i < l.length) : (l.take (i + 1)).foldl f s = f ((l.take i).foldl f s) l[i] := by
  rw [List.take_succ_eq_append_getElem h, List.foldl_append]
  rfl
theorem implHash_ev (key : Nat) (s : ByteArray) (hk : key < 4294967296) (hs : s.size ≤ 9223372036854775807) : Ev (fun k => impl_hashWord.f k (key : Int) s) ((hashS key s : Nat) : Int) := by
  unfold impl_hashWord.f
  refine Ev.bind (implPad_ev s hs) ?_
  have hr := padL_range s
  have hlt := fun i => hashFold_lt ((padL s).take i) key hk
  unfold hashS
  have hlt2 := hashFold_lt (padL s) key hk
  have hl33 := padL_length s
  generalize padL s = l at hr hlt hlt2 hl33
  rw [show (key : Int) % 4294967296 = (key : Int) by omega]
  refine loop_ev l.length (fun k x i => impl_hashWord.l0 k x l (l.length : Int) i) (fun i => ((hashFold key (l.take i) : Nat) : Int)) _ ?_ ?_
  · intro i hi h
    refine Ev.step (fun k => ?_) h
    have hd := hr _ (List.getElem_mem hi)
    have hf := hlt i
    have e : hashFold key (l.take (i + 1)) = hashStep (hashFold key (l.take i)) l[i] := take_fold l hashStep key hi
    have er : rd l (i : Int) % 4294967296 = ((l[i].toNat : Nat) : Int) := by unfold rd; rw [Int.toNat_natCast, getD_lt _ hi]; omega
    simp only [impl_hashWord.l0]
    rw [if_pos (by omega), if_pos (by omega), if_pos (by omega), wrap_nat_succ (by omega), er, xor32 _ _ hf (by omega), e]
    unfold hashStep
    congr 1
    all_goals omega
  · refine Ev.step (f := fun _ => some _) (fun k => ?_) (Ev.now _)
    simp only [impl_hashWord.l0]
    rw [if_neg (by omega), List.take_length]
    generalize hashFold key l = h at hlt2
    rw [show (h : Int) / 65536 = ((h / 65536 : Nat) : Int) by omega, xor32 h (h / 65536) hlt2 (by omega)]
    have := xor_lt h (h / 65536) hlt2 (by omega)
    rw [wrap_id (by omega) (by omega)]
def shelfS (key log : Int) (s : ByteArray) : Int := if (0 ≤ key ∧ key ≤ 4294967295) ∧ wordB s = true ∧ (0 ≤ log ∧ log ≤ 6) then ((hashS key.toNat s : Nat) : Int) % 2 ^ log.toNat else -1
theorem implShelf_ev (key log : Int) (s : ByteArray) (hs : s.size ≤ 9223372036854775807) : Ev (fun k => impl_ShelfFor.f k key s log) (shelfS key log s) := by
  unfold impl_ShelfFor.f shelfS
  simp only [within_eq, Option.bind_some]
  by_cases h1 : 0 ≤ key ∧ key ≤ 4294967295
  · simp only [decide_eq_true h1, if_true]
    refine Ev.bind (isWord_ev s hs) ?_
    cases hw : wordB s with
    | false => simp only [Bool.false_eq_true, if_false]; exact evVal (Ev.now _) (by rw [if_neg (fun h => by cases h.2.1)])
    | true =>
      simp only [if_true]
      by_cases h2 : 0 ≤ log ∧ log ≤ 6
      · rw [if_pos ⟨h1, trivial, h2⟩]
        have e : impl_isLog.f log = some true := by unfold impl_isLog.f; rw [within_eq, decide_eq_true h2]; rfl
        simp only [e, Option.bind_some, if_true]
        obtain ⟨kn, rfl⟩ := Int.eq_ofNat_of_zero_le h1.1
        obtain ⟨ln, rfl⟩ := Int.eq_ofNat_of_zero_le h2.1
        refine Ev.bind (a := ((hashS kn s : Nat) : Int) % 2 ^ ln) ?_ (Ev.now _)
        unfold impl_shelfFor.f
        refine Ev.bind (implHash_ev kn s (by omega) hs) ?_
        have hl := hashS_lt kn s (by omega)
        have hp : (1 : Int) ≤ 2 ^ ln ∧ (2 : Int) ^ ln ≤ 64 := ⟨pow2_pos _, by have : (2 : Int) ^ ln ≤ 2 ^ 6 := pow2_le (by omega); omega⟩
        simp only [if_pos h2.1]
        refine evVal (Ev.now _) ?_
        rw [shl_pow 1 ln (by omega), Int.one_mul, wrap_id (x := (2 : Int) ^ ln) (by omega) (by omega), wrap_id (by omega) (by omega)]
        exact bits_mask .i64 32 (by decide) wraps_i64 ln (by omega) _ (by omega) (by omega)
      · have e : impl_isLog.f log = some false := by unfold impl_isLog.f; rw [within_eq, decide_eq_false h2]; rfl
        simp only [e, Option.bind_some, Bool.false_eq_true, if_false]
        exact evVal (Ev.now _) (by rw [if_neg (fun h => h2 h.2.2)])
  · simp only [decide_eq_false h1, Bool.false_eq_true, if_false]
    exact evVal (Ev.now _) (by rw [if_neg (fun h => h1 h.1)])
theorem specHash_ev (key : Int) (s : ByteArray) (hs : s.size ≤ 9223372036854775807) : Ev (fun k => spec_HashWord.f k key s) (if (0 ≤ key ∧ key ≤ 4294967295) ∧ wordB s = true then ((hashS key.toNat s : Nat) : Int) else -1) := by
  unfold spec_HashWord.f
  have hno : Ev (fun k => spec_HashWord.j0 k key s true) (-1) := by
    refine Ev.step (fun k => rfl) ?_
    simp only [spec_HashWord.j0, if_true]
    exact Ev.now _
  by_cases h0 : key < 0
  · simp only [if_pos h0]; exact evVal hno (by rw [if_neg (fun h => by omega)])
  · by_cases h1 : key > 4294967295
    · simp only [if_neg h0, if_pos h1]; exact evVal hno (by rw [if_neg (fun h => by omega)])
    · simp only [if_neg h0, if_neg h1]
      refine Ev.bind (specWordOk_ev s hs) ?_
      cases hw : wordB s with
      | false => simp only [Bool.not_false]; exact evVal hno (by rw [if_neg (fun h => by cases h.2)])
      | true =>
        simp only [Bool.not_true]
        rw [if_pos ⟨by omega, trivial⟩]
        obtain ⟨kn, rfl⟩ := Int.eq_ofNat_of_zero_le (show 0 ≤ key by omega)
        refine Ev.step (fun k => rfl) ?_
        simp only [spec_HashWord.j0, Bool.false_eq_true, if_false]
        refine Ev.bind (specPad_ev s hs) ?_
        have hk : kn < 4294967296 := by omega
        have hr := padL_range s
        have hlt := fun i => hashFold_lt ((padL s).take i) kn hk
        rw [Int.toNat_natCast]
        unfold hashS
        have hlt2 := hashFold_lt (padL s) kn hk
        have hl33 := padL_length s
        generalize padL s = l at hr hlt hlt2 hl33
        refine loop_ev l.length (fun k x i => spec_HashWord.l0 k x l i) (fun i => ((hashFold kn (l.take i) : Nat) : Int)) _ ?_ ?_
        · intro i hi h
          refine Ev.step (fun k => ?_) h
          have hd := hr _ (List.getElem_mem hi)
          have hf := hlt i
          have e : hashFold kn (l.take (i + 1)) = hashStep (hashFold kn (l.take i)) l[i] := take_fold l hashStep kn hi
          have er : wrap64 (rd l (i : Int)) = ((l[i].toNat : Nat) : Int) := by unfold rd; rw [Int.toNat_natCast, getD_lt _ hi, wrap_id (by omega) (by omega)]; omega
          have hx := xor_lt (hashFold kn (l.take i)) l[i].toNat hf (by omega)
          simp only [spec_HashWord.l0]
          rw [if_pos (by omega), if_pos (by omega), wrap_nat_succ (by omega), er, xor64 _ _ hf (by omega), e]
          unfold hashStep
          rw [wrap_id (by omega) (by omega), Int.tmod_eq_emod_of_nonneg (by omega)]
          congr 1
          all_goals omega
        · refine Ev.step (f := fun _ => some _) (fun k => ?_) (Ev.now _)
          simp only [spec_HashWord.l0]
          rw [if_neg (by omega), List.take_length]
          generalize hashFold kn l = h at hlt2
          rw [Int.tdiv_eq_ediv_of_nonneg (by omega), wrap_id (by omega) (by omega), show (h : Int) / 65536 = ((h / 65536 : Nat) : Int) by omega, xor64 h (h / 65536) hlt2 (by omega)]
theorem specShelf_ev (key log : Int) (s : ByteArray) (hs : s.size ≤ 9223372036854775807) : Ev (fun k => spec_ShelfFor.f k key s log) (shelfS key log s) := by
  unfold spec_ShelfFor.f shelfS
  refine Ev.bind (specHash_ev key s hs) ?_
  by_cases h : (0 ≤ key ∧ key ≤ 4294967295) ∧ wordB s = true
  · simp only [if_pos h, if_neg (show ¬ ((hashS key.toNat s : Nat) : Int) < 0 by omega)]
    have e : spec_l11Log.f log = some (decide (0 ≤ log ∧ log ≤ 6)) := by
      unfold spec_l11Log.f
      by_cases h0 : log ≥ 0
      · rw [if_pos h0]; congr 1; rw [decide_eq_decide]; omega
      · rw [if_neg h0, decide_eq_false (by omega)]
    simp only [e, Option.bind_some]
    by_cases h2 : 0 ≤ log ∧ log ≤ 6
    · rw [if_pos ⟨h.1, h.2, h2⟩]
      simp only [decide_eq_true h2, if_true]
      obtain ⟨ln, rfl⟩ := Int.eq_ofNat_of_zero_le h2.1
      refine Ev.bind (pow_ev ln (by omega)) ?_
      have hp : (1 : Int) ≤ 2 ^ ln := pow2_pos _
      simp only [if_neg (show ¬ (2 : Int) ^ ln = 0 by omega), Int.toNat_natCast]
      exact evVal (Ev.now _) (by rw [Int.tmod_eq_emod_of_nonneg (by omega)])
    · simp only [decide_eq_false h2, Bool.false_eq_true, if_false]
      exact evVal (Ev.now _) (by rw [if_neg (fun h' => h2 h'.2.2)])
  · simp only [if_neg h, show ((-1 : Int) < 0) by omega, if_true]
    exact evVal (Ev.now _) (by rw [if_neg (fun h' => h ⟨h'.1, h'.2.1⟩)])
end Go.Proofs.YtbpffdhkeinmcaaDoor.L
namespace Go.Proofs.YtbpffdhkeinmcaaDoor.L
open Go.RowKit Go.Proofs.YtbpffdhkeinmcaaDoor.QC Go.Proofs.YtbpffdhkeinmcaaDoorW.PrintWords Go.Proofs.YtbpffdhkeinmcaaDoorW.PrintLast Go.Proofs.YtbpffdhkeinmcaaDoorW.PrintMore
set_option linter.unusedVariables false
set_option linter.unusedSimpArgs false
def confB (a b c d : Int) : Bool := decide (0 ≤ a ∧ a ≤ 4294967295) && (decide (2 ≤ b ∧ b ≤ 6) && (decide (0 ≤ c ∧ c ≤ 64) && decide (1 ≤ d ∧ d ≤ 64)))
theorem isConf_eq (a b c d : Int) : impl_isConf.f a b c d = some (confB a b c d) := by
  unfold impl_isConf.f impl_isDeepLog.f confB
  simp only [within_eq, Option.bind_some]
  by_cases h1 : 0 ≤ a ∧ a ≤ 4294967295 <;> by_cases h2 : 2 ≤ b ∧ b ≤ 6 <;> by_cases h3 : 0 ≤ c ∧ c ≤ 64 <;> simp [h1, h2, h3]
theorem confOk_eq (a b c d : Int) : spec_ConfOk.f a b c d = some (confB a b c d) := by
  unfold spec_ConfOk.f spec_l16Log.f confB
  by_cases h1 : 0 ≤ a <;> by_cases h1' : a ≤ 4294967295 <;> by_cases h2 : 2 ≤ b <;> by_cases h2' : b ≤ 6 <;> by_cases h3 : 0 ≤ c <;> by_cases h3' : c ≤ 64 <;> by_cases h4 : 1 ≤ d <;> by_cases h4' : d ≤ 64 <;>
    simp [h1, h1', h2, h2', h3, h3', h4, h4']
end Go.Proofs.YtbpffdhkeinmcaaDoor.L
namespace Go.Proofs.YtbpffdhkeinmcaaDoor.L
open Go.RowKit Go.Proofs.YtbpffdhkeinmcaaDoor.QC Go.Proofs.YtbpffdhkeinmcaaDoorW.PrintWords Go.Proofs.YtbpffdhkeinmcaaDoorW.PrintLast
set_option linter.unusedVariables false
set_option linter.unusedSimpArgs false
def shapeB (a b : Int) : Bool := if a = 6 then decide (1 ≤ b ∧ b ≤ 16) else decide (1 ≤ a ∧ a ≤ 5 ∧ b = 0)
theorem isShape_eq (a b : Int) : impl_isShape.f a b = some (shapeB a b) := by
  unfold impl_isShape.f shapeB
  simp only [within_eq, Option.bind_some]
  by_cases h6 : a = 6
  · simp [h6]
  · by_cases h1 : 1 ≤ a ∧ a ≤ 5
    · simp [h6, h1]
      by_cases hb : b = 0 <;> simp [hb]
    · simp [h6, h1]
      omega
theorem l18Shape_eq (a b : Int) : spec_l18Shape.f a b = some (shapeB a b) := by
  unfold spec_l18Shape.f shapeB
  by_cases h6 : a = 6
  · simp only [h6, if_true]
    by_cases h1 : b ≥ 1
    · have h1' : 1 ≤ b := h1
      by_cases h2 : b ≤ 16 <;> simp [h1', h2]
    · have h1' : ¬ 1 ≤ b := h1
      simp [h1']
  · rw [if_neg h6, if_neg h6]
    by_cases h1 : a ≥ 1
    · rw [if_pos h1]
      by_cases h2 : a ≤ 6
      · rw [if_pos h2]
        have h3 : a ≤ 5 := by omega
        have h1' : 1 ≤ a := h1
        by_cases hb : b = 0 <;> simp [hb, h1', h3]
      · rw [if_neg h2]
        have h3 : ¬ a ≤ 5 := by omega
        simp [h3]
    · rw [if_neg h1]
      have h1' : ¬ 1 ≤ a := h1
      simp [h1']
end Go.Proofs.YtbpffdhkeinmcaaDoor.L
namespace Go.Proofs.YtbpffdhkeinmcaaDoor.L
open Go.RowKit Go.Proofs.YtbpffdhkeinmcaaDoor.QC Go.Proofs.YtbpffdhkeinmcaaDoorW.PrintWords Go.Proofs.YtbpffdhkeinmcaaDoorW.PrintLast Go.Proofs.YtbpffdhkeinmcaaDoorW.PrintMore
set_option linter.unusedVariables false
set_option linter.unusedSimpArgs false
theorem getD_set_self {α : Type} (l : List α) {i : Nat} (z a : α) (h : i < l.length) : (l.set i a).getD i z = a := by simp [List.getD, h]
theorem markText_ex (n : Int) (h0 : 0 ≤ n) (hn : n ≤ 4611686018427387904) : ∃ s, Ev (fun k => laws_markText.f k n) s := by
  have key : ∀ d : Nat, ∀ x : Int, 0 ≤ x → x ≤ 4611686018427387904 → x.toNat ≤ d → ∀ t : ByteArray, t.size + d ≤ 4611686018427387910 → ∃ s, Ev (fun k => laws_markText.l0 k x t) s := by
    intro d
    induction d using Nat.strongRecOn with
    | _ d ih =>
      intro x h0 hx hd t ht
      by_cases h : x > 0
      · have hdiv : Int.tdiv x 10 = x / 10 := Int.tdiv_eq_ediv_of_nonneg h0
        have hs : ∀ c : Int, (strOfNums [c]).size = 1 := fun c => by simp [strOfNums, ByteArray.size]
        obtain ⟨s, hs'⟩ := ih (x / 10).toNat (by omega) (x / 10) (by omega) (by omega) (Nat.le_refl _) (strOfNums [(wrap64 (48 + (Int.tmod x 10))) % 256] ++ t) (by rw [ByteArray.size_append, hs]; omega)
        refine ⟨s, Ev.step (fun k => ?_) hs'⟩
        simp only [laws_markText.l0]
        rw [if_pos h, Option.bind_some, hs, if_pos (by omega), hdiv, wrap_id (x := x / 10) (by omega) (by omega)]
      · refine ⟨_, Ev.step (f := fun _ => some ((⟨#[109]⟩ : ByteArray) ++ t)) (fun k => ?_) (Ev.now _)⟩
        simp only [laws_markText.l0]
        rw [if_neg h, if_pos (by omega)]
  unfold laws_markText.f
  by_cases h : n ≤ 0
  · simp only [if_pos h]; exact ⟨_, Ev.now _⟩
  · simp only [if_neg h]; exact key n.toNat n h0 hn (Nat.le_refl _) _ (by simp [ByteArray.size]; omega)
noncomputable def mtext (n : Int) : ByteArray := Classical.epsilon (fun s => Ev (fun k => laws_markText.f k n) s)
theorem mtext_ev {n : Int} (h0 : 0 ≤ n) (hn : n ≤ 4611686018427387904) : Ev (fun k => laws_markText.f k n) (mtext n) := Classical.epsilon_spec (markText_ex n h0 hn)
theorem eqIntS_ev (l : List Int) (h : l.length ≤ 9223372036854775807) : Ev (fun k => laws_eqIntS.f k l l) true := by
  unfold laws_eqIntS.f
  simp only [if_true]
  refine loop_ev l.length (fun k (_ : Unit) i => laws_eqIntS.l0 k l l i) (fun _ => ()) true ?_ ?_
  · intro i hi hr
    refine Ev.step (fun k => ?_) hr
    simp only [laws_eqIntS.l0, if_true, Option.bind_some]
    rw [if_pos (by omega), if_pos (by omega), if_pos (by omega), wrap_nat_succ (by omega)]
  · refine Ev.step (f := fun _ => some true) (fun k => ?_) (Ev.now _)
    simp only [laws_eqIntS.l0]
    rw [if_neg (by omega)]
theorem eqReqS_ev (l : List S32) (h : l.length ≤ 9223372036854775807) : Ev (fun k => laws_eqReqS.f k l l) true := by
  unfold laws_eqReqS.f
  simp only [if_true]
  refine loop_ev l.length (fun k (_ : Unit) i => laws_eqReqS.l0 k l l i) (fun _ => ()) true ?_ ?_
  · intro i hi hr
    refine Ev.step (fun k => ?_) hr
    simp only [laws_eqReqS.l0, laws_eqReq.f, if_true, Option.bind_some]
    rw [if_pos (by omega), if_pos (by omega), if_pos (by omega), wrap_nat_succ (by omega)]
  · refine Ev.step (f := fun _ => some true) (fun k => ?_) (Ev.now _)
    simp only [laws_eqReqS.l0]
    rw [if_neg (by omega)]
def toReq_ (x : S29) : S32 := (⟨x.f0, x.f1, x.f2, x.f3, x.f4, x.f5, x.f6⟩ : S32)
theorem toReqS_ev (l : List S29) (h : l.length ≤ 1048576) : Ev (fun k => laws_toReqS.f k l) (l.map toReq_) := by
  unfold laws_toReqS.f
  simp only [Int.natCast_nonneg, if_true, Int.toNat_natCast, show l.length ≤ 3909374676536 by omega]
  rw [← map_range l z29 toReq_]
  refine fill_ev l.length z32 (fun k x3 i => laws_toReqS.l0 k l x3 i) (fun i => toReq_ (l.getD i z29)) ?_ ?_
  · intro i x3 hi hl r hr
    refine Ev.step (fun k => ?_) hr
    simp only [laws_toReqS.l0, laws_toReq.f, Option.bind_some]
    rw [if_pos (by omega), if_pos (by omega), if_pos (by omega), wrap_nat_succ (by omega)]
    rfl
  · intro x3 hl
    refine Ev.step (f := fun _ => some x3) (fun k => ?_) (Ev.now _)
    simp only [laws_toReqS.l0]
    rw [if_neg (by omega)]
noncomputable def markInt_ (k0 : Int) (i : Nat) : Int := k0 + 1 * (i : Int)
theorem markIntS_ev (l : List Int) (k0 : Int) (h0 : 0 ≤ k0) (hk : k0 + 1 * (l.length : Int) ≤ 4611686018427387000) : Ev (fun k => laws_markIntS.f k l k0) (k0 + 1 * (l.length : Int), (List.range l.length).map (markInt_ k0)) := by
  unfold laws_markIntS.f
  have key : ∀ d (i : Nat) (x0 : List Int), i + d = l.length → x0.length = l.length → (∀ j, j < i → x0[j]? = some (markInt_ k0 j)) → Ev (fun k => laws_markIntS.l0 k x0 (k0 + 1 * (i : Int)) (i : Int)) (k0 + 1 * (l.length : Int), (List.range l.length).map (markInt_ k0)) := by
    intro d
    induction d with
    | zero =>
      intro i x0 h hl hx
      obtain rfl : i = l.length := by omega
      refine Ev.step (f := fun _ => some (k0 + 1 * (l.length : Int), x0)) (fun k => ?_) (evVal (Ev.now _) ?_)
      · simp only [laws_markIntS.l0]
        rw [if_neg (by omega)]
      · congr 1
        apply List.ext_getElem?
        intro j
        by_cases hj : j < l.length
        · rw [hx j hj]; simp [hj]
        · rw [List.getElem?_eq_none (by omega), List.getElem?_eq_none (by simp; omega)]
    | succ d ih =>
      intro i x0 h hl hx
      have hi : i < x0.length := by omega
      have e1 : k0 + 1 * ((i + 1 : Nat) : Int) = k0 + 1 * (i : Int) + 1 := by omega
      have hnext := ih (i + 1) (x0.set i (markInt_ k0 i)) (by omega) (by simpa using hl) (fun j hj => by
        by_cases e : j = i
        · subst e; rw [List.getElem?_set_self (by omega)]
        · rw [List.getElem?_set_ne (by omega)]; exact hx j (by omega))
      rw [e1] at hnext

      refine Ev.step (fun k => ?_) hnext
      simp only [laws_markIntS.l0, Int.toNat_natCast, List.set_set, rd, getD_set_self _ _ _ hi, Option.bind_some]
      rw [if_pos (by omega), if_pos (by omega), wrap_id (x := k0 + 1 * (i : Int) + 1) (by omega) (by omega), wrap_nat_succ (by omega)]
      rfl
  have := key l.length 0 l (by omega) rfl (fun j hj => absurd hj (Nat.not_lt_zero _))
  simpa using this
theorem heldIntS_ev (n : Nat) (k0 : Int) (h0 : 0 ≤ k0) (hk : k0 + 1 * (n : Int) ≤ 4611686018427387000) : Ev (fun k => laws_heldIntS.f k ((List.range n).map (markInt_ k0)) k0) (k0 + 1 * (n : Int)) := by
  unfold laws_heldIntS.f
  have hl : ((List.range n).map (markInt_ k0)).length = n := by simp
  refine evVal (r := k0 + 1 * (n : Int)) ?_ rfl
  have e0 : k0 = k0 + 1 * ((0 : Nat) : Int) := by omega
  have := loop_ev n (fun k s i => laws_heldIntS.l0 k ((List.range n).map (markInt_ k0)) s i) (fun i => k0 + 1 * (i : Int)) (k0 + 1 * (n : Int)) ?_ ?_
  · simpa using this
  · intro i hi hr
    have e1 : k0 + 1 * ((i + 1 : Nat) : Int) = k0 + 1 * (i : Int) + 1 := by omega
    have hg : ((List.range n).map (markInt_ k0)).getD i (0 : Int) = markInt_ k0 i := by simp [List.getD, hi]
    rw [e1] at hr

    refine Ev.step (fun k => ?_) hr
    simp only [laws_heldIntS.l0, rd, Int.toNat_natCast, hg, markInt_]
    rw [if_pos (by omega), if_pos (by omega), wrap_id (x := k0 + 1 * (i : Int) + 1) (by omega) (by omega), wrap_nat_succ (by omega)]
    simp

  · refine Ev.step (f := fun _ => some _) (fun k => ?_) (Ev.now _)
    simp only [laws_heldIntS.l0, hl]
    rw [if_neg (by omega)]
noncomputable def markReq_ (k0 : Int) (i : Nat) : S32 := (⟨k0 + 7 * (i : Int), mtext (k0 + 7 * (i : Int) + 1), k0 + 7 * (i : Int) + 1 + 1, k0 + 7 * (i : Int) + 1 + 1 + 1, k0 + 7 * (i : Int) + 1 + 1 + 1 + 1, k0 + 7 * (i : Int) + 1 + 1 + 1 + 1 + 1, mtext (k0 + 7 * (i : Int) + 1 + 1 + 1 + 1 + 1 + 1)⟩ : S32)
theorem markReqS_ev (l : List S32) (k0 : Int) (h0 : 0 ≤ k0) (hk : k0 + 7 * (l.length : Int) ≤ 4611686018427387000) : Ev (fun k => laws_markReqS.f k l k0) (k0 + 7 * (l.length : Int), (List.range l.length).map (markReq_ k0)) := by
  unfold laws_markReqS.f
  have key : ∀ d (i : Nat) (x0 : List S32), i + d = l.length → x0.length = l.length → (∀ j, j < i → x0[j]? = some (markReq_ k0 j)) → Ev (fun k => laws_markReqS.l0 k x0 (k0 + 7 * (i : Int)) (i : Int)) (k0 + 7 * (l.length : Int), (List.range l.length).map (markReq_ k0)) := by
    intro d
    induction d with
    | zero =>
      intro i x0 h hl hx
      obtain rfl : i = l.length := by omega
      refine Ev.step (f := fun _ => some (k0 + 7 * (l.length : Int), x0)) (fun k => ?_) (evVal (Ev.now _) ?_)
      · simp only [laws_markReqS.l0]
        rw [if_neg (by omega)]
      · congr 1
        apply List.ext_getElem?
        intro j
        by_cases hj : j < l.length
        · rw [hx j hj]; simp [hj]
        · rw [List.getElem?_eq_none (by omega), List.getElem?_eq_none (by simp; omega)]
    | succ d ih =>
      intro i x0 h hl hx
      have hi : i < x0.length := by omega
      have e1 : k0 + 7 * ((i + 1 : Nat) : Int) = k0 + 7 * (i : Int) + 1 + 1 + 1 + 1 + 1 + 1 + 1 := by omega
      have hnext := ih (i + 1) (x0.set i (markReq_ k0 i)) (by omega) (by simpa using hl) (fun j hj => by
        by_cases e : j = i
        · subst e; rw [List.getElem?_set_self (by omega)]
        · rw [List.getElem?_set_ne (by omega)]; exact hx j (by omega))
      rw [e1] at hnext

      refine Ev.step (f := fun k => (laws_markText.f k (k0 + 7 * (i : Int) + 1)).bind fun s1 => (laws_markText.f k (k0 + 7 * (i : Int) + 1 + 1 + 1 + 1 + 1 + 1)).bind fun s6 => laws_markReqS.l0 k (x0.set i (⟨k0 + 7 * (i : Int), s1, k0 + 7 * (i : Int) + 1 + 1, k0 + 7 * (i : Int) + 1 + 1 + 1, k0 + 7 * (i : Int) + 1 + 1 + 1 + 1, k0 + 7 * (i : Int) + 1 + 1 + 1 + 1 + 1, s6⟩ : S32)) (k0 + 7 * (i : Int) + 1 + 1 + 1 + 1 + 1 + 1 + 1) ((i + 1 : Nat) : Int)) (fun k => ?_) ?_
      · simp only [laws_markReqS.l0, Int.toNat_natCast, List.set_set, rd_T32, getD_set_self _ _ _ hi, Option.bind_some, if_pos (show (i : Int) < (x0.length : Int) by omega), if_pos (show (0 : Int) ≤ (i : Int) by omega), wrap_id (x := k0 + 7 * (i : Int) + 1) (by omega) (by omega), wrap_id (x := k0 + 7 * (i : Int) + 1 + 1) (by omega) (by omega), wrap_id (x := k0 + 7 * (i : Int) + 1 + 1 + 1) (by omega) (by omega), wrap_id (x := k0 + 7 * (i : Int) + 1 + 1 + 1 + 1) (by omega) (by omega), wrap_id (x := k0 + 7 * (i : Int) + 1 + 1 + 1 + 1 + 1) (by omega) (by omega), wrap_id (x := k0 + 7 * (i : Int) + 1 + 1 + 1 + 1 + 1 + 1) (by omega) (by omega), wrap_id (x := k0 + 7 * (i : Int) + 1 + 1 + 1 + 1 + 1 + 1 + 1) (by omega) (by omega), wrap_nat_succ (show i < 9223372036854775807 by omega)]
        all_goals (try rfl)
      · skip
        refine Ev.bind (mtext_ev (by omega) (by omega)) ?_
        refine Ev.bind (mtext_ev (by omega) (by omega)) ?_
        exact hnext
  have := key l.length 0 l (by omega) rfl (fun j hj => absurd hj (Nat.not_lt_zero _))
  simpa using this
end Go.Proofs.YtbpffdhkeinmcaaDoor.L
namespace Go.Proofs.YtbpffdhkeinmcaaDoor.L
open Go.RowKit Go.Proofs.YtbpffdhkeinmcaaDoor.QC Go.Proofs.YtbpffdhkeinmcaaDoorW.PrintWords Go.Proofs.YtbpffdhkeinmcaaDoorW.PrintLast Go.Proofs.YtbpffdhkeinmcaaDoorW.PrintMore
set_option linter.unusedVariables false
set_option linter.unusedSimpArgs false
theorem szReq_eq (x : S29) (left : Int) (h0 : 0 ≤ left) (hl : left ≤ 1048576) (h1 : x.f1.size ≤ 9223372036854775807) (h6 : x.f6.size ≤ 9223372036854775807) :
    ∃ r : Int, laws_szReq.f x.f0 x.f1 x.f2 x.f3 x.f4 x.f5 x.f6 left = some r ∧ (r = -1 ∨ (0 ≤ r ∧ r ≤ left ∧ (x.f1.size : Int) ≤ left ∧ (x.f6.size : Int) ≤ left)) := by
  unfold laws_szReq.f
  rw [wrap_id (x := left - (x.f1.size : Int)) (by omega) (by omega)]
  by_cases h : left - (x.f1.size : Int) < 0
  · rw [if_pos h]; exact ⟨_, rfl, .inl rfl⟩
  · rw [if_neg h, wrap_id (by omega) (by omega)]
    by_cases h' : left - (x.f1.size : Int) - (x.f6.size : Int) < 0
    · rw [if_pos h']; exact ⟨_, rfl, .inl rfl⟩
    · rw [if_neg h']; exact ⟨_, rfl, .inr ⟨by omega, by omega, by omega, by omega⟩⟩
theorem szReqS_ev (l : List S29) (left : Int) (h0 : 0 ≤ left) (hl : left ≤ 1048576) (hn : l.length ≤ 9223372036854775807) (hx : ∀ x, x ∈ l → x.f1.size ≤ 9223372036854775807 ∧ x.f6.size ≤ 9223372036854775807) :
    ∃ r : Int, Ev (fun k => laws_szReqS.f k l left) r ∧ (r = -1 ∨ (0 ≤ r ∧ r ≤ left ∧ (l.length : Int) ≤ left ∧ ∀ x, x ∈ l → (x.f1.size : Int) ≤ left ∧ (x.f6.size : Int) ≤ left)) := by
  unfold laws_szReqS.f
  rw [wrap_id (x := left - (l.length : Int)) (by omega) (by omega)]
  by_cases h : left - (l.length : Int) < 0
  · simp only [if_pos h]; exact ⟨_, Ev.now _, .inl rfl⟩
  simp only [if_neg h]
  have key : ∀ d i (left' : Int), i + d = l.length → 0 ≤ left' → left' ≤ left → ∃ r : Int, Ev (fun k => laws_szReqS.l0 k l left' (i : Int)) r ∧ (r = -1 ∨ (0 ≤ r ∧ r ≤ left' ∧ ∀ j, i ≤ j → ∀ x, l[j]? = some x → (x.f1.size : Int) ≤ left' ∧ (x.f6.size : Int) ≤ left')) := by
    intro d
    induction d with
    | zero =>
      intro i left' hi h1 h2
      refine ⟨left', Ev.step (f := fun _ => some left') (fun k => ?_) (Ev.now _), .inr ⟨h1, Int.le_refl _, fun j hj x hx => ?_⟩⟩
      · simp only [laws_szReqS.l0]; rw [if_neg (by omega)]
      · rw [List.getElem?_eq_none (by omega)] at hx; cases hx
    | succ d ih =>
      intro i left' hi h1 h2
      have hlt : i < l.length := by omega
      have hmem : l.getD i z29 ∈ l := by rw [getD_lt _ hlt]; exact List.getElem_mem _
      obtain ⟨r1, e1, c1⟩ := szReq_eq (l.getD i z29) left' h1 (by omega) (hx _ hmem).1 (hx _ hmem).2
      rcases c1 with rfl | ⟨c1, c2, c3, c4⟩
      · refine ⟨-1, Ev.step (f := fun _ => some (-1)) (fun k => ?_) (Ev.now _), .inl rfl⟩
        simp only [laws_szReqS.l0, rd_T29, Int.toNat_natCast, e1, Option.bind_some]
        rw [if_pos (by omega), if_pos (by omega), if_pos (by omega)]
      · obtain ⟨r, hr, hc⟩ := ih (i + 1) r1 (by omega) c1 (by omega)
        refine ⟨r, Ev.step (fun k => ?_) hr, ?_⟩
        · simp only [laws_szReqS.l0, rd_T29, Int.toNat_natCast, e1, Option.bind_some]
          rw [if_pos (by omega), if_pos (by omega), if_neg (by omega), wrap_nat_succ (by omega)]
        · rcases hc with rfl | ⟨b0, b1, b2⟩
          · exact .inl rfl
          · refine .inr ⟨b0, by omega, fun j hj x hx => ?_⟩
            by_cases e : j = i
            · subst e
              rw [List.getElem?_eq_getElem hlt] at hx
              injection hx with hx
              rw [getD_lt _ hlt, hx] at c3 c4
              exact ⟨c3, c4⟩
            · have := b2 j (by omega) x hx
              omega
  obtain ⟨r, hr, hc⟩ := key l.length 0 (left - (l.length : Int)) (by omega) (by omega) (by omega)
  refine ⟨r, hr, ?_⟩
  rcases hc with rfl | ⟨b0, b1, b2⟩
  · exact .inl rfl
  · refine .inr ⟨b0, by omega, by omega, fun x hx => ?_⟩
    obtain ⟨j, hj, rfl⟩ := List.getElem_of_mem hx
    have := b2 j (Nat.zero_le _) _ (List.getElem?_eq_getElem hj)
    omega
def reqB (x : S32) : Bool := shapeB x.f0 x.f5 && (decide (x.f1.size ≤ 100) && decide (x.f6.size ≤ 2000))
def reqsB (l : List S32) : Bool := decide (l.length ≤ 40) && l.all reqB
theorem specReqOk_eq (x : S32) : spec_ReqOk.f x.f0 x.f1 x.f2 x.f3 x.f4 x.f5 x.f6 = some (reqB x) := by
  unfold spec_ReqOk.f reqB
  rw [l18Shape_eq, Option.bind_some]
  cases shapeB x.f0 x.f5 with
  | false => rfl
  | true =>
    simp only [if_true, Bool.true_and]
    by_cases h : x.f1.size ≤ 100
    · rw [if_pos (by omega)]
      simp only [h, decide_true, Bool.true_and]
      congr 2
      simp; omega
    · rw [if_neg (by omega)]
      simp [h]
theorem isReq_eq (x : S32) : impl_isReq.f x.f0 x.f1 x.f2 x.f3 x.f4 x.f5 x.f6 = some (reqB x) := by
  unfold impl_isReq.f reqB
  rw [isShape_eq, Option.bind_some]
  cases shapeB x.f0 x.f5 with
  | false => rfl
  | true =>
    simp only [if_true, Bool.true_and]
    by_cases h : x.f1.size ≤ 100
    · rw [if_pos (by omega)]
      simp only [h, decide_true, Bool.true_and]
      congr 2
      simp; omega
    · rw [if_neg (by omega)]
      simp [h]
theorem specReqsOk_ev (l : List S32) (h : l.length ≤ 9223372036854775807) : Ev (fun k => spec_ReqsOk.f k l) (reqsB l) := by
  unfold spec_ReqsOk.f reqsB
  by_cases h4 : (l.length : Int) > 40
  · simp only [if_pos h4, show ¬ l.length ≤ 40 by omega, decide_false, Bool.false_and]
    exact Ev.now _
  · simp only [if_neg h4, show l.length ≤ 40 by omega, decide_true, Bool.true_and]
    rw [← all_range l z32 reqB]
    refine evVal (search_ev l.length (fun k i => spec_ReqsOk.l0 k l i) (fun i => reqB (l.getD i z32)) false true ?_ ?_ ?_) ?_
    · intro i hi hp r hr
      refine Ev.step (fun k => ?_) hr
      simp only [spec_ReqsOk.l0, specReqOk_eq, Option.bind_some, rd_T32, Int.toNat_natCast, hp, if_true]
      rw [if_pos (by omega), if_pos (by omega), wrap_nat_succ (by omega)]
    · intro i hi hp
      refine Ev.step (f := fun _ => some false) (fun k => ?_) (Ev.now _)
      simp only [spec_ReqsOk.l0, specReqOk_eq, Option.bind_some, rd_T32, Int.toNat_natCast, hp]
      rw [if_pos (by omega), if_pos (by omega)]
      rfl
    · refine Ev.step (f := fun _ => some true) (fun k => ?_) (Ev.now _)
      simp only [spec_ReqsOk.l0]
      rw [if_neg (by omega)]
    · cases (List.range l.length).all _ <;> rfl
theorem idxF_some {α : Type} {p : α → Option Bool} {q : α → Bool} : ∀ (l : List α) (i : Nat), (∀ x, x ∈ l → p x = some (q x)) → ∃ j : Int, idxF p l i = some j ∧ (decide (0 ≤ j) = l.any q)
  | [], _, _ => ⟨-1, rfl, rfl⟩
  | x :: xs, i, h => by
    unfold idxF
    rw [h x (List.mem_cons_self ..), Option.bind_some]
    cases hq : q x with
    | true => exact ⟨i, by simp, by simp [hq]⟩
    | false =>
      obtain ⟨j, h1, h2⟩ := idxF_some xs (i + 1) (fun y hy => h y (List.mem_cons_of_mem _ hy))
      exact ⟨j, by simpa using h1, by simpa [hq] using h2⟩
theorem contF_some {α : Type} {p : α → Option Bool} {q : α → Bool} (l : List α) (h : ∀ x, x ∈ l → p x = some (q x)) : contF p l = some (l.any q) := by
  obtain ⟨j, h1, h2⟩ := idxF_some l 0 h
  unfold contF
  rw [h1, Option.bind_some, h2]
theorem areReqs_eq (l : List S32) : impl_areReqs.f l = some (reqsB l) := by
  unfold impl_areReqs.f reqsB
  rw [contF_some (q := fun x => !reqB x) l (fun x _ => by unfold impl_areReqs_1.f; rw [isReq_eq]; rfl)]
  by_cases h : (l.length : Int) ≤ 40
  · rw [if_pos h, Option.bind_some]
    simp only [show l.length ≤ 40 by omega, decide_true, Bool.true_and]
    congr 1
    rw [List.not_any_eq_all_not]
    simp
  · rw [if_neg h]
    simp only [show ¬ l.length ≤ 40 by omega, decide_false, Bool.false_and]
theorem reqs_all {l : List S32} (h : reqsB l = true) : l.length ≤ 40 ∧ ∀ x, x ∈ l → reqB x = true := by
  unfold reqsB at h
  rw [Bool.and_eq_true] at h
  exact ⟨of_decide_eq_true h.1, fun x hx => List.all_eq_true.1 h.2 x hx⟩
end Go.Proofs.YtbpffdhkeinmcaaDoor.L
namespace Go.Proofs.YtbpffdhkeinmcaaDoor.L
open Go.RowKit Go.Proofs.YtbpffdhkeinmcaaDoor.QC Go.Proofs.YtbpffdhkeinmcaaDoorW.PrintWords Go.Proofs.YtbpffdhkeinmcaaDoorW.PrintLast Go.Proofs.YtbpffdhkeinmcaaDoorW.PrintMore
set_option linter.unusedVariables false
set_option linter.unusedSimpArgs false
abbrev Req' := S32
def tokWords (x : Req') : List ByteArray := if (tokensS x.f6 x.f5).2 = true then (tokensS x.f6 x.f5).1 else List.replicate x.f5.toNat (⟨#[]⟩ : ByteArray)
def wordsS (x : Req') : List ByteArray :=
  if x.f0 = 1 then [foldS x.f1]
  else if x.f0 = 3 ∨ x.f0 = 5 then (if 0 ≤ x.f2 ∧ x.f2 ≤ 65535 then [foldS x.f1, foldS x.f1] else [⟨#[]⟩, ⟨#[]⟩])
  else if x.f0 = 4 then [foldS x.f1, foldS x.f1]
  else if x.f0 = 6 then tokWords x else []
theorem shape_slots {x : Req'} (h : shapeB x.f0 x.f5 = true) (h6 : x.f0 = 6) : 1 ≤ x.f5 ∧ x.f5 ≤ 16 := by
  unfold shapeB at h
  rw [if_pos h6] at h
  exact of_decide_eq_true h
theorem tokens_size (s : ByteArray) (n : Int) : ∀ t, t ∈ (tokensS s n).1 → t.size ≤ 32 := by
  intro t ht
  unfold tokensS at ht
  split at ht
  · split at ht
    · rcases List.mem_append.1 ht with h | h
      · obtain ⟨p, _, rfl⟩ := List.mem_map.1 h
        unfold tokS
        split
        · show 1 ≤ 32; omega
        · exact foldS_size p
      · rw [(List.mem_replicate.1 h).2]; exact Nat.zero_le _
    · cases ht
  · cases ht
theorem tokens_len (s : ByteArray) (n : Int) : (tokensS s n).1.length ≤ 16 := by
  unfold tokensS
  split
  · rename_i h
    split
    · simp only [List.length_append, List.length_map, List.length_replicate]; omega
    · exact Nat.zero_le _
  · exact Nat.zero_le _
theorem words_size {x : Req'} : ∀ t, t ∈ wordsS x → t.size ≤ 32 := by
  intro t ht
  have hf := foldS_size x.f1
  unfold wordsS at ht
  split at ht
  · obtain rfl := List.mem_singleton.1 ht; exact hf
  · split at ht
    · split at ht
      · rcases List.mem_cons.1 ht with rfl | h
        · exact hf
        · obtain rfl := List.mem_singleton.1 h; exact hf
      · rcases List.mem_cons.1 ht with rfl | h
        · exact Nat.zero_le _
        · obtain rfl := List.mem_singleton.1 h; exact Nat.zero_le _
    · split at ht
      · rcases List.mem_cons.1 ht with rfl | h
        · exact hf
        · obtain rfl := List.mem_singleton.1 h; exact hf
      · split at ht
        · unfold tokWords at ht
          split at ht
          · exact tokens_size _ _ t ht
          · rw [(List.mem_replicate.1 ht).2]; exact Nat.zero_le _
        · cases ht
theorem words_len {x : Req'} (h : shapeB x.f0 x.f5 = true) : (wordsS x).length ≤ 16 := by
  unfold wordsS
  split
  · show 1 ≤ 16; omega
  · split
    · split
      · show 2 ≤ 16; omega
      · show 2 ≤ 16; omega
    · split
      · show 2 ≤ 16; omega
      · split
        · rename_i h6
          unfold tokWords
          split
          · exact tokens_len _ _
          · have := shape_slots h h6; rw [List.length_replicate]; omega
        · exact Nat.zero_le _
theorem specWords_ev (x : Req') (h : reqB x = true) : Ev (fun k => spec_l22Words.f k x.f0 x.f1 x.f2 x.f3 x.f4 x.f5 x.f6) (wordsS x) := by
  unfold reqB at h
  simp only [Bool.and_eq_true, decide_eq_true_eq] at h
  obtain ⟨hsh, hw, ht⟩ := h
  unfold spec_l22Words.f wordsS
  refine Ev.bind (specFold_ev x.f1 (by omega)) ?_
  have hwt : spec_l19Weight.f x.f2 = some (decide (0 ≤ x.f2 ∧ x.f2 ≤ 65535)) := by
    unfold spec_l19Weight.f
    by_cases h0 : x.f2 ≥ 0
    · rw [if_pos h0]; congr 1; rw [decide_eq_decide]; omega
    · rw [if_neg h0, decide_eq_false (by omega)]
  have hchg : x.f0 ≠ 1 → (x.f0 = 3 ∨ x.f0 = 5) → Ev (fun k => spec_l22Words.j0 k (foldS x.f1) x.f0 true x.f0 x.f1 x.f2 x.f3 x.f4 x.f5 x.f6) (if 0 ≤ x.f2 ∧ x.f2 ≤ 65535 then [foldS x.f1, foldS x.f1] else [⟨#[]⟩, ⟨#[]⟩]) := by
    intro _ _
    refine Ev.step (fun k => rfl) ?_
    simp only [spec_l22Words.j0, if_true, hwt, Option.bind_some]
    by_cases hb : 0 ≤ x.f2 ∧ x.f2 ≤ 65535
    · simp only [decide_eq_true hb, if_true, if_pos hb]; exact Ev.now _
    · simp only [decide_eq_false hb, Bool.false_eq_true, if_false, if_neg hb]; exact Ev.now _
  by_cases h1 : x.f0 = 1
  · simp only [if_pos h1]; exact Ev.now _
  · by_cases h3 : x.f0 = 3
    · simp only [if_neg h1, if_pos h3, if_pos (show x.f0 = 3 ∨ x.f0 = 5 from .inl h3), show (x.f0 == 3) = true by simp [h3]]
      exact hchg h1 (.inl h3)
    · by_cases h5 : x.f0 = 5
      · simp only [if_neg h1, if_neg h3, if_pos (show x.f0 = 3 ∨ x.f0 = 5 from .inr h5), show (x.f0 == 5) = true by simp [h5]]
        exact hchg h1 (.inr h5)
      · simp only [if_neg h1, if_neg h3, if_neg (show ¬ (x.f0 = 3 ∨ x.f0 = 5) by omega), show (x.f0 == 5) = false by simp [h5]]
        refine Ev.step (fun k => rfl) ?_
        simp only [spec_l22Words.j0, Bool.false_eq_true, if_false]
        by_cases h4 : x.f0 = 4
        · simp only [if_pos h4]; exact Ev.now _
        · by_cases h6 : x.f0 = 6
          · simp only [if_neg h4, if_pos h6]
            have hs := shape_slots hsh h6
            refine Ev.bind (specTokens_ev x.f6 x.f5) ?_
            unfold tokWords
            by_cases hb : (tokensS x.f6 x.f5).2 = true
            · simp only [if_pos hb]; exact Ev.now _
            · simp only [if_neg hb, if_pos (show 0 ≤ x.f5 by omega), if_pos (show x.f5.toNat ≤ 17592186044416 by omega)]; exact Ev.now _
          · simp only [if_neg h4, if_neg h6]; exact Ev.now _
def looksS (x : Req') : List ByteArray := if x.f0 = 1 then [foldS x.f1] else if x.f0 = 6 then tokWords x else []
theorem looks_ev (x : Req') (h : reqB x = true) : Ev (fun k => impl_looksOf.f k x.f0 x.f1 x.f2 x.f3 x.f4 x.f5 x.f6) (looksS x) := by
  unfold reqB at h
  simp only [Bool.and_eq_true, decide_eq_true_eq] at h
  obtain ⟨hsh, hw, ht⟩ := h
  unfold impl_looksOf.f looksS
  by_cases h1 : x.f0 = 1
  · simp only [if_pos h1]
    exact Ev.bind (implFold_ev x.f1 (by omega)) (Ev.now _)
  · by_cases h6 : x.f0 = 6
    · simp only [if_neg h1, if_pos h6]
      have hs := shape_slots hsh h6
      refine Ev.bind (implTokens_ev x.f6 x.f5) ?_
      unfold tokWords
      by_cases hb : (tokensS x.f6 x.f5).2 = true
      · simp only [if_pos hb]; exact Ev.now _
      · simp only [if_neg hb, if_pos (show 0 ≤ x.f5 by omega), if_pos (show x.f5.toNat ≤ 17592186044416 by omega)]; exact Ev.now _
    · simp only [if_neg h1, if_neg h6]; exact Ev.now _
theorem isChange_eq (a : Int) : impl_isChange.f a = some (decide (a = 3 ∨ a = 4 ∨ a = 5)) := by
  unfold impl_isChange.f
  by_cases h3 : a = 3
  · rw [if_pos h3]; simp [h3]
  · by_cases h4 : a = 4
    · rw [if_neg h3, if_pos h4]; simp [h4]
    · rw [if_neg h3, if_neg h4]
      congr 1
      rw [Bool.eq_iff_iff]
      simp [h3, h4]
def changeS (x : Req') : ByteArray × Int := (foldS x.f1, if x.f0 = 4 then 0 else x.f2)
theorem change_ev (x : Req') (h : reqB x = true) : Ev (fun k => impl_changeOf.f k x.f0 x.f1 x.f2 x.f3 x.f4 x.f5 x.f6) (changeS x) := by
  unfold reqB at h
  simp only [Bool.and_eq_true, decide_eq_true_eq] at h
  unfold impl_changeOf.f changeS
  refine Ev.bind (implFold_ev x.f1 (by omega)) ?_
  by_cases h4 : x.f0 = 4
  · simp only [if_pos h4]; exact Ev.now _
  · simp only [if_neg h4]; exact Ev.now _
theorem entry_ev (s : ByteArray) (n : Int) (h : s.size ≤ 9223372036854775807) : Ev (fun k => impl_isEntry.f k s n) (wordB s && decide (0 ≤ n ∧ n ≤ 65535)) := by
  unfold impl_isEntry.f
  refine Ev.bind (isWord_ev _ h) ?_
  cases wordB s with
  | false => simp only [Bool.false_eq_true, if_false, Bool.false_and]; exact Ev.now _
  | true => simp only [if_true, within_eq, Option.bind_some, Bool.true_and]; exact Ev.now _
theorem empty_noword : wordB ⟨#[]⟩ = false := by
  unfold wordB
  rw [decide_eq_false (by show ¬ (1 ≤ 0 ∧ 0 ≤ 32); omega), Bool.false_and]
theorem shelf_noword {key log : Int} {s : ByteArray} (h : wordB s = false) : shelfS key log s = -1 := by
  unfold shelfS
  rw [if_neg (fun h' => by rw [h] at h'; cases h'.2.1)]
def idsOf (key log : Int) (x : Req') : List Int := (wordsS x).map (shelfS key log)
theorem ids_split (key log : Int) (x : Req') (h : shapeB x.f0 x.f5 = true) :
    idsOf key log x = (looksS x).map (shelfS key log) ++ (if x.f0 = 3 ∨ x.f0 = 4 ∨ x.f0 = 5 then
      (if (wordB (changeS x).1 && decide (0 ≤ (changeS x).2 ∧ (changeS x).2 ≤ 65535)) = true then [shelfS key log (changeS x).1, shelfS key log (changeS x).1] else [-1, -1]) else []) := by
  unfold idsOf wordsS looksS changeS
  by_cases h1 : x.f0 = 1
  · simp [h1]
  · by_cases h6 : x.f0 = 6
    · simp [h6]
    · by_cases h4 : x.f0 = 4
      · rw [if_neg h1, if_neg (show ¬ (x.f0 = 3 ∨ x.f0 = 5) by omega), if_pos h4, if_neg h1, if_neg h6, if_pos (show x.f0 = 3 ∨ x.f0 = 4 ∨ x.f0 = 5 by omega), if_pos h4]
        cases hw : wordB (foldS x.f1) with
        | true => simp
        | false => simp [shelf_noword hw]
      · by_cases h35 : x.f0 = 3 ∨ x.f0 = 5
        · rw [if_neg h1, if_pos h35, if_neg h1, if_neg h6, if_pos (show x.f0 = 3 ∨ x.f0 = 4 ∨ x.f0 = 5 by omega), if_neg h4]
          by_cases hb : 0 ≤ x.f2 ∧ x.f2 ≤ 65535
          · rw [if_pos hb, decide_eq_true hb, Bool.and_true]
            cases hw : wordB (foldS x.f1) with
            | true => simp
            | false => simp [shelf_noword hw]
          · rw [if_neg hb, decide_eq_false hb, Bool.and_false]
            simp [shelf_noword empty_noword]
        · rw [if_neg h1, if_neg h35, if_neg h4, if_neg h6, if_neg h1, if_neg (show ¬ (x.f0 = 3 ∨ x.f0 = 4 ∨ x.f0 = 5) by omega)]
          rfl
def idsS (key log : Int) (l : List Req') : List Int := l.flatMap (idsOf key log)
theorem ids_len {key log : Int} {l : List Req'} (h : ∀ x, x ∈ l → reqB x = true) : (idsS key log l).length ≤ 16 * l.length := by
  induction l with
  | nil => exact Nat.zero_le _
  | cons x xs ih =>
    have h1 := ih (fun y hy => h y (List.mem_cons_of_mem _ hy))
    have h2 := h x (List.mem_cons_self ..)
    unfold reqB at h2
    simp only [Bool.and_eq_true] at h2
    have h3 := words_len h2.1
    unfold idsS at h1 ⊢
    rw [List.flatMap_cons, List.length_append, List.length_cons]
    unfold idsOf at h1 ⊢
    rw [List.length_map]
    omega
theorem ids_take {key log : Int} {l : List Req'} {i : Nat} (h : i < l.length) : idsS key log (l.take (i + 1)) = idsS key log (l.take i) ++ idsOf key log l[i] := by
  unfold idsS
  rw [List.take_succ_eq_append_getElem h, List.flatMap_append]
  simp
theorem rd_words (l : List ByteArray) (i : Nat) (hi : i < l.length) : rdOf ByteArray.empty l (i : Int) = l[i] := by unfold rdOf; rw [Int.toNat_natCast, getD_lt _ hi]
theorem loop_from {ρ : Type} (n : Nat) (G : Nat → Nat → Option ρ) (r : ρ) (hstep : ∀ j, j < n → Ev (fun k => G k (j + 1)) r → Ev (fun k => G k j) r) (hend : Ev (fun k => G k n) r) : Ev (fun k => G k 0) r := by
  have key : ∀ d j, j + d = n → Ev (fun k => G k j) r := by
    intro d
    induction d with
    | zero => intro j h; obtain rfl : j = n := by omega
              exact hend
    | succ d ih => intro j h; exact hstep j (by omega) (ih (j + 1) (by omega))
  exact key n 0 (by omega)
theorem specIds_ev (a b c d : Int) (l : List Req') (h : l.length ≤ 9223372036854775807) : Ev (fun k => spec_SessIds.f k a b c d l) (if confB a b c d && reqsB l then (idsS a b l, true) else ([], false)) := by
  unfold spec_SessIds.f
  have hno : Ev (fun k => spec_SessIds.j0 k l true a b c d) ([], false) := by
    refine Ev.step (fun k => rfl) ?_
    simp only [spec_SessIds.j0, if_true]
    exact Ev.now _
  simp only [confOk_eq, Option.bind_some]
  cases hc : confB a b c d with
  | false => simp only [Bool.false_eq_true, if_false, Bool.false_and]; exact hno
  | true =>
    simp only [if_true, Bool.true_and]
    refine Ev.bind (specReqsOk_ev l h) ?_
    cases hb : reqsB l with
    | false => simp only [Bool.not_false, Bool.false_eq_true, if_false]; exact hno
    | true =>
      simp only [Bool.not_true, if_true]
      obtain ⟨h40, hall⟩ := reqs_all hb
      refine Ev.step (fun k => rfl) ?_
      simp only [spec_SessIds.j0, Bool.false_eq_true, if_false]
      refine evVal (loop_ev l.length (fun k s i => spec_SessIds.l0 k l s i a b c d) (fun i => idsS a b (l.take i)) (idsS a b (l.take l.length), true) ?_ ?_) (by rw [List.take_length])
      · intro i hi hr
        have hx : reqB l[i] = true := hall _ (List.getElem_mem hi)
        have hx2 := hx
        unfold reqB at hx2
        rw [Bool.and_eq_true] at hx2
        have hlen : (idsS a b (l.take i)).length ≤ 640 := by
          have := ids_len (key := a) (log := b) (l := l.take i) (fun x hx => hall x (List.mem_of_mem_take hx))
          rw [List.length_take] at this
          omega
        rw [ids_take hi] at hr
        have hwl := words_len hx2.1
        have hws := @words_size l[i]
        have hwv := specWords_ev l[i] hx
        refine Ev.step (fun k => rfl) ?_
        simp only [spec_SessIds.l0, rd_T32, Int.toNat_natCast, getD_lt _ hi]
        simp only [if_pos (show (i : Int) < (l.length : Int) by omega), if_pos (show (0 : Int) ≤ (i : Int) by omega)]
        refine Ev.bind hwv ?_
        unfold idsOf at hr
        generalize wordsS l[i] = ws at hr hwl hws
        have := loop_from ws.length (fun k j => spec_SessIds.l1 k l (idsS a b (l.take i) ++ (ws.take j).map (shelfS a b)) (i : Int) ws (j : Int) a b c d) (idsS a b (l.take l.length), true) ?_ ?_
        · simpa using this
        · intro j hj hn
          refine Ev.step (fun k => rfl) ?_
          simp only [spec_SessIds.l1, if_pos (show (j : Int) < (ws.length : Int) by omega), if_pos (show (0 : Int) ≤ (j : Int) by omega), rd_words ws j hj]
          refine Ev.bind (specShelf_ev a b ws[j] (by have := hws _ (List.getElem_mem hj); omega)) ?_
          simp only [if_pos (show (idsS a b (l.take i) ++ (ws.take j).map (shelfS a b)).length < 17592186044416 by rw [List.length_append, List.length_map, List.length_take]; omega), wrap_nat_succ (show j < 9223372036854775807 by omega)]
          rw [List.take_succ_eq_append_getElem hj, List.map_append, ← List.append_assoc] at hn
          exact hn
        · refine Ev.step (fun k => ?_) hr
          simp only [spec_SessIds.l1, if_neg (show ¬ (ws.length : Int) < (ws.length : Int) by omega), List.take_length, wrap_nat_succ (show i < 9223372036854775807 by omega)]
      · refine Ev.step (f := fun _ => some _) (fun k => ?_) (Ev.now _)
        simp only [spec_SessIds.l0]
        rw [if_neg (by omega)]
theorem implIds_ev (a b c d : Int) (l : List Req') (hb : reqsB l = true) : Ev (fun k => impl_sessIds.f k a b c d l) (idsS a b l) := by
  unfold impl_sessIds.f
  obtain ⟨h40, hall⟩ := reqs_all hb
  refine loop_ev l.length (fun k s i => impl_sessIds.l0 k s l (l.length : Int) i a b c d) (fun i => idsS a b (l.take i)) (idsS a b l) ?_ ?_
  · intro i hi hr
    have hx : reqB l[i] = true := hall _ (List.getElem_mem hi)
    have hx2 := hx
    unfold reqB at hx2
    rw [Bool.and_eq_true] at hx2
    have hlen : (idsS a b (l.take i)).length ≤ 640 := by
      have := ids_len (key := a) (log := b) (l := l.take i) (fun x hx => hall x (List.mem_of_mem_take hx))
      rw [List.length_take] at this
      omega
    rw [ids_take hi, ids_split a b l[i] hx2.1, ← List.append_assoc] at hr
    have hlk : (looksS l[i]).length ≤ 16 := by
      unfold looksS
      split
      · show 1 ≤ 16; omega
      · split
        · rename_i h6
          unfold tokWords
          split
          · exact tokens_len _ _
          · have := shape_slots hx2.1 h6; rw [List.length_replicate]; omega
        · exact Nat.zero_le _
    have hls : ∀ t, t ∈ looksS l[i] → t.size ≤ 32 := by
      intro t ht
      unfold looksS at ht
      split at ht
      · obtain rfl := List.mem_singleton.1 ht; exact foldS_size _
      · split at ht
        · unfold tokWords at ht
          split at ht
          · exact tokens_size _ _ t ht
          · rw [(List.mem_replicate.1 ht).2]; exact Nat.zero_le _
        · cases ht
    have hwv := looks_ev l[i] hx
    have hce := change_ev l[i] hx
    have hcs : (changeS l[i]).1.size ≤ 32 := foldS_size _
    refine Ev.step (fun k => rfl) ?_
    simp only [impl_sessIds.l0, rd_T32, Int.toNat_natCast, getD_lt _ hi]
    simp only [if_pos (show (i : Int) < (l.length : Int) by omega), if_pos (show (0 : Int) ≤ (i : Int) by omega)]
    refine Ev.bind hwv ?_
    generalize looksS l[i] = ws at hr hlk hls
    have := loop_from ws.length (fun k j => impl_sessIds.l1 k (idsS a b (l.take i) ++ (ws.take j).map (shelfS a b)) l (l.length : Int) (i : Int) ws (ws.length : Int) (j : Int) a b c d l[i].f0 l[i].f1 l[i].f2 l[i].f3 l[i].f4 l[i].f5 l[i].f6) (idsS a b l) ?_ ?_
    · simpa using this
    · intro j hj hn
      refine Ev.step (fun k => rfl) ?_
      simp only [impl_sessIds.l1, if_pos (show (j : Int) < (ws.length : Int) by omega), if_pos (show (0 : Int) ≤ (j : Int) by omega), rd_words ws j hj]
      refine Ev.bind (a := shelfS a b ws[j]) ?_ ?_
      · unfold impl_bucketOf.f
        exact Ev.bind (implShelf_ev a b ws[j] (by have := hls _ (List.getElem_mem hj); omega)) (Ev.now _)
      · simp only [if_pos (show (idsS a b (l.take i) ++ (ws.take j).map (shelfS a b)).length < 17592186044416 by rw [List.length_append, List.length_map, List.length_take]; omega), wrap_nat_succ (show j < 9223372036854775807 by omega)]
        rw [List.take_succ_eq_append_getElem hj, List.map_append, ← List.append_assoc] at hn
        exact hn
    · have hl2 : (idsS a b (l.take i) ++ ws.map (shelfS a b)).length ≤ 656 := by rw [List.length_append, List.length_map]; omega
      refine Ev.step (fun k => rfl) ?_
      simp only [impl_sessIds.l1, if_neg (show ¬ (ws.length : Int) < (ws.length : Int) by omega), List.take_length, wrap_nat_succ (show i < 9223372036854775807 by omega)]
      simp only [isChange_eq, Option.bind_some]
      by_cases hch : l[i].f0 = 3 ∨ l[i].f0 = 4 ∨ l[i].f0 = 5
      · simp only [decide_eq_true hch, if_true]
        rw [if_pos hch] at hr
        refine Ev.bind hce ?_
        refine Ev.bind (entry_ev _ _ (by omega)) ?_
        cases hE : (wordB (changeS l[i]).1 && decide (0 ≤ (changeS l[i]).2 ∧ (changeS l[i]).2 ≤ 65535)) with
        | true =>
          rw [hE, if_pos rfl] at hr
          simp only [if_true]
          refine Ev.bind (a := shelfS a b (changeS l[i]).1) ?_ ?_
          · unfold impl_bucketOf.f
            exact Ev.bind (implShelf_ev a b _ (by omega)) (Ev.now _)
          · refine Ev.bind (evConst rfl) ?_
            exact evIf (by simp only [List.length_cons, List.length_nil]; omega) hr
        | false =>
          rw [hE, if_neg (by decide)] at hr
          simp only [Bool.false_eq_true, if_false]
          refine Ev.bind (evConst rfl) ?_
          exact evIf (by simp only [List.length_cons, List.length_nil]; omega) hr
      · simp only [decide_eq_false hch, Bool.false_eq_true, if_false]
        rw [if_neg hch, List.append_nil] at hr
        exact hr
  · refine Ev.step (f := fun _ => some _) (fun k => ?_) (Ev.now _)
    simp only [impl_sessIds.l0]
    rw [if_neg (by omega), List.take_length]
theorem implSessIds_ev (a b c d : Int) (l : List Req') : Ev (fun k => impl_SessIds.f k a b c d l) (if confB a b c d && reqsB l then (idsS a b l, true) else ([], false)) := by
  unfold impl_SessIds.f
  simp only [isConf_eq, areReqs_eq, Option.bind_some]
  cases hc : confB a b c d with
  | false => simp only [Bool.false_eq_true, if_false, Bool.false_and]; exact Ev.now _
  | true =>
    cases hb : reqsB l with
    | false => simp only [Bool.false_eq_true, if_false, if_true, Bool.true_and]; exact Ev.now _
    | true =>
      simp only [if_true, Bool.true_and]
      exact Ev.bind (implIds_ev a b c d l hb) (Ev.now _)
end Go.Proofs.YtbpffdhkeinmcaaDoor.L
namespace Go.Proofs.YtbpffdhkeinmcaaDoor.Pure
open Go.RowKit Go.Proofs.YtbpffdhkeinmcaaDoor.QC Go.Proofs.YtbpffdhkeinmcaaDoorW.PrintWords Go.Proofs.YtbpffdhkeinmcaaDoorW.PrintLast Go.Proofs.YtbpffdhkeinmcaaDoor.L
set_option linter.unusedVariables false
set_option linter.unusedSimpArgs false
theorem FnExactSessIds : laws_FnExactSessIds.Pure := by
  rintro y l _ ⟨hl, hx⟩
  apply Ev.rounds
  unfold laws_FnExactSessIds.f laws_toConf.f
  have hw : ∀ x, x ∈ l → x.f1.size ≤ 9223372036854775807 ∧ x.f6.size ≤ 9223372036854775807 := fun x h => ⟨(hx x h).2.1, (hx x h).2.2.2.2.2.2⟩
  obtain ⟨r0, e0, c0⟩ := szReqS_ev l 1048576 (by omega) (by omega) hl hw
  refine Ev.bind e0 ?_
  rcases c0 with rfl | ⟨c0, c1, c2, _⟩
  · simp only [show ((-1 : Int) < 0) by omega, if_true]; exact Ev.now _
  simp only [if_neg (show ¬ r0 < 0 by omega)]
  have t0 := toReqS_ev l (by omega)
  have q0 := eqReqS_ev (l.map toReq_) (by simpa using hl)
  have hm : (l.map toReq_).length ≤ 1048576 := by simp; omega
  have hspec := specIds_ev y.f0 y.f1 y.f2 y.f3 (l.map toReq_) (by omega)
  have himpl := implSessIds_ev y.f0 y.f1 y.f2 y.f3 (l.map toReq_)
  have hrl : (if (confB y.f0 y.f1 y.f2 y.f3 && reqsB (l.map toReq_)) = true then (idsS y.f0 y.f1 (l.map toReq_), true) else ([], false)).1.length ≤ 1048576 := by
    split
    · rename_i h
      rw [Bool.and_eq_true] at h
      obtain ⟨h40, hall⟩ := reqs_all h.2
      have := ids_len (key := y.f0) (log := y.f1) hall
      show (idsS _ _ _).length ≤ _
      omega
    · exact Nat.zero_le _
  generalize (if (confB y.f0 y.f1 y.f2 y.f3 && reqsB (l.map toReq_)) = true then (idsS y.f0 y.f1 (l.map toReq_), true) else ([], false)) = r at hspec himpl hrl
  have es := eqIntS_ev r.1 (by omega)
  have ms := markIntS_ev r.1 1 (by omega) (by omega)
  have hs := heldIntS_ev r.1.length 1 (by omega) (by omega)
  refine Ev.bind (evConst rfl) (Ev.bind t0 (Ev.bind hspec (Ev.bind t0 (Ev.bind (evConst rfl) (Ev.bind himpl ?_)))))
  refine Ev.bind es ?_
  simp only [if_true, bne_self_eq_false]
  refine Ev.step (fun k => rfl) ?_
  simp only [laws_FnExactSessIds.j0, Bool.false_eq_true, if_false]
  refine Ev.bind t0 (Ev.bind q0 ?_)
  simp only [if_true]
  refine Ev.bind (markReqS_ev (l.map toReq_) 1 (by omega) (by omega)) ?_
  simp only [if_neg (show ¬ ((1 : Int) + 7 * ((l.map toReq_).length : Int) < 0) by omega)]
  refine Ev.bind es ?_
  simp only [if_true, bne_self_eq_false]
  refine Ev.step (fun k => rfl) ?_
  simp only [laws_FnExactSessIds.j1, Bool.false_eq_true, if_false]
  refine Ev.bind ms (Ev.bind hs ?_)
  simp only [if_neg (show ¬ ((1 : Int) + 1 * (r.1.length : Int) < 0) by omega), if_true]
  refine Ev.bind (evConst rfl) (Ev.bind t0 (Ev.bind himpl ?_))
  refine Ev.bind es ?_
  simp only [if_true, bne_self_eq_false]
  refine Ev.step (fun k => rfl) ?_
  simp only [laws_FnExactSessIds.j2, Bool.false_eq_true, if_false]
  refine Ev.bind hs ?_
  simp only [if_neg (show ¬ ((1 : Int) + 1 * (r.1.length : Int) < 0) by omega), if_true]
  exact Ev.now _
end Go.Proofs.YtbpffdhkeinmcaaDoor.Pure
