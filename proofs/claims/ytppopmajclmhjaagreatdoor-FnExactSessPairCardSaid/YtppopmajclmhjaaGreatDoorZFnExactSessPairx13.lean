/- Part of the proof of the law FnExactSessPair: what it uses of the texts that this session and the kit's print wrote. -/
import Derived.Test.YtppopmajclmhjaaGreatDoorZFnExactSessPairx2
import Derived.Test.YtppopmajclmhjaaGreatDoorZFnExactSessPairx3
import Derived.Test.YtppopmajclmhjaaGreatDoorZFnExactSessPairx4
import Derived.Test.YtppopmajclmhjaaGreatDoorZFnExactSessPairx5
import Derived.Test.YtppopmajclmhjaaGreatDoorZFnExactSessPairx6
import Derived.Test.YtppopmajclmhjaaGreatDoorZFnExactSessPairx7
import Derived.Test.YtppopmajclmhjaaGreatDoorZFnExactSessPairx8
import Derived.Test.YtppopmajclmhjaaGreatDoorZFnExactSessPairx9
import Derived.Test.YtppopmajclmhjaaGreatDoorZFnExactSessPairx10
import Derived.Test.YtppopmajclmhjaaGreatDoorZFnExactSessPairx11
import Derived.Test.YtppopmajclmhjaaGreatDoorZFnExactSessPairx12
namespace Go.Proofs.YtppopmajclmhjaaGreatDoor.L
open Go.RowKit Go.Proofs.YtppopmajclmhjaaGreatDoor.QB Go.Proofs.YtppopmajclmhjaaGreatDoorW.PrintWords Go.Proofs.YtppopmajclmhjaaGreatDoorW.PrintLast Go.Proofs.YtppopmajclmhjaaGreatDoorW.PrintMore
set_option linter.unusedVariables false
set_option linter.unusedSimpArgs false
abbrev Req' := S56
def tokWords (x : Req') : List ByteArray := if (tokensS x.f6 x.f5).2 = true then (tokensS x.f6 x.f5).1 else List.replicate x.f5.toNat (⟨#[]⟩ : ByteArray)
def wordsS (x : Req') : List ByteArray :=
 if x.f0 = 1 then [foldS x.f1]
 else if x.f0 = 3 ∨ x.f0 = 5 then (if 0 ≤ x.f2 ∧ x.f2 ≤ 65535 then [foldS x.f1, foldS x.f1] else [⟨#[]⟩, ⟨#[]⟩])
 else if x.f0 = 4 then [foldS x.f1, foldS x.f1]
 else if x.f0 = 6 then tokWords x else []
theorem shape_slots {x : Req'} (h : shapeB x.f0 x.f5 = true) (h6 : x.f0 = 6) : 1 ≤ x.f5 ∧ x.f5 ≤ 16 := by
 unfold shapeB at h
 rw [if_pos h6] at h
 exact of_decide_eq_true h
theorem tokens_size (s : ByteArray) (n : Int) : ∀ t, t ∈ (tokensS s n).1 → t.size ≤ 32 := by
 intro t ht
 unfold tokensS at ht
 split at ht
 ·split at ht
  ·rcases List.mem_append.1 ht with h | h
   ·obtain ⟨p, _, rfl⟩ := List.mem_map.1 h
    unfold tokS
    split
    ·show 1 ≤ 32; omega
    ·exact foldS_size p
   ·rw [(List.mem_replicate.1 h).2]; exact Nat.zero_le _
  ·cases ht
 ·cases ht
theorem tokens_len (s : ByteArray) (n : Int) : (tokensS s n).1.length ≤ 16 := by
 unfold tokensS
 split
 ·rename_i h
  split
  ·simp only [List.length_append, List.length_map, List.length_replicate]; omega
  ·exact Nat.zero_le _
 ·exact Nat.zero_le _
theorem words_size {x : Req'} : ∀ t, t ∈ wordsS x → t.size ≤ 32 := by
 intro t ht
 have hf := foldS_size x.f1
 unfold wordsS at ht
 split at ht
 ·obtain rfl := List.mem_singleton.1 ht; exact hf
 ·split at ht
  ·split at ht
   ·rcases List.mem_cons.1 ht with rfl | h
    ·exact hf
    ·obtain rfl := List.mem_singleton.1 h; exact hf
   ·rcases List.mem_cons.1 ht with rfl | h
    ·exact Nat.zero_le _
    ·obtain rfl := List.mem_singleton.1 h; exact Nat.zero_le _
  ·split at ht
   ·rcases List.mem_cons.1 ht with rfl | h
    ·exact hf
    ·obtain rfl := List.mem_singleton.1 h; exact hf
   ·split at ht
    ·unfold tokWords at ht
     split at ht
     ·exact tokens_size _ _ t ht
     ·rw [(List.mem_replicate.1 ht).2]; exact Nat.zero_le _
    ·cases ht
theorem words_len {x : Req'} (h : shapeB x.f0 x.f5 = true) : (wordsS x).length ≤ 16 := by
 unfold wordsS
 split
 ·show 1 ≤ 16; omega
 ·split
  ·split
   ·show 2 ≤ 16; omega
   ·show 2 ≤ 16; omega
  ·split
   ·show 2 ≤ 16; omega
   ·split
    ·rename_i h6
     unfold tokWords
     split
     ·exact tokens_len _ _
     ·have := shape_slots h h6; rw [List.length_replicate]; omega
    ·exact Nat.zero_le _
theorem specWords_ev (x : Req') (h : reqB x = true) : Ev (fun k => spec_l22Words.f k x.f0 x.f1 x.f2 x.f3 x.f4 x.f5 x.f6) (wordsS x) := by
 unfold reqB at h
 (simp only [Bool.and_eq_true, decide_eq_true_eq] at h); (obtain ⟨hsh, hw, ht⟩ := h)
 unfold spec_l22Words.f wordsS
 refine Ev.bind (specFold_ev x.f1 (by omega)) ?_
 have hwt : spec_l19Weight.f x.f2 = some (decide (0 ≤ x.f2 ∧ x.f2 ≤ 65535)) := by
  unfold spec_l19Weight.f
  by_cases h0 : x.f2 ≥ 0
  ·rw [if_pos h0]; congr 1; rw [decide_eq_decide]; omega
  ·rw [if_neg h0, decide_eq_false (by omega)]
 have hchg : x.f0 ≠ 1 → (x.f0 = 3 ∨ x.f0 = 5) → Ev (fun k => spec_l22Words.j0 k (foldS x.f1) x.f0 true x.f0 x.f1 x.f2 x.f3 x.f4 x.f5 x.f6) (if 0 ≤ x.f2 ∧ x.f2 ≤ 65535 then [foldS x.f1, foldS x.f1] else [⟨#[]⟩, ⟨#[]⟩]) := by
  intro _ _
  refine Ev.step (fun k => rfl) ?_
  simp only [spec_l22Words.j0, if_true, hwt, Option.bind_some]
  by_cases hb : 0 ≤ x.f2 ∧ x.f2 ≤ 65535
  ·simp only [decide_eq_true hb, if_true, if_pos hb]; exact Ev.now _
  ·simp only [decide_eq_false hb, Bool.false_eq_true, if_false, if_neg hb]; exact Ev.now _
 by_cases h1 : x.f0 = 1
 ·simp only [if_pos h1]; exact Ev.now _
 ·by_cases h3 : x.f0 = 3
  ·simp only [if_neg h1, if_pos h3, if_pos (show x.f0 = 3 ∨ x.f0 = 5 from .inl h3), show (x.f0 == 3) = true by simp [h3]]
   exact hchg h1 (.inl h3)
  ·by_cases h5 : x.f0 = 5
   ·simp only [if_neg h1, if_neg h3, if_pos (show x.f0 = 3 ∨ x.f0 = 5 from .inr h5), show (x.f0 == 5) = true by simp [h5]]
    exact hchg h1 (.inr h5)
   ·simp only [if_neg h1, if_neg h3, if_neg (show ¬ (x.f0 = 3 ∨ x.f0 = 5) by omega), show (x.f0 == 5) = false by simp [h5]]
    refine Ev.step (fun k => rfl) ?_
    simp only [spec_l22Words.j0, Bool.false_eq_true, if_false]
    by_cases h4 : x.f0 = 4
    ·simp only [if_pos h4]; exact Ev.now _
    ·by_cases h6 : x.f0 = 6
     ·simp only [if_neg h4, if_pos h6]
      have hs := shape_slots hsh h6
      refine Ev.bind (specTokens_ev x.f6 x.f5) ?_
      unfold tokWords
      by_cases hb : (tokensS x.f6 x.f5).2 = true
      ·simp only [if_pos hb]; exact Ev.now _
      ·simp only [if_neg hb, if_pos (show 0 ≤ x.f5 by omega), if_pos (show x.f5.toNat ≤ 17592186044416 by omega)]; exact Ev.now _
     ·simp only [if_neg h4, if_neg h6]; exact Ev.now _
def looksS (x : Req') : List ByteArray := if x.f0 = 1 then [foldS x.f1] else if x.f0 = 6 then tokWords x else []
theorem looks_ev (x : Req') (h : reqB x = true) : Ev (fun k => impl_looksOf.f k x.f0 x.f1 x.f2 x.f3 x.f4 x.f5 x.f6) (looksS x) := by
 unfold reqB at h
 (simp only [Bool.and_eq_true, decide_eq_true_eq] at h); (obtain ⟨hsh, hw, ht⟩ := h)
 unfold impl_looksOf.f looksS
 by_cases h1 : x.f0 = 1
 ·simp only [if_pos h1]
  exact Ev.bind (implFold_ev x.f1 (by omega)) (Ev.now _)
 ·by_cases h6 : x.f0 = 6
  ·simp only [if_neg h1, if_pos h6]
   have hs := shape_slots hsh h6
   refine Ev.bind (implTokens_ev x.f6 x.f5) ?_
   unfold tokWords
   by_cases hb : (tokensS x.f6 x.f5).2 = true
   ·simp only [if_pos hb]; exact Ev.now _
   ·simp only [if_neg hb, if_pos (show 0 ≤ x.f5 by omega), if_pos (show x.f5.toNat ≤ 17592186044416 by omega)]; exact Ev.now _
  ·simp only [if_neg h1, if_neg h6]; exact Ev.now _
theorem isChange_eq (a : Int) : impl_isChange.f a = some (decide (a = 3 ∨ a = 4 ∨ a = 5)) := by
 unfold impl_isChange.f
 by_cases h3 : a = 3
 ·rw [if_pos h3]; simp [h3]
 ·by_cases h4 : a = 4
  ·rw [if_neg h3, if_pos h4]; simp [h4]
  ·rw [if_neg h3, if_neg h4]
   congr 1
   rw [Bool.eq_iff_iff]
   simp [h3, h4]
def changeS (x : Req') : ByteArray × Int := (foldS x.f1, if x.f0 = 4 then 0 else x.f2)
theorem change_ev (x : Req') (h : reqB x = true) : Ev (fun k => impl_changeOf.f k x.f0 x.f1 x.f2 x.f3 x.f4 x.f5 x.f6) (changeS x) := by
 unfold reqB at h
 simp only [Bool.and_eq_true, decide_eq_true_eq] at h
 unfold impl_changeOf.f changeS
 refine Ev.bind (implFold_ev x.f1 (by omega)) ?_
 by_cases h4 : x.f0 = 4
 ·simp only [if_pos h4]; exact Ev.now _
 ·simp only [if_neg h4]; exact Ev.now _
theorem entry_ev (s : ByteArray) (n : Int) (h : s.size ≤ 9223372036854775807) : Ev (fun k => impl_isEntry.f k s n) (wordB s && decide (0 ≤ n ∧ n ≤ 65535)) := by
 unfold impl_isEntry.f
 refine Ev.bind (isWord_ev _ h) ?_
 cases wordB s with
 | false => simp only [Bool.false_eq_true, if_false, Bool.false_and]; exact Ev.now _
 | true => simp only [if_true, within_eq, Option.bind_some, Bool.true_and]; exact Ev.now _
theorem empty_noword : wordB ⟨#[]⟩ = false := by
 unfold wordB
 rw [decide_eq_false (by show ¬ (1 ≤ 0 ∧ 0 ≤ 32); omega), Bool.false_and]
theorem shelf_noword {key log : Int} {s : ByteArray} (h : wordB s = false) : shelfS key log s = -1 := by
 unfold shelfS
 rw [if_neg (fun h' => by rw [h] at h'; cases h'.2.1)]
def idsOf (key log : Int) (x : Req') : List Int := (wordsS x).map (shelfS key log)
theorem ids_split (key log : Int) (x : Req') (h : shapeB x.f0 x.f5 = true) :
  idsOf key log x = (looksS x).map (shelfS key log) ++ (if x.f0 = 3 ∨ x.f0 = 4 ∨ x.f0 = 5 then
   (if (wordB (changeS x).1 && decide (0 ≤ (changeS x).2 ∧ (changeS x).2 ≤ 65535)) = true then [shelfS key log (changeS x).1, shelfS key log (changeS x).1] else [-1, -1]) else []) := by
 unfold idsOf wordsS looksS changeS
 by_cases h1 : x.f0 = 1
 ·simp [h1]
 ·by_cases h6 : x.f0 = 6
  ·simp [h6]
  ·by_cases h4 : x.f0 = 4
   ·rw [if_neg h1, if_neg (show ¬ (x.f0 = 3 ∨ x.f0 = 5) by omega), if_pos h4, if_neg h1, if_neg h6, if_pos (show x.f0 = 3 ∨ x.f0 = 4 ∨ x.f0 = 5 by omega), if_pos h4]
    cases hw : wordB (foldS x.f1) with
    | true => simp
    | false => simp [shelf_noword hw]
   ·by_cases h35 : x.f0 = 3 ∨ x.f0 = 5
    ·rw [if_neg h1, if_pos h35, if_neg h1, if_neg h6, if_pos (show x.f0 = 3 ∨ x.f0 = 4 ∨ x.f0 = 5 by omega), if_neg h4]
     by_cases hb : 0 ≤ x.f2 ∧ x.f2 ≤ 65535
     ·rw [if_pos hb, decide_eq_true hb, Bool.and_true]
      cases hw : wordB (foldS x.f1) with
      | true => simp
      | false => simp [shelf_noword hw]
     ·rw [if_neg hb, decide_eq_false hb, Bool.and_false]
      simp [shelf_noword empty_noword]
    ·rw [if_neg h1, if_neg h35, if_neg h4, if_neg h6, if_neg h1, if_neg (show ¬ (x.f0 = 3 ∨ x.f0 = 4 ∨ x.f0 = 5) by omega)]
     rfl
def idsS (key log : Int) (l : List Req') : List Int := l.flatMap (idsOf key log)
theorem ids_len {key log : Int} {l : List Req'} (h : ∀ x, x ∈ l → reqB x = true) : (idsS key log l).length ≤ 16 * l.length := by
 induction l with
 | nil => exact Nat.zero_le _
 | cons x xs ih =>
  (have h1 := ih (fun y hy => h y (List.mem_cons_of_mem _ hy))); (have h2 := h x (List.mem_cons_self ..))
  unfold reqB at h2
  (simp only [Bool.and_eq_true] at h2); (have h3 := words_len h2.1)
  unfold idsS at h1 ⊢
  rw [List.flatMap_cons, List.length_append, List.length_cons]
  unfold idsOf at h1 ⊢
  rw [List.length_map]
  omega
theorem ids_take {key log : Int} {l : List Req'} {i : Nat} (h : i < l.length) : idsS key log (l.take (i + 1)) = idsS key log (l.take i) ++ idsOf key log l[i] := by
 unfold idsS
 rw [List.take_succ_eq_append_getElem h, List.flatMap_append]
 simp
theorem rd_words (l : List ByteArray) (i : Nat) (hi : i < l.length) : rdOf ByteArray.empty l (i : Int) = l[i] := by unfold rdOf; rw [Int.toNat_natCast, getD_lt _ hi]
theorem loop_from {ρ : Type} (n : Nat) (G : Nat → Nat → Option ρ) (r : ρ) (hstep : ∀ j, j < n → Ev (fun k => G k (j + 1)) r → Ev (fun k => G k j) r) (hend : Ev (fun k => G k n) r) : Ev (fun k => G k 0) r := by
 have key : ∀ d j, j + d = n → Ev (fun k => G k j) r := by
  intro d
  induction d with
  | zero =>
   intro j h
   obtain rfl : j = n := by omega
   exact hend
  | succ d ih => intro j h; exact hstep j (by omega) (ih (j + 1) (by omega))
 exact key n 0 (by omega)
theorem specIds_ev (a b c d : Int) (l : List Req') (h : l.length ≤ 9223372036854775807) : Ev (fun k => spec_SessIds.f k a b c d l) (if confB a b c d && reqsB l then (idsS a b l, true) else ([], false)) := by
 unfold spec_SessIds.f
 have hno : Ev (fun k => spec_SessIds.j0 k l true a b c d) ([], false) := by
  refine Ev.step (fun k => rfl) ?_
  simp only [spec_SessIds.j0, if_true]
  exact Ev.now _
 simp only [confOk_eq, Option.bind_some]
 cases hc : confB a b c d with
 | false => simp only [Bool.false_eq_true, if_false, Bool.false_and]; exact hno
 | true =>
  simp only [if_true, Bool.true_and]
  refine Ev.bind (specReqsOk_ev l h) ?_
  cases hb : reqsB l with
  | false => simp only [Bool.not_false, Bool.false_eq_true, if_false]; exact hno
  | true =>
   (simp only [Bool.not_true, if_true]); (obtain ⟨h40, hall⟩ := reqs_all hb)
   refine Ev.step (fun k => rfl) ?_
   simp only [spec_SessIds.j0, Bool.false_eq_true, if_false]
   refine evVal (loop_ev l.length (fun k s i => spec_SessIds.l0 k l s i a b c d) (fun i => idsS a b (l.take i)) (idsS a b (l.take l.length), true) ?_ ?_) (by rw [List.take_length])
   ·intro i hi hr
    (have hx : reqB l[i] = true := hall _ (List.getElem_mem hi)); (have hx2 := hx)
    unfold reqB at hx2
    rw [Bool.and_eq_true] at hx2
    have hlen : (idsS a b (l.take i)).length ≤ 640 := by
     (have := ids_len (key := a) (log := b) (l := l.take i) (fun x hx => hall x (List.mem_of_mem_take hx))); (rw [List.length_take] at this)
     omega
    (rw [ids_take hi] at hr); (have hwl := words_len hx2.1); (have hws := @words_size l[i]); (have hwv := specWords_ev l[i] hx)
    refine Ev.step (fun k => rfl) ?_
    (simp only [spec_SessIds.l0, rd_T56, Int.toNat_natCast, getD_lt _ hi]); (simp only [if_pos (show (i : Int) < (l.length : Int) by omega), if_pos (show (0 : Int) ≤ (i : Int) by omega)])
    refine Ev.bind hwv ?_
    unfold idsOf at hr
    generalize wordsS l[i] = ws at hr hwl hws
    have := loop_from ws.length (fun k j => spec_SessIds.l1 k l (idsS a b (l.take i) ++ (ws.take j).map (shelfS a b)) (i : Int) ws (j : Int) a b c d) (idsS a b (l.take l.length), true) ?_ ?_
    ·simpa using this
    ·intro j hj hn
     refine Ev.step (fun k => rfl) ?_
     simp only [spec_SessIds.l1, if_pos (show (j : Int) < (ws.length : Int) by omega), if_pos (show (0 : Int) ≤ (j : Int) by omega), rd_words ws j hj]
     refine Ev.bind (specShelf_ev a b ws[j] (by have := hws _ (List.getElem_mem hj); omega)) ?_
     (simp only [if_pos (show (idsS a b (l.take i) ++ (ws.take j).map (shelfS a b)).length < 17592186044416 by rw [List.length_append, List.length_map, List.length_take]; omega), wrap_nat_succ (show j < 9223372036854775807 by omega)]); (rw [List.take_succ_eq_append_getElem hj, List.map_append, ← List.append_assoc] at hn)
     exact hn
    ·refine Ev.step (fun k => ?_) hr
     simp only [spec_SessIds.l1, if_neg (show ¬ (ws.length : Int) < (ws.length : Int) by omega), List.take_length, wrap_nat_succ (show i < 9223372036854775807 by omega)]
   ·refine Ev.step (f := fun _ => some _) (fun k => ?_) (Ev.now _)
    (simp only [spec_SessIds.l0]); (rw [if_neg (by omega)])
theorem implIds_ev (a b c d : Int) (l : List Req') (hb : reqsB l = true) : Ev (fun k => impl_sessIds.f k a b c d l) (idsS a b l) := by
 unfold impl_sessIds.f
 obtain ⟨h40, hall⟩ := reqs_all hb
 refine loop_ev l.length (fun k s i => impl_sessIds.l0 k s l (l.length : Int) i a b c d) (fun i => idsS a b (l.take i)) (idsS a b l) ?_ ?_
 ·intro i hi hr
  (have hx : reqB l[i] = true := hall _ (List.getElem_mem hi)); (have hx2 := hx)
  unfold reqB at hx2
  rw [Bool.and_eq_true] at hx2
  have hlen : (idsS a b (l.take i)).length ≤ 640 := by
   (have := ids_len (key := a) (log := b) (l := l.take i) (fun x hx => hall x (List.mem_of_mem_take hx))); (rw [List.length_take] at this)
   omega
  rw [ids_take hi, ids_split a b l[i] hx2.1, ← List.append_assoc] at hr
  have hlk : (looksS l[i]).length ≤ 16 := by
   unfold looksS
   split
   ·show 1 ≤ 16; omega
   ·split
    ·rename_i h6
     unfold tokWords
     split
     ·exact tokens_len _ _
     ·have := shape_slots hx2.1 h6; rw [List.length_replicate]; omega
    ·exact Nat.zero_le _
  have hls : ∀ t, t ∈ looksS l[i] → t.size ≤ 32 := by
   intro t ht
   unfold looksS at ht
   split at ht
   ·obtain rfl := List.mem_singleton.1 ht; exact foldS_size _
   ·split at ht
    ·unfold tokWords at ht
     split at ht
     ·exact tokens_size _ _ t ht
     ·rw [(List.mem_replicate.1 ht).2]; exact Nat.zero_le _
    ·cases ht
  (have hwv := looks_ev l[i] hx); (have hce := change_ev l[i] hx); (have hcs : (changeS l[i]).1.size ≤ 32 := foldS_size _)
  refine Ev.step (fun k => rfl) ?_
  (simp only [impl_sessIds.l0, rd_T56, Int.toNat_natCast, getD_lt _ hi]); (simp only [if_pos (show (i : Int) < (l.length : Int) by omega), if_pos (show (0 : Int) ≤ (i : Int) by omega)])
  refine Ev.bind hwv ?_
  generalize looksS l[i] = ws at hr hlk hls
  have := loop_from ws.length (fun k j => impl_sessIds.l1 k (idsS a b (l.take i) ++ (ws.take j).map (shelfS a b)) l (l.length : Int) (i : Int) ws (ws.length : Int) (j : Int) a b c d l[i].f0 l[i].f1 l[i].f2 l[i].f3 l[i].f4 l[i].f5 l[i].f6) (idsS a b l) ?_ ?_
  ·simpa using this
  ·intro j hj hn
   refine Ev.step (fun k => rfl) ?_
   simp only [impl_sessIds.l1, if_pos (show (j : Int) < (ws.length : Int) by omega), if_pos (show (0 : Int) ≤ (j : Int) by omega), rd_words ws j hj]
   refine Ev.bind (a := shelfS a b ws[j]) ?_ ?_
   ·unfold impl_bucketOf.f
    exact Ev.bind (implShelf_ev a b ws[j] (by have := hls _ (List.getElem_mem hj); omega)) (Ev.now _)
   ·simp only [if_pos (show (idsS a b (l.take i) ++ (ws.take j).map (shelfS a b)).length < 17592186044416 by rw [List.length_append, List.length_map, List.length_take]; omega), wrap_nat_succ (show j < 9223372036854775807 by omega)]
    rw [List.take_succ_eq_append_getElem hj, List.map_append, ← List.append_assoc] at hn
    exact hn
  ·have hl2 : (idsS a b (l.take i) ++ ws.map (shelfS a b)).length ≤ 656 := by rw [List.length_append, List.length_map]; omega
   refine Ev.step (fun k => rfl) ?_
   (simp only [impl_sessIds.l1, if_neg (show ¬ (ws.length : Int) < (ws.length : Int) by omega), List.take_length, wrap_nat_succ (show i < 9223372036854775807 by omega)]); (simp only [isChange_eq, Option.bind_some])
   by_cases hch : l[i].f0 = 3 ∨ l[i].f0 = 4 ∨ l[i].f0 = 5
   ·simp only [decide_eq_true hch, if_true]
    rw [if_pos hch] at hr
    refine Ev.bind hce ?_
    refine Ev.bind (entry_ev _ _ (by omega)) ?_
    cases hE : (wordB (changeS l[i]).1 && decide (0 ≤ (changeS l[i]).2 ∧ (changeS l[i]).2 ≤ 65535)) with
    | true =>
     (rw [hE, if_pos rfl] at hr); (simp only [if_true])
     refine Ev.bind (a := shelfS a b (changeS l[i]).1) ?_ ?_
     ·unfold impl_bucketOf.f
      exact Ev.bind (implShelf_ev a b _ (by omega)) (Ev.now _)
     ·refine Ev.bind (evConst rfl) ?_
      exact evIf (by simp only [List.length_cons, List.length_nil]; omega) hr
    | false =>
     (rw [hE, if_neg (by decide)] at hr); (simp only [Bool.false_eq_true, if_false])
     refine Ev.bind (evConst rfl) ?_
     exact evIf (by simp only [List.length_cons, List.length_nil]; omega) hr
   ·simp only [decide_eq_false hch, Bool.false_eq_true, if_false]
    rw [if_neg hch, List.append_nil] at hr
    exact hr
 ·refine Ev.step (f := fun _ => some _) (fun k => ?_) (Ev.now _)
  (simp only [impl_sessIds.l0]); (rw [if_neg (by omega), List.take_length])
end Go.Proofs.YtppopmajclmhjaaGreatDoor.L
namespace Go.Proofs.YtppopmajclmhjaaGreatDoor.L
open Go.RowKit Go.Proofs.YtppopmajclmhjaaGreatDoor.QB Go.Proofs.YtppopmajclmhjaaGreatDoorW.PrintWords Go.Proofs.YtppopmajclmhjaaGreatDoorW.PrintLast
set_option linter.unusedVariables false
set_option linter.unusedSimpArgs false
def takesI (a b : Int) : Int := if a = 1 then 1 else if a = 3 ∨ a = 4 ∨ a = 5 then 2 else b
theorem takes_eq (a b : Int) : impl_takes.f a b = some (takesI a b) := by
 unfold impl_takes.f impl_isChange.f takesI
 by_cases h1 : a = 1
 ·simp [h1]
 ·by_cases h3 : a = 3
  ·simp [h3]
  ·by_cases h4 : a = 4
   ·simp [h4]
   ·by_cases h5 : a = 5
    ·simp [h5]
    ·simp [h1, h3, h4, h5]
theorem l22Takes_eq (k : Nat) {a b : Int} (h : shapeB a b = true) : spec_l22Takes.f (k + 1) a b = some (takesI a b) := by
 have hr := shape_range h
 unfold spec_l22Takes.f takesI
 simp only [spec_l22Takes.j0]
 by_cases h1 : a = 1
 ·simp [h1]
 ·by_cases h3 : a = 3
  ·simp [h3]
  ·by_cases h4 : a = 4
   ·simp [h4]
   ·by_cases h5 : a = 5
    ·simp [h5]
    ·by_cases h6 : a = 6
     ·simp [h6]
     ·have hb : b = 0 := hr.2.2.2.2.1 h6
      simp [h1, h3, h4, h5, h6, hb]
theorem takesI_range {a b : Int} (h : shapeB a b = true) : 0 ≤ takesI a b ∧ takesI a b ≤ 16 := by
 have hr := shape_range h
 unfold takesI
 split
 ·omega
 ·split <;> omega
theorem shapeTakes_ev (a b : Int) : Ev (fun k => spec_ShapeTakes.f k a b) (if shapeB a b then takesI a b else -1) := by
 unfold spec_ShapeTakes.f
 simp only [l18Shape_eq, Option.bind_some]
 cases h : shapeB a b with
 | true => exact Ev.step (fun k => by simp only [if_true, l22Takes_eq k h, Option.bind_some]) (Ev.now _)
 | false => exact evConst (by simp)
end Go.Proofs.YtppopmajclmhjaaGreatDoor.L
namespace Go.Proofs.YtppopmajclmhjaaGreatDoor.L
open Go.RowKit Go.Proofs.YtppopmajclmhjaaGreatDoor.QB Go.Proofs.YtppopmajclmhjaaGreatDoorW.PrintWords Go.Proofs.YtppopmajclmhjaaGreatDoorW.PrintLast Go.Proofs.YtppopmajclmhjaaGreatDoorW.PrintMore
set_option linter.unusedVariables false
set_option linter.unusedSimpArgs false
def shapesB (l : List S79) : Bool := decide (l.length ≤ 40) && l.all fun x => shapeB x.f0 x.f1
theorem specShapesOk_ev (l : List S79) (h : l.length ≤ 9223372036854775807) : Ev (fun k => spec_ShapesOk.f k l) (shapesB l) := by
 unfold spec_ShapesOk.f shapesB
 by_cases h4 : (l.length : Int) > 40
 ·simp only [if_pos h4, show ¬ l.length ≤ 40 by omega, decide_false, Bool.false_and]
  exact Ev.now _
 ·simp only [if_neg h4, show l.length ≤ 40 by omega, decide_true, Bool.true_and]
  rw [← all_range l z79 (fun x => shapeB x.f0 x.f1)]
  refine evVal (search_ev l.length (fun k i => spec_ShapesOk.l0 k l i) (fun i => shapeB (l.getD i z79).f0 (l.getD i z79).f1) false true ?_ ?_ ?_) ?_
  ·intro i hi hp r hr
   refine Ev.step (fun k => ?_) hr
   (simp only [spec_ShapesOk.l0, l18Shape_eq, Option.bind_some, rd_T79, Int.toNat_natCast, hp, if_true]); (rw [if_pos (by omega), if_pos (by omega), wrap_nat_succ (by omega)])
  ·intro i hi hp
   refine Ev.step (f := fun _ => some false) (fun k => ?_) (Ev.now _)
   (simp only [spec_ShapesOk.l0, l18Shape_eq, Option.bind_some, rd_T79, Int.toNat_natCast, hp]); (rw [if_pos (by omega), if_pos (by omega)])
   rfl
  ·refine Ev.step (f := fun _ => some true) (fun k => ?_) (Ev.now _)
   (simp only [spec_ShapesOk.l0]); (rw [if_neg (by omega)])
  ·cases (List.range l.length).all _ <;> rfl
def sumN (g : S79 → Int) (l : List S79) (i : Nat) : Int := (l.take i).foldl (fun a x => a + g x) 0
theorem sumN_succ (g : S79 → Int) (l : List S79) (i : Nat) (h : i < l.length) : sumN g l (i + 1) = sumN g l i + g (l.getD i z79) := by
 unfold sumN
 rw [List.take_succ_eq_append_getElem h, List.foldl_append, getD_lt z79 h]
 rfl
theorem sumN_range (g : S79 → Int) (m : Int) (hm : 0 ≤ m) (l : List S79) (hg : ∀ x, x ∈ l → 0 ≤ g x ∧ g x ≤ m) : ∀ i, i ≤ l.length → 0 ≤ sumN g l i ∧ sumN g l i ≤ i * m := by
 intro i
 induction i with
 | zero => intro _; simp [sumN]
 | succ i ih =>
  intro h
  (have h1 := ih (by omega)); (have h2 := hg (l.getD i z79) (by rw [getD_lt z79 (by omega)]; exact List.getElem_mem _)); (rw [sumN_succ g l i (by omega)]); (have : ((i + 1 : Nat) : Int) * m = i * m + m := by rw [Int.natCast_add]; simp [Int.add_mul])
  omega
theorem shapes_all {l : List S79} (h : shapesB l = true) : l.length ≤ 40 ∧ ∀ x, x ∈ l → shapeB x.f0 x.f1 = true := by
 unfold shapesB at h
 rw [Bool.and_eq_true] at h
 exact ⟨of_decide_eq_true h.1, fun x hx => List.all_eq_true.1 h.2 x hx⟩
def takesS (l : List S79) : Int := sumN (fun x => takesI x.f0 x.f1) l l.length
theorem takesS_range {l : List S79} (h : shapesB l = true) : 0 ≤ takesS l ∧ takesS l ≤ 640 := by
 (obtain ⟨h40, ha⟩ := shapes_all h); (have hb := sumN_range (fun x => takesI x.f0 x.f1) 16 (by omega) l (fun x hx => by have := takesI_range (ha x hx); omega) l.length (Nat.le_refl _))
 unfold takesS
 omega
theorem specTakes_ev (l : List S79) (hs : shapesB l = true) : Ev (fun k => spec_l23Takes.f k l) (takesS l) := by
 unfold spec_l23Takes.f takesS
 (obtain ⟨h40, ha⟩ := shapes_all hs); (have hb := sumN_range (fun x => takesI x.f0 x.f1) 16 (by omega) l (fun x hx => by have := takesI_range (ha x hx); omega))
 refine loop_ev l.length (fun k s i => spec_l23Takes.l0 k l s i) (sumN (fun x => takesI x.f0 x.f1) l) _ ?_ ?_
 ·intro i hi hr
  (have h1 := hb i (by omega)); (have hx : l.getD i z79 ∈ l := by rw [getD_lt z79 hi]; exact List.getElem_mem _); (have h2 := takesI_range (ha _ hx)); (have e := evVal (shapeTakes_ev (l.getD i z79).f0 (l.getD i z79).f1) (if_pos (ha _ hx)))
  refine Ev.step (fun k => ?_) (Ev.bind e (f := fun k v => spec_l23Takes.l0 k l (wrap64 (sumN (fun x => takesI x.f0 x.f1) l i + v)) ((i + 1 : Nat) : Int)) ?_)
  ·simp only [spec_l23Takes.l0, rd_T79, Int.toNat_natCast]
   rw [if_pos (by omega), if_pos (by omega), wrap_nat_succ (by omega)]
  ·rw [wrap_id (by omega) (by omega), ← sumN_succ (fun x => takesI x.f0 x.f1) l i hi]
   exact hr
 ·refine Ev.step (f := fun _ => some _) (fun k => ?_) (Ev.now _)
  (simp only [spec_l23Takes.l0]); (rw [if_neg (by omega)])
theorem implTakes_ev (l : List S79) (hs : shapesB l = true) : Ev (fun k => impl_sumTakes.f k l) (takesS l) := by
 unfold impl_sumTakes.f takesS
 (obtain ⟨h40, ha⟩ := shapes_all hs); (have hb := sumN_range (fun x => takesI x.f0 x.f1) 16 (by omega) l (fun x hx => by have := takesI_range (ha x hx); omega))
 refine loop_ev l.length (fun k s i => impl_sumTakes.l0 k s l (l.length : Int) i) (sumN (fun x => takesI x.f0 x.f1) l) _ ?_ ?_
 ·intro i hi hr
  (have h1 := hb i (by omega)); (have hx : l.getD i z79 ∈ l := by rw [getD_lt z79 hi]; exact List.getElem_mem _); (have h2 := takesI_range (ha _ hx))
  refine Ev.step (fun k => ?_) hr
  (simp only [impl_sumTakes.l0, rd_T79, Int.toNat_natCast, takes_eq, Option.bind_some]); (rw [if_pos (by omega), if_pos (by omega), if_pos (by omega), wrap_nat_succ (by omega), wrap_id (by omega) (by omega), sumN_succ _ l i hi])
 ·refine Ev.step (f := fun _ => some _) (fun k => ?_) (Ev.now _)
  (simp only [impl_sumTakes.l0]); (rw [if_neg (by omega)])
def drawsI (b : Int) (l : List S79) : Int := 6 * 2 ^ (b - 2).toNat + 2 * takesS l
theorem specShapeDraws_ev (a b c d : Int) (l : List S79) (hl : l.length ≤ 9223372036854775807) : Ev (fun k => spec_ShapeDraws.f k a b c d l) (if confB a b c d && shapesB l then drawsI b l else -1) := by
 unfold spec_ShapeDraws.f
 simp only [confOk_eq, Option.bind_some]
 cases hc : confB a b c d with
 | false =>
  simp only [Bool.false_eq_true, if_false, Bool.false_and]
  exact Ev.step (fun k => by simp only [spec_ShapeDraws.j0, if_true]) (Ev.now _)
 | true =>
  simp only [if_true, Bool.true_and]
  refine Ev.bind (specShapesOk_ev l hl) ?_
  cases hs : shapesB l with
  | false =>
   simp only [Bool.false_eq_true, if_false]
   exact Ev.step (fun k => by simp only [spec_ShapeDraws.j0, Bool.not_false, if_true]) (Ev.now _)
  | true =>
   (simp only [if_true]); (have hb := confB_log hc); (obtain ⟨n, e, hn, hp, hp'⟩ := pow_small (b := b) (by omega)); (have ht := takesS_range hs)
   have hd : Ev (fun k => spec_DeepDraws.f k b) (6 * 2 ^ n) := by
    unfold spec_DeepDraws.f spec_l16Log.f
    simp only [if_pos (show b ≥ 2 by omega), Option.bind_some, show b ≤ 6 by omega, decide_true, if_true, e, wrap_id (x := (n : Int)) (by omega) (by omega)]
    refine Ev.bind (pow_ev n (by omega)) ?_
    rw [wrap_id (by omega) (by omega)]
    exact Ev.now _
   refine Ev.step (fun k => by simp only [spec_ShapeDraws.j0, Bool.not_true, Bool.false_eq_true, if_false]; exact rfl) ?_
   refine Ev.bind hd ?_
   refine Ev.bind (specTakes_ev l hs) ?_
   unfold drawsI
   rw [e, Int.toNat_natCast, wrap_id (x := 2 * takesS l) (by omega) (by omega), wrap_id (by omega) (by omega)]
   exact Ev.now _
theorem implShapeDrawsOf_ev {b : Int} (a c d : Int) (l : List S79) (hb : 2 ≤ b ∧ b ≤ 6) (hs : shapesB l = true) : Ev (fun k => impl_shapeDraws.f k a b c d l) (drawsI b l) := by
 (obtain ⟨n, e, hn, hp, hp'⟩ := pow_small hb); (have ht := takesS_range hs)
 unfold impl_shapeDraws.f
 (rw [wrap_id (x := b - 2) (by omega) (by omega), e]); (simp only [Int.natCast_nonneg, if_true])
 refine Ev.bind (implTakes_ev l hs) ?_
 unfold drawsI
 rw [e, Int.toNat_natCast, shl_pow 6 n (by omega), wrap_id (x := 6 * 2 ^ n) (by omega) (by omega), wrap_id (x := 2 * takesS l) (by omega) (by omega), wrap_id (by omega) (by omega)]
 exact Ev.now _
def shOf (x : S56) : S79 := ⟨x.f0, x.f5⟩
theorem implShapesOf_ev (l : List S56) (h : l.length ≤ 40) : Ev (fun k => impl_shapesOf.f k l) (l.map shOf) := by
 unfold impl_shapesOf.f
 refine evVal (loop_ev l.length (fun k s i => impl_shapesOf.l0 k s l (l.length : Int) i) (fun i => (l.take i).map shOf) ((l.take l.length).map shOf) ?_ ?_) (by rw [List.take_length])
 ·intro i hi hr
  refine Ev.step (fun k => ?_) hr
  (simp only [impl_shapesOf.l0, rd_T56, Int.toNat_natCast]); (rw [if_pos (by omega), if_pos (by omega), if_pos (by omega), if_pos (by simp; omega), wrap_nat_succ (by omega), List.take_succ_eq_append_getElem hi, List.map_append, getD_lt _ hi])
  rfl
 ·refine Ev.step (f := fun _ => some _) (fun k => ?_) (Ev.now _)
  (simp only [impl_shapesOf.l0]); (rw [if_neg (by omega)])
theorem specShapesOf_ev (l : List S56) (h : l.length ≤ 9223372036854775807) : Ev (fun k => spec_ShapesOf.f k l) (if reqsB l then (l.map shOf, true) else ([], false)) := by
 unfold spec_ShapesOf.f
 refine Ev.bind (specReqsOk_ev l h) ?_
 cases hb : reqsB l with
 | false => simp only [Bool.false_eq_true, if_false]; exact Ev.now _
 | true =>
  (obtain ⟨h40, _⟩ := reqs_all hb); (simp only [if_true])
  refine evVal (loop_ev l.length (fun k s i => spec_ShapesOf.l0 k l s i) (fun i => (l.take i).map shOf) ((l.take l.length).map shOf, true) ?_ ?_) (by rw [List.take_length])
  ·intro i hi hr
   refine Ev.step (fun k => ?_) hr
   (simp only [spec_ShapesOf.l0, rd_T56, Int.toNat_natCast]); (rw [if_pos (by omega), if_pos (by omega), if_pos (by simp; omega), wrap_nat_succ (by omega), List.take_succ_eq_append_getElem hi, List.map_append, getD_lt _ hi])
   rfl
  ·refine Ev.step (f := fun _ => some _) (fun k => ?_) (Ev.now _)
   (simp only [spec_ShapesOf.l0]); (rw [if_neg (by omega)])
theorem tokens_full (s : ByteArray) (n : Int) (h : (tokensS s n).2 = true) : ((tokensS s n).1.length : Int) = n := by
 unfold tokensS at h ⊢
 split
 ·rename_i h1
  rw [if_pos h1] at h
  split
  ·rename_i h2
   simp only [List.length_append, List.length_map, List.length_replicate]; omega
  ·rename_i h2; rw [if_neg h2] at h; cases h
 ·rename_i h1; rw [if_neg h1] at h; cases h
theorem words_takes {x : Req'} (h : shapeB x.f0 x.f5 = true) : ((wordsS x).length : Int) = takesI x.f0 x.f5 := by
 have hr := shape_range h
 unfold wordsS takesI
 by_cases h1 : x.f0 = 1
 ·rw [if_pos h1, if_pos h1]; rfl
 ·rw [if_neg h1, if_neg h1]
  by_cases h35 : x.f0 = 3 ∨ x.f0 = 5
  ·rw [if_pos h35, if_pos (show x.f0 = 3 ∨ x.f0 = 4 ∨ x.f0 = 5 by omega)]
   split <;> rfl
  ·rw [if_neg h35]
   by_cases h4 : x.f0 = 4
   ·rw [if_pos h4, if_pos (show x.f0 = 3 ∨ x.f0 = 4 ∨ x.f0 = 5 by omega)]; rfl
   ·rw [if_neg h4, if_neg (show ¬ (x.f0 = 3 ∨ x.f0 = 4 ∨ x.f0 = 5) by omega)]
    by_cases h6 : x.f0 = 6
    ·rw [if_pos h6]
     have hs := shape_slots h h6
     unfold tokWords
     split
     ·rename_i ht; exact tokens_full _ _ ht
     ·rw [List.length_replicate]; omega
    ·rw [if_neg h6]
     (have : x.f0 = 2 := by omega); (have h5 : x.f5 = 0 := by unfold shapeB at h; rw [if_neg h6] at h; have := of_decide_eq_true h; omega); (rw [h5]; rfl)
theorem takes_ids (key log : Int) (l : List Req') (h : ∀ x, x ∈ l → reqB x = true) : takesS (l.map shOf) = ((idsS key log l).length : Int) := by
 have key' : ∀ (l : List Req') (a : Int), (∀ x, x ∈ l → reqB x = true) → (l.map shOf).foldl (fun a x => a + takesI x.f0 x.f1) a = a + ((idsS key log l).length : Int) := by
  intro l
  induction l with
  | nil => intro a _; simp [idsS]
  | cons x xs ih =>
   intro a h
   have hx := h x (List.mem_cons_self ..)
   unfold reqB at hx
   (rw [Bool.and_eq_true] at hx); (have hw := words_takes hx.1); (rw [List.map_cons, List.foldl_cons, ih _ (fun y hy => h y (List.mem_cons_of_mem _ hy))])
   unfold idsS
   (rw [List.flatMap_cons, List.length_append]); (have : ((idsOf key log x).length : Int) = takesI x.f0 x.f5 := by unfold idsOf; rw [List.length_map]; exact hw)
   show a + takesI x.f0 x.f5 + _ = _
   omega
 unfold takesS sumN
 (rw [List.take_length]); (have := key' l 0 h); (rw [Int.zero_add] at this)
 exact this
theorem pow_facts (m : Nat) (hm : m ≤ 4) : 1 ≤ 2 ^ m ∧ 2 ^ m ≤ 16 ∧ 1 ≤ 2 ^ (m + 2) ∧ 2 ^ (m + 2) ≤ 64 ∧ ((2 ^ m : Nat) : Int) = (2 : Int) ^ m ∧ ((2 ^ (m + 2) : Nat) : Int) = (2 : Int) ^ (m + 2) := by
 refine ⟨Nat.one_le_two_pow, ?_, Nat.one_le_two_pow, ?_, ?_, ?_⟩
 ·have : (2 : Nat) ^ m ≤ 2 ^ 4 := Nat.pow_le_pow_right (by omega) hm; omega
 ·have : (2 : Nat) ^ (m + 2) ≤ 2 ^ 6 := Nat.pow_le_pow_right (by omega) (by omega); omega
 ·rw [Int.natCast_pow]; rfl
 ·rw [Int.natCast_pow]; rfl
theorem reqs_shapes {l : List Req'} (h : reqsB l = true) : shapesB (l.map shOf) = true := by
 obtain ⟨h40, hall⟩ := reqs_all h
 unfold shapesB
 rw [Bool.and_eq_true, decide_eq_true_eq, List.length_map]
 refine ⟨h40, ?_⟩
 rw [List.all_map, List.all_eq_true]
 intro x hx
 have := hall x hx
 unfold reqB at this
 rw [Bool.and_eq_true] at this
 exact this.1
theorem sess_facts {a b c d : Int} {l : List Req'} {draws : List Int} (hc : confB a b c d = true) (hb : reqsB l = true) (hd : drawsB draws (drawsI b (l.map shOf)) = true) :
  ∃ m : Nat, b = (m : Int) + 2 ∧ m ≤ 4 ∧ (b - 2).toNat = m ∧ (idsS a b l).length ≤ 640 ∧ draws.length = 6 * 2 ^ m + 2 * (idsS a b l).length ∧ ∀ x, x ∈ draws → 0 ≤ x ∧ x ≤ 65535 := by
 (have hl := confB_log hc); (obtain ⟨h40, hall⟩ := reqs_all hb); (have hlen := ids_len (key := a) (log := b) hall); (obtain ⟨h1, h2⟩ := drawsB_all hd)
 refine ⟨(b - 2).toNat, by omega, by omega, rfl, by omega, ?_, h2⟩
 (have e := takes_ids a b l hall); (have e1 := (pow_facts (b - 2).toNat (by omega)).2.2.2.2.1)
 unfold drawsI at h1
 rw [e, ← e1] at h1
 omega
def sameAt (p q : List S79) (i : Nat) : Bool := !((!((rd_T79 p (i : Int)).f0 == (rd_T79 q (i : Int)).f0)) || (!((rd_T79 p (i : Int)).f1 == (rd_T79 q (i : Int)).f1)))
def sameB (p q : List S79) : Bool := decide (p.length = q.length) && (if (List.range p.length).all (sameAt p q) then true else false)
theorem eqShapes_ev (p q : List S79) (hp : p.length ≤ 9223372036854775807) : Ev (fun k => impl_Shape.f k p q) (sameB p q) := by
 unfold impl_Shape.f sameB
 by_cases h : p.length = q.length
 ·simp only [h, if_true, decide_true, Bool.true_and]
  rw [← h]
  refine search_ev p.length (fun k i => impl_Shape.l0 k p q (p.length : Int) i) (sameAt p q) false true ?_ ?_ ?_
  ·intro i hi hs r hr
   refine Ev.step (fun k => ?_) hr
   (simp only [impl_Shape.l0]); (rw [if_pos (by omega), if_pos (by omega), if_pos (by omega), if_pos (by omega), wrap_nat_succ (by omega), if_neg (by unfold sameAt at hs; intro hc; rw [hc] at hs; simp at hs)])
  ·intro i hi hs
   refine Ev.step (f := fun _ => some false) (fun k => ?_) (Ev.now _)
   (simp only [impl_Shape.l0]); (rw [if_pos (by omega), if_pos (by omega), if_pos (by omega), if_pos (by omega), if_pos (by unfold sameAt at hs; exact (by simpa only [Bool.not_eq_false'] using hs))])
  ·refine Ev.step (f := fun _ => some true) (fun k => ?_) (Ev.now _)
   (simp only [impl_Shape.l0]); (rw [if_neg (by omega)])
 ·simp only [if_neg (show ¬ (p.length : Int) = (q.length : Int) by omega), h, decide_false, Bool.false_and]
  exact Ev.now _
theorem specSame_ev (a b : List S56) (ha : a.length ≤ 9223372036854775807) (hb : b.length ≤ 9223372036854775807) : Ev (fun k => spec_SameShape.f k a b) (reqsB a && (reqsB b && sameB (a.map shOf) (b.map shOf))) := by
 unfold spec_SameShape.f
 refine Ev.bind (specShapesOf_ev a ha) ?_
 refine Ev.bind (specShapesOf_ev b hb) ?_
 cases h1 : reqsB a with
 | false =>
  simp only [Bool.false_eq_true, if_false, Bool.false_and]
  refine Ev.step (fun k => rfl) ?_
  simp only [spec_SameShape.j0, if_true]
  exact Ev.now _
 | true =>
  cases h2 : reqsB b with
  | false =>
   simp only [Bool.false_eq_true, if_false, Bool.false_and, if_true, Bool.true_and]
   refine Ev.step (fun k => rfl) ?_
   simp only [spec_SameShape.j0, if_true]
   exact Ev.now _
  | true =>
   (obtain ⟨h40, _⟩ := reqs_all h1); (simp only [if_true, Bool.true_and])
   generalize hp : a.map shOf = p
   generalize hq : b.map shOf = q
   have hpl : p.length ≤ 40 := by rw [← hp]; simpa using h40
   refine Ev.step (fun k => rfl) ?_
   unfold sameB
   by_cases h : p.length = q.length
   ·simp only [spec_SameShape.j0, h, bne_self_eq_false, Bool.false_eq_true, if_false, decide_true, Bool.true_and]
    rw [← h]
    refine search_ev p.length (fun k i => spec_SameShape.l0 k p q i) (sameAt p q) false true ?_ ?_ ?_
    ·intro i hi hs r hr
     refine Ev.step (fun k => ?_) hr
     (simp only [spec_SameShape.l0]); (rw [if_pos (by omega), if_pos (by omega), if_pos (by omega), wrap_nat_succ (by omega), if_neg (by unfold sameAt at hs; intro hc; rw [hc] at hs; simp at hs)])
    ·intro i hi hs
     refine Ev.step (f := fun _ => some false) (fun k => ?_) (Ev.now _)
     (simp only [spec_SameShape.l0]); (rw [if_pos (by omega), if_pos (by omega), if_pos (by omega), if_pos (by unfold sameAt at hs; exact (by simpa only [Bool.not_eq_false'] using hs))])
    ·refine Ev.step (f := fun _ => some true) (fun k => ?_) (Ev.now _)
     (simp only [spec_SameShape.l0]); (rw [if_neg (by omega)])
   ·have hne : ((p.length : Int) != (q.length : Int)) = true := by simp; omega
    simp only [spec_SameShape.j0, hne, if_true, h, decide_false, Bool.false_and]
    exact Ev.now _
theorem implSameShape_ev (a b : List S56) : Ev (fun k => impl_sameShape.f k a b) (reqsB a && (reqsB b && sameB (a.map shOf) (b.map shOf))) := by
 unfold impl_sameShape.f
 simp only [areReqs_eq, Option.bind_some]
 cases h1 : reqsB a with
 | false => simp only [Bool.false_eq_true, if_false, Bool.false_and]; exact Ev.now _
 | true =>
  cases h2 : reqsB b with
  | false => simp only [Bool.false_eq_true, if_false, Bool.false_and, if_true, Bool.true_and]; exact Ev.now _
  | true =>
   (simp only [if_true, Bool.true_and]); (have ha := (reqs_all h1).1)
   refine Ev.bind (implShapesOf_ev a ha) ?_
   refine Ev.bind (implShapesOf_ev b (reqs_all h2).1) ?_
   refine Ev.bind (eqShapes_ev _ _ (by simp; omega)) (Ev.now _)
theorem same_eq {p q : List S79} (h : sameB p q = true) : p = q := by
 unfold sameB at h
 (rw [Bool.and_eq_true, decide_eq_true_eq] at h); (obtain ⟨hl, h⟩ := h)
 have h : (List.range p.length).all (sameAt p q) = true := by
  cases e : (List.range p.length).all (sameAt p q) with
  | true => rfl
  | false => rw [e] at h; simp at h
 rw [List.all_eq_true] at h
 apply List.ext_getElem hl
 intro i h1 h2
 have := h i (List.mem_range.2 h1)
 unfold sameAt rd_T79 at this
 (rw [Int.toNat_natCast, getD_lt _ h1, getD_lt _ h2] at this); (simp only [Bool.not_eq_true', Bool.or_eq_false_iff, Bool.not_eq_false', beq_iff_eq] at this)
 cases hp : p[i]
 cases hq : q[i]
 (rw [hp, hq] at this); (simp only at this); (rw [this.1, this.2])
def isOneB (B j : Nat) : Bool := if j < 6 * B then is5 j else (j - 6 * B) % 2 == 0
def isTwoB (B j : Nat) : Bool := if j < 6 * B then is14 j else (j - 6 * B) % 2 == 1
theorem filter_even : ∀ C : Nat, (List.range (2 * C)).filter (fun i => i % 2 == 0) = (List.range C).map (fun i => 2 * i)
 | 0 => rfl
 | C + 1 => by
  (rw [show 2 * (C + 1) = 2 * C + 1 + 1 by omega, List.range_succ, List.range_succ, List.filter_append, List.filter_append, filter_even C, List.range_succ, List.map_append]); (have h0 : (2 * C % 2 == 0) = true := by rw [beq_iff_eq]; omega); (have h1 : ((2 * C + 1) % 2 == 0) = false := by rw [beq_eq_false_iff_ne]; omega)
  simp [List.filter, h0, h1]
theorem filter_odd : ∀ C : Nat, (List.range (2 * C)).filter (fun i => i % 2 == 1) = (List.range C).map (fun i => 2 * i + 1)
 | 0 => rfl
 | C + 1 => by
  (rw [show 2 * (C + 1) = 2 * C + 1 + 1 by omega, List.range_succ, List.range_succ, List.filter_append, List.filter_append, filter_odd C, List.range_succ, List.map_append]); (have h0 : (2 * C % 2 == 1) = false := by rw [beq_eq_false_iff_ne]; omega); (have h1 : ((2 * C + 1) % 2 == 1) = true := by rw [beq_iff_eq]; omega)
  simp [List.filter, h0, h1]
theorem one_filter (B C : Nat) : onePl B C = (List.range (6 * B + 2 * C)).filter (isOneB B) := by
 rw [List.range_add, List.filter_append]
 unfold onePl
 congr 1
 ·rw [← filter5]
  apply List.filter_congr
  intro x hx
  unfold isOneB
  rw [if_pos (List.mem_range.1 hx)]
 ·rw [List.filter_map, show (isOneB B ∘ fun x => 6 * B + x) = fun i => i % 2 == 0 by
   funext i; show isOneB B (6 * B + i) = _; unfold isOneB; rw [if_neg (by omega), show 6 * B + i - 6 * B = i by omega], filter_even, List.map_map]
  rfl
theorem two_filter (B C : Nat) : twoPl B C = (List.range (6 * B + 2 * C)).filter (isTwoB B) := by
 rw [List.range_add, List.filter_append]
 unfold twoPl
 congr 1
 ·rw [← filter14]
  apply List.filter_congr
  intro x hx
  unfold isTwoB
  rw [if_pos (List.mem_range.1 hx)]
 ·rw [List.filter_map, show (isTwoB B ∘ fun x => 6 * B + x) = fun i => i % 2 == 1 by
   funext i; show isTwoB B (6 * B + i) = _; unfold isTwoB; rw [if_neg (by omega), show 6 * B + i - 6 * B = i by omega], filter_odd, List.map_map]
  rfl
theorem one_not_two (B j : Nat) (h : isOneB B j = true) : isTwoB B j = false := by
 unfold isOneB at h
 unfold isTwoB
 by_cases hj : j < 6 * B
 ·rw [if_pos hj] at h ⊢
  unfold is5 at h
  unfold is14
  rw [beq_iff_eq] at h
  simp [h]
 ·rw [if_neg hj] at h ⊢
  (rw [beq_iff_eq] at h); (rw [beq_eq_false_iff_ne])
  omega
theorem cnt_lt (p : Nat → Bool) {n j : Nat} (hj : j < n) (hp : p j = true) : cnt p j < ((List.range n).filter p).length := by
 (have h1 := cnt_succ p j); (rw [hp, if_pos rfl] at h1); (have h2 := cnt_mono p (show j + 1 ≤ n by omega)); (have h3 : cnt p n = ((List.range n).filter p).length := rfl)
 omega
def placed (n : Nat) (p : Nat → Bool) (f : Nat → Int) (g : Nat → Int) (i : Nat) : List Int := (List.range n).map fun j => if p j = true ∧ cnt p j < i then f (cnt p j) else g j
theorem placed_length (n : Nat) (p : Nat → Bool) (f g : Nat → Int) (i : Nat) : (placed n p f g i).length = n := by unfold placed; simp
theorem placed_set (n : Nat) (p : Nat → Bool) (f g : Nat → Int) {i : Nat} (hi : i < ((List.range n).filter p).length) : (placed n p f g i).set (((List.range n).filter p).getD i 0) (f i) = placed n p f g (i + 1) := by
 obtain ⟨h1, h2, h3⟩ := filter_back p hi
 apply List.ext_getElem?
 intro j
 by_cases hj : j < n
 ·by_cases e : ((List.range n).filter p).getD i 0 = j
  ·rw [e, List.getElem?_set_self (by rw [placed_length]; exact hj)]
   rw [e] at h1 h3
   unfold placed
   (rw [List.getElem?_map, List.getElem?_range hj]); (simp only [Option.map_some, h1, h3, true_and, if_pos (show i < i + 1 by omega)])
  ·rw [List.getElem?_set_ne e]
   unfold placed
   (rw [List.getElem?_map, List.getElem?_map, List.getElem?_range hj]); (simp only [Option.map_some])
   congr 1
   by_cases hp : p j = true
   ·have hne : cnt p j ≠ i := fun h => by
     (have := filter_at p hj hp); (rw [h] at this)
     exact e this
    by_cases hc : cnt p j < i
    ·rw [if_pos ⟨hp, hc⟩, if_pos ⟨hp, by omega⟩]
    ·rw [if_neg (fun h => hc h.2), if_neg (fun h => by omega)]
   ·rw [if_neg (fun h => hp h.1), if_neg (fun h => hp h.1)]
 ·rw [List.getElem?_eq_none (by rw [List.length_set, placed_length]; omega), List.getElem?_eq_none (by rw [placed_length]; omega)]
theorem placed_zero (l : List Int) (p : Nat → Bool) (f : Nat → Int) : placed l.length p f (fun j => l.getD j 0) 0 = l := by
 unfold placed
 (have : (fun j => if p j = true ∧ cnt p j < 0 then f (cnt p j) else l.getD j 0) = fun j => l.getD j 0 := by funext j; rw [if_neg (fun h => absurd h.2 (Nat.not_lt_zero _))]); (rw [this]); (have := map_range l 0 id)
 simpa using this
def mixF (n B : Nat) (draws one two : List Int) (j : Nat) : Int := if isTwoB B j = true ∧ cnt (isTwoB B) j < ((List.range n).filter (isTwoB B)).length then two.getD (cnt (isTwoB B) j) 0 else if isOneB B j = true ∧ cnt (isOneB B) j < ((List.range n).filter (isOneB B)).length then one.getD (cnt (isOneB B) j) 0 else draws.getD j 0
def mixV (B : Nat) (draws one two : List Int) : List Int := (List.range draws.length).map (mixF draws.length B draws one two)
theorem mixV_length (B : Nat) (draws one two : List Int) : (mixV B draws one two).length = draws.length := by unfold mixV; simp
theorem implMix_ev (B C : Nat) (draws one two : List Int) (hB : B ≤ 16) (hC : C ≤ 640) (hd : draws.length = 6 * B + 2 * C) (ho : one.length = B + C) (ht : two.length = 4 * B + C) :
  Ev (fun k => impl_sessPair.l0 k draws (natI (twoPl B C)) one two (natI (onePl B C)) ((natI (onePl B C)).length : Int) 0) (mixV B draws one two) := by
 (have e1 := one_filter B C); (have e2 := two_filter B C); (rw [← hd] at e1 e2); (have l1 := onePl_length B C); (have l2 := twoPl_length B C); (have b1 := onePl_lt B C); (have b2 := twoPl_lt B C); (have n1 := natI_length (onePl B C)); (have n2 := natI_length (twoPl B C)); (rw [n1])
 have h2 : Ev (fun k => impl_sessPair.l1 k (placed draws.length (isTwoB B) (fun i => two.getD i 0) (fun j => if isOneB B j = true ∧ cnt (isOneB B) j < ((List.range draws.length).filter (isOneB B)).length then one.getD (cnt (isOneB B) j) 0 else draws.getD j 0) 0) two (natI (twoPl B C)) ((twoPl B C).length : Int) 0) (mixV B draws one two) := by
  refine loop_ev (σ := List Int) (twoPl B C).length (fun k s i => impl_sessPair.l1 k s two (natI (twoPl B C)) ((twoPl B C).length : Int) i) (fun i => placed draws.length (isTwoB B) (fun i => two.getD i 0) (fun j => if isOneB B j = true ∧ cnt (isOneB B) j < ((List.range draws.length).filter (isOneB B)).length then one.getD (cnt (isOneB B) j) 0 else draws.getD j 0) i) _ ?_ ?_
  ·intro i hi hr
   (have hlt : (twoPl B C).getD i 0 < draws.length := by rw [getD_lt _ hi, hd]; exact b2 _ (List.getElem_mem hi)); (have hs := placed_set draws.length (isTwoB B) (fun i => two.getD i 0) (fun j => if isOneB B j = true ∧ cnt (isOneB B) j < ((List.range draws.length).filter (isOneB B)).length then one.getD (cnt (isOneB B) j) 0 else draws.getD j 0) (i := i) (by rw [← e2]; exact hi)); (rw [← e2] at hs)
   refine Ev.step (fun k => ?_) hr
   (simp only [impl_sessPair.l1, n2, rd_nat, natI_get _ hi, placed_length, Int.toNat_natCast]); (rw [if_pos (by omega), if_pos (by omega), if_pos (by omega), if_pos (by omega), if_pos (by omega), if_pos (by omega), wrap_nat_succ (by omega), hs])
  ·refine Ev.step (f := fun _ => some _) (fun k => ?_) (Ev.now _)
   (simp only [impl_sessPair.l1]); (rw [if_neg (by omega)])
   unfold placed mixV mixF
   rw [← e2]
 have := loop_ev (σ := List Int) (onePl B C).length (fun k s i => impl_sessPair.l0 k s (natI (twoPl B C)) one two (natI (onePl B C)) ((onePl B C).length : Int) i) (fun i => placed draws.length (isOneB B) (fun i => one.getD i 0) (fun j => draws.getD j 0) i) (mixV B draws one two) ?_ ?_
 ·simp only [placed_zero] at this
  exact this
 ·intro i hi hr
  (have hlt : (onePl B C).getD i 0 < draws.length := by rw [getD_lt _ hi, hd]; exact b1 _ (List.getElem_mem hi)); (have hs := placed_set draws.length (isOneB B) (fun i => one.getD i 0) (fun j => draws.getD j 0) (i := i) (by rw [← e1]; exact hi)); (rw [← e1] at hs)
  refine Ev.step (fun k => ?_) hr
  (simp only [impl_sessPair.l0, n1, rd_nat, natI_get _ hi, placed_length, Int.toNat_natCast]); (rw [if_pos (by omega), if_pos (by omega), if_pos (by omega), if_pos (by omega), if_pos (by omega), if_pos (by omega), wrap_nat_succ (by omega), hs])
 ·refine Ev.step (fun k => rfl) ?_
  simp only [impl_sessPair.l0, n2, if_neg (show ¬ ((onePl B C).length : Int) < ((onePl B C).length : Int) by omega)]
  have e : placed draws.length (isTwoB B) (fun i => two.getD i 0) (fun j => if isOneB B j = true ∧ cnt (isOneB B) j < ((List.range draws.length).filter (isOneB B)).length then one.getD (cnt (isOneB B) j) 0 else draws.getD j 0) 0 = placed draws.length (isOneB B) (fun i => one.getD i 0) (fun j => draws.getD j 0) (onePl B C).length := by
   unfold placed
   apply List.map_congr_left
   intro j _
   rw [if_neg (fun h => absurd h.2 (Nat.not_lt_zero _)), ← e1]
  rw [e] at h2
  exact h2
def upTo (n : Nat) (f g : Nat → Int) (i : Nat) : List Int := (List.range n).map fun j => if j < i then f j else g j
theorem upTo_length (n : Nat) (f g : Nat → Int) (i : Nat) : (upTo n f g i).length = n := by unfold upTo; simp
theorem upTo_set (n : Nat) (f g : Nat → Int) (i : Nat) : (upTo n f g i).set i (f i) = upTo n f g (i + 1) := by
 apply List.ext_getElem?
 intro j
 by_cases hj : j < n
 ·by_cases e : i = j
  ·subst e
   rw [List.getElem?_set_self (by rw [upTo_length]; exact hj)]
   unfold upTo
   rw [List.getElem?_map, List.getElem?_range hj]
   simp
  ·rw [List.getElem?_set_ne e]
   unfold upTo
   (rw [List.getElem?_map, List.getElem?_map, List.getElem?_range hj]); (simp only [Option.map_some])
   congr 1
   by_cases hc : j < i
   ·rw [if_pos hc, if_pos (by omega)]
   ·rw [if_neg hc, if_neg (by omega)]
 ·rw [List.getElem?_eq_none (by rw [List.length_set, upTo_length]; omega), List.getElem?_eq_none (by rw [upTo_length]; omega)]
theorem upTo_same (n : Nat) (f g : Nat → Int) (i : Nat) (h : f i = g i) : upTo n f g i = upTo n f g (i + 1) := by
 unfold upTo
 apply List.map_congr_left
 intro j _
 by_cases hc : j < i
 ·rw [if_pos hc, if_pos (by omega)]
 ·by_cases e : j = i
  ·subst e; rw [if_neg hc, if_pos (by omega), h]
  ·rw [if_neg hc, if_neg (by omega)]
theorem specMix_ev (B C : Nat) (draws one two : List Int) (hB : B ≤ 16) (hC : C ≤ 640) (hd : draws.length = 6 * B + 2 * C) (ho : one.length = B + C) (ht : two.length = 4 * B + C) :
  Ev (fun k => spec_SessPair.l0 k one two draws ((6 * B : Nat) : Int) 0 0 0) (mixV B draws one two, true) := by
 (have e1 := one_filter B C); (have e2 := two_filter B C); (rw [← hd] at e1 e2); (have l1 := onePl_length B C); (have l2 := twoPl_length B C); (rw [e1] at l1); (rw [e2] at l2)
 have hz : upTo draws.length (mixF draws.length B draws one two) (fun j => draws.getD j 0) 0 = draws := by
  unfold upTo
  (have : (fun j => if j < 0 then mixF draws.length B draws one two j else draws.getD j 0) = fun j => draws.getD j 0 := by funext j; rw [if_neg (Nat.not_lt_zero _)]); (rw [this]); (have := map_range draws 0 id)
  simpa using this
 have := loop_ev (σ := List Int × Nat × Nat) draws.length (fun k s i => spec_SessPair.l0 k one two s.1 ((6 * B : Nat) : Int) (s.2.1 : Int) (s.2.2 : Int) i)
  (fun i => (upTo draws.length (mixF draws.length B draws one two) (fun j => draws.getD j 0) i, cnt (isOneB B) i, cnt (isTwoB B) i)) (mixV B draws one two, true) ?_ ?_
 ·simp only [hz] at this
  exact this
 ·intro i hi hr
  (have hq : isOneB B i = true → cnt (isOneB B) i < ((List.range draws.length).filter (isOneB B)).length := fun h => cnt_lt _ hi h); (have hq2 : isTwoB B i = true → cnt (isTwoB B) i < ((List.range draws.length).filter (isTwoB B)).length := fun h => cnt_lt _ hi h); (have c1 := cnt_succ (isOneB B) i); (have c2 := cnt_succ (isTwoB B) i); (have et : Int.tmod (i : Int) 6 = ((i % 6 : Nat) : Int) := by rw [Int.tmod_eq_emod_of_nonneg (by omega)]; omega)
  -- the third stage
  have h3 : Ev (fun k => spec_SessPair.j3 k one two (upTo draws.length (mixF draws.length B draws one two) (fun j => draws.getD j 0) i) ((6 * B : Nat) : Int) ((cnt (isOneB B) i : Nat) : Int) ((cnt (isTwoB B) i : Nat) : Int) (i : Int) (isOneB B i) (isTwoB B i)) (mixV B draws one two, true) := by
   refine Ev.step (fun k => rfl) ?_
   have hm := mixF draws.length B draws one two i
   cases h1 : isOneB B i with
   | true =>
    have h2 := one_not_two B i h1
    have hf : mixF draws.length B draws one two i = one.getD (cnt (isOneB B) i) 0 := by
     unfold mixF
     rw [if_neg (fun h => by rw [h2] at h; cases h.1), if_pos ⟨h1, hq h1⟩]
    (rw [h1, if_pos rfl] at c1); (rw [h2, if_neg (by decide), Nat.add_zero] at c2); (have := hq h1); (rw [← upTo_set, hf, c1, c2] at hr); (simp only [h2, spec_SessPair.j3, if_true, Bool.false_eq_true, if_false, rd_nat, upTo_length, Int.toNat_natCast, Option.bind_some]); (simp only [if_pos (show (0 : Int) ≤ ((cnt (isOneB B) i : Nat) : Int) by omega), if_pos (show ((cnt (isOneB B) i : Nat) : Int) < (one.length : Int) by omega), if_pos (show (0 : Int) ≤ (i : Int) by omega), if_pos (show (i : Int) < (draws.length : Int) by omega), wrap_nat_succ (show i < 9223372036854775807 by omega), wrap_nat_succ (show cnt (isOneB B) i < 9223372036854775807 by omega)])
    exact hr
   | false =>
    rw [h1, if_neg (by decide), Nat.add_zero] at c1
    cases h2 : isTwoB B i with
    | true =>
     have hf : mixF draws.length B draws one two i = two.getD (cnt (isTwoB B) i) 0 := by
      unfold mixF
      rw [if_pos ⟨h2, hq2 h2⟩]
     (rw [h2, if_pos rfl] at c2); (have := hq2 h2); (rw [← upTo_set, hf, c1, c2] at hr); (simp only [spec_SessPair.j3, if_true, Bool.false_eq_true, if_false, rd_nat, upTo_length, Int.toNat_natCast]); (simp only [if_pos (show (0 : Int) ≤ ((cnt (isTwoB B) i : Nat) : Int) by omega), if_pos (show ((cnt (isTwoB B) i : Nat) : Int) < (two.length : Int) by omega), if_pos (show (0 : Int) ≤ (i : Int) by omega), if_pos (show (i : Int) < (draws.length : Int) by omega), wrap_nat_succ (show i < 9223372036854775807 by omega), wrap_nat_succ (show cnt (isTwoB B) i < 9223372036854775807 by omega)])
     exact hr
    | false =>
     have hf : mixF draws.length B draws one two i = draws.getD i 0 := by
      unfold mixF
      rw [if_neg (fun h => by rw [h2] at h; cases h.1), if_neg (fun h => by rw [h1] at h; cases h.1)]
     (rw [h2, if_neg (by decide), Nat.add_zero] at c2); (rw [← upTo_same _ _ _ _ hf, c1, c2] at hr); (simp only [spec_SessPair.j3, Bool.false_eq_true, if_false, wrap_nat_succ (show i < 9223372036854775807 by omega)])
     exact hr
  -- the second stage
  have h2 : Ev (fun k => spec_SessPair.j2 k one two (upTo draws.length (mixF draws.length B draws one two) (fun j => draws.getD j 0) i) ((6 * B : Nat) : Int) ((cnt (isOneB B) i : Nat) : Int) ((cnt (isTwoB B) i : Nat) : Int) (i : Int) (isOneB B i)) (mixV B draws one two, true) := by
   refine Ev.step (fun k => ?_) h3
   simp only [spec_SessPair.j2, et]
   by_cases hb : i < 6 * B
   ·rw [if_pos (show (i : Int) < ((6 * B : Nat) : Int) by omega)]
    have hI : isTwoB B i = is14 i := by unfold isTwoB; rw [if_pos hb]
    by_cases a1 : i % 6 > 0
    ·rw [if_pos (by omega)]
     by_cases a2 : i % 6 < 5
     ·rw [if_pos (by omega), hI, show is14 i = true by unfold is14; rw [Bool.and_eq_true, decide_eq_true_eq, decide_eq_true_eq]; omega]
     ·rw [if_neg (by omega), if_neg (by omega), hI, show is14 i = false by unfold is14; rw [Bool.and_eq_false_iff, decide_eq_false_iff_not, decide_eq_false_iff_not]; omega]
    ·rw [if_neg (by omega), if_neg (by omega), hI, show is14 i = false by unfold is14; rw [Bool.and_eq_false_iff, decide_eq_false_iff_not, decide_eq_false_iff_not]; omega]
   ·rw [if_neg (show ¬ (i : Int) < ((6 * B : Nat) : Int) by omega), if_pos (by omega)]
    (have hI : isTwoB B i = ((i - 6 * B) % 2 == 1) := by unfold isTwoB; rw [if_neg hb]); (rw [hI])
    congr 1
    rw [wrap_id (by omega) (by omega), Int.tmod_eq_emod_of_nonneg (by omega), Bool.eq_iff_iff, beq_iff_eq, beq_iff_eq]
    omega
  refine Ev.step (fun k => ?_) h2
  (simp only [spec_SessPair.l0, et, upTo_length]); (rw [if_pos (show (i : Int) < (draws.length : Int) by omega)])
  by_cases hb : i < 6 * B
  ·rw [if_pos (show (i : Int) < ((6 * B : Nat) : Int) by omega)]
   have hI : isOneB B i = is5 i := by unfold isOneB; rw [if_pos hb]
   by_cases a1 : i % 6 = 5
   ·rw [if_pos (by omega), hI, show is5 i = true by unfold is5; rw [beq_iff_eq]; exact a1]
   ·rw [if_neg (by omega), if_neg (by omega), hI, show is5 i = false by unfold is5; rw [beq_eq_false_iff_ne]; exact a1]
  ·rw [if_neg (show ¬ (i : Int) < ((6 * B : Nat) : Int) by omega), if_pos (by omega)]
   (have hI : isOneB B i = ((i - 6 * B) % 2 == 0) := by unfold isOneB; rw [if_neg hb]); (rw [hI])
   congr 1
   rw [wrap_id (by omega) (by omega), Int.tmod_eq_emod_of_nonneg (by omega), Bool.eq_iff_iff, beq_iff_eq, beq_iff_eq]
   omega
 ·refine Ev.step (f := fun _ => some _) (fun k => ?_) (Ev.now _)
  (simp only [spec_SessPair.l0, upTo_length]); (rw [if_neg (by omega)])
  unfold upTo mixV
  congr 2
  apply List.map_congr_left
  intro j hj
  rw [if_pos (List.mem_range.1 hj)]
theorem ids_lt (key : Int) (m : Nat) (l : List Req') : ∀ x, x ∈ idsS key ((m : Int) + 2) l → -1 ≤ x ∧ x ≤ ((2 ^ (m + 2) : Nat) : Int) - 1 := by
 intro x hx
 unfold idsS idsOf at hx
 (obtain ⟨y, _, h⟩ := List.mem_flatMap.1 hx); (obtain ⟨w, _, rfl⟩ := List.mem_map.1 h); (have e : ((2 ^ (m + 2) : Nat) : Int) = (2 : Int) ^ (m + 2) := by rw [Int.natCast_pow]; rfl); (have hp := pow2_pos (m + 2)); (rw [e])
 unfold shelfS
 rw [show ((m : Int) + 2).toNat = m + 2 by omega]
 split
 ·have h1 := Int.emod_nonneg ((hashS key.toNat w : Nat) : Int) (show (2 : Int) ^ (m + 2) ≠ 0 by omega)
  have h2 := Int.emod_lt_of_pos ((hashS key.toNat w : Nat) : Int) (show (0 : Int) < (2 : Int) ^ (m + 2) by omega)
  omega
 ·omega
theorem seq_small {m : Nat} (hm : m ≤ 4) {ids : List Int} (hl : ids.length ≤ 640) (h : ∀ x, x ∈ ids → -1 ≤ x ∧ x ≤ ((2 ^ (m + 2) : Nat) : Int) - 1) :
  seqB ((2 ^ m : Nat) : Int) (ids.map quarter) = true ∧ seqB ((2 ^ (m + 2) : Nat) : Int) ids = true := by
 (obtain ⟨p1, p2, p3, p4, _, _⟩ := pow_facts m hm); (have e4 : 2 ^ (m + 2) = 4 * 2 ^ m := by rw [Nat.pow_succ, Nat.pow_succ]; omega); (rw [e4] at h p3 p4 ⊢)
 generalize 2 ^ m = B at *
 unfold seqB
 refine ⟨?_, ?_⟩
 ·rw [Bool.and_eq_true, Bool.and_eq_true, decide_eq_true_eq, decide_eq_true_eq, List.length_map, List.all_map, List.all_eq_true]
  refine ⟨by omega, by omega, fun x hx => ?_⟩
  have := h x hx
  show decide (-1 ≤ quarter x ∧ quarter x ≤ (B : Int) - 1) = true
  rw [decide_eq_true_eq]
  unfold quarter
  split <;> omega
 ·rw [Bool.and_eq_true, Bool.and_eq_true, decide_eq_true_eq, decide_eq_true_eq, List.all_eq_true]
  refine ⟨by omega, by omega, fun x hx => ?_⟩
  (have := h x hx); (rw [decide_eq_true_eq])
  omega
theorem draws_at {draws : List Int} (h : ∀ x, x ∈ draws → 0 ≤ x ∧ x ≤ 65535) (pl : List Nat) {n c : Int} (hn : 0 ≤ n ∧ n ≤ 256) (hc : 0 ≤ c ∧ c ≤ 700) (hl : (pl.length : Int) = n + c) : drawsB (atPl draws pl) (wrap64 (n + c)) = true := by
 unfold drawsB
 rw [Bool.and_eq_true, decide_eq_true_eq, atPl_length, wrap_id (by omega) (by omega), List.all_eq_true]
 refine ⟨hl, fun x hx => ?_⟩
 unfold atPl at hx
 obtain ⟨i, _, rfl⟩ := List.mem_map.1 hx
 unfold drawB
 rw [decide_eq_true_eq]
 exact draw_get h i
theorem pairS_ok {n : Int} {a b draws : List Int} (ha : seqB n a = true) (hb : seqB n b = true) (hl : a.length = b.length) (hd : drawsB draws (wrap64 (n + (a.length : Int))) = true) : (pairS n a b draws).1.length = draws.length := by
 unfold pairS
 rw [if_pos (by rw [ha, hb, hd, hl]; simp)]
 exact pairV_length _ _ _
def sessPV (m : Nat) (p q draws : List Int) : List Int :=
 mixV (2 ^ m) draws (pairS ((2 ^ m : Nat) : Int) (p.map quarter) (q.map quarter) (atPl draws (onePl (2 ^ m) p.length))).1 (pairS ((2 ^ (m + 2) : Nat) : Int) p q (atPl draws (twoPl (2 ^ m) p.length))).1
theorem sessPV_length (m : Nat) (p q draws : List Int) : (sessPV m p q draws).length = draws.length := mixV_length _ _ _ _
theorem pair_lens (m : Nat) (p q draws : List Int) (hm : m ≤ 4) (hp : p.length ≤ 640) (hpq : p.length = q.length)
  (hrp : ∀ x, x ∈ p → -1 ≤ x ∧ x ≤ ((2 ^ (m + 2) : Nat) : Int) - 1) (hrq : ∀ x, x ∈ q → -1 ≤ x ∧ x ≤ ((2 ^ (m + 2) : Nat) : Int) - 1) (hda : ∀ x, x ∈ draws → 0 ≤ x ∧ x ≤ 65535) :
  (pairS ((2 ^ m : Nat) : Int) (p.map quarter) (q.map quarter) (atPl draws (onePl (2 ^ m) p.length))).1.length = 2 ^ m + p.length ∧
  (pairS ((2 ^ (m + 2) : Nat) : Int) p q (atPl draws (twoPl (2 ^ m) p.length))).1.length = 4 * 2 ^ m + p.length := by
 (obtain ⟨p1, p2, p3, p4, _, _⟩ := pow_facts m hm); (have e4 : 2 ^ (m + 2) = 4 * 2 ^ m := by rw [Nat.pow_succ, Nat.pow_succ]; omega); (obtain ⟨a1, a2⟩ := seq_small hm hp hrp); (obtain ⟨b1, b2⟩ := seq_small hm (by omega) hrq)
 refine ⟨?_, ?_⟩
 ·rw [pairS_ok a1 b1 (by rw [List.length_map, List.length_map]; exact hpq) (by rw [List.length_map]; exact draws_at hda _ (by omega) (by omega) (by rw [onePl_length]; omega)), atPl_length, onePl_length]
 ·rw [pairS_ok a2 b2 hpq (draws_at hda _ (by omega) (by omega) (by rw [twoPl_length, e4]; omega)), atPl_length, twoPl_length]
theorem implSessP_ev (a c d : Int) (m : Nat) (p q draws : List Int) (hm : m ≤ 4) (hp : p.length ≤ 640) (hpq : p.length = q.length)
  (hrp : ∀ x, x ∈ p → -1 ≤ x ∧ x ≤ ((2 ^ (m + 2) : Nat) : Int) - 1) (hrq : ∀ x, x ∈ q → -1 ≤ x ∧ x ≤ ((2 ^ (m + 2) : Nat) : Int) - 1)
  (hd : draws.length = 6 * 2 ^ m + 2 * p.length) (hda : ∀ x, x ∈ draws → 0 ≤ x ∧ x ≤ 65535) :
  Ev (fun k => impl_sessPair.f k a ((m : Int) + 2) c d p q draws) (sessPV m p q draws) := by
 unfold impl_sessPair.f slices_Clone_int_int.f sessPV
 (obtain ⟨p1, p2, p3, p4, e1, e2⟩ := pow_facts m hm); (have ew : wrap64 ((m : Int) + 2 - 2) = (m : Int) := by rw [wrap_id (by omega) (by omega)]; omega)
 have eB : shl .i64 1 (m : Int) = ((2 ^ m : Nat) : Int) := by
  rw [shl_pow 1 m (by omega), Int.one_mul, ← e1, wrap_id (by rw [e1]; have := pow2_pos m; omega) (by rw [e1]; have : (2 : Int) ^ m ≤ 2 ^ 4 := pow2_le hm; omega)]
 have eC : shl .i64 1 ((m : Int) + 2) = ((2 ^ (m + 2) : Nat) : Int) := by
  rw [show (m : Int) + 2 = ((m + 2 : Nat) : Int) by omega, shl_pow 1 (m + 2) (by omega), Int.one_mul, ← e2, wrap_id (by rw [e2]; have := pow2_pos (m + 2); omega) (by rw [e2]; have : (2 : Int) ^ (m + 2) ≤ 2 ^ 6 := pow2_le (by omega); omega)]
 (obtain ⟨L1, L2⟩ := pair_lens m p q draws hm hp hpq hrp hrq hda); (have hrp' : ∀ x, x ∈ p → -1 ≤ x ∧ x ≤ 9223372036854775807 := fun x hx => by have := hrp x hx; omega); (have hrq' : ∀ x, x ∈ q → -1 ≤ x ∧ x ≤ 9223372036854775807 := fun x hx => by have := hrq x hx; omega); (have hpl := implPlaces_ev a c d m p.length hm (by omega)); (have ho := implAt_ev draws (onePl (2 ^ m) p.length) (by omega) (by rw [onePl_length]; omega) (fun x hx => by have := onePl_lt _ _ x hx; omega)); (have ht := implAt_ev draws (twoPl (2 ^ m) p.length) (by omega) (by rw [twoPl_length]; omega) (fun x hx => by have := twoPl_lt _ _ x hx; omega)); (have h1 := implPair_ev ((2 ^ m : Nat) : Int) (p.map quarter) (q.map quarter) (atPl draws (onePl (2 ^ m) p.length))); (have h2 := implPair_ev ((2 ^ (m + 2) : Nat) : Int) p q (atPl draws (twoPl (2 ^ m) p.length)))
 generalize pairS ((2 ^ m : Nat) : Int) (p.map quarter) (q.map quarter) (atPl draws (onePl (2 ^ m) p.length)) = P1 at h1 L1 ⊢
 generalize pairS ((2 ^ (m + 2) : Nat) : Int) p q (atPl draws (twoPl (2 ^ m) p.length)) = P2 at h2 L2 ⊢
 (have hx := implMix_ev (2 ^ m) p.length draws P1.1 P2.1 p2 hp hd L1 L2); (simp only [Option.bind_some, List.nil_append, List.length_nil, if_pos (show 0 + draws.length < 17592186044416 by omega)])
 refine Ev.bind hpl ?_
 simp only [ew, eB, eC, if_pos (show (0 : Int) ≤ (m : Int) by omega), if_pos (show (0 : Int) ≤ (m : Int) + 2 by omega)]
 refine Ev.bind (implSmall_ev p (by omega) hrp') (Ev.bind (implSmall_ev q (by omega) hrq') (Ev.bind ho (Ev.bind h1 (Ev.bind ht (Ev.bind h2 ?_)))))
 exact hx
theorem specSessP_ev (a c d : Int) (m : Nat) (p q draws : List Int) (hm : m ≤ 4) (hp : p.length ≤ 640) (hpq : p.length = q.length)
  (hrp : ∀ x, x ∈ p → -1 ≤ x ∧ x ≤ ((2 ^ (m + 2) : Nat) : Int) - 1) (hrq : ∀ x, x ∈ q → -1 ≤ x ∧ x ≤ ((2 ^ (m + 2) : Nat) : Int) - 1)
  (hd : draws.length = 6 * 2 ^ m + 2 * p.length) (hda : ∀ x, x ∈ draws → 0 ≤ x ∧ x ≤ 65535) :
  Ev (fun k => spec_SessPair.j0 k draws p q false a ((m : Int) + 2) c d) (sessPV m p q draws, true) := by
 unfold sessPV
 (obtain ⟨p1, p2, p3, p4, e1, e2⟩ := pow_facts m hm); (have ew : wrap64 ((m : Int) + 2 - 2) = (m : Int) := by rw [wrap_id (by omega) (by omega)]; omega); (have hpow := pow_ev m (by omega)); (have hpow2 := pow_ev (m + 2) (by omega)); (rw [← e1] at hpow); (rw [← e2, show ((m + 2 : Nat) : Int) = (m : Int) + 2 by omega] at hpow2); (obtain ⟨L1, L2⟩ := pair_lens m p q draws hm hp hpq hrp hrq hda); (have hrp' : ∀ x, x ∈ p → -1 ≤ x ∧ x ≤ 9223372036854775807 := fun x hx => by have := hrp x hx; omega); (have hrq' : ∀ x, x ∈ q → -1 ≤ x ∧ x ≤ 9223372036854775807 := fun x hx => by have := hrq x hx; omega); (have hsp := specSplit_ev a c d draws m p.length hm (by omega) hd); (have h1 := specPair_ev ((2 ^ m : Nat) : Int) (p.map quarter) (q.map quarter) (atPl draws (onePl (2 ^ m) p.length)) (by rw [List.length_map]; omega) (by rw [List.length_map]; omega) (by rw [atPl_length, onePl_length]; omega)); (have h2 := specPair_ev ((2 ^ (m + 2) : Nat) : Int) p q (atPl draws (twoPl (2 ^ m) p.length)) (by omega) (by omega) (by rw [atPl_length, twoPl_length]; omega))
 generalize pairS ((2 ^ m : Nat) : Int) (p.map quarter) (q.map quarter) (atPl draws (onePl (2 ^ m) p.length)) = P1 at h1 L1 ⊢
 generalize pairS ((2 ^ (m + 2) : Nat) : Int) p q (atPl draws (twoPl (2 ^ m) p.length)) = P2 at h2 L2 ⊢
 have hx := specMix_ev (2 ^ m) p.length draws P1.1 P2.1 p2 hp hd L1 L2
 refine Ev.step (fun k => rfl) ?_
 simp only [spec_SessPair.j0, Bool.false_eq_true, if_false, ew, Option.bind_some, List.nil_append, List.length_nil, if_pos (show 0 + draws.length < 17592186044416 by omega)]
 refine Ev.bind hsp (Ev.bind hpow (Ev.bind (specQuarter_ev p (by omega) hrp') (Ev.bind (specQuarter_ev q (by omega) hrq') (Ev.bind h1 (Ev.bind hpow2 (Ev.bind h2 (Ev.bind (deep_ev m hm) ?_)))))))
 exact hx
def sessPairS (a b c d : Int) (l1 l2 : List Req') (draws : List Int) : List Int × Bool :=
 if (confB a b c d && ((reqsB l1 && (reqsB l2 && sameB (l1.map shOf) (l2.map shOf))) && drawsB draws (drawsI b (l1.map shOf)))) = true then (sessPV (b - 2).toNat (idsS a b l1) (idsS a b l2) draws, true) else ([], false)
theorem sessPairS_len (a b c d : Int) (l1 l2 : List Req') (draws : List Int) : (sessPairS a b c d l1 l2 draws).1.length ≤ draws.length := by
 unfold sessPairS
 split
 ·exact Nat.le_of_eq (sessPV_length _ _ _ _)
 ·exact Nat.zero_le _
theorem same_ids {a b : Int} {l1 l2 : List Req'} (h1 : reqsB l1 = true) (h2 : reqsB l2 = true) (h : sameB (l1.map shOf) (l2.map shOf) = true) : (idsS a b l1).length = (idsS a b l2).length := by
 (have e1 := takes_ids a b l1 (reqs_all h1).2); (have e2 := takes_ids a b l2 (reqs_all h2).2); (rw [same_eq h] at e1)
 omega
theorem specRightS_ev (a b c d : Int) (l : List Req') (draws : List Int) (hl : l.length ≤ 9223372036854775807) (hdl0 : draws.length ≤ 9223372036854775807) (hc : confB a b c d = true) (hb : reqsB l = true) :
  Ev (fun k => spec_l24Right.f k a b c d l draws) (drawsB draws (drawsI b (l.map shOf))) := by
 unfold spec_l24Right.f
 refine Ev.bind (specShapesOf_ev l hl) ?_
 (simp only [hb, if_true, confOk_eq, Option.bind_some, hc]); (have hsl : (l.map shOf).length ≤ 9223372036854775807 := by rw [List.length_map]; exact hl); (have hsd := specShapeDraws_ev a b c d (l.map shOf) hsl); (rw [hc, reqs_shapes hb] at hsd)
 refine Ev.bind hsd ?_
 (have ht := takesS_range (reqs_shapes hb)); (have hlog := confB_log hc); (obtain ⟨n, en, hn, hp, hp'⟩ := pow_small (b := b) (by omega))
 have e0 : wrap64 (drawsI b (l.map shOf) + (([] : List Int).length : Int)) = drawsI b (l.map shOf) := by
  unfold drawsI
  rw [en, Int.toNat_natCast, wrap_id (by simp only [List.length_nil]; omega) (by simp only [List.length_nil]; omega)]
  simp
 (have := specDraws_ev (drawsI b (l.map shOf)) [] draws hdl0); (rw [e0] at this)
 exact Ev.bind this (Ev.now _)
theorem implSessPair_ev (a b c d : Int) (l1 l2 : List Req') (draws : List Int) : Ev (fun k => impl_SessPair.f k a b c d l1 l2 draws) (sessPairS a b c d l1 l2 draws) := by
 unfold impl_SessPair.f sessPairS
 have hno : Ev (fun k => impl_SessPair.j0 k l1 l2 draws true a b c d) ([], false) := by
  refine Ev.step (fun k => rfl) ?_
  simp only [impl_SessPair.j0, if_true]
  exact Ev.now _
 simp only [isConf_eq, Option.bind_some]
 cases hc : confB a b c d with
 | false => simp only [Bool.false_eq_true, if_false, Bool.false_and]; exact hno
 | true =>
  simp only [if_true, Bool.true_and]
  refine Ev.bind (implSameShape_ev l1 l2) ?_
  cases hs : (reqsB l1 && (reqsB l2 && sameB (l1.map shOf) (l2.map shOf))) with
  | false => simp only [Bool.false_eq_true, if_false, Bool.false_and]; exact hno
  | true =>
   (simp only [if_true, Bool.true_and]); (have hs' := hs); (simp only [Bool.and_eq_true] at hs'); (obtain ⟨hb, hb2, hsm⟩ := hs'); (have hlog := confB_log hc)
   refine Ev.bind (implShapesOf_ev l1 (reqs_all hb).1) ?_
   refine Ev.bind (implShapeDrawsOf_ev a c d _ (by omega) (reqs_shapes hb)) ?_
   simp only [areDraws_eq, Option.bind_some]
   cases hd : drawsB draws (drawsI b (l1.map shOf)) with
   | false => simp only [Bool.not_false, Bool.false_eq_true, if_false]; exact hno
   | true =>
    (simp only [Bool.not_true, if_true]); (obtain ⟨m, rfl, hm, em, hids, hdl, hda⟩ := sess_facts hc hb hd); (rw [em])
    refine Ev.step (fun k => rfl) ?_
    simp only [impl_SessPair.j0, Bool.false_eq_true, if_false]
    refine Ev.bind (implIds_ev a ((m : Int) + 2) c d l1 hb) (Ev.bind (implIds_ev a ((m : Int) + 2) c d l2 hb2) ?_)
    exact Ev.bind (implSessP_ev a c d m _ _ draws hm hids (same_ids hb hb2 hsm) (ids_lt _ _ _) (ids_lt _ _ _) hdl hda) (Ev.now _)
theorem specSessPair_ev (a b c d : Int) (l1 l2 : List Req') (draws : List Int) (hl1 : l1.length ≤ 9223372036854775807) (hl2 : l2.length ≤ 9223372036854775807) (hdl0 : draws.length ≤ 9223372036854775807) : Ev (fun k => spec_SessPair.f k a b c d l1 l2 draws) (sessPairS a b c d l1 l2 draws) := by
 unfold spec_SessPair.f sessPairS
 have hno : ∀ r s, Ev (fun k => spec_SessPair.j0 k draws r s true a b c d) ([], false) := by
  intro r s
  refine Ev.step (fun k => rfl) ?_
  simp only [spec_SessPair.j0, if_true]
  exact Ev.now _
 refine Ev.bind (specIds_ev a b c d l1 hl1) (Ev.bind (specIds_ev a b c d l2 hl2) ?_)
 cases hc : confB a b c d with
 | false => simp only [Bool.false_eq_true, if_false, Bool.false_and]; exact hno _ _
 | true =>
 cases hb : reqsB l1 with
 | false => simp only [Bool.false_eq_true, if_false, Bool.true_and, Bool.false_and]; exact hno _ _
 | true =>
 cases hb2 : reqsB l2 with
 | false => simp only [Bool.false_eq_true, if_false, if_true, Bool.true_and, Bool.false_and]; exact hno _ _
 | true =>
  (simp only [if_true, Bool.true_and]); (have hsame := specSame_ev l1 l2 hl1 hl2); (rw [hb, hb2, Bool.true_and, Bool.true_and] at hsame)
  refine Ev.bind hsame ?_
  cases hsm : sameB (l1.map shOf) (l2.map shOf) with
  | false => simp only [Bool.false_eq_true, if_false, Bool.false_and]; exact hno _ _
  | true =>
   simp only [if_true, Bool.true_and]
   refine Ev.bind (specRightS_ev a b c d l1 draws hl1 hdl0 hc hb) ?_
   cases hd : drawsB draws (drawsI b (l1.map shOf)) with
   | false => simp only [Bool.not_false, Bool.false_eq_true, if_false]; exact hno _ _
   | true =>
    (simp only [Bool.not_true, if_true]); (obtain ⟨m, rfl, hm, em, hids, hdl, hda⟩ := sess_facts hc hb hd); (rw [em])
    exact specSessP_ev a c d m _ _ draws hm hids (same_ids hb hb2 hsm) (ids_lt _ _ _) (ids_lt _ _ _) hdl hda
theorem getD_set_self {α : Type} (l : List α) {i : Nat} (z a : α) (h : i < l.length) : (l.set i a).getD i z = a := by simp [List.getD, h]
theorem markText_ex (n : Int) (h0 : 0 ≤ n) (hn : n ≤ 4611686018427387904) : ∃ s, Ev (fun k => laws_markText.f k n) s := by
 have key : ∀ d : Nat, ∀ x : Int, 0 ≤ x → x ≤ 4611686018427387904 → x.toNat ≤ d → ∀ t : ByteArray, t.size + d ≤ 4611686018427387910 → ∃ s, Ev (fun k => laws_markText.l0 k x t) s := by
  intro d
  induction d using Nat.strongRecOn with
  | _ d ih =>
   intro x h0 hx hd t ht
   by_cases h : x > 0
   ·have hdiv : Int.tdiv x 10 = x / 10 := Int.tdiv_eq_ediv_of_nonneg h0
    (have hs : ∀ c : Int, (strOfNums [c]).size = 1 := fun c => by simp [strOfNums, ByteArray.size]); (obtain ⟨s, hs'⟩ := ih (x / 10).toNat (by omega) (x / 10) (by omega) (by omega) (Nat.le_refl _) (strOfNums [(wrap64 (48 + (Int.tmod x 10))) % 256] ++ t) (by rw [ByteArray.size_append, hs]; omega))
    refine ⟨s, Ev.step (fun k => ?_) hs'⟩
    (simp only [laws_markText.l0]); (rw [if_pos h, Option.bind_some, hs, if_pos (by omega), hdiv, wrap_id (x := x / 10) (by omega) (by omega)])
   ·refine ⟨_, Ev.step (f := fun _ => some ((⟨#[109]⟩ : ByteArray) ++ t)) (fun k => ?_) (Ev.now _)⟩
    (simp only [laws_markText.l0]); (rw [if_neg h, if_pos (by omega)])
 unfold laws_markText.f
 by_cases h : n ≤ 0
 ·simp only [if_pos h]; exact ⟨_, Ev.now _⟩
 ·simp only [if_neg h]; exact key n.toNat n h0 hn (Nat.le_refl _) _ (by simp [ByteArray.size]; omega)
noncomputable def mtext (n : Int) : ByteArray := Classical.epsilon (fun s => Ev (fun k => laws_markText.f k n) s)
theorem mtext_ev {n : Int} (h0 : 0 ≤ n) (hn : n ≤ 4611686018427387904) : Ev (fun k => laws_markText.f k n) (mtext n) := Classical.epsilon_spec (markText_ex n h0 hn)
theorem eqIntS_ev (l : List Int) (h : l.length ≤ 9223372036854775807) : Ev (fun k => laws_eqIntS.f k l l) true := by
 unfold laws_eqIntS.f
 simp only [if_true]
 refine loop_ev l.length (fun k (_ : Unit) i => laws_eqIntS.l0 k l l i) (fun _ => ()) true ?_ ?_
 ·intro i hi hr
  refine Ev.step (fun k => ?_) hr
  (simp only [laws_eqIntS.l0, bne_self_eq_false, Bool.false_eq_true, if_false, if_true, Option.bind_some]); (rw [if_pos (by omega), if_pos (by omega), if_pos (by omega), wrap_nat_succ (by omega)])
 ·refine Ev.step (f := fun _ => some true) (fun k => ?_) (Ev.now _)
  (simp only [laws_eqIntS.l0]); (rw [if_neg (by omega)])
theorem eqReqS_ev (l : List S56) (h : l.length ≤ 9223372036854775807) : Ev (fun k => laws_eqReqS.f k l l) true := by
 unfold laws_eqReqS.f
 simp only [if_true]
 refine loop_ev l.length (fun k (_ : Unit) i => laws_eqReqS.l0 k l l i) (fun _ => ()) true ?_ ?_
 ·intro i hi hr
  refine Ev.step (fun k => ?_) hr
  (simp only [laws_eqReqS.l0, laws_eqReq.f, bne_self_eq_false, Bool.false_eq_true, if_false, if_true, Option.bind_some]); (rw [if_pos (by omega), if_pos (by omega), if_pos (by omega), wrap_nat_succ (by omega)])
 ·refine Ev.step (f := fun _ => some true) (fun k => ?_) (Ev.now _)
  (simp only [laws_eqReqS.l0]); (rw [if_neg (by omega)])
def toInt_ (x : Int) : Int := x
theorem map_toInt_ (l : List Int) : l.map toInt_ = l := by unfold toInt_; simp
theorem toIntS_ev (l : List Int) (h : l.length ≤ 1048576) : Ev (fun k => laws_toIntS.f k l) (l.map toInt_) := by
 unfold laws_toIntS.f
 (simp only [Int.natCast_nonneg, if_true, Int.toNat_natCast, show l.length ≤ 35184372088832 by omega]); (rw [← map_range l (0 : Int) toInt_])
 refine fill_ev l.length (0 : Int) (fun k x3 i => laws_toIntS.l0 k l x3 i) (fun i => toInt_ (l.getD i (0 : Int))) ?_ ?_
 ·intro i x3 hi hl r hr
  refine Ev.step (fun k => ?_) hr
  (simp only [laws_toIntS.l0, Option.bind_some]); (rw [if_pos (by omega), if_pos (by omega), if_pos (by omega), wrap_nat_succ (by omega)])
  rfl
 ·intro x3 hl
  refine Ev.step (f := fun _ => some x3) (fun k => ?_) (Ev.now _)
  (simp only [laws_toIntS.l0]); (rw [if_neg (by omega)])
def toReq_ (x : S48) : S56 := (⟨x.f0, x.f1, x.f2, x.f3, x.f4, x.f5, x.f6⟩ : S56)
theorem toReqS_ev (l : List S48) (h : l.length ≤ 1048576) : Ev (fun k => laws_toReqS.f k l) (l.map toReq_) := by
 unfold laws_toReqS.f
 (simp only [Int.natCast_nonneg, if_true, Int.toNat_natCast, show l.length ≤ 3909374676536 by omega]); (rw [← map_range l z48 toReq_])
 refine fill_ev l.length z56 (fun k x3 i => laws_toReqS.l0 k l x3 i) (fun i => toReq_ (l.getD i z48)) ?_ ?_
 ·intro i x3 hi hl r hr
  refine Ev.step (fun k => ?_) hr
  (simp only [laws_toReqS.l0, laws_toReq.f, Option.bind_some]); (rw [if_pos (by omega), if_pos (by omega), if_pos (by omega), wrap_nat_succ (by omega)])
  rfl
 ·intro x3 hl
  refine Ev.step (f := fun _ => some x3) (fun k => ?_) (Ev.now _)
  (simp only [laws_toReqS.l0]); (rw [if_neg (by omega)])
noncomputable def markInt_ (k0 : Int) (i : Nat) : Int := k0 + 1 * (i : Int)
theorem markIntS_ev (l : List Int) (k0 : Int) (h0 : 0 ≤ k0) (hk : k0 + 1 * (l.length : Int) ≤ 4611686018427387000) : Ev (fun k => laws_markIntS.f k l k0) (k0 + 1 * (l.length : Int), (List.range l.length).map (markInt_ k0)) := by
 unfold laws_markIntS.f
 have key : ∀ d (i : Nat) (x0 : List Int), i + d = l.length → x0.length = l.length → (∀ j, j < i → x0[j]? = some (markInt_ k0 j)) → Ev (fun k => laws_markIntS.l0 k x0 (k0 + 1 * (i : Int)) (i : Int)) (k0 + 1 * (l.length : Int), (List.range l.length).map (markInt_ k0)) := by
  intro d
  induction d with
  | zero =>
   intro i x0 h hl hx
   obtain rfl : i = l.length := by omega
   refine Ev.step (f := fun _ => some (k0 + 1 * (l.length : Int), x0)) (fun k => ?_) (evVal (Ev.now _) ?_)
   ·simp only [laws_markIntS.l0]
    rw [if_neg (by omega)]
   ·congr 1
    apply List.ext_getElem?
    intro j
    by_cases hj : j < l.length
    ·rw [hx j hj]; simp [hj]
    ·rw [List.getElem?_eq_none (by omega), List.getElem?_eq_none (by simp; omega)]
  | succ d ih =>
   intro i x0 h hl hx
   (have hi : i < x0.length := by omega); (have e1 : k0 + 1 * ((i + 1 : Nat) : Int) = k0 + 1 * (i : Int) + 1 := by omega)
   have hnext := ih (i + 1) (x0.set i (markInt_ k0 i)) (by omega) (by simpa using hl) (fun j hj => by
    by_cases e : j = i
    ·subst e; rw [List.getElem?_set_self (by omega)]
    ·rw [List.getElem?_set_ne (by omega)]; exact hx j (by omega))
   rw [e1] at hnext

   refine Ev.step (fun k => ?_) hnext
   (simp only [laws_markIntS.l0, Int.toNat_natCast, List.set_set, rd, getD_set_self _ _ _ hi, Option.bind_some]); (rw [if_pos (by omega), if_pos (by omega), wrap_id (x := k0 + 1 * (i : Int) + 1) (by omega) (by omega), wrap_nat_succ (by omega)])
   rfl
 have := key l.length 0 l (by omega) rfl (fun j hj => absurd hj (Nat.not_lt_zero _))
 simpa using this
theorem heldIntS_ev (n : Nat) (k0 : Int) (h0 : 0 ≤ k0) (hk : k0 + 1 * (n : Int) ≤ 4611686018427387000) : Ev (fun k => laws_heldIntS.f k ((List.range n).map (markInt_ k0)) k0) (k0 + 1 * (n : Int)) := by
 unfold laws_heldIntS.f
 have hl : ((List.range n).map (markInt_ k0)).length = n := by simp
 refine evVal (r := k0 + 1 * (n : Int)) ?_ rfl
 (have e0 : k0 = k0 + 1 * ((0 : Nat) : Int) := by omega); (have := loop_ev n (fun k s i => laws_heldIntS.l0 k ((List.range n).map (markInt_ k0)) s i) (fun i => k0 + 1 * (i : Int)) (k0 + 1 * (n : Int)) ?_ ?_)
 ·simpa using this
 ·intro i hi hr
  (have e1 : k0 + 1 * ((i + 1 : Nat) : Int) = k0 + 1 * (i : Int) + 1 := by omega); (have hg : ((List.range n).map (markInt_ k0)).getD i (0 : Int) = markInt_ k0 i := by simp [List.getD, hi]); (rw [e1] at hr)

  refine Ev.step (fun k => ?_) hr
  (simp only [laws_heldIntS.l0, rd, Int.toNat_natCast, hg, markInt_]); (rw [if_pos (by omega), if_pos (by omega), wrap_id (x := k0 + 1 * (i : Int) + 1) (by omega) (by omega), wrap_nat_succ (by omega)])
  simp

 ·refine Ev.step (f := fun _ => some _) (fun k => ?_) (Ev.now _)
  (simp only [laws_heldIntS.l0, hl]); (rw [if_neg (by omega)])
noncomputable def markReq_ (k0 : Int) (i : Nat) : S56 := (⟨k0 + 7 * (i : Int), mtext (k0 + 7 * (i : Int) + 1), k0 + 7 * (i : Int) + 1 + 1, k0 + 7 * (i : Int) + 1 + 1 + 1, k0 + 7 * (i : Int) + 1 + 1 + 1 + 1, k0 + 7 * (i : Int) + 1 + 1 + 1 + 1 + 1, mtext (k0 + 7 * (i : Int) + 1 + 1 + 1 + 1 + 1 + 1)⟩ : S56)
theorem markReqS_ev (l : List S56) (k0 : Int) (h0 : 0 ≤ k0) (hk : k0 + 7 * (l.length : Int) ≤ 4611686018427387000) : Ev (fun k => laws_markReqS.f k l k0) (k0 + 7 * (l.length : Int), (List.range l.length).map (markReq_ k0)) := by
 unfold laws_markReqS.f
 have key : ∀ d (i : Nat) (x0 : List S56), i + d = l.length → x0.length = l.length → (∀ j, j < i → x0[j]? = some (markReq_ k0 j)) → Ev (fun k => laws_markReqS.l0 k x0 (k0 + 7 * (i : Int)) (i : Int)) (k0 + 7 * (l.length : Int), (List.range l.length).map (markReq_ k0)) := by
  intro d
  induction d with
  | zero =>
   intro i x0 h hl hx
   obtain rfl : i = l.length := by omega
   refine Ev.step (f := fun _ => some (k0 + 7 * (l.length : Int), x0)) (fun k => ?_) (evVal (Ev.now _) ?_)
   ·simp only [laws_markReqS.l0]
    rw [if_neg (by omega)]
   ·congr 1
    apply List.ext_getElem?
    intro j
    by_cases hj : j < l.length
    ·rw [hx j hj]; simp [hj]
    ·rw [List.getElem?_eq_none (by omega), List.getElem?_eq_none (by simp; omega)]
  | succ d ih =>
   intro i x0 h hl hx
   (have hi : i < x0.length := by omega); (have e1 : k0 + 7 * ((i + 1 : Nat) : Int) = k0 + 7 * (i : Int) + 1 + 1 + 1 + 1 + 1 + 1 + 1 := by omega)
   have hnext := ih (i + 1) (x0.set i (markReq_ k0 i)) (by omega) (by simpa using hl) (fun j hj => by
    by_cases e : j = i
    ·subst e; rw [List.getElem?_set_self (by omega)]
    ·rw [List.getElem?_set_ne (by omega)]; exact hx j (by omega))
   rw [e1] at hnext

   refine Ev.step (f := fun k => (laws_markText.f k (k0 + 7 * (i : Int) + 1)).bind fun s1 => (laws_markText.f k (k0 + 7 * (i : Int) + 1 + 1 + 1 + 1 + 1 + 1)).bind fun s6 => laws_markReqS.l0 k (x0.set i (⟨k0 + 7 * (i : Int), s1, k0 + 7 * (i : Int) + 1 + 1, k0 + 7 * (i : Int) + 1 + 1 + 1, k0 + 7 * (i : Int) + 1 + 1 + 1 + 1, k0 + 7 * (i : Int) + 1 + 1 + 1 + 1 + 1, s6⟩ : S56)) (k0 + 7 * (i : Int) + 1 + 1 + 1 + 1 + 1 + 1 + 1) ((i + 1 : Nat) : Int)) (fun k => ?_) ?_
   ·simp only [laws_markReqS.l0, Int.toNat_natCast, List.set_set, rd_T56, getD_set_self _ _ _ hi, Option.bind_some, if_pos (show (i : Int) < (x0.length : Int) by omega), if_pos (show (0 : Int) ≤ (i : Int) by omega), wrap_id (x := k0 + 7 * (i : Int) + 1) (by omega) (by omega), wrap_id (x := k0 + 7 * (i : Int) + 1 + 1) (by omega) (by omega), wrap_id (x := k0 + 7 * (i : Int) + 1 + 1 + 1) (by omega) (by omega), wrap_id (x := k0 + 7 * (i : Int) + 1 + 1 + 1 + 1) (by omega) (by omega), wrap_id (x := k0 + 7 * (i : Int) + 1 + 1 + 1 + 1 + 1) (by omega) (by omega), wrap_id (x := k0 + 7 * (i : Int) + 1 + 1 + 1 + 1 + 1 + 1) (by omega) (by omega), wrap_id (x := k0 + 7 * (i : Int) + 1 + 1 + 1 + 1 + 1 + 1 + 1) (by omega) (by omega), wrap_nat_succ (show i < 9223372036854775807 by omega)]
    all_goals (try rfl)
   ·skip
    refine Ev.bind (mtext_ev (by omega) (by omega)) ?_
    refine Ev.bind (mtext_ev (by omega) (by omega)) ?_
    exact hnext
 have := key l.length 0 l (by omega) rfl (fun j hj => absurd hj (Nat.not_lt_zero _))
 simpa using this
theorem szReq_eq (x : S48) (left : Int) (h0 : 0 ≤ left) (hl : left ≤ 1048576) (h1 : x.f1.size ≤ 9223372036854775807) (h6 : x.f6.size ≤ 9223372036854775807) :
  ∃ r : Int, laws_szReq.f x.f0 x.f1 x.f2 x.f3 x.f4 x.f5 x.f6 left = some r ∧ (r = -1 ∨ (0 ≤ r ∧ r ≤ left ∧ (x.f1.size : Int) ≤ left ∧ (x.f6.size : Int) ≤ left)) := by
 unfold laws_szReq.f
 rw [wrap_id (x := left - (x.f1.size : Int)) (by omega) (by omega)]
 by_cases h : left - (x.f1.size : Int) < 0
 ·rw [if_pos h]; exact ⟨_, rfl, .inl rfl⟩
 ·rw [if_neg h, wrap_id (by omega) (by omega)]
  by_cases h' : left - (x.f1.size : Int) - (x.f6.size : Int) < 0
  ·rw [if_pos h']; exact ⟨_, rfl, .inl rfl⟩
  ·rw [if_neg h']; exact ⟨_, rfl, .inr ⟨by omega, by omega, by omega, by omega⟩⟩
theorem szReqS_ev (l : List S48) (left : Int) (h0 : 0 ≤ left) (hl : left ≤ 1048576) (hn : l.length ≤ 9223372036854775807) (hx : ∀ x, x ∈ l → x.f1.size ≤ 9223372036854775807 ∧ x.f6.size ≤ 9223372036854775807) :
  ∃ r : Int, Ev (fun k => laws_szReqS.f k l left) r ∧ (r = -1 ∨ (0 ≤ r ∧ r ≤ left ∧ (l.length : Int) ≤ left ∧ ∀ x, x ∈ l → (x.f1.size : Int) ≤ left ∧ (x.f6.size : Int) ≤ left)) := by
 unfold laws_szReqS.f
 rw [wrap_id (x := left - (l.length : Int)) (by omega) (by omega)]
 by_cases h : left - (l.length : Int) < 0
 ·simp only [if_pos h]; exact ⟨_, Ev.now _, .inl rfl⟩
 simp only [if_neg h]
 have key : ∀ d i (left' : Int), i + d = l.length → 0 ≤ left' → left' ≤ left → ∃ r : Int, Ev (fun k => laws_szReqS.l0 k l left' (i : Int)) r ∧ (r = -1 ∨ (0 ≤ r ∧ r ≤ left' ∧ ∀ j, i ≤ j → ∀ x, l[j]? = some x → (x.f1.size : Int) ≤ left' ∧ (x.f6.size : Int) ≤ left')) := by
  intro d
  induction d with
  | zero =>
   intro i left' hi h1 h2
   refine ⟨left', Ev.step (f := fun _ => some left') (fun k => ?_) (Ev.now _), .inr ⟨h1, Int.le_refl _, fun j hj x hx => ?_⟩⟩
   ·simp only [laws_szReqS.l0]; rw [if_neg (by omega)]
   ·rw [List.getElem?_eq_none (by omega)] at hx; cases hx
  | succ d ih =>
   intro i left' hi h1 h2
   (have hlt : i < l.length := by omega); (have hmem : l.getD i z48 ∈ l := by rw [getD_lt _ hlt]; exact List.getElem_mem _); (obtain ⟨r1, e1, c1⟩ := szReq_eq (l.getD i z48) left' h1 (by omega) (hx _ hmem).1 (hx _ hmem).2)
   rcases c1 with rfl | ⟨c1, c2, c3, c4⟩
   ·refine ⟨-1, Ev.step (f := fun _ => some (-1)) (fun k => ?_) (Ev.now _), .inl rfl⟩
    (simp only [laws_szReqS.l0, rd_T48, Int.toNat_natCast, e1, Option.bind_some]); (rw [if_pos (by omega), if_pos (by omega), if_pos (by omega)])
   ·obtain ⟨r, hr, hc⟩ := ih (i + 1) r1 (by omega) c1 (by omega)
    refine ⟨r, Ev.step (fun k => ?_) hr, ?_⟩
    ·simp only [laws_szReqS.l0, rd_T48, Int.toNat_natCast, e1, Option.bind_some]
     rw [if_pos (by omega), if_pos (by omega), if_neg (by omega), wrap_nat_succ (by omega)]
    ·rcases hc with rfl | ⟨b0, b1, b2⟩
     ·exact .inl rfl
     ·refine .inr ⟨b0, by omega, fun j hj x hx => ?_⟩
      by_cases e : j = i
      ·subst e
       rw [List.getElem?_eq_getElem hlt] at hx
       injection hx with hx
       rw [getD_lt _ hlt, hx] at c3 c4
       exact ⟨c3, c4⟩
      ·have := b2 j (by omega) x hx
       omega
 obtain ⟨r, hr, hc⟩ := key l.length 0 (left - (l.length : Int)) (by omega) (by omega) (by omega)
 refine ⟨r, hr, ?_⟩
 rcases hc with rfl | ⟨b0, b1, b2⟩
 ·exact .inl rfl
 ·refine .inr ⟨b0, by omega, by omega, fun x hx => ?_⟩
  (obtain ⟨j, hj, rfl⟩ := List.getElem_of_mem hx); (have := b2 j (Nat.zero_le _) _ (List.getElem?_eq_getElem hj))
  omega
end Go.Proofs.YtppopmajclmhjaaGreatDoor.L
namespace Go.Proofs.YtppopmajclmhjaaGreatDoor.Pure
open Go.RowKit Go.Proofs.YtppopmajclmhjaaGreatDoor.QB Go.Proofs.YtppopmajclmhjaaGreatDoorW.PrintWords Go.Proofs.YtppopmajclmhjaaGreatDoorW.PrintLast Go.Proofs.YtppopmajclmhjaaGreatDoor.L
set_option linter.unusedVariables false
set_option linter.unusedSimpArgs false
theorem FnExactSessPair : laws_FnExactSessPair.Pure := by
 rintro y l l' dr _ ⟨hl, hx⟩ ⟨hl', hx'⟩ ⟨hdl, _⟩
 apply Ev.rounds
 unfold laws_FnExactSessPair.f laws_toConf.f
 (have hw : ∀ x, x ∈ l → x.f1.size ≤ 9223372036854775807 ∧ x.f6.size ≤ 9223372036854775807 := fun x h => ⟨(hx x h).2.1, (hx x h).2.2.2.2.2.2⟩); (have hw' : ∀ x, x ∈ l' → x.f1.size ≤ 9223372036854775807 ∧ x.f6.size ≤ 9223372036854775807 := fun x h => ⟨(hx' x h).2.1, (hx' x h).2.2.2.2.2.2⟩)
 by_cases hbig : (dr.length : Int) > 1048576
 ·simp only [if_pos hbig]; exact Ev.now _
 (simp only [if_neg hbig]); (obtain ⟨r0, e0, c0⟩ := szReqS_ev l 1048576 (by omega) (by omega) hl hw)
 refine Ev.bind e0 ?_
 rcases c0 with rfl | ⟨c0, c1, c2, _⟩
 ·simp only [show ((-1 : Int) < 0) by omega, if_true]; exact Ev.now _
 (simp only [if_neg (show ¬ r0 < 0 by omega)]); (obtain ⟨r1, e1, d0⟩ := szReqS_ev l' r0 (by omega) (by omega) hl' hw')
 refine Ev.bind e1 ?_
 rcases d0 with rfl | ⟨d0, d1, d2, _⟩
 ·simp only [show ((-1 : Int) < 0) by omega, if_true]; exact Ev.now _
 (simp only [if_neg (show ¬ r1 < 0 by omega)]); (have t0 := toReqS_ev l (by omega)); (have t0' := toReqS_ev l' (by omega)); (have t1 := toIntS_ev dr (by omega)); (rw [map_toInt_] at t1); (have q0 := eqReqS_ev (l.map toReq_) (by simpa using hl)); (have q0' := eqReqS_ev (l'.map toReq_) (by simpa using hl')); (have q1 := eqIntS_ev dr (by omega)); (have hm : (l.map toReq_).length ≤ 1048576 := by simp; omega); (have hm' : (l'.map toReq_).length ≤ 1048576 := by simp; omega); (have hspec := specSessPair_ev y.f0 y.f1 y.f2 y.f3 (l.map toReq_) (l'.map toReq_) dr (by omega) (by omega) (by omega)); (have himpl := implSessPair_ev y.f0 y.f1 y.f2 y.f3 (l.map toReq_) (l'.map toReq_) dr); (have hr1 := sessPairS_len y.f0 y.f1 y.f2 y.f3 (l.map toReq_) (l'.map toReq_) dr)
 generalize sessPairS y.f0 y.f1 y.f2 y.f3 (l.map toReq_) (l'.map toReq_) dr = r at hspec himpl hr1
 (have es1 := eqIntS_ev r.1 (by omega)); (have ms1 := markIntS_ev r.1 1 (by omega) (by omega)); (have hs1 := heldIntS_ev r.1.length 1 (by omega) (by omega))
 refine Ev.bind (evConst rfl) (Ev.bind t0 (Ev.bind t0' (Ev.bind t1 (Ev.bind hspec (Ev.bind t0 (Ev.bind t0' (Ev.bind t1 (Ev.bind (evConst rfl) (Ev.bind himpl ?_)))))))))
 refine Ev.bind es1 ?_
 simp only [if_true, bne_self_eq_false]
 refine Ev.step (fun k => rfl) ?_
 simp only [laws_FnExactSessPair.j0, Bool.false_eq_true, if_false]
 refine Ev.bind t0 (Ev.bind q0 ?_)
 simp only [if_true]
 refine Ev.bind t0' (Ev.bind q0' ?_)
 simp only [if_true]
 refine Ev.bind t1 (Ev.bind q1 ?_)
 simp only [if_true]
 refine Ev.bind (markReqS_ev (l.map toReq_) 1 (by omega) (by omega)) ?_
 refine Ev.bind (markReqS_ev (l'.map toReq_) (1 + 7 * ((l.map toReq_).length : Int)) (by omega) (by omega)) ?_
 refine Ev.bind (markIntS_ev dr (1 + 7 * ((l.map toReq_).length : Int) + 7 * ((l'.map toReq_).length : Int)) (by omega) (by omega)) ?_
 simp only [if_neg (show ¬ ((1 : Int) + 7 * ((l.map toReq_).length : Int) + 7 * ((l'.map toReq_).length : Int) + 1 * (dr.length : Int) < 0) by omega)]
 refine Ev.bind es1 ?_
 simp only [if_true, bne_self_eq_false]
 refine Ev.step (fun k => rfl) ?_
 simp only [laws_FnExactSessPair.j1, Bool.false_eq_true, if_false]
 refine Ev.bind ms1 (Ev.bind hs1 ?_)
 simp only [if_neg (show ¬ ((1 : Int) + 1 * (r.1.length : Int) < 0) by omega), if_true]
 refine Ev.bind (evConst rfl) (Ev.bind t0 (Ev.bind t0' (Ev.bind t1 (Ev.bind himpl ?_))))
 refine Ev.bind es1 ?_
 simp only [if_true, bne_self_eq_false]
 refine Ev.step (fun k => rfl) ?_
 simp only [laws_FnExactSessPair.j2, Bool.false_eq_true, if_false]
 refine Ev.bind hs1 ?_
 simp only [if_neg (show ¬ ((1 : Int) + 1 * (r.1.length : Int) < 0) by omega), if_true]
 exact Ev.now _
end Go.Proofs.YtppopmajclmhjaaGreatDoor.Pure
