/- Part of the proof of the law FnBookAdd: what it uses of the texts that this session and the kit's print wrote. -/
import Derived.Test.YtfeikakkfnnaoaaGreatDoorZFnBookAddx6
import Derived.Test.YtfeikakkfnnaoaaGreatDoorZFnBookAddx7
import Derived.Test.YtfeikakkfnnaoaaGreatDoorZFnBookAddx8
import Derived.Test.YtfeikakkfnnaoaaGreatDoorZFnBookAddx9
import Derived.Test.YtfeikakkfnnaoaaGreatDoorZFnBookAddx11
import Derived.Lib.SliceRun
import Derived.KernelRfl
namespace Go.Proofs.YtfeikakkfnnaoaaGreatDoor.V
open Go Go.RowKit Go.Proofs.YtfeikakkfnnaoaaGreatDoor.L Go.Proofs.YtfeikakkfnnaoaaGreatDoor.QA Go.Proofs.YtfeikakkfnnaoaaGreatDoorW.PrintWords Go.Proofs.YtfeikakkfnnaoaaGreatDoorW.PrintLast Go.Proofs.YtfeikakkfnnaoaaGreatDoorW.PrintMore
set_option linter.unusedVariables false
set_option linter.unusedSimpArgs false
def levL : List UInt8 → List UInt8 → Nat
 | [], y => y.length
 | _ :: x, [] => x.length + 1
 | a :: x, b :: y => min (min (if a = b then levL x y else levL x y + 1) (levL x (b :: y) + 1)) (levL (a :: x) y + 1)
theorem lev_nil (x : List UInt8) : levL x [] = x.length := by cases x <;> simp [levL]
theorem lev_zero : ∀ x y : List UInt8, levL x y = 0 ↔ x = y
 | [], y => by cases y <;> simp [levL]
 | a :: x, [] => by simp [levL]
 | a :: x, b :: y => by
  unfold levL
  have ih := lev_zero x y
  by_cases h : a = b
  ·rw [if_pos h]
   subst h
   constructor
   ·intro h1
    (have : levL x y = 0 := by omega); (rw [ih.1 this])
   ·intro h1
    injection h1 with _ h1
    have := ih.2 h1
    omega
  ·rw [if_neg h]
   constructor
   ·intro h1; omega
   ·intro h1; injection h1 with h1 _; exact absurd h1 h
theorem lev_le : ∀ x y : List UInt8, levL x y ≤ x.length + y.length
 | [], y => by simp [levL]
 | a :: x, [] => by simp [levL]
 | a :: x, b :: y => by
  have := lev_le x (b :: y)
  unfold levL
  simp only [List.length_cons] at *
  omega
section
variable (a b : ByteArray)
def D_ (i j : Nat) : Nat := levL (a.data.toList.drop i) (b.data.toList.drop j)
theorem D_le (ha : a.size ≤ 32) (hb : b.size ≤ 32) (i j : Nat) : D_ a b i j ≤ 64 := by
 (have := lev_le (a.data.toList.drop i) (b.data.toList.drop j)); (rw [List.length_drop, List.length_drop, data_length, data_length] at this)
 unfold D_; omega
theorem D_last (j : Nat) (hj : j ≤ b.size) : D_ a b a.size j = b.size - j := by
 unfold D_
 (rw [show a.data.toList.drop a.size = [] from List.drop_of_length_le (by rw [data_length]; exact Nat.le_refl _)]); (rw [levL, List.length_drop, data_length])
theorem D_end (i : Nat) (hi : i ≤ a.size) : D_ a b i b.size = a.size - i := by
 unfold D_
 rw [show b.data.toList.drop b.size = [] from List.drop_of_length_le (by rw [data_length]; exact Nat.le_refl _), lev_nil, List.length_drop, data_length]
theorem D_step (i j : Nat) (hi : i < a.size) (hj : j < b.size) : D_ a b i j = min (min (if bt a (i : Int) = bt b (j : Int) then D_ a b (i + 1) (j + 1) else D_ a b (i + 1) (j + 1) + 1) (D_ a b (i + 1) j + 1)) (D_ a b i (j + 1) + 1) := by
 (have hi' : i < a.data.toList.length := by rw [data_length]; exact hi); (have hj' : j < b.data.toList.length := by rw [data_length]; exact hj)
 have e : (bt a (i : Int) = bt b (j : Int)) ↔ a.data.toList[i] = b.data.toList[j] := by
  rw [bt_get a i hi', bt_get b j hj']
  constructor
  ·intro h; exact UInt8.toNat_inj.mp (by omega)
  ·intro h; rw [h]
 unfold D_
 rw [List.drop_eq_getElem_cons hi', List.drop_eq_getElem_cons hj']
 conv => lhs; unfold levL
 by_cases h : a.data.toList[i] = b.data.toList[j]
 ·rw [if_pos h, if_pos (e.2 h)]
 ·rw [if_neg h, if_neg (fun hh => h (e.1 hh))]
def RowFrom (i m : Nat) (R : List Int) : Prop := R.length = b.size + 1 ∧ ∀ j, m ≤ j → j ≤ b.size → R.getD j 0 = (D_ a b i j : Int)
def Tab (n : Nat) (T : List (List Int)) : Prop := T.length = a.size + 1 ∧ ∀ i, n ≤ i → i ≤ a.size → RowFrom a b i 0 (T.getD i [])
theorem row_get {T : List (List Int)} {i m : Nat} {R : List Int} (h : i < T.length) : (T.set i R).getD i [] = R := by
 rw [getD_lt (by simpa using h) _, List.getElem_set_self]
theorem row_ne {T : List (List Int)} {i q : Nat} {R : List Int} (h : i ≠ q) : (T.set i R).getD q [] = T.getD q [] := by
 simp [List.getD_eq_getElem?_getD, List.getElem?_set_ne h]
theorem cell_get {R : List Int} {j : Nat} {v : Int} (h : j < R.length) : (R.set j v).getD j 0 = v := by
 rw [getD_lt (by simpa using h) _, List.getElem_set_self]
theorem cell_ne {R : List Int} {j q : Nat} {v : Int} (h : j ≠ q) : (R.set j v).getD q 0 = R.getD q 0 := by
 simp [List.getD_eq_getElem?_getD, List.getElem?_set_ne h]
theorem mn_eq (x y : Nat) : mn (x : Int) (y : Int) = ((min x y : Nat) : Int) := by
 unfold mn
 split <;> omega
theorem costs_ok (ha : a.size ≤ 32) (hb : b.size ≤ 32) : ∃ T, Ev (fun k => impl_costs.f k a b) T ∧ Tab a b 0 T := by
 have w1 : ∀ x : Int, -1000 ≤ x → x ≤ 1000 → wrap64 x = x := fun x h1 h2 => by unfold wrap64; omega
 -- the rows
 have outer : ∀ n, n ≤ a.size + 1 → ∀ T, Tab a b n T → ∃ T', Ev (fun k => impl_costs.l0 k a b T ((n : Int) - 1)) T' ∧ Tab a b 0 T' := by
  intro n
  induction n with
  | zero =>
   intro _ T hT
   refine ⟨T, Ev.step (f := fun _ => some T) (fun k => ?_) (Ev.now _), hT⟩
   rw [impl_costs.l0]
   exact if_neg (by omega)
  | succ n ih =>
   intro hn T hT
   -- the columns
   have inner : ∀ m, m ≤ b.size + 1 → ∀ T, T.length = a.size + 1 → (∀ i, n < i → i ≤ a.size → RowFrom a b i 0 (T.getD i [])) → RowFrom a b n m (T.getD n []) → ∃ T', Ev (fun k => impl_costs.l1 k a b T (n : Int) ((m : Int) - 1)) T' ∧ Tab a b 0 T' := by
    intro m
    induction m with
    | zero =>
     intro _ T h1 h2 h3
     obtain ⟨T', e1, e2⟩ := ih (by omega) T ⟨h1, fun i hi hi' => by
      by_cases e : i = n
      ·subst e; exact h3
      ·exact h2 i (by omega) hi'⟩
     refine ⟨T', Ev.step (f := fun k => impl_costs.l0 k a b T ((n : Int) - 1)) (fun k => ?_) e1, e2⟩
     rw [impl_costs.l1]
     refine (if_neg (by omega)).trans ?_
     rw [w1 _ (by omega) (by omega)]
    | succ m ihm =>
     intro hm T h1 h2 h3
     (have hnT : n < T.length := by omega); (have e0 : ((m + 1 : Nat) : Int) - 1 = (m : Int) := by omega); (rw [e0]); (have hr : rd_L3 T (n : Int) = T.getD n [] := by unfold rd_L3; rw [Int.toNat_natCast]); (have hlen : (T.getD n []).length = b.size + 1 := h3.1)
     -- one cell
     have go : ∀ v : Int, v = (D_ a b n m : Int) → ∃ T', Ev (fun k => impl_costs.l1 k a b (T.set n ((T.getD n []).set m v)) (n : Int) ((m : Int) - 1)) T' ∧ Tab a b 0 T' := fun v hv => by
      refine ihm (by omega) _ (by simpa using h1) (fun i hi hi' => ?_) ?_
      ·rw [row_ne (by omega)]; exact h2 i hi hi'
      ·rw [row_get (m := 0) hnT]
       refine ⟨by simpa using hlen, fun j hj hj' => ?_⟩
       by_cases e : m = j
       ·subst e; rw [cell_get (by omega)]; exact hv
       ·rw [cell_ne e]; exact h3.2 j (by omega) hj'
     have fit : ∀ {v : Int} {T'}, Ev (fun k => impl_costs.l1 k a b (T.set n ((T.getD n []).set m v)) (n : Int) ((m : Int) - 1)) T' → (∀ k, impl_costs.l1 (k + 1) a b T (n : Int) (m : Int) = impl_costs.l1 k a b (T.set n ((T.getD n []).set m v)) (n : Int) ((m : Int) - 1)) → Ev (fun k => impl_costs.l1 k a b T (n : Int) (m : Int)) T' := fun h e => Ev.step e h
     by_cases hna : n = a.size
     ·obtain ⟨T', e1, e2⟩ := go ((b.size : Int) - (m : Int)) (by rw [hna, D_last a b m (by omega)]; omega)
      refine ⟨T', fit e1 fun k => ?_, e2⟩
      rw [impl_costs.l1]
      refine (if_pos (by omega)).trans ((if_pos (by omega)).trans ((if_pos (by omega)).trans ((if_pos (by omega)).trans ((if_pos (by omega)).trans ((if_pos (by rw [hr]; omega)).trans (?_))))))
      rw [hr, w1 _ (by omega) (by omega), w1 _ (by omega) (by omega), Int.toNat_natCast, Int.toNat_natCast]
     ·by_cases hmb : m = b.size
      ·obtain ⟨T', e1, e2⟩ := go ((a.size : Int) - (n : Int)) (by rw [hmb, D_end a b n (by omega)]; omega)
       refine ⟨T', fit e1 fun k => ?_, e2⟩
       rw [impl_costs.l1]
       refine (if_pos (by omega)).trans ((if_neg (by omega)).trans ((if_pos (by omega)).trans ((if_pos (by omega)).trans ((if_pos (by omega)).trans ((if_pos (by omega)).trans ((if_pos (by rw [hr]; omega)).trans (?_)))))))
       rw [hr, w1 _ (by omega) (by omega), w1 _ (by omega) (by omega), Int.toNat_natCast, Int.toNat_natCast]
      ·-- within
       (have hn1 : n < a.size := by omega); (have hm1 : m < b.size := by omega); (have en : wrap64 ((n : Int) + 1) = ((n + 1 : Nat) : Int) := by rw [w1 _ (by omega) (by omega)]; omega); (have em : wrap64 ((m : Int) + 1) = ((m + 1 : Nat) : Int) := by rw [w1 _ (by omega) (by omega)]; omega); (have hr1 : rd_L3 T ((n + 1 : Nat) : Int) = T.getD (n + 1) [] := by unfold rd_L3; rw [Int.toNat_natCast]); (have hR1 := h2 (n + 1) (by omega) (by omega)); (have hl1 := hR1.1); (obtain ⟨T', e1, e2⟩ := go _ rfl)
       refine ⟨T', fit e1 fun k => ?_, e2⟩
       rw [impl_costs.l1]
       refine (if_pos (by omega)).trans ((if_neg (by omega)).trans ((if_neg (by omega)).trans ((if_pos (by rw [en]; omega)).trans ((if_pos (by rw [en]; omega)).trans ((if_pos (by rw [em]; omega)).trans ((if_pos (by rw [em, en, hr1]; omega)).trans ((if_pos (by omega)).trans ((if_pos (by omega)).trans ((if_pos (by omega)).trans ((if_pos (by omega)).trans (?_)))))))))))
       by_cases hbt : bt a (n : Int) = bt b (m : Int)
       ·-- the same byte
        refine (if_pos (by exact hbt)).trans ((if_pos (by omega)).trans ((if_pos (by rw [en, hr1]; omega)).trans ((if_pos (by rw [em, hr]; omega)).trans ((if_pos (by rw [hr]; omega)).trans (?_)))))
        (have hb1 := D_le a b ha hb (n + 1) (m + 1)); (have hb2 := D_le a b ha hb (n + 1) m); (have hb3 := D_le a b ha hb n (m + 1)); (have q1 : rd (T.getD (n + 1) []) ((m + 1 : Nat) : Int) = (D_ a b (n + 1) (m + 1) : Int) := by unfold rd; rw [Int.toNat_natCast]; exact hR1.2 _ (by omega) (by omega)); (have q2 : rd (T.getD (n + 1) []) (m : Int) = (D_ a b (n + 1) m : Int) := by unfold rd; rw [Int.toNat_natCast]; exact hR1.2 _ (by omega) (by omega)); (have q3 : rd (T.getD n []) ((m + 1 : Nat) : Int) = (D_ a b n (m + 1) : Int) := by unfold rd; rw [Int.toNat_natCast]; exact h3.2 _ (by omega) (by omega)); (have p2 : wrap64 ((D_ a b (n + 1) m : Int) + 1) = ((D_ a b (n + 1) m + 1 : Nat) : Int) := by rw [w1 _ (by omega) (by omega)]; omega); (have p3 : wrap64 ((D_ a b n (m + 1) : Int) + 1) = ((D_ a b n (m + 1) + 1 : Nat) : Int) := by rw [w1 _ (by omega) (by omega)]; omega); (have hst := D_step a b n m hn1 hm1); (rw [if_pos hbt] at hst); (rw [en, em, hr1, hr, q1, q2, q3, p2, p3, mn_eq, mn_eq, ← hst, w1 ((m : Int) - 1) (by omega) (by omega), Int.toNat_natCast, Int.toNat_natCast])
       ·-- two bytes
        refine (if_neg (by exact hbt)).trans ((if_pos (by omega)).trans ((if_pos (by rw [en, hr1]; omega)).trans ((if_pos (by rw [em, hr]; omega)).trans ((if_pos (by rw [hr]; omega)).trans (?_)))))
        (have hb1 := D_le a b ha hb (n + 1) (m + 1)); (have hb2 := D_le a b ha hb (n + 1) m); (have hb3 := D_le a b ha hb n (m + 1)); (have q1 : rd (T.getD (n + 1) []) ((m + 1 : Nat) : Int) = (D_ a b (n + 1) (m + 1) : Int) := by unfold rd; rw [Int.toNat_natCast]; exact hR1.2 _ (by omega) (by omega)); (have q2 : rd (T.getD (n + 1) []) (m : Int) = (D_ a b (n + 1) m : Int) := by unfold rd; rw [Int.toNat_natCast]; exact hR1.2 _ (by omega) (by omega)); (have q3 : rd (T.getD n []) ((m + 1 : Nat) : Int) = (D_ a b n (m + 1) : Int) := by unfold rd; rw [Int.toNat_natCast]; exact h3.2 _ (by omega) (by omega)); (have p1 : wrap64 ((D_ a b (n + 1) (m + 1) : Int) + 1) = ((D_ a b (n + 1) (m + 1) + 1 : Nat) : Int) := by rw [w1 _ (by omega) (by omega)]; omega); (have p2 : wrap64 ((D_ a b (n + 1) m : Int) + 1) = ((D_ a b (n + 1) m + 1 : Nat) : Int) := by rw [w1 _ (by omega) (by omega)]; omega); (have p3 : wrap64 ((D_ a b n (m + 1) : Int) + 1) = ((D_ a b n (m + 1) + 1 : Nat) : Int) := by rw [w1 _ (by omega) (by omega)]; omega); (have hst := D_step a b n m hn1 hm1); (rw [if_neg hbt] at hst); (rw [en, em, hr1, hr, q1, q2, q3, p1, p2, p3, mn_eq, mn_eq, ← hst, w1 ((m : Int) - 1) (by omega) (by omega), Int.toNat_natCast, Int.toNat_natCast])
   (have e0 : ((n + 1 : Nat) : Int) - 1 = (n : Int) := by omega); (rw [e0]); (have hl := hT.1)
   obtain ⟨T', e1, e2⟩ := inner (b.size + 1) (Nat.le_refl _) (T.set n (List.replicate (b.size + 1) 0)) (by simpa using hl) (fun i hi hi' => by rw [row_ne (by omega)]; exact hT.2 i (by omega) hi') (by
    rw [row_get (m := 0) (by omega)]
    exact ⟨by simp, fun j hj hj' => by omega⟩)
   refine ⟨T', Ev.step (f := fun k => impl_costs.l1 k a b (T.set n (List.replicate (b.size + 1) 0)) (n : Int) (((b.size + 1 : Nat) : Int) - 1)) (fun k => ?_) e1, e2⟩
   (rw [impl_costs.l0]); (have ew : wrap64 ((b.size : Int) + 1) = ((b.size + 1 : Nat) : Int) := by rw [w1 _ (by omega) (by omega)]; omega)
   refine (if_pos (by omega)).trans ((if_pos (by rw [ew]; omega)).trans ((if_pos (by rw [ew]; omega)).trans ((if_pos (by omega)).trans ((if_pos (by omega)).trans ?_))))
   rw [ew, Int.toNat_natCast, Int.toNat_natCast, show ((b.size + 1 : Nat) : Int) - 1 = (b.size : Int) by omega]
 obtain ⟨T', e1, e2⟩ := outer (a.size + 1) (Nat.le_refl _) (List.replicate (a.size + 1) []) ⟨by simp, fun i hi hi' => by omega⟩
 refine ⟨T', ?_, e2⟩
 have ew : wrap64 ((a.size : Int) + 1) = ((a.size + 1 : Nat) : Int) := by rw [w1 _ (by omega) (by omega)]; omega
 have e : (fun k => impl_costs.f k a b) = fun k => impl_costs.l0 k a b (List.replicate (a.size + 1) []) (((a.size + 1 : Nat) : Int) - 1) := funext fun k => by
  unfold impl_costs.f
  rw [ew]
  refine (if_pos (by omega)).trans ((if_pos (by omega)).trans ?_)
  rw [Int.toNat_natCast, show ((a.size + 1 : Nat) : Int) - 1 = (a.size : Int) by omega]
 rw [e]
 exact e1
end
end Go.Proofs.YtfeikakkfnnaoaaGreatDoor.V
namespace Go.Proofs.YtfeikakkfnnaoaaGreatDoor.V
open Go Go.RowKit Go.Proofs.YtfeikakkfnnaoaaGreatDoor.L Go.Proofs.YtfeikakkfnnaoaaGreatDoor.QA Go.Proofs.YtfeikakkfnnaoaaGreatDoorW.PrintWords Go.Proofs.YtfeikakkfnnaoaaGreatDoorW.PrintLast Go.Proofs.YtfeikakkfnnaoaaGreatDoorW.PrintMore
set_option linter.unusedVariables false
set_option linter.unusedSimpArgs false
theorem capped_ev (a b : ByteArray) (ha : a.size ≤ 32) (hb : b.size ≤ 32) : Ev (fun k => c112 k [.v (.string a), .v (.string b)]) ((min 7 (D_ a b 0 0) : Nat) : Int) := by
 refine Ev.step (f := fun k => impl_Capped.f k a b) (fun k => by kernel_rfl) ?_
 (obtain ⟨T, e1, h1, h2⟩ := costs_ok a b ha hb); (have h3 := h2 0 (Nat.le_refl _) (Nat.zero_le _))
 have e2 : (fun k => impl_Capped.f k a b) = fun k => (impl_costs.f k a b).bind fun t => (if 0 < (t.length : Int) then (if 0 < ((rd_L3 t 0).length : Int) then (some (mn 7 (rd (rd_L3 t 0) 0))) else (none)) else (none)) := funext fun k => by
  unfold impl_Capped.f
  have e : impl_areShort.f a b = some true := by
   unfold impl_areShort.f
   rw [if_pos (by omega), decide_eq_true (show (b.size : Int) ≤ 32 by omega)]
  rw [e, Option.bind_some]
  exact if_pos rfl
 rw [e2]
 refine Ev.bind e1 ?_
 (have h4 : rd_L3 T 0 = T.getD 0 [] := rfl); (have h5 : rd (T.getD 0 []) 0 = (D_ a b 0 0 : Int) := h3.2 0 (Nat.le_refl _) (Nat.zero_le _)); (rw [h4, if_pos (by omega), if_pos (by rw [h3.1]; omega), h5])
 refine evVal (Ev.now _) ?_
 exact mn_eq 7 _
theorem capped_zero (a b : ByteArray) : decide (((min 7 (D_ a b 0 0) : Nat) : Int) ≤ 0) = eqS a b := by
 rw [Bool.eq_iff_iff, decide_eq_true_eq, eqS_iff]
 have h : D_ a b 0 0 = 0 ↔ a = b := by
  unfold D_
  rw [List.drop_zero, List.drop_zero, lev_zero]
  exact ⟨bytes_ext, fun h => by rw [h]⟩
 constructor
 ·intro h1; exact h.1 (by omega)
 ·intro h1; have := h.2 h1; omega
abbrev Rc := S43
theorem cloneR_ev (l : List Rc) (hl : l.length ≤ 1000) : Ev (fun k => c192 k [.ro 43 l]) l := by
 refine Ev.step (f := fun k => e192 k [.ro 43 l]) (fun k => by kernel_rfl) ⟨0, fun k _ => ?_⟩
 show cond (appOk ([] : List Rc) l 40) (some l) none = some l
 rw [appOk_of (by simp only [List.length_nil]; omega)]; rfl
theorem rank1_ev (r : Rc) : Ev (fun k => c152 k [.ro 43 [r]]) [r] := by
 (have hs : Ev (fun k => c180 k [.v (.int .i64 1)]) 1 := Ev.st (fun k => g180_eq k 1) (E4.bind (within_ev 1 0 64) (E4.cf rfl (E4.e1 (F := fun k m _ _ => L180_1 k m 1 1) (E4.s1 (fun k m n p => L180_1_eq k m _ _) (E4.cf rfl E4.now)))))); (have hn : Ev (fun k => c182 k [.v (.int .i64 1)]) ((1, []) : Int × List S191) := Ev.st (fun k => g182_eq k 1) (E4.e1 (F := fun k m _ _ => L182_1 k m 1 2 []) (E4.s1 (fun k m n p => L182_1_eq k m _ _ _) (E4.cf rfl E4.now)))); (have hb : Ev (fun k => c181 k [.agg [.v (.int .i64 1), .ro 191 []], .ro 43 [r]]) [r] := Ev.st (fun k => g181_eq k 1 [] [r]) (E4.bind (cloneR_ev [r] (by simp)) (E4.e1 (F := fun k m _ _ => L181_1 k m [] 0 0 [r]) (E4.s1 (fun k m n p => L181_1_eq k m _ _ _ _) (E4.cf rfl E4.now)))))
 exact Ev.st (fun k => g152_eq k [r]) (E4.bind hs (E4.ck (mkOk_of (by omega) (by omega) (by omega)) (E4.bind hn (E4.bind hb (E4.ck (cutOk_of (by omega) (by simp) (by simp)) E4.now)))))
theorem recs1_ev (n : Int) (w : ByteArray) (hn : 0 ≤ n ∧ n ≤ 65535) (hw : wordB w = true) : Ev (fun k => c151 k [.ro 43 [⟨true, 0, n, w⟩]]) true := by
 have hws := wordB_size hw
 have hr : Ev (fun k => c155 k [.agg [.v (.bool true), .v (.int .i64 0), .v (.int .i64 n), .v (.string w)]]) true := by
  refine Ev.st (fun k => g155_eq k true 0 n w) (E4.gt rfl (within_ev 0 0 7) (E4.gt rfl (within_ev n 0 65535) ?_))
  rw [decide_eq_true hn]
  exact E4.gt rfl (isWord_ev' w (by omega)) (E4.now.val (by rw [hw]; rfl))
 have hf : Ev (fun k => c179 k [.agg [.v (.bool true), .v (.int .i64 0), .v (.int .i64 n), .v (.string w)]]) false := Ev.st (fun k => g179_eq k true 0 n w) (E4.bind hr E4.now)
 have hi : Ev (fun k => c185 k [.ro 43 [⟨true, 0, n, w⟩], .cl 179 []]) (-1) := by
  refine Ev.st (fun k => g185_1_eq k [⟨true, 0, n, w⟩]) (E4.e1 (F := fun k m _ _ => L185_1_1 k m [⟨true, 0, n, w⟩] 1 0) ?_)
  refine E4.s1 (fun k m n p => L185_1_1_eq k m _ _ _) (E4.ct rfl (E4.ck rfl (E4.bind hf (E4.cf rfl ?_))))
  exact E4.s1 (fun k m n p => L185_1_1_eq k m _ _ _) (E4.cf rfl E4.now)
 have hc : Ev (fun k => c157 k [.ro 43 [⟨true, 0, n, w⟩], .cl 179 []]) false := Ev.st (fun k => g157_1_eq k [⟨true, 0, n, w⟩]) (E4.bind hi E4.now)
 exact Ev.st (fun k => g151_eq k [⟨true, 0, n, w⟩]) (E4.gt rfl hc E4.now)
theorem top1_ev (n : Int) (w : ByteArray) (hn : 0 ≤ n ∧ n ≤ 65535) (hw : wordB w = true) : Ev (fun k => c113 k [.ro 43 [⟨true, 0, n, w⟩], .v (.int .i64 1)]) [⟨true, 0, n, w⟩] :=
 Ev.st (fun k => g113_eq k [⟨true, 0, n, w⟩] 1) (E4.bind (recs1_ev n w hn hw) (E4.gt rfl (within_ev 1 0 8) (E4.cf rfl (E4.ck (mkOk_of (by omega) (by omega) (by omega)) (E4.bind (rank1_ev _) E4.now)))))
theorem top_ev (a b c d : Int) (l : List En) (w : ByteArray) (n : Int) (hl : Sm l) (hb : bookB a b c d l = true) (hw : wordB w = true) (hf : foundB l w = true) (hn : (l.getD (lbW l w) (⟨⟨#[]⟩, 0⟩ : En)).f1 = n) :
  Ev (fun k => c13 k [bkA a b c d l, .v (.string w), .v (.int .i64 0), .v (.int .i64 1)]) ([⟨true, 0, n, w⟩] ++ List.replicate 7 (⟨false, 0, 0, ⟨#[]⟩⟩ : Rc)) := by
 (obtain ⟨_, _, hr, _⟩ := book_parts hb); (have hA := asc_of hr); (have hE := ents_of hr); (have hlm := hl.1); (have hws := wordB_size hw); (have hf' := hf)
 unfold foundB at hf'
 (rw [Bool.and_eq_true, decide_eq_true_eq, eqS_iff] at hf'); (obtain ⟨hp, hpw⟩ := hf'); (have hent : entB (l.getD (lbW l w) (⟨⟨#[]⟩, 0⟩ : En)) = true := by rw [getD_lt hp _]; exact hE _ (List.getElem_mem hp))
 have hnr : 0 ≤ n ∧ n ≤ 65535 := by
  unfold entB at hent
  rw [Bool.and_eq_true, decide_eq_true_eq, hn] at hent
  exact hent.2
 -- only at one place
 have only : ∀ i, i < l.length → eqS w (l.getD i (⟨⟨#[]⟩, 0⟩ : En)).f0 = decide (i = lbW l w) := fun i hi => by
  by_cases e : i = lbW l w
  ·subst e; rw [hpw, eqS_refl]; exact (decide_eq_true rfl).symm
  ·rw [decide_eq_false e]
   cases he : eqS w (l.getD i (⟨⟨#[]⟩, 0⟩ : En)).f0 with
   | false => rfl
   | true =>
    have h1 := (eqS_iff _ _).1 he
    rcases Nat.lt_or_gt_of_ne e with h2 | h2
    ·have := hA i (lbW l w) h2 hp
     rw [hpw, ← h1, lessB_irrefl] at this; cases this
    ·have := hA (lbW l w) i h2 hi
     rw [hpw, ← h1, lessB_irrefl] at this; cases this
 have hlist : Ev (fun k => c59 k [.ro 83 l, .v (.string w), .v (.int .i64 0), .v (.int .i64 1)]) ([⟨true, 0, n, w⟩] ++ List.replicate 7 (⟨false, 0, 0, ⟨#[]⟩⟩ : Rc)) := by
  refine Ev.st (fun k => g59_eq k l w 0 1) ?_
  have := loop4 (r := [⟨true, 0, n, w⟩] ++ List.replicate 7 (⟨false, 0, 0, ⟨#[]⟩⟩ : Rc)) l.length (fun i k m _ _ => L59_1 k m w 0 1 l (l.length : Int) (i : Int) (if lbW l w < i then [(⟨true, 0, n, w⟩ : Rc)] else [])) ?_ ?_
  ·rw [if_neg (by omega)] at this
   exact this.e1
  ·intro i hi hr'
   have hwi : wordB (l.getD i (⟨⟨#[]⟩, 0⟩ : En)).f0 = true := by
    have := hE _ (List.getElem_mem hi)
    unfold entB at this
    (rw [Bool.and_eq_true] at this); (rw [getD_lt hi _]; exact this.1)
   have hwz := wordB_size hwi
   refine E4.s1 (fun k m n p => L59_1_eq k m _ _ _ _ _ _ _) (E4.ct (decide_eq_true (by omega)) (E4.ck (inB_of (by omega) (by omega)) ?_))
   simp only [Int.toNat_natCast, J59_2_eq, J59_3_eq]
   refine E4.bind (capped_ev w _ (by omega) (by omega)) ?_
   rw [capped_zero, only i hi, w64_succ (i := i) (by omega)]
   by_cases e : i = lbW l w
   ·rw [decide_eq_true e]
    have hz : ((min 7 (D_ w (l.getD i (⟨⟨#[]⟩, 0⟩ : En)).f0 0 0) : Nat) : Int) = 0 := by
     (have := capped_zero w (l.getD i (⟨⟨#[]⟩, 0⟩ : En)).f0); (rw [only i hi, decide_eq_true e, decide_eq_true_eq] at this)
     omega
    (rw [hz]); (rw [if_pos (show lbW l w < i + 1 by omega)] at hr'); (have e2 : (l.getD i (⟨⟨#[]⟩, 0⟩ : En)).f0 = w := by rw [e]; exact hpw); (have e3 : (l.getD i (⟨⟨#[]⟩, 0⟩ : En)).f1 = n := by rw [e]; exact hn); (rw [if_neg (show ¬ lbW l w < i by omega), e2, e3])
    exact E4.ct rfl (E4.ck (appOk_of (by simp only [List.length_cons, List.length_nil]; omega)) hr')
   ·rw [decide_eq_false e]
    have e4 : (if lbW l w < i + 1 then [(⟨true, 0, n, w⟩ : Rc)] else []) = (if lbW l w < i then [(⟨true, 0, n, w⟩ : Rc)] else []) := by
     by_cases h : lbW l w < i
     ·rw [if_pos h, if_pos (by omega)]
     ·rw [if_neg h, if_neg (by omega)]
    rw [e4] at hr'
    exact E4.cf rfl hr'
  ·refine E4.s1 (fun k m n p => L59_1_eq k m _ _ _ _ _ _ _) (E4.cf (decide_eq_false (by omega)) ?_)
   rw [if_pos hp]
   refine E4.bind (top1_ev n w hnr hw) ?_
   (have e8 : w64 ((8 : Int) - 1) = 7 := w64_id (by omega) (by omega)); (rw [e8])
   refine E4.ck ?_ E4.now
   rw [appOk_of (by simp)]; rfl
 refine Ev.st (fun k => g13_eq k a b c d l w 0 1) (E4.bind (isBook_ev a b c d l hl) ?_)
 rw [hb]
 refine E4.gt rfl (isWord_ev' w (by omega)) ?_
 rw [hw]
 exact E4.gt rfl (within_ev 0 0 3) (E4.gt rfl (within_ev 1 0 8) (E4.cf rfl (E4.bind hlist E4.now)))
theorem law_main (y : List Int) (hy : y.length ≤ 1048576) {a b c d : Int} {l : List En} {x0 : Int} {s : ByteArray} {x2 x3 x4 x5 : Int} {x6 : ByteArray} {n : Int}
  (hd : Ev (fun k => c8 k [.ro 5 y]) (a, b, c, d, l, x0, s, x2, x3, x4, x5, x6)) (hl : Sm l) (hll : l.length ≤ 900000) (hs : s.size ≤ 1000000) (hp : Ev (fun k => c9 k [.ro 5 y, .v (.int .i64 3), .v (.int .i64 65536)]) n) :
  Ev (fun k => c3 k [.ro 5 y]) true := by
 have hbig : Ev (fun k => c7 k [.ro 5 y]) false := Ev.st (fun k => g7_eq k y) (E4.now.val (decide_eq_false (by omega)))
 refine Ev.st (fun k => g3_eq k y) (E4.bind hbig (E4.cf rfl (E4.bind hd (E4.bind hp ?_))))
 refine E4.bind (specAdd_ev a b c d l ⟨3, s, n, 0, 0, 0, ⟨#[]⟩⟩ rfl hl hs) (E4.bind (implAdd_ev a b c d l ⟨3, s, n, 0, 0, 0, ⟨#[]⟩⟩ rfl hl hs) ?_)
 unfold addT
 cases hb : bookB a b c d l with
 | false => exact E4.ct rfl E4.now
 | true =>
  cases hq : reqB (⟨3, s, n, 0, 0, 0, ⟨#[]⟩⟩ : Rq) with
  | false => exact E4.ct rfl E4.now
  | true =>
   by_cases h0 : addS a b d l s n = 0
   ·-- it is added
    (obtain ⟨z1, z2, z3, z4, z5⟩ := add_zero h0); (have hw := foldS_word z1); (have hff := fold_word hw)
    have hsz : s.size ≤ 100 := by
     unfold reqB at hq
     simp only [Bool.and_eq_true, decide_eq_true_eq] at hq
     exact hq.2.1
    (have hws := foldS_small s); (have hb2 := ins_book hb h0); (have hl2 : Sm (insL l ⟨foldS s, n⟩) := ins_sm hl (by omega) (by show (foldS s).size ≤ 1000000; omega)); (have f1 : foundB (insL l ⟨foldS s, n⟩) (foldS s) = true := ins_found l ⟨foldS s, n⟩); (have p1 : lbW (insL l ⟨foldS s, n⟩) (foldS s) = lbW l (foldS s) := lb_in l ⟨foldS s, n⟩); (have g1 : (insL l ⟨foldS s, n⟩).getD (lbW l (foldS s)) (⟨⟨#[]⟩, 0⟩ : En) = ⟨foldS s, n⟩ := ins_at l ⟨foldS s, n⟩); (have o1 : (insL l ⟨foldS s, n⟩).take (lbW l (foldS s)) ++ (insL l ⟨foldS s, n⟩).drop (lbW l (foldS s) + 1) = l := ins_out l ⟨foldS s, n⟩); (have z1' : eqS (foldS (foldS s)) ⟨#[]⟩ = false := by rw [hff]; exact z1); (have hchk := check_ev a b c d (insL l ⟨foldS s, n⟩) s hl2 hb2 hsz z1); (have htop := top_ev a b c d (insL l ⟨foldS s, n⟩) (foldS s) n hl2 hb2 hw f1 (by rw [p1, g1])); (have hdrp := drop_ev a b c d (insL l ⟨foldS s, n⟩) (foldS s) hl2 hb2 (by omega) z1' (by rw [hff]; exact f1)); (have hchk2 := check_ev a b c d l (foldS s) hl hb (by omega) z1'); (rw [f1, p1, g1] at hchk); (rw [hff, p1, o1] at hdrp); (rw [hff, z3] at hchk2); (have e0 : (addS a b d l s n == 0) = true := by rw [h0]; rfl); (simp only [e0, cond_true])
    refine E4.cf rfl (E4.bind (sfold_ev s (by omega)) (E4.bind hchk (E4.bind htop (E4.bind hdrp (E4.bind hchk2 ?_)))))
    have en : (n != n) = false := by simp
    refine E4.cf (by simp) (E4.ck rfl ?_)
    (have t1 : (n == n) = true := by simp); (have t2 := beqB_self (foldS s)); (have t3 := beqB_self ⟨#[]⟩)
    refine E4.ckg (fun _ => rfl) (E4.gt ?_ (same_ev l hl) (E4.now.val ?_))
    ·show (true == true && ((0 : Int) == 0 && (n == n && foldS s == foldS s)) && (false == false && ((0 : Int) == 0 && ((0 : Int) == 0 && (⟨#[]⟩ : ByteArray) == ⟨#[]⟩)))) = true
     rw [t1, t2, t3]; rfl
    ·show ((true == true && ((0 : Int) == 0 && (n == n && foldS s == foldS s)) && (false == false && ((0 : Int) == 0 && ((0 : Int) == 0 && (⟨#[]⟩ : ByteArray) == ⟨#[]⟩)))) && true) = true
     rw [t1, t2, t3]; rfl
   ·have e0 : (addS a b d l s n == 0) = false := by simpa using h0
    simp only [e0, cond_false, cond_true]
    refine E4.ct ?_ (E4.now.val ?_)
    ·show ((addS a b d l s n != addS a b d l s n) || (addS a b d l s n != 0)) = true
     (have : (addS a b d l s n != 0) = true := by simpa using h0); (rw [this, Bool.or_true])
    ·show (addS a b d l s n == addS a b d l s n) = true
     simp
end Go.Proofs.YtfeikakkfnnaoaaGreatDoor.V
namespace Go.Proofs.YtfeikakkfnnaoaaGreatDoor.V
open Go Go.RowKit Go.Proofs.YtfeikakkfnnaoaaGreatDoorW.PrintWords Go.Proofs.YtfeikakkfnnaoaaGreatDoorW.PrintLast Go.Proofs.YtfeikakkfnnaoaaGreatDoorW.PrintMore
set_option linter.unusedVariables false
set_option linter.unusedSimpArgs false
def T4 {α : Type} (F : Nat → Nat → Nat → Nat → Option α) (Q : α → Prop) : Prop := ∃ r, Q r ∧ E4 F r
def Tt {α : Type} (f : Nat → Option α) (Q : α → Prop) : Prop := ∃ r, Q r ∧ Ev f r
section
variable {α β : Type} {F G : Nat → Nat → Nat → Nat → Option α} {c f : Nat → Option α} {h : Nat → Option β} {Q R : α → Prop} {S : β → Prop} {b g : Bool} {d : β}
theorem T4.now {r : α} (h : Q r) : T4 (fun _ _ _ _ => some r) Q := ⟨r, h, E4.now⟩
theorem T4.mono (h : T4 F Q) (hQ : ∀ r, Q r → R r) : T4 F R := h.elim fun r hr => ⟨r, hQ r hr.1, hr.2⟩
theorem Tt.mono (h : Tt f Q) (hQ : ∀ r, Q r → R r) : Tt f R := h.elim fun r hr => ⟨r, hQ r hr.1, hr.2⟩
theorem Tt.st (e : ∀ k, c (k + 1) = f k) (h : T4 (fun k _ _ _ => f k) Q) : Tt c Q := h.elim fun r hr => ⟨r, hr.1, Ev.st e hr.2⟩
theorem Tt.of {r : α} (h : Ev f r) (hQ : Q r) : Tt f Q := ⟨r, hQ, h⟩
theorem T4.eq (e : ∀ k m n p, F k m n p = G k m n p) (h : T4 G Q) : T4 F Q := h.elim fun r hr => ⟨r, hr.1, E4.eq e hr.2⟩
theorem T4.s1 (e : ∀ k m n p, F k (m + 1) n p = G k m n p) (h : T4 G Q) : T4 F Q := h.elim fun r hr => ⟨r, hr.1, E4.s1 e hr.2⟩
theorem T4.s2 (e : ∀ k m n p, F k m (n + 1) p = G k m n p) (h : T4 G Q) : T4 F Q := h.elim fun r hr => ⟨r, hr.1, E4.s2 e hr.2⟩
theorem T4.e1 (h : T4 F Q) : T4 (fun k m n p => F k k n p) Q := h.elim fun r hr => ⟨r, hr.1, hr.2.e1⟩
theorem T4.e2 (h : T4 F Q) : T4 (fun k m n p => F k m k p) Q := h.elim fun r hr => ⟨r, hr.1, hr.2.e2⟩
theorem T4.bind {f : Nat → Nat → Nat → Nat → β → Option α} (hg : Tt h S) (hf : ∀ r, S r → T4 (fun k m n p => f k m n p r) Q) : T4 (fun k m n p => (h k).bind (f k m n p)) Q := by
 (obtain ⟨r, h1, h2⟩ := hg); (obtain ⟨x, h3, h4⟩ := hf r h1)
 exact ⟨x, h3, E4.bind h2 h4⟩
theorem T4.gc {f : Nat → Nat → Nat → Nat → β → Option α} (hg : b = true → Tt h S) (hf : ∀ r, (b = true → S r) → (b = false → r = d) → T4 (fun k m n p => f k m n p r) Q) : T4 (fun k m n p => (gcall b (h k) d).bind (f k m n p)) Q := by
 cases b
 ·exact hf d (fun h => by cases h) fun _ => rfl
 ·exact T4.bind (hg rfl) fun r hr => hf r (fun _ => hr) fun h => by cases h
theorem T4.ite (h1 : b = true → T4 G Q) (h2 : b = false → T4 F Q) : T4 (fun k m n p => cond b (G k m n p) (F k m n p)) Q := by
 cases b
 ·exact h2 rfl
 ·exact h1 rfl
theorem T4.ck (e : b = true) (h : T4 G Q) : T4 (fun k m n p => chk true b (G k m n p)) Q := by subst e; exact h
end
def Byt (l : List Int) : Prop := ∀ x, x ∈ l → 0 ≤ x ∧ x ≤ 255
theorem getD_byt {l : List Int} (h : Byt l) (i : Nat) : 0 ≤ l.getD i 0 ∧ l.getD i 0 ≤ 255 := by
 rw [List.getD_eq_getElem?_getD]
 cases e : l[i]? with
 | none => simp
 | some x => exact h x (List.mem_of_getElem? e)
def Cur (p s b : Int) : Prop := 0 ≤ p ∧ p ≤ b ∧ 0 ≤ s ∧ s ≤ 65521
theorem Cur.le {p s b b' : Int} (h : Cur p s b) (hb : b ≤ b') : Cur p s b' := ⟨h.1, Int.le_trans h.2.1 hb, h.2.2⟩
theorem tmod_range {a n : Int} (ha : 0 ≤ a) (hn : 0 < n) : 0 ≤ Int.tmod a n ∧ Int.tmod a n < n := by
 rw [Int.tmod_eq_emod_of_nonneg ha]
 exact ⟨Int.emod_nonneg _ (by omega), Int.emod_lt_of_pos _ hn⟩
abbrev cuA (c : List Int) (p s : Int) : SV DD := .pb [.ro 5 c, .v (.int .i64 p), .v (.int .i64 s)]
section
variable {c : List Int}
theorem pick_tot (hc : Byt c) (hl : c.length ≤ 1048576) {p s b : Int} (h : Cur p s b) (hb : b ≤ 4611686018427387904) (n : Int) :
  Tt (fun k => c89 k [cuA c p s, .v (.int .i64 n)]) fun r => 0 ≤ r.1 ∧ (1 ≤ n → r.1 < n) ∧ r.2.1 = c ∧ Cur r.2.2.1 r.2.2.2 (b + 1) := by
 obtain ⟨h1, h2, h3, h4⟩ := h
 refine Tt.st (fun k => g89_eq k n c p s) ?_
 (have e1 : w64 (p + 1) = p + 1 := w64_id (by omega) (by omega)); (have hs := tmod_range (a := w64 ((w64 (s * 1103)) + 12345)) (n := 65521) (by rw [w64_id (x := s * 1103) (by omega) (by omega), w64_id (by omega) (by omega)]; omega) (by omega))
 have key : ∀ x s' : Int, 0 ≤ x → 0 ≤ s' ∧ s' ≤ 65521 → 2 ≤ n → T4 (fun k _ _ _ => J89_1 k n x c p s') fun r => 0 ≤ r.1 ∧ (1 ≤ n → r.1 < n) ∧ r.2.1 = c ∧ Cur r.2.2.1 r.2.2.2 (b + 1) := fun x s' hx hs' hn => by
  have ht := tmod_range (a := x) (n := n) hx (by omega)
  refine T4.eq (fun k _ _ _ => J89_1_eq k n x c p s') (T4.ck (by simp; omega) (T4.now ⟨ht.1, fun _ => ht.2, rfl, by rw [e1]; simp; omega, by rw [e1]; simp; omega, hs'.1, hs'.2⟩))
 refine T4.ite (fun hn => ?_) (fun hn => ?_)
 ·have hn := of_decide_eq_true hn
  exact T4.now ⟨by simp, by simp; omega, rfl, h1, by simp; omega, h3, h4⟩
 have hn := of_decide_eq_false hn
 refine T4.ite (fun h5 => ?_) (fun h5 => ?_)
 ·have h5 := of_decide_eq_true h5
  have hr := getD_byt hc p.toNat
  exact T4.ck (inB_of h1 h5) (key _ _ (by rw [w64_id (by omega) (by omega)]; omega) ⟨h3, h4⟩ (by omega))
 have h5 := of_decide_eq_false h5
 refine T4.ite (fun h6 => ?_) (fun h6 => ?_)
 ·have h6 := of_decide_eq_true h6
  have hq := tmod_range (a := p) (n := (c.length : Int)) h1 h6
  refine T4.ck (by simp; intro e; rw [e] at h6; simp at h6) (T4.ck (inB_of hq.1 hq.2) (key _ _ ?_ ⟨hs.1, by omega⟩ (by omega)))
  have hr := getD_byt hc (Int.tmod p (c.length : Int)).toNat
  generalize c.getD (Int.tmod p (c.length : Int)).toNat 0 = r at hr
  generalize Int.tmod (w64 ((w64 (s * 1103)) + 12345)) 65521 = t at hs
  (rw [Int.tdiv_eq_ediv_of_nonneg hs.1]); (simp only [w64_def])
  unfold wrap64
  omega
 ·exact key _ _ (Int.le_refl _) ⟨hs.1, by omega⟩ (by omega)
theorem wide_tot (hc : Byt c) (hl : c.length ≤ 1048576) {p s b : Int} (h : Cur p s b) (hb : b ≤ 4611686018427387000) (n : Int) (hn : 1 ≤ n) :
  Tt (fun k => c135 k [cuA c p s, .v (.int .i64 n)]) fun r => 0 ≤ r.1 ∧ r.1 < n ∧ r.2.1 = c ∧ Cur r.2.2.1 r.2.2.2 (b + 3) := by
 refine Tt.st (fun k => g135_eq k n c p s) ?_
 refine T4.bind (pick_tot hc hl h (by omega) 256) ?_
 rintro ⟨x1, _, p1, s1⟩ ⟨a1, b1, rfl, c1⟩
 refine T4.bind (pick_tot hc hl c1 (by omega) 256) ?_
 rintro ⟨x2, _, p2, s2⟩ ⟨a2, b2, rfl, c2⟩
 refine T4.bind (pick_tot hc hl c2 (by omega) 256) ?_
 rintro ⟨x3, _, p3, s3⟩ ⟨a3, b3, rfl, c3⟩
 try dsimp only at *
 (have b1 := b1 (by omega); have b2 := b2 (by omega); have b3 := b3 (by omega)); (have hp : 0 ≤ w64 (w64 (w64 (65536 * x1) + w64 (256 * x2)) + x3) := by simp only [w64_def]; unfold wrap64; omega); (have ht := tmod_range (n := n) hp (by omega))
 exact T4.ck (by simp; omega) (T4.now ⟨ht.1, ht.2, rfl, c3.le (by omega)⟩)
theorem raw_tot (hc : Byt c) (hl : c.length ≤ 1048576) {p s b : Int} (h : Cur p s b) (hb : b ≤ 4611686018427387000) :
  Tt (fun k => c93 k [cuA c p s]) fun r => r.2.1 = c ∧ Cur r.2.2.1 r.2.2.2 (b + 2) := by
 refine Tt.st (fun k => g93_eq k c p s) ?_
 repeat' first
  | (refine T4.bind (pick_tot hc hl (by assumption) (by omega) _) ?_; rintro ⟨_, _, _, _⟩ ⟨_, hlt, rfl, _⟩; have hlt := hlt (by decide); dsimp only at *)
  | refine T4.ck (inB_of (by assumption) (by simp only [List.length_cons, List.length_nil]; omega)) ?_
  | refine T4.ite (fun _ => ?_) (fun _ => ?_)
  | exact T4.now ⟨rfl, Cur.le (by assumption) (by omega)⟩
theorem once_tot (hc : Byt c) (hl : c.length ≤ 1048576) {p s b : Int} (h : Cur p s b) (hb : b ≤ 4611686018427387000) (n : Int) :
  Tt (fun k => c74 k [cuA c p s, .v (.int .i64 n)]) fun r => r.2.1 = c ∧ Cur r.2.2.1 r.2.2.2 (b + 1) := by
 refine Tt.st (fun k => g74_eq k n c p s) ?_
 refine T4.bind (pick_tot hc hl h (by omega) _) ?_
 rintro ⟨_, _, _, _⟩ ⟨_, _, rfl, _⟩
 exact T4.now ⟨rfl, by assumption⟩
theorem conf_tot (hc : Byt c) (hl : c.length ≤ 1048576) {p s b : Int} (h : Cur p s b) (hb : b ≤ 4611686018427380000) :
  Tt (fun k => c132 k [cuA c p s]) fun r => r.2.2.2.2.1 = c ∧ Cur r.2.2.2.2.2.1 r.2.2.2.2.2.2 (b + 6) := by
 refine Tt.st (fun k => g132_eq k c p s) ?_
 repeat' first
  | (refine T4.bind (pick_tot hc hl (by assumption) (by omega) _) ?_; rintro ⟨_, _, _, _⟩ ⟨_, hlt, rfl, _⟩; have hlt := hlt (by decide); dsimp only at *)
  | (refine T4.bind (wide_tot hc hl (by assumption) (by omega) _ (by decide)) ?_; rintro ⟨_, _, _, _⟩ ⟨_, _, rfl, _⟩; dsimp only at *)
  | refine T4.ck (inB_of (by assumption) (by simp only [List.length_cons, List.length_nil]; omega)) ?_
  | refine T4.ite (fun _ => ?_) (fun _ => ?_)
  | exact T4.now ⟨rfl, Cur.le (by assumption) (by omega)⟩
theorem key_tot (hc : Byt c) (hl : c.length ≤ 1048576) {p s b : Int} (h : Cur p s b) (hb : b ≤ 4611686018427380000) :
  Tt (fun k => c133 k [cuA c p s]) fun r => r.2.1 = c ∧ Cur r.2.2.1 r.2.2.2 (b + 7) := by
 refine Tt.st (fun k => g133_eq k c p s) ?_
 repeat' first
  | (refine T4.bind (pick_tot hc hl (by assumption) (by omega) _) ?_; rintro ⟨_, _, _, _⟩ ⟨_, hlt, rfl, _⟩; have hlt := hlt (by decide); dsimp only at *)
  | (refine T4.bind (wide_tot hc hl (by assumption) (by omega) _ (by decide)) ?_; rintro ⟨_, _, _, _⟩ ⟨_, _, rfl, _⟩; dsimp only at *)
  | (refine T4.bind (raw_tot hc hl (by assumption) (by omega)) ?_; rintro ⟨_, _, _, _⟩ ⟨rfl, _⟩; dsimp only at *)
  | refine T4.ck (inB_of (by assumption) (by simp only [List.length_cons, List.length_nil]; omega)) ?_
  | refine T4.ite (fun _ => ?_) (fun _ => ?_)
  | exact T4.now ⟨rfl, Cur.le (by assumption) (by omega)⟩
theorem log_tot (hc : Byt c) (hl : c.length ≤ 1048576) {p s b : Int} (h : Cur p s b) (hb : b ≤ 4611686018427380000) :
  Tt (fun k => c134 k [cuA c p s]) fun r => r.2.1 = c ∧ Cur r.2.2.1 r.2.2.2 (b + 6) := by
 refine Tt.st (fun k => g134_eq k c p s) ?_
 repeat' first
  | (refine T4.bind (pick_tot hc hl (by assumption) (by omega) _) ?_; rintro ⟨_, _, _, _⟩ ⟨_, hlt, rfl, _⟩; have hlt := hlt (by decide); dsimp only at *)
  | (refine T4.bind (raw_tot hc hl (by assumption) (by omega)) ?_; rintro ⟨_, _, _, _⟩ ⟨rfl, _⟩; dsimp only at *)
  | refine T4.ck (inB_of (by assumption) (by simp only [List.length_cons, List.length_nil]; omega)) ?_
  | refine T4.ite (fun _ => ?_) (fun _ => ?_)
  | exact T4.now ⟨rfl, Cur.le (by assumption) (by omega)⟩
theorem badConf_tot (hc : Byt c) (hl : c.length ≤ 1048576) {p s b : Int} (h : Cur p s b) (hb : b ≤ 4611686018427370000) :
  Tt (fun k => c90 k [cuA c p s]) fun r => r.2.2.2.2.1 = c ∧ Cur r.2.2.2.2.2.1 r.2.2.2.2.2.2 (b + 20) := by
 refine Tt.st (fun k => g90_eq k c p s) ?_
 repeat' first
  | (refine T4.bind (conf_tot hc hl (by assumption) (by omega)) ?_; rintro ⟨_, _, _, _, _, _, _⟩ ⟨rfl, _⟩; dsimp only at *)
  | (refine T4.bind (pick_tot hc hl (by assumption) (by omega) _) ?_; rintro ⟨_, _, _, _⟩ ⟨_, hlt, rfl, _⟩; have hlt := hlt (by decide); dsimp only at *)
  | (refine T4.bind (key_tot hc hl (by assumption) (by omega)) ?_; rintro ⟨_, _, _, _⟩ ⟨rfl, _⟩; dsimp only at *)
  | (refine T4.bind (log_tot hc hl (by assumption) (by omega)) ?_; rintro ⟨_, _, _, _⟩ ⟨rfl, _⟩; dsimp only at *)
  | (refine T4.bind (raw_tot hc hl (by assumption) (by omega)) ?_; rintro ⟨_, _, _, _⟩ ⟨rfl, _⟩; dsimp only at *)
  | refine T4.ck (inB_of (by assumption) (by simp only [List.length_cons, List.length_nil]; omega)) ?_
  | refine T4.ite (fun _ => ?_) (fun _ => ?_)
  | exact T4.now ⟨rfl, Cur.le (by assumption) (by omega)⟩
theorem strB_size (xs : List Int) : (strB xs).size = xs.length := by
 show (List.toArray _).size = _
 simp
theorem getD_size {l : List ByteArray} {m : Nat} (h : ∀ x, x ∈ l → x.size ≤ m) (i : Nat) : (l.getD i (⟨#[]⟩ : ByteArray)).size ≤ m := by
 rw [List.getD_eq_getElem?_getD]
 cases e : l[i]? with
 | none => exact Nat.zero_le _
 | some x => exact h x (List.mem_of_getElem? e)
theorem extract_le (s : ByteArray) (a b : Nat) : (s.extract a b).size ≤ s.size := by rw [ByteArray.size_extract]; omega
theorem wordL_tot {c : List Int} (hc : Byt c) (hl : c.length ≤ 1048576) (n : Int) (hn : n ≤ 32) : ∀ (d : Nat) (xs : List Int) (p s b : Int), (xs.length : Int) + d = n → Cur p s b → b + 2 * d ≤ 4611686018427387000 →
  T4 (fun k m _ _ => L118_1 k m n c p s xs) fun r => r.1.size ≤ 32 ∧ r.2.1 = c ∧ Cur r.2.2.1 r.2.2.2 (b + 2 * d)
 | 0, xs, p, s, b, hd, h, hb => by
  refine T4.s1 (fun k m _ _ => L118_1_eq k m _ _ _ _ _) ?_
  exact T4.ite (fun hx => absurd (of_decide_eq_true hx) (by omega)) fun _ => T4.now ⟨by rw [strB_size]; omega, rfl, h.le (by omega)⟩
 | d + 1, xs, p, s, b, hd, h, hb => by
  refine T4.s1 (fun k m _ _ => L118_1_eq k m _ _ _ _ _) ?_
  refine T4.ite (fun _ => ?_) (fun hx => absurd (of_decide_eq_false hx) (by omega))
  refine T4.bind (pick_tot hc hl h (by omega) 3) ?_
  rintro ⟨x1, c1, p1, s1⟩ ⟨a1, b1, e1, h1⟩
  have b1 := b1 (by decide)
  try dsimp only at *
  subst e1
  refine T4.ck (inB_of a1 (by simp only [List.length_cons, List.length_nil]; omega)) ?_
  refine T4.bind (pick_tot hc hl h1 (by omega) _) ?_
  rintro ⟨x2, c2, p2, s2⟩ ⟨a2, b2, e2, h2⟩
  try dsimp only at *
  subst e2
  refine T4.ck (appOk_of (by simp only [List.length_cons, List.length_nil]; omega)) ?_
  exact (wordL_tot hc hl n hn d (xs ++ [wu8 (w64 (97 + x2))]) p2 s2 (b + 1 + 1) (by rw [List.length_append]; simp only [List.length_cons, List.length_nil]; omega) h2 (by omega)).mono fun r hr => ⟨hr.1, hr.2.1, hr.2.2.le (by omega)⟩
theorem word_tot (hc : Byt c) (hl : c.length ≤ 1048576) {p s b : Int} (h : Cur p s b) (hb : b ≤ 4611686018427380000) :
  Tt (fun k => c118 k [cuA c p s]) fun r => r.1.size ≤ 32 ∧ r.2.1 = c ∧ Cur r.2.2.1 r.2.2.2 (b + 66) := by
 refine Tt.st (fun k => g118_eq k c p s) ?_
 refine T4.bind (pick_tot hc hl h (by omega) 4) ?_
 rintro ⟨x1, c1, p1, s1⟩ ⟨a1, b1, e1, h1⟩
 have b1 := b1 (by decide)
 try dsimp only at *
 subst e1
 refine T4.ck (inB_of a1 (by simp only [List.length_cons, List.length_nil]; omega)) ?_
 have hg : 1 ≤ ([3, 5, 8, 32] : List Int).getD x1.toNat 0 ∧ ([3, 5, 8, 32] : List Int).getD x1.toNat 0 ≤ 32 := by
  obtain rfl | rfl | rfl | rfl : x1 = 0 ∨ x1 = 1 ∨ x1 = 2 ∨ x1 = 3 := by omega
  all_goals decide
 refine T4.bind (pick_tot hc hl h1 (by omega) _) ?_
 rintro ⟨x2, c2, p2, s2⟩ ⟨a2, b2, e2, h2⟩
 have b2 := b2 hg.1
 try dsimp only at *
 (subst e2); (have ew : w64 (1 + x2) = 1 + x2 := w64_id (by omega) (by omega)); (rw [ew]); (obtain ⟨d, hd⟩ : ∃ d : Nat, (d : Int) = 1 + x2 := ⟨(1 + x2).toNat, by omega⟩)
 exact (wordL_tot hc hl (1 + x2) (by omega) d [] p2 s2 (b + 1 + 1) (by simp only [List.length_nil]; omega) h2 (by omega)).e1.mono fun r hr => ⟨hr.1, hr.2.1, hr.2.2.le (by omega)⟩
theorem badWord_tot (hc : Byt c) (hl : c.length ≤ 1048576) {p s b : Int} (h : Cur p s b) (hb : b ≤ 4611686018427370000) :
  Tt (fun k => c92 k [cuA c p s]) fun r => r.1.size ≤ 96 ∧ r.2.1 = c ∧ Cur r.2.2.1 r.2.2.2 (b + 70) := by
 refine Tt.st (fun k => g92_eq k c p s) ?_
 refine T4.bind (word_tot hc hl h (by omega)) ?_
 rintro ⟨w, c1, p1, s1⟩ ⟨hw, e1, h1⟩
 try dsimp only at *
 subst e1
 refine T4.bind (pick_tot hc hl h1 (by omega) _) ?_
 rintro ⟨x1, c1, p1, s1⟩ ⟨a1, b1, e1, h1⟩
 have b1 := b1 (by decide)
 try dsimp only at *
 subst e1
 refine T4.ite (fun _ => ?_) fun _ => T4.ite (fun _ => ?_) fun _ => T4.ite (fun _ => ?_) fun _ => ?_
 ·have ew : w64 ((w.size : Int) + 1) = w.size + 1 := w64_id (by omega) (by omega)
  rw [ew]
  refine T4.bind (pick_tot hc hl h1 (by omega) _) ?_
  rintro ⟨x2, c2, p2, s2⟩ ⟨a2, b2, e2, h2⟩
  have b2 := b2 (by omega)
  try dsimp only at *
  subst e2
  refine T4.ck (cutOk_of (by omega) a2 (by omega)) ?_
  refine T4.bind (pick_tot hc hl h2 (by omega) _) ?_
  rintro ⟨x3, c3, p3, s3⟩ ⟨a3, b3, e3, h3⟩
  have b3 := b3 (by decide)
  try dsimp only at *
  (subst e3); (have z1 := extract_le w (0 : Int).toNat x2.toNat); (have z2 := extract_le w x2.toNat (w.size : Int).toNat); (have z3 := getD_size (l := [(⟨#[]⟩ : ByteArray), ⟨#[65]⟩, ⟨#[45]⟩, ⟨#[0]⟩, ⟨#[122, 122]⟩, ⟨#[123]⟩]) (m := 2) (by decide) x3.toNat)
  refine T4.ck (inB_of a3 (by simp only [List.length_cons, List.length_nil]; omega)) ?_
  refine T4.ck (sumOk_of (by omega)) (T4.ck (cutOk_of a2 (by omega) (by omega)) (T4.ck (sumOk_of (by rw [ByteArray.size_append]; omega)) (T4.now ⟨?_, rfl, h3.le (by omega)⟩)))
  dsimp only
  rw [ByteArray.size_append, ByteArray.size_append]; omega
 ·exact T4.now ⟨Nat.zero_le _, rfl, h1.le (by omega)⟩
 ·refine T4.ck (sumOk_of (by omega)) ?_
  refine T4.bind (pick_tot hc hl h1 (by omega) _) ?_
  rintro ⟨x2, c2, p2, s2⟩ ⟨a2, b2, e2, h2⟩
  have b2 := b2 (by decide)
  try dsimp only at *
  (subst e2); (have hz : (⟨#[97, 97, 97, 97, 97, 97, 97, 97, 97, 97, 97, 97, 97, 97, 97, 97, 97, 97, 97, 97, 97, 97, 97, 97, 97, 97, 97, 97, 97, 97, 97, 97]⟩ : ByteArray).size = 32 := rfl); (have z1 := extract_le (⟨#[97, 97, 97, 97, 97, 97, 97, 97, 97, 97, 97, 97, 97, 97, 97, 97, 97, 97, 97, 97, 97, 97, 97, 97, 97, 97, 97, 97, 97, 97, 97, 97]⟩ : ByteArray) (0 : Int).toNat x2.toNat); (rw [hz] at z1)
  refine T4.ck (cutOk_of (by omega) a2 (by rw [hz]; omega)) (T4.ck (sumOk_of (by rw [ByteArray.size_append]; omega)) (T4.now ⟨?_, rfl, h2.le (by omega)⟩))
  dsimp only
  rw [ByteArray.size_append, ByteArray.size_append]; omega
 ·exact T4.now ⟨by dsimp only; omega, rfl, h1.le (by omega)⟩
theorem textL_tot {c : List Int} (hc : Byt c) (hl : c.length ≤ 1048576) : ∀ (d : Nat) (t : ByteArray) (p s b : Int), t.size + 99 * d ≤ 1000000 → Cur p s b → b + 100 * d ≤ 4611686018427360000 →
  T4 (fun k m _ _ => L136_1 k m t (d : Int) c p s) fun r => r.1.size ≤ t.size + 99 * d ∧ r.2.1 = c ∧ Cur r.2.2.1 r.2.2.2 (b + 100 * d)
 | 0, t, p, s, b, hd, h, hb => by
  refine T4.s1 (fun k m _ _ => L136_1_eq k m _ _ _ _ _) ?_
  exact T4.ite (fun hx => absurd (of_decide_eq_true hx) (by simp)) fun _ => T4.now ⟨by dsimp only; omega, rfl, h.le (by omega)⟩
 | d + 1, t, p, s, b, hd, h, hb => by
  refine T4.s1 (fun k m _ _ => L136_1_eq k m _ _ _ _ _) ?_
  refine T4.ite (fun _ => ?_) (fun hx => absurd (of_decide_eq_false hx) (by omega))
  refine T4.bind (badWord_tot hc hl h (by omega)) ?_
  rintro ⟨w, c1, p1, s1⟩ ⟨z1, e1, h1⟩
  try dsimp only at *
  subst e1
  refine T4.ck (sumOk_of (by omega)) ?_
  refine T4.bind (pick_tot hc hl h1 (by omega) _) ?_
  rintro ⟨x2, c2, p2, s2⟩ ⟨a2, b2, e2, h2⟩
  have b2 := b2 (by decide)
  try dsimp only at *
  subst e2
  refine T4.ck (inB_of a2 (by simp only [List.length_cons, List.length_nil]; omega)) ?_
  have z3 := getD_size (l := [(⟨#[32]⟩ : ByteArray), ⟨#[10]⟩, ⟨#[32, 32]⟩, ⟨#[9, 32, 13]⟩, ⟨#[32]⟩]) (m := 3) (by decide) x2.toNat
  generalize ([(⟨#[32]⟩ : ByteArray), ⟨#[10]⟩, ⟨#[32, 32]⟩, ⟨#[9, 32, 13]⟩, ⟨#[32]⟩]).getD x2.toNat ⟨#[]⟩ = q at z3
  refine T4.ck (sumOk_of (by rw [ByteArray.size_append]; omega)) ?_
  (have ew : w64 (((d + 1 : Nat) : Int) - 1) = (d : Int) := by rw [w64_id (by omega) (by omega)]; omega); (rw [ew])
  refine (textL_tot hc hl d ((t ++ w) ++ q) p2 s2 (b + 70 + 1) (by rw [ByteArray.size_append, ByteArray.size_append]; omega) h2 (by omega)).mono fun r hr => ?_
  rw [ByteArray.size_append, ByteArray.size_append] at hr
  exact ⟨by omega, hr.2.1, hr.2.2.le (by omega)⟩
theorem text_tot (hc : Byt c) (hl : c.length ≤ 1048576) {p s b : Int} (h : Cur p s b) (hb : b ≤ 4611686018427200000) (n : Int) (hn0 : 0 ≤ n) (hn : n ≤ 1000) :
  Tt (fun k => c136 k [cuA c p s, .v (.int .i64 n)]) fun r => r.1.size ≤ 99 * n.toNat ∧ r.2.1 = c ∧ Cur r.2.2.1 r.2.2.2 (b + 1 + 100 * n) := by
 refine Tt.st (fun k => g136_eq k n c p s) ?_
 (have ew : w64 (n + 1) = n + 1 := w64_id (by omega) (by omega)); (rw [ew])
 refine T4.bind (pick_tot hc hl h (by omega) _) ?_
 rintro ⟨x1, c1, p1, s1⟩ ⟨a1, b1, e1, h1⟩
 have b1 := b1 (by omega)
 try dsimp only at *
 (subst e1); (obtain ⟨d, rfl⟩ : ∃ d : Nat, x1 = (d : Int) := ⟨x1.toNat, by omega⟩)
 refine (textL_tot hc hl d ⟨#[]⟩ p1 s1 (b + 1) (by show 0 + _ ≤ _; omega) h1 (by omega)).e1.mono fun r hr => ⟨?_, hr.2.1, hr.2.2.le (by omega)⟩
 (have h0 : (⟨#[]⟩ : ByteArray).size = 0 := rfl); (have := hr.1); (rw [h0] at this)
 omega
theorem req_tot (hc : Byt c) (hl : c.length ≤ 1048576) {p s b : Int} (h : Cur p s b) (hb : b ≤ 4611686018427100000) :
  Tt (fun k => c94 k [cuA c p s]) fun r => (r.2.1.size ≤ 1000 ∧ r.2.2.2.2.2.2.1.size ≤ 100000 ∧ 0 ≤ r.2.2.2.2.2.1 ∧ r.2.2.2.2.2.1 ≤ 16) ∧ r.2.2.2.2.2.2.2.1 = c ∧ Cur r.2.2.2.2.2.2.2.2.1 r.2.2.2.2.2.2.2.2.2 (b + 5000) := by
 refine Tt.st (fun k => g94_eq k c p s) ?_
 simp only [J94_1_eq, J94_2_eq, J94_3_eq, J94_4_eq]
 repeat' first
  | (refine T4.bind (pick_tot hc hl (by assumption) (by omega) _) ?_; rintro ⟨_, _, _, _⟩ ⟨_, hlt, rfl, _⟩; have hlt := hlt (by decide); try dsimp only at *)
  | (refine T4.bind (wide_tot hc hl (by assumption) (by omega) _ (by decide)) ?_; rintro ⟨_, _, _, _⟩ ⟨_, _, rfl, _⟩; try dsimp only at *)
  | (refine T4.bind (word_tot hc hl (by assumption) (by omega)) ?_; rintro ⟨_, _, _, _⟩ ⟨_, rfl, _⟩; try dsimp only at *)
  | (refine T4.bind (badWord_tot hc hl (by assumption) (by omega)) ?_; rintro ⟨_, _, _, _⟩ ⟨_, rfl, _⟩; try dsimp only at *)
  | (refine T4.bind (once_tot hc hl (by assumption) (by omega) _) ?_; rintro ⟨_, _, _, _⟩ ⟨rfl, _⟩; try dsimp only at *)
  | (rw [w64_id (by omega) (by omega)]; refine T4.bind (text_tot hc hl (by assumption) (by omega) _ (by omega) (by omega)) ?_; rintro ⟨_, _, _, _⟩ ⟨_, rfl, _⟩; try dsimp only at *)
  | refine T4.ck (inB_of (by assumption) (by simp only [List.length_cons, List.length_nil]; omega)) ?_
  | refine T4.ite (fun _ => ?_) (fun _ => ?_)
  | exact T4.now ⟨⟨by first | (dsimp only; omega) | exact Nat.zero_le _, by first | (dsimp only; omega) | exact Nat.zero_le _, by dsimp only; omega, by dsimp only; omega⟩, rfl, Cur.le (by assumption) (by omega)⟩
theorem cur_open (hl : c.length ≤ 1048576) : Tt (fun k => c40 k [.ro 5 c]) fun r => r.1 = c ∧ Cur r.2.1 r.2.2 0 := by
 refine Tt.st (fun k => g40_eq k c) (T4.now ⟨rfl, ?_⟩)
 (have ht := tmod_range (a := (c.length : Int)) (n := 1000) (by omega) (by omega)); (have e : w64 (59 + Int.tmod (c.length : Int) 1000) = 59 + Int.tmod (c.length : Int) 1000 := w64_id (by omega) (by omega))
 dsimp only
 rw [e]
 exact ⟨by omega, by omega, by omega, by omega⟩
end
end Go.Proofs.YtfeikakkfnnaoaaGreatDoor.V
namespace Go.Proofs.YtfeikakkfnnaoaaGreatDoor.V
open Go Go.RowKit Go.Proofs.YtfeikakkfnnaoaaGreatDoor.L Go.Proofs.YtfeikakkfnnaoaaGreatDoor.QA Go.Proofs.YtfeikakkfnnaoaaGreatDoorW.PrintWords Go.Proofs.YtfeikakkfnnaoaaGreatDoorW.PrintLast Go.Proofs.YtfeikakkfnnaoaaGreatDoorW.PrintMore
set_option linter.unusedVariables false
set_option linter.unusedSimpArgs false
def Bk (m : Nat) (l : List En) : Prop := l.length ≤ m ∧ ∀ e, e ∈ l → e.f0.size ≤ 100
theorem Bk.sm {m : Nat} {l : List En} (h : Bk m l) (hm : m ≤ 1000) : Sm l := ⟨by have := h.1; omega, fun e he => by have := h.2 e he; omega⟩
section
variable {c : List Int}
theorem entry_tot (hc : Byt c) (hl : c.length ≤ 1048576) {p s b : Int} (h : Cur p s b) (hb : b ≤ 4611686018427360000) :
  Tt (fun k => c91 k [cuA c p s]) fun r => r.1.size ≤ 100 ∧ r.2.2.1 = c ∧ Cur r.2.2.2.1 r.2.2.2.2 (b + 300) := by
 refine Tt.st (fun k => g91_eq k c p s) ?_
 refine T4.bind (word_tot hc hl h (by omega)) ?_
 rintro ⟨w, c1, p1, s1⟩ ⟨hw, e1, h1⟩
 dsimp only at hw e1 h1 ⊢
 subst e1
 repeat' first
  | (refine T4.bind (pick_tot hc hl (by assumption) (by omega) _) ?_; rintro ⟨_, _, _, _⟩ ⟨_, hlt, rfl, _⟩; have hlt := hlt (by decide); try dsimp only at *)
  | (refine T4.bind (wide_tot hc hl (by assumption) (by omega) _ (by decide)) ?_; rintro ⟨_, _, _, _⟩ ⟨_, _, rfl, _⟩; try dsimp only at *)
  | refine T4.ck (inB_of (by assumption) (by simp only [List.length_cons, List.length_nil]; omega)) ?_
  | exact T4.now ⟨by dsimp only; omega, rfl, Cur.le (by assumption) (by omega)⟩
theorem size_tot (hc : Byt c) (hl : c.length ≤ 1048576) {p s b : Int} (h : Cur p s b) (hb : b ≤ 4611686018427360000) :
  Tt (fun k => c119 k [cuA c p s, .v (.int .i64 14)]) fun r => 0 ≤ r.1 ∧ r.1 ≤ 14 ∧ r.2.1 = c ∧ Cur r.2.2.1 r.2.2.2 (b + 1) := by
 refine Tt.st (fun k => g119_eq k 14 c p s) ?_
 refine T4.bind (pick_tot hc hl h (by omega) _) ?_
 rintro ⟨n, c1, p1, s1⟩ ⟨h0, hlt, e1, h1⟩
 dsimp only at h0 hlt e1 h1 ⊢
 refine T4.now ⟨h0, ?_, e1, h1⟩
 (have ht : Int.tdiv (c.length : Int) 8 = (c.length : Int) / 8 := Int.tdiv_eq_ediv_of_nonneg (by omega)); (rw [ht, w64_id (x := (c.length : Int) / 8) (by omega) (by omega), w64_id (x := 1 + (c.length : Int) / 8) (by omega) (by omega)] at hlt)
 by_cases hx : 1 + (c.length : Int) / 8 < 14
 ·rw [decide_eq_true hx, cond_true, w64_id (by omega) (by omega)] at hlt
  have := hlt (by omega)
  dsimp only; omega
 ·rw [decide_eq_false hx, cond_false, w64_id (by omega) (by omega)] at hlt
  have := hlt (by omega)
  dsimp only; omega
theorem addT_bk {m : Nat} {a b c d : Int} {l : List En} {x : Rq} (h : Bk m l) : Bk (m + 1) (addT a b c d l (insL (withoutL l (foldS x.f1)) ⟨foldS x.f1, x.f2⟩) x).2.2.2.2.1 := by
 have h0 : Bk (m + 1) l := ⟨by have := h.1; omega, h.2⟩
 unfold addT
 cases bookB a b c d l with
 | false => exact ⟨Nat.zero_le _, fun e he => by cases he⟩
 | true =>
  cases reqB x with
  | false => exact h0
  | true =>
   cases addS a b d l x.f1 x.f2 == 0 with
   | false => exact h0
   | true =>
    refine ⟨?_, fun e he => ?_⟩
    ·show (insL (withoutL l (foldS x.f1)) ⟨foldS x.f1, x.f2⟩).length ≤ m + 1
     (rw [ins_length]); (have : (withoutL l (foldS x.f1)).length ≤ l.length := List.length_filter_le _ _); (have := h.1; omega)
    ·rcases ins_mem.1 (show e ∈ insL (withoutL l (foldS x.f1)) ⟨foldS x.f1, x.f2⟩ from he) with rfl | he
     ·have := foldS_small x.f1
      show (foldS x.f1).size ≤ 100; omega
     ·exact h.2 e (List.mem_filter.1 he).1
theorem bookL_tot (hc : Byt c) (hl : c.length ≤ 1048576) : ∀ (d m : Nat) (p s b a1 a2 a3 a4 : Int) (l : List En), m + d ≤ 20 → Bk m l → Cur p s b → b + 300 * d ≤ 4611686018427340000 →
  T4 (fun k f _ _ => L88_1 k f (d : Int) c p s a1 a2 a3 a4 l) fun r => Bk 20 r.2.2.2.2.1 ∧ r.2.2.2.2.2.1 = c ∧ Cur r.2.2.2.2.2.2.1 r.2.2.2.2.2.2.2 (b + 300 * d) := by
 intro d
 induction d with
 | zero =>
  intro m p s b a1 a2 a3 a4 l hm hb h hbd
  refine T4.s1 (fun k m n p => L88_1_eq k m _ _ _ _ _ _ _ _ _) (T4.ite (fun e => by rw [decide_eq_true_eq] at e; omega) (fun _ => T4.now ⟨⟨by have := hb.1; dsimp only; omega, hb.2⟩, rfl, Cur.le h (by omega)⟩))
 | succ d ih =>
  intro m p s b a1 a2 a3 a4 l hm hb h hbd
  refine T4.s1 (fun k m n p => L88_1_eq k m _ _ _ _ _ _ _ _ _) (T4.ite (fun _ => ?_) (fun e => by rw [decide_eq_false_iff_not] at e; omega))
  refine T4.bind (entry_tot hc hl h (by omega)) ?_
  rintro ⟨w, n, c1, p1, s1⟩ ⟨hw, e1, h1⟩
  dsimp only at hw e1 h1 ⊢
  (subst e1); (have hS := specAdd_ev a1 a2 a3 a4 l ⟨3, w, n, 0, 0, 0, ⟨#[]⟩⟩ rfl (hb.sm (by omega)) (by show w.size ≤ 1000000; omega))
  refine T4.bind (Tt.of (Q := fun r : BT => Bk (m + 1) r.2.2.2.2.1) hS (addT_bk hb)) ?_
  rintro r hr
  rw [show ((d + 1 : Nat) : Int) - 1 = (d : Int) by omega, w64_id (x := (d : Int)) (by omega) (by omega)]
  refine (ih (m + 1) p1 s1 (b + 300) r.1 r.2.1 r.2.2.1 r.2.2.2.1 r.2.2.2.2.1 (by omega) hr h1 (by omega)).mono fun q hq => ⟨hq.1, hq.2.1, Cur.le hq.2.2 (by omega)⟩
theorem book_tot (hc : Byt c) (hl : c.length ≤ 1048576) {p s b : Int} (h : Cur p s b) (hb : b ≤ 4611686018427300000) :
  Tt (fun k => c88 k [cuA c p s]) fun r => Bk 20 r.2.2.2.2.1 ∧ r.2.2.2.2.2.1 = c ∧ Cur r.2.2.2.2.2.2.1 r.2.2.2.2.2.2.2 (b + 6000) := by
 refine Tt.st (fun k => g88_eq k c p s) ?_
 refine T4.bind (conf_tot hc hl h (by omega)) ?_
 rintro ⟨a1, a2, a3, a4, c1, p1, s1⟩ hq
 (have hc1 : c1 = c := hq.1); (have h1 := hq.2)
 dsimp only at h1 ⊢
 subst hc1
 have hn : Tt (fun k => c131 k [.agg [.v (.int .i64 a1), .v (.int .i64 a2), .v (.int .i64 a3), .v (.int .i64 a4)]]) fun r : Int × Int × Int × Int × List En => Bk 0 r.2.2.2.2 := by
  refine Tt.st (fun k => g131_eq k a1 a2 a3 a4) (T4.bind (Tt.of (Q := fun _ => True) (confOk_ev a1 a2 a3 a4) trivial) fun r _ => T4.ite (fun _ => T4.now ⟨Nat.le_refl _, fun e he => by cases he⟩) (fun _ => T4.now ⟨Nat.le_refl _, fun e he => by cases he⟩))
 refine T4.bind hn ?_
 rintro ⟨b1, b2, b3, b4, l⟩ hbk
 dsimp only at hbk ⊢
 refine T4.bind (size_tot hc hl h1 (by omega)) ?_
 rintro ⟨n, c2, p2, s2⟩ ⟨h0, h14, e2, h2⟩
 dsimp only at h0 h14 e2 h2 ⊢
 (subst e2); (obtain ⟨n, rfl⟩ := Int.eq_ofNat_of_zero_le h0)
 exact (T4.e1 (bookL_tot hc hl n 0 p2 s2 _ b1 b2 b3 b4 l (by omega) hbk h2 (by omega))).mono fun q hq => ⟨hq.1, hq.2.1, Cur.le hq.2.2 (by omega)⟩
end
end Go.Proofs.YtfeikakkfnnaoaaGreatDoor.V
namespace Go.Proofs.YtfeikakkfnnaoaaGreatDoor.V
open Go Go.RowKit Go.Proofs.YtfeikakkfnnaoaaGreatDoor.L Go.Proofs.YtfeikakkfnnaoaaGreatDoor.QA Go.Proofs.YtfeikakkfnnaoaaGreatDoorW.PrintWords Go.Proofs.YtfeikakkfnnaoaaGreatDoorW.PrintLast Go.Proofs.YtfeikakkfnnaoaaGreatDoorW.PrintMore
set_option linter.unusedVariables false
set_option linter.unusedSimpArgs false
theorem Bk.le {m m' : Nat} {l : List En} (h : Bk m l) (hm : m ≤ m') : Bk m' l := ⟨Nat.le_trans h.1 hm, h.2⟩
theorem Bk.app {m : Nat} {l : List En} (h : Bk m l) {e : En} (he : e.f0.size ≤ 100) : Bk (m + 1) (l ++ [e]) := ⟨by rw [List.length_append]; have := h.1; simp; omega, fun x hx => by
 rcases List.mem_append.1 hx with hx | hx
 ·exact h.2 x hx
 ·rw [List.mem_singleton.1 hx]; exact he⟩
theorem Bk.set {m : Nat} {l : List En} (h : Bk m l) (i : Nat) {e : En} (he : e.f0.size ≤ 100) : Bk m (l.set i e) := ⟨by rw [List.length_set]; exact h.1, fun x hx => by
 rcases List.mem_or_eq_of_mem_set hx with hx | rfl
 ·exact h.2 x hx
 ·exact he⟩
theorem Bk.get {m : Nat} {l : List En} (h : Bk m l) (i : Nat) : (l.getD i (⟨⟨#[]⟩, 0⟩ : En)).f0.size ≤ 100 := by
 by_cases hi : i < l.length
 ·rw [getD_lt hi _]; exact h.2 _ (List.getElem_mem hi)
 ·rw [List.getD_eq_getElem?_getD, List.getElem?_eq_none (by omega)]; exact Nat.zero_le _
section
variable {c : List Int}
theorem badBook_tot (hc : Byt c) (hl : c.length ≤ 1048576) {p s b : Int} (h : Cur p s b) (hb : b ≤ 4611686018427200000) :
  Tt (fun k => c41 k [cuA c p s]) fun r => Bk 21 r.2.2.2.2.1 ∧ r.2.2.2.2.2.1 = c ∧ Cur r.2.2.2.2.2.2.1 r.2.2.2.2.2.2.2 (b + 8000) := by
 refine Tt.st (fun k => g41_eq k c p s) ?_
 simp only [J41_1_eq, J41_2_eq]
 refine T4.bind (book_tot hc hl h (by omega)) ?_
 rintro ⟨a1, a2, a3, a4, l, c1, p1, s1⟩ ⟨hbk, e1, h1⟩
 dsimp only at hbk e1 h1 ⊢
 subst e1
 refine T4.bind (pick_tot hc hl h1 (by omega) _) ?_
 rintro ⟨q, c2, p2, s2⟩ ⟨_, _, e2, h2⟩
 dsimp only at e2 h2 ⊢
 subst e2
 refine T4.ite (fun _ => ?_) (fun _ => T4.ite (fun _ => ?_) (fun _ => T4.ite (fun _ => T4.ite (fun hn => ?_) (fun _ => ?_)) (fun _ => T4.ite (fun _ => T4.ite (fun hn => ?_) (fun _ => ?_)) (fun _ => ?_))))
 ·refine T4.bind (badConf_tot hc hl h2 (by omega)) ?_
  rintro ⟨d1, d2, d3, d4, c3, p3, s3⟩ hq
  (have e3 : c3 = c2 := hq.1); (have h3 := hq.2)
  dsimp only at h3 ⊢
  exact T4.now ⟨hbk.le (by omega), e3, Cur.le h3 (by omega)⟩
 ·refine T4.bind (entry_tot hc hl h2 (by omega)) ?_
  rintro ⟨w, n, c3, p3, s3⟩ ⟨hw, e3, h3⟩
  dsimp only at hw e3 h3 ⊢
  have := hbk.1
  exact T4.ck (appOk_of (by simp only [List.length_cons, List.length_nil]; omega)) (T4.now ⟨hbk.app hw, e3, Cur.le h3 (by omega)⟩)
 ·rw [decide_eq_true_eq] at hn
  refine T4.bind (pick_tot hc hl h2 (by omega) _) ?_
  rintro ⟨i, c3, p3, s3⟩ ⟨i0, i1, e3, h3⟩
  dsimp only at i0 i1 e3 h3 ⊢
  subst e3
  refine T4.bind (badWord_tot hc hl h3 (by omega)) ?_
  rintro ⟨w, c4, p4, s4⟩ ⟨hw, e4, h4⟩
  dsimp only at hw e4 h4 ⊢
  exact T4.ck (inB_of i0 (i1 (by omega))) (T4.now ⟨(hbk.set _ (by show w.size ≤ 100; omega)).le (by omega), e4, Cur.le h4 (by omega)⟩)
 ·exact T4.now ⟨hbk.le (by omega), rfl, Cur.le h2 (by omega)⟩
 ·rw [decide_eq_true_eq] at hn
  refine T4.bind (pick_tot hc hl h2 (by omega) _) ?_
  rintro ⟨i, c3, p3, s3⟩ ⟨i0, i1, e3, h3⟩
  dsimp only at i0 i1 e3 h3 ⊢
  subst e3
  refine T4.bind (raw_tot hc hl h3 (by omega)) ?_
  rintro ⟨w, c4, p4, s4⟩ hq
  (have e4 : c4 = c3 := hq.1); (have h4 := hq.2)
  dsimp only at h4 ⊢
  (have hz : (l.getD i.toNat (⟨⟨#[]⟩, 0⟩ : En)).f0.size ≤ 100 := hbk.get _); (have hset : Bk 21 (l.set i.toNat ⟨(l.getD i.toNat (⟨⟨#[]⟩, 0⟩ : En)).f0, w⟩) := (hbk.set i.toNat (e := ⟨(l.getD i.toNat (⟨⟨#[]⟩, 0⟩ : En)).f0, w⟩) hz).le (by omega))
  exact T4.ck (inB_of i0 (i1 (by omega))) (T4.now ⟨hset, e4, Cur.le h4 (by omega)⟩)
 ·exact T4.now ⟨hbk.le (by omega), rfl, Cur.le h2 (by omega)⟩
 ·exact T4.now ⟨hbk.le (by omega), rfl, Cur.le h2 (by omega)⟩
theorem badReq_tot (hc : Byt c) (hl : c.length ≤ 1048576) {p s b : Int} (h : Cur p s b) (hb : b ≤ 4611686018427000000) :
  Tt (fun k => c42 k [cuA c p s]) fun r => (r.2.1.size ≤ 1000 ∧ r.2.2.2.2.2.2.1.size ≤ 100000) ∧ r.2.2.2.2.2.2.2.1 = c ∧ Cur r.2.2.2.2.2.2.2.2.1 r.2.2.2.2.2.2.2.2.2 (b + 6000) := by
 refine Tt.st (fun k => g42_eq k c p s) ?_
 simp only [J42_1_eq, J42_2_eq]
 refine T4.bind (req_tot hc hl h (by omega)) ?_
 rintro ⟨x0, x1, x2, x3, x4, x5, x6, c1, p1, s1⟩ ⟨⟨g1, g2, _⟩, e1, h1⟩
 dsimp only at g1 g2 e1 h1 ⊢
 subst e1
 repeat' first
  | (refine T4.bind (pick_tot hc hl (by assumption) (by omega) _) ?_; rintro ⟨_, _, _, _⟩ ⟨_, hlt, rfl, _⟩; have hlt := hlt (by decide); try dsimp only at *)
  | (refine T4.bind (raw_tot hc hl (by assumption) (by omega)) ?_; rintro ⟨_, _, _, _⟩ ⟨rfl, _⟩; try dsimp only at *)
  | refine T4.ck (inB_of (by assumption) (by simp only [List.length_cons, List.length_nil]; omega)) ?_
  | (rw [w64_id (x := 100 + _) (by omega) (by omega)]; refine T4.ck (mkOk_of (by omega) (by omega) (by omega)) ?_)
  | (rw [w64_id (x := 2000 + _) (by omega) (by omega)]; refine T4.ck (mkOk_of (by omega) (by omega) (by omega)) ?_)
  | refine T4.ite (fun _ => ?_) (fun _ => ?_)
  | exact T4.now ⟨⟨by first | (dsimp only; omega) | (dsimp only; rw [strB_size, List.length_replicate]; omega), by first | (dsimp only; omega) | (dsimp only; rw [strB_size, List.length_replicate]; omega)⟩, rfl, Cur.le (by assumption) (by omega)⟩
theorem wordOf_tot (hc : Byt c) (hl : c.length ≤ 1048576) {p s b : Int} (h : Cur p s b) (hb : b ≤ 4611686018427000000) (a1 a2 a3 a4 : Int) {m : Nat} {l : List En} (hbk : Bk m l) (hm : m ≤ 1000) :
  Tt (fun k => c43 k [cuA c p s, bkA a1 a2 a3 a4 l]) fun r => r.1.size ≤ 100 ∧ r.2.1 = c ∧ Cur r.2.2.1 r.2.2.2 (b + 200) := by
 have hlm := hbk.1
 refine Tt.st (fun k => g43_eq k a1 a2 a3 a4 l c p s) ?_
 simp only [J43_1_eq, J43_2_eq]
 refine T4.bind (badWord_tot hc hl h (by omega)) ?_
 rintro ⟨w, c1, p1, s1⟩ ⟨hw, e1, h1⟩
 dsimp only at hw e1 h1 ⊢
 subst e1
 by_cases hn : (l.length : Int) > 0
 ·simp only [decide_eq_true hn, cond_true, Bool.true_and]
  refine T4.bind (once_tot hc hl h1 (by omega) 4) ?_
  rintro ⟨t, c2, p2, s2⟩ ⟨e2, h2⟩
  dsimp only at e2 h2 ⊢
  subst e2
  refine T4.ite (fun _ => ?_) (fun _ => T4.now ⟨by dsimp only; omega, rfl, Cur.le h2 (by omega)⟩)
  refine T4.bind (pick_tot hc hl h2 (by omega) _) ?_
  rintro ⟨i, c3, p3, s3⟩ ⟨i0, i1, e3, h3⟩
  dsimp only at i0 i1 e3 h3 ⊢
  (subst e3); (have hz : (l.getD i.toNat (⟨⟨#[]⟩, 0⟩ : En)).f0.size ≤ 100 := hbk.get _)
  refine T4.ck (inB_of i0 (i1 (by omega))) (T4.bind (once_tot hc hl h3 (by omega) 4) ?_)
  rintro ⟨t, c4, p4, s4⟩ ⟨e4, h4⟩
  dsimp only at e4 h4 ⊢
  subst e4
  refine T4.ite (fun hg => ?_) (fun _ => T4.now ⟨hz, rfl, Cur.le h4 (by omega)⟩)
  rw [Bool.and_eq_true, decide_eq_true_eq] at hg
  exact T4.ck (cutOk_of (by omega) (by omega) (by omega)) (T4.now ⟨Nat.le_trans (extract_le _ _ _) hz, rfl, Cur.le h4 (by omega)⟩)
 ·simp only [decide_eq_false hn, cond_false, Bool.false_and]
  refine T4.gc (fun e => by cases e) (S := fun _ => True) fun r _ _ => ?_
  exact T4.now ⟨by dsimp only; omega, rfl, Cur.le h1 (by omega)⟩
theorem draw_tot (hc : Byt c) (hl : c.length ≤ 1048576) : Tt (fun k => c8 k [.ro 5 c]) fun r => Bk 21 r.2.2.2.2.1 ∧ r.2.2.2.2.2.2.1.size ≤ 1000 := by
 refine Tt.st (fun k => g8_eq k c) ?_
 simp only [J8_1_eq, J8_2_eq, J8_3_eq, J8_4_eq, J8_5_eq, J8_6_eq]
 refine T4.bind (cur_open hl) ?_
 rintro ⟨c1, p1, s1⟩ ⟨e1, h1⟩
 dsimp only at e1 h1 ⊢
 subst e1
 refine T4.bind (badBook_tot hc hl h1 (by omega)) ?_
 rintro ⟨a1, a2, a3, a4, l, c2, p2, s2⟩ ⟨hbk, e2, h2⟩
 dsimp only at hbk e2 h2 ⊢
 subst e2
 refine T4.bind (badReq_tot hc hl h2 (by omega)) ?_
 rintro ⟨x0, x1, x2, x3, x4, x5, x6, c3, p3, s3⟩ ⟨⟨g1, g2⟩, e3, h3⟩
 dsimp only at g1 g2 e3 h3 ⊢
 (subst e3); (have hz : (l.getD (0 : Int).toNat (⟨⟨#[]⟩, 0⟩ : En)).f0.size ≤ 100 := hbk.get _); (have s1 : sumOk (l.getD (0 : Int).toNat (⟨⟨#[]⟩, 0⟩ : En)).f0 (⟨#[32]⟩ : ByteArray) = true := okLe_iff.2 (by show (((l.getD (0 : Int).toNat (⟨⟨#[]⟩, 0⟩ : En)).f0.size + 1 : Nat) : Int) ≤ 9223372036854775807; omega))
 have s2 : sumOk ((l.getD (0 : Int).toNat (⟨⟨#[]⟩, 0⟩ : En)).f0 ++ (⟨#[32]⟩ : ByteArray)) x6 = true := okLe_iff.2 (by
  (have : ((l.getD (0 : Int).toNat (⟨⟨#[]⟩, 0⟩ : En)).f0 ++ (⟨#[32]⟩ : ByteArray)).size = (l.getD (0 : Int).toNat (⟨⟨#[]⟩, 0⟩ : En)).f0.size + 1 := by rw [ByteArray.size_append]; rfl); (rw [this])
  show (((l.getD (0 : Int).toNat (⟨⟨#[]⟩, 0⟩ : En)).f0.size + 1 + x6.size : Nat) : Int) ≤ 9223372036854775807; omega)
 refine T4.ite (fun _ => ?_) (fun _ => ?_)
 ·refine T4.bind (wordOf_tot hc hl h3 (by omega) a1 a2 a3 a4 hbk (by omega)) ?_
  rintro ⟨w, c4, p4, s4⟩ ⟨hw, e4, h4⟩
  dsimp only at hw e4 h4 ⊢
  refine T4.ite (fun hg => ?_) (fun _ => T4.now ⟨hbk, by dsimp only; omega⟩)
  rw [Bool.and_eq_true, decide_eq_true_eq] at hg
  exact T4.ck (inB_of (by omega) (by omega)) (T4.ck s1 (T4.ck s2 (T4.now ⟨hbk, by dsimp only; omega⟩)))
 ·refine T4.ite (fun hg => ?_) (fun _ => T4.now ⟨hbk, by dsimp only; omega⟩)
  rw [Bool.and_eq_true, decide_eq_true_eq] at hg
  exact T4.ck (inB_of (by omega) (by omega)) (T4.ck s1 (T4.ck s2 (T4.now ⟨hbk, by dsimp only; omega⟩)))
end
end Go.Proofs.YtfeikakkfnnaoaaGreatDoor.V
namespace Go.Proofs.YtfeikakkfnnaoaaGreatDoor.V
open Go Go.RowKit Go.Proofs.YtfeikakkfnnaoaaGreatDoor.L Go.Proofs.YtfeikakkfnnaoaaGreatDoor.QA Go.Proofs.YtfeikakkfnnaoaaGreatDoorW.PrintWords Go.Proofs.YtfeikakkfnnaoaaGreatDoorW.PrintLast Go.Proofs.YtfeikakkfnnaoaaGreatDoorW.PrintMore
set_option linter.unusedVariables false
set_option linter.unusedSimpArgs false
theorem lpick_tot {y : List Int} (hy : y.length ≤ 1048576) : Tt (fun k => c9 k [.ro 5 y, .v (.int .i64 (3 : Int)), .v (.int .i64 (65536 : Int))]) (fun _ => True) := by
 refine Tt.st (fun k => g9_eq k y 3 65536) ?_
 by_cases h0 : y.length = 0
 ·refine T4.eq (fun k m n p => ?_) (T4.now (r := (0 : Int)) trivial)
  rw [show (((y.length : Int) == 0) : Bool) = true by simp [h0]]
  rfl
 ·have key : ∀ (d : Nat) (i : Int) (x : Int), 0 ≤ i → i + d = 3 → T4 (fun k m _ _ => L9_1 k m y 3 65536 x i) (fun _ => True) := by
   intro d
   induction d with
   | zero =>
    intro i x h1 h2
    obtain rfl : i = 3 := by omega
    refine T4.s1 (fun k m n p => L9_1_eq k m y 3 65536 x 3) ?_
    refine T4.eq (fun k m n p => ?_) (T4.now (r := Int.tmod (w64 (x + 3)) 65536) trivial)
    rfl
   | succ d ih =>
    intro i x h1 h2
    refine T4.s1 (fun k m n p => L9_1_eq k m y 3 65536 x i) ?_
    (have hw : w64 ((3 : Int) + i) = 3 + i := w64_id (by omega) (by omega)); (have hw1 : w64 (i + 1) = i + 1 := w64_id (by omega) (by omega)); (have hz : ((y.length : Int) != 0) = true := bne_iff_ne.2 (by omega))
    have hb : inB (Int.tmod (w64 ((3 : Int) + i)) (y.length : Int)) (y.length : Int) = true := by
     rw [hw]
     exact inB_of (Int.tmod_nonneg _ (by omega)) (Int.tmod_lt_of_pos _ (by omega))
    refine T4.eq (fun k m n p => ?_) (ih (i + 1) (w64 ((w64 ((31 : Int) * x)) + (w64 (y.getD (Int.tmod (w64 ((3 : Int) + i)) (y.length : Int)).toNat (0 : Int))))) (by omega) (by omega))
    rw [decide_eq_true (show i < 3 by omega), hz, hb, hw1]
    rfl
  have h3 := key 3 0 0 (by omega) (by omega)
  refine T4.eq (fun k m n p => ?_) (T4.e1 (F := fun k m _ _ => L9_1 k m y 3 65536 0 0) h3)
  rw [show (((y.length : Int) == 0) : Bool) = false from beq_eq_false_iff_ne.2 (by omega)]
  rfl
theorem law_ev (y : List Int) (hb : Byt y) : Ev (fun k => c3 k [.ro 5 y]) true := by
 by_cases hy : y.length ≤ 1048576
 ·obtain ⟨⟨a, b, c, d, l, x0, s, x2, x3, x4, x5, x6⟩, ⟨h1, h2⟩, hd⟩ := draw_tot hb hy
  obtain ⟨n, _, hp⟩ := lpick_tot hy
  exact law_main y hy hd (h1.sm (by omega)) (by have := h1.1; dsimp only at this; omega) (by dsimp only at h2; omega) hp
 ·have hbig : Ev (fun k => c7 k [.ro 5 y]) true := Ev.st (fun k => g7_eq k y) (E4.now.val (decide_eq_true (by omega)))
  exact Ev.st (fun k => g3_eq k y) (E4.bind hbig (E4.ct rfl E4.now))
end Go.Proofs.YtfeikakkfnnaoaaGreatDoor.V
namespace Go.Proofs.YtfeikakkfnnaoaaGreatDoor.V
open Go
set_option linter.unusedVariables false
set_option linter.unusedSimpArgs false
section
variable {P : Program} {L : Lay} {sig : FuncId → Sig} {Tab : TabP}
abbrev noCall (L : Lay) (sig : FuncId → Sig) : (f : FuncId) → List (SV L.D) → Option (RT L.D (sig f).all) := fun _ _ => none
abbrev finX (L : Lay) (sig : FuncId → Sig) (f : FuncId) (fn : Func) : Ex → St L.D → Option (RT L.D (sig f).all)
 | .exit _, _ => none
 | _, st => finish L sig f fn.results.toList st
def Reads (P : Program) (L : Lay) (sig : FuncId → Sig) (E : Ent) : Prop := ∀ {ρ : Type} {x : ρ} (live : Nat → List Nat) (n : Nat) (c : Code) (st : St L.D) (K : Ex → St L.D → Option ρ) (Q : Exit → Act → World → Prop) (V : Vl) (a : Act) (w : World), run L sig (noCall L sig) E.nt live n c st K = some x → Rel L E st V a w →
  (∀ e st' V' a' w', K e st' = some x → Rel L E st' V' a' w' → Q (exOf e) a' w') → c.wp P Q a w
theorem meets_of_wp (hL : LayOk P L) (hm : P.follows .mixedOrders = true) (hTk : TabKept Tab) (hs : ∀ f, (sig f).all.length ≤ 900) {f : FuncId} {fn : Func} {c : Code} (hf : P.funcs[f]? = some fn) (hb : fn.body = some c) {az : List (SV L.D)} (hn : az.length ≤ fn.ntmps) {r : RT L.D (sig f).all}
  (hw : ∀ (E : Ent) (V : Vl) (a : Act), E.nt = fn.ntmps → Rel L E (start L az) V a E.w0 → Reads P L sig E → ∀ Q : Exit → Act → World → Prop, (∀ e st' V' a' w', finX L sig f fn e st' = some r → Rel L E st' V' a' w' → Q (exOf e) a' w') → c.wp P Q a E.w0) : Meets P L Tab (sig f) f az r := by
 intro E V vals hT hnt hq hlen hr
 refine calls_of_wp hf hb ?_
 have htm : ∀ n, (vals.toArray ++ Array.replicate (fn.ntmps - vals.toArray.size) undef).getD n undef = vals.toArray.getD n undef := fun n => by
  simp only [Array.getD_eq_getD_getElem?, Array.getElem?_append, Array.getElem?_replicate]
  split
  ·rfl
  ·rename_i hlt
   rw [Array.getElem?_eq_none (by omega)]
   split <;> rfl
 have hlen := hlen.2
 have hsz : (vals.toArray ++ Array.replicate (fn.ntmps - vals.toArray.size) undef).size = fn.ntmps := by
  simp; omega
 (have hr' := hr.retmp htm); (rw [hsz] at hr')
 refine hw { E with nt := fn.ntmps } V _ rfl hr' (fun live n c st K Q V a w h1 h2 h3 => run_ok (E := { E with nt := fn.ntmps }) hL ⟨(fun _ _ _ h => by cases h), hs, hT, hTk⟩ hm live n c st K Q V a w h1 h2 h3) _ fun e st' V' a' w' hK hrel => ?_
 have fin : finish L sig f fn.results.toList st' = some r → a'.defers = [] ∧ ∃ v, (results fn a'.tmps).run P w' = .ok v w' ∧ ∃ vs lv, PostA L E (sig f) (ctOf az) (enc (sig f).all r) vs lv v w' := fun hfin => by
  (obtain ⟨v, h1, vs, lv, h2⟩ := finish_ok hL hrel hfin); (have h3 := postA_nt (E := E) (n := fn.ntmps) h2); (rw [show ({ E with nt := fn.ntmps } : Ent).q = ctOf az from hq] at h3)
  exact ⟨hrel.defers, v, h1, vs, lv, h3⟩
 cases e with
 | normal => exact fin hK
 | exit id => cases hK
 | ret => exact fin hK
theorem nil_cond {E : Ent} (R : Reads P L sig E) {ρ : Type} {x : ρ} {live : Nat → List Nat} {n id n0 n1 n2 : Nat} {o1 o2 : Oper} {A B : Code} {T T' e : TypeId} (h1 : o1.op = .move (.tmp n0)) (d1 : o1.dst = some n1) (g1 : o1.guard = none) (h2 : o2.op = .binOp .eql T (.tmp n1) (.const (.slice none 0 0)) T') (d2 : o2.dst = some n2) (g2 : o2.guard = none) (hT : P.underlying T = some (.slice e))
  {st : St L.D} {t : TypeId} {xs : List (L.D t)} (h0 : st.tmp n0 = .ro t xs) (hc1 : clean st [(0, n1)] = true) (hc2 : clean (st.put (some n1) { val := .ro t xs }) [(0, n2)] = true) (hb1 : n1 < E.nt) (hb2 : n2 < E.nt) {K : Ex → St L.D → Option ρ} {Q : Exit → Act → World → Prop} {V : Vl} {a : Act} {w : World} (hr : Rel L E st V a w)
  (kt : xs = [] → run L sig (noCall L sig) E.nt live n (.cond (.tmp n2) A B) ((st.put (some n1) { val := .ro t xs }).put (some n2) { val := .v (.bool true) }) K = some x)
  (kf : run L sig (noCall L sig) E.nt live n (.cond (.tmp n2) A B) ((st.put (some n1) { val := .ro t xs }).put (some n2) { val := .v (.bool false) }) K = some x)
  (hK : ∀ e st' V' a' w', K e st' = some x → Rel L E st' V' a' w' → Q (exOf e) a' w') : (Code.seq (.region id #[o1, o2] false) (.cond (.tmp n2) A B)).wp P Q a w := by
 refine wp_seq (wp_region_lit (l := [o1, o2]) (wpList_plain g1 fun K1 hK1 => ?_))
 (have hv : SR L w (Fz E st V w) st V a.tmps (.ro t xs) (a.tmps.getD n0 undef) := h0 ▸ hr.tmp n0); (obtain ⟨p, c, hp, hx⟩ := hv.ro_inv.row)
 have r1 : (execOp a.eval o1).run P w = .ok (.value (a.tmps.getD n0 undef)) w := by
  unfold execOp
  simp [h1, Act.eval]
 show o1.upon P a K1 _ ((execOp a.eval o1).run P w)
 rw [r1]
 refine hK1 _ _ (wpList_plain g2 fun K2 hK2 => ?_)
 have hr1 : Rel L E (st.put (some n1) { val := .ro t xs }) V (a.put o1.dst (a.tmps.getD n0 undef)) w := by
  rw [d1]
  exact hr.put' (ks := [(0, n1)]) hc1 (fun m hm => by obtain rfl := Option.some.inj hm; exact ⟨List.mem_singleton.2 rfl, hb1⟩) (.c hv.ro_inv)
 have ev : (a.put o1.dst (a.tmps.getD n0 undef)).eval (.tmp n1) = .slice p xs.length c := by
  rw [d1, ← hp]
  exact put_getD_same (by rw [hr.slots]; exact hb1) _
 have r2 : (execOp (a.put o1.dst (a.tmps.getD n0 undef)).eval o2).run P w = .ok (.value (.bool p.isNone)) w := by
  unfold execOp
  (simp only [h2, ev]); (have := Lib.run_eql_slice_nil (P := P) w T e p xs.length c 0 0 hT)
  simp [Act.eval, this, eqGuard]
 show o2.upon P _ K2 _ ((execOp _ o2).run P w)
 rw [r2]
 refine hK2 _ _ (wpList_nil ?_)
 have hr2 : Rel L E ((st.put (some n1) { val := .ro t xs }).put (some n2) { val := .v (.bool p.isNone) }) V ((a.put o1.dst (a.tmps.getD n0 undef)).put o2.dst (.bool p.isNone)) w := by
  rw [d2]
  exact hr1.put' (ks := [(0, n2)]) hc2 (fun m hm => by obtain rfl := Option.some.inj hm; exact ⟨List.mem_singleton.2 rfl, hb2⟩) (.c (.v _ rfl))
 show (Code.cond (.tmp n2) A B).wp P Q _ _
 cases p with
 | none =>
  have hnil : xs = [] := Classical.byContradiction fun hne => by
   obtain ⟨_, b, off, f, e, _⟩ := hx hne
   cases e
  exact R live n _ _ K Q V _ w (kt hnil) hr2 hK
 | some p => exact R live n _ _ K Q V _ w kf hr2 hK
def opAt : Code → Nat → Oper
 | .region _ ops _, i => ops.toList.getD i default
 | _, _ => default
def normK {D : TypeId → Type} : Ex → St D → Option (St D)
 | .normal, st => some st
 | _, _ => none
theorem normK_inv {D : TypeId → Type} {e : Ex} {st st' : St D} (h : normK e st = some st') : e = .normal ∧ st = st' := by
 cases e with
 | normal => exact ⟨rfl, Option.some.inj h⟩
 | exit id => cases h
 | ret => cases h
def callB (P : Program) (f : FuncId) : Bool := match P.funcs[f]? with
 | some fn => !(fn.name == "runtime.NumGoroutine") && fn.body.isSome
 | none => false
theorem callB_ok {P : Program} {f : FuncId} (h : callB P f = true) : Callable P f := by
 unfold callB at h
 split at h
 ·rename_i fn hf
  (simp only [Bool.and_eq_true, Bool.not_eq_true'] at h); (obtain ⟨c, hc⟩ := Option.isSome_iff_exists.1 h.2)
  exact ⟨fn, c, hf, h.1, hc⟩
 ·cases h
theorem postV_inplace {E : Ent} {az : List (SV L.D)} {V : Vl} {a : Act} (h : Rel L E (start L az) V a E.w0) {m : Nat} {r : Row L.D} (hr : (start L az).row m = some r) (hf : r.fz = false) {v : Value} {w' : World} (hv : ∀ k, v.ownBlock = some k → (V.rv m).ownBlock = some k ∨ E.w0.heap.size ≤ k) (hz : E.w0.heap.size ≤ w'.heap.size) (hos : w'.os = E.w0.os) (htp : w'.tape = E.w0.tape) (hout : w'.output = E.w0.output)
  (hoth : ∀ k, k < E.w0.heap.size → (V.rv m).ownBlock ≠ some k → w'.heap[k]? = E.w0.heap[k]?) {s : Sig} {q : Option Nat} {lv : Nat → LV} {t : TypeId} {xs : List (L.D t)} (hrow : ∀ F : FS, Le E.w0 w' (Fz E (start L az) V E.w0) F → RowOk L w' F v t xs) (ha : E.adr = []) (hs : s.res = [[.fr t]]) (hg : s.aggs = [false]) (h1 : v.oneCell' = true) : PostV L E s q [.fr t xs] [v] lv v w' := by
 have hOw : ∀ k, (V.rv m).ownBlock = some k → Ow (start L az) V k := fun k hk => .inl (.inr ⟨m, r, hr, hf, hk⟩)
 have nc : ctOf (([.fr t xs] : List (SV L.D)).drop (s.res.flatten.length + s.fin.flatten.length)) = none := ctOf_none fun x hx n e => by
  (have := List.mem_singleton.1 (List.mem_of_mem_drop hx)); (rw [e] at this; cases this)
 have nl : ∀ l, ¬ NL s q ([.fr t xs] : List (SV L.D)) l := fun l ⟨m, n, _, h, _⟩ => by rw [nc] at h; cases h
 have hown : ∀ c k, OwnV ([.fr t xs] : List (SV L.D)) [v] c k → c = 0 ∧ v.ownBlock = some k := fun c k ho => by
  obtain rfl : c = 0 := by have := ho.1; simpa using this
  exact ⟨rfl, ho.2.2⟩
 have M : Le E.w0 w' (Fz E (start L az) V E.w0) (PF E s q [.fr t xs] [v] lv w') := by
  refine ⟨fun k hk => ?_, fun l x hl => ?_⟩
  ·have hlt := h.fz_lt hk
   have hno := h.fz_not hk
   refine ⟨?_, hoth k hlt fun e => hno (hOw k e)⟩
   rcases hk with hk | ⟨k1, k2, k3⟩
   ·exact .inl hk
   ·refine .inr ⟨k1, Nat.lt_of_lt_of_le k2 hz, fun c ho => ?_, (fun p hp => by rw [ha] at hp; cases hp), fun l hl => absurd hl (nl l)⟩
    rcases hv k (hown c k ho).2 with e | e
    ·exact k3 (hOw k e)
    ·exact absurd k2 (Nat.not_lt.2 e)
  ·rcases hl with hl | ⟨hl, _⟩
   ·refine ⟨.inl hl, fun k hk => ?_⟩
    obtain ⟨k1, k2⟩ := h.oldL l x k hl hk
    refine hoth k k1 fun e => ?_
    rcases (h.own k (hOw k e)).2 with k3 | k3
    ·omega
    ·exact k2 k3
   ·exact absurd hl no_lab
 refine ⟨rfl, by rw [hs, hg]; rfl, fun u hu => by rw [List.mem_singleton.1 hu]; exact h1, fun c t' xs' hc e => ?_, fun c hc hn => ?_, fun c c' k ho ho' => ?_, fun c k ho => ?_, fun l hl => absurd hl (nl l), fun l k hl => absurd hl (nl l), fun l l' k hl => absurd hl (nl l), (fun m n _ h => by rw [nc] at h; cases h), (fun q p hq => by rw [ha] at hq; simp at hq), (fun q p hq => by rw [ha] at hq; simp at hq), hz, fun k hk hi => hoth k hk fun e => ?_, hos, htp, hout⟩
 ·obtain rfl : c = 0 := by simpa using hc
  simp only [List.getD_cons_zero] at e ⊢
  injection e with e1 e2
  (subst e1); (obtain rfl := eq_of_heq e2)
  exact hrow _ M
 ·obtain rfl : c = 0 := by simpa using hc
  exact absurd ⟨t, xs, rfl⟩ hn
 ·rw [(hown c k ho).1, (hown c' k ho').1]
 ·refine ⟨?_, ?_, fun p hp => by rw [ha] at hp; cases hp⟩
  ·rcases hv k (hown c k ho).2 with e | e
   ·exact (h.own k (hOw k e)).1
   ·intro hF
    have := h.old k hF
    omega
  ·rcases hv k (hown c k ho).2 with e | e
   ·exact (h.own k (hOw k e)).2
   ·exact .inl e
 ·rcases (h.own k (hOw k e)).2 with k3 | k3
  ·omega
  ·exact hi k3
theorem run_clear_any {P : Program} (w : World) (t e ty : TypeId) (z : Value) (ht : P.underlying t = some (.slice e)) (hv : ∀ w, (zeroValue e).run P w = .ok z w) (h1 : ∀ u ∈ z.cells.toList, u.oneCell' = true) (b o n c : Nat) (hn : 0 < n)
  (hc : ∀ j, j < n * z.cells.size → (w.cell? ⟨b, o + j, none⟩).isSome = true) (hf : ∀ j, j < n * z.cells.size → w.frozen? ⟨b, o + j, none⟩ = false) :
  (Builtin.clear_ #[t] ty #[.slice (some ⟨b, o, none⟩) n c]).run P w = .ok (.tuple #[]) (w.setCells b o (Builtin.zeroCells z.cells n).toList) := by
 have hl : (Builtin.zeroCells z.cells n).toList.length = n * z.cells.size := by rw [Array.length_toList, size_zeroCells]
 have hst := run_storeCells_cells (P := P) b o (Builtin.zeroCells z.cells n).toList 0 w (by rw [hl]; simpa using hc) (by rw [hl]; simpa using hf) (by
  intro u hu
  rw [Array.mem_toList_iff] at hu
  unfold Builtin.zeroCells at hu
  obtain ⟨p, hp, rfl⟩ := Array.mem_map.1 hu
  have hlt : p % z.cells.size < z.cells.size := by
   rcases Nat.eq_zero_or_pos z.cells.size with h | h
   ·rw [h, Nat.mul_zero] at hp; simp at hp
   ·exact Nat.mod_lt _ h
  rw [getElem!_pos z.cells _ hlt]
  exact h1 _ (by rw [Array.mem_toList_iff]; exact Array.getElem_mem hlt))
 (simp only [Nat.add_zero] at hst); (obtain ⟨m, rfl⟩ : ∃ m, n = m + 1 := ⟨n - 1, by omega⟩)
 simp [Builtin.clear_, run_underlying ht, hv, hst]
theorem setCells_two {w : World} {g a b : Nat} {xs ys : List Value} {cur : Array Value} {T : TypeId} {fz : Nat × Nat} (hh : w.heap[g]? = some (.cells cur T fz)) : ∃ cur' : Array Value, ((w.setCells g a xs).setCells g b ys).heap[g]? = some (.cells cur' T fz) ∧ cur'.size = cur.size ∧ ∀ q, q < cur.size → cur'[q]? = if b ≤ q ∧ q < b + ys.length then ys[q - b]? else if a ≤ q ∧ q < a + xs.length then xs[q - a]? else cur[q]? := by
 (obtain ⟨c1, h1, s1, g1⟩ := setCells_block g xs a w cur T fz hh); (obtain ⟨c2, h2, s2, g2⟩ := setCells_block g ys b _ c1 T fz h1)
 refine ⟨c2, h2, by omega, fun q hq => ?_⟩
 rw [g2 q (by omega)]
 split
 ·rfl
 ·exact g1 q hq
theorem rowOk_del {w w0 w' : World} {F0 F : FS} {t : TypeId} {xs : List (L.D t)} {g cap i j : Nat} {cells zs : List Value} (hw : w0.heap = w.heap) (ho : ownsT w t (L.ti t).sz (.slice (some ⟨g, 0, none⟩) xs.length cap) xs.length cells) (hcr : ∀ i j, (h : i < xs.length) → j < (L.ti t).sz → CR L w F0 ((L.cell t xs[i]).getD j .dead) (cells.getD (i * (L.ti t).sz + j) undef)) (hij : i ≤ j) (hj : j ≤ xs.length) (M : Le w w' F0 F)
  (hw' : w' = (w0.setCells g (i * (L.ti t).sz) (cells.drop (j * (L.ti t).sz))).setCells g ((i + (xs.length - j)) * (L.ti t).sz) zs) : RowOk L w' F (.slice (some ⟨g, 0, none⟩) (i + (xs.length - j)) cap) t (xs.take i ++ xs.drop j) := by
 obtain ⟨hcl, hov⟩ := ho
 rcases hov with ⟨e, _⟩ | ⟨g', cap', cur, fz, e, hfz, hh, hnc, hcm, hcs, htake⟩
 ·cases e
 (simp only [Value.slice.injEq, Option.some.injEq, Addr.mk.injEq, and_true, true_and] at e); (obtain ⟨rfl, rfl⟩ := e); (subst hw'); (obtain ⟨cur', h1, h2, h3⟩ := setCells_two (a := i * (L.ti t).sz) (b := (i + (xs.length - j)) * (L.ti t).sz) (xs := cells.drop (j * (L.ti t).sz)) (ys := zs) (show w0.heap[g]? = _ by rw [hw]; exact hh)); (have hl : (xs.take i ++ xs.drop j).length = i + (xs.length - j) := by simp; omega)
 have key : ∀ n, n = (xs.take i ++ xs.drop j).length → RowOk L ((w0.setCells g (i * (L.ti t).sz) (cells.drop (j * (L.ti t).sz))).setCells g ((i + (xs.length - j)) * (L.ti t).sz) zs) F (.slice (some ⟨g, 0, none⟩) n cap) t (xs.take i ++ xs.drop j) := by
  rintro _ rfl
  refine rowOk_newT (by rw [h2]; exact hfz) h1 (by omega) hcm (by rw [h2, hcs]) fun q jj hq hjj => ?_
  rw [hl] at hq
  have hlt : q * (L.ti t).sz + jj < (i + (xs.length - j)) * (L.ti t).sz := by
   (have : (q + 1) * (L.ti t).sz ≤ (i + (xs.length - j)) * (L.ti t).sz := Nat.mul_le_mul_right _ (by omega)); (rw [Nat.add_mul] at this; omega)
  (have hle : (i + (xs.length - j)) * (L.ti t).sz ≤ cap * (L.ti t).sz := Nat.mul_le_mul_right _ (by omega)); (rw [h3 _ (by rw [hcs]; omega), if_neg (by omega)])
  by_cases hqi : q < i
  ·have h4 : q * (L.ti t).sz + jj < i * (L.ti t).sz := by
    (have : (q + 1) * (L.ti t).sz ≤ i * (L.ti t).sz := Nat.mul_le_mul_right _ (by omega)); (rw [Nat.add_mul] at this; omega)
   (have h5 : i * (L.ti t).sz ≤ xs.length * (L.ti t).sz := Nat.mul_le_mul_right _ (by omega)); (rw [if_neg (by omega)]); (have hlc : q * (L.ti t).sz + jj < cells.length := by rw [hcl]; omega); (have e : cells[q * (L.ti t).sz + jj]? = cur[q * (L.ti t).sz + jj]? := by rw [← htake, List.getElem?_take, if_pos (by omega), Array.getElem?_toList])
   refine ⟨_, by rw [← e]; exact List.getElem?_eq_getElem hlc, ?_⟩
   (have h6 := hcr q jj (by omega) hjj); (rw [getD_lt hlc] at h6)
   have e3 : (xs.take i ++ xs.drop j)[q] = xs[q]'(by omega) := by
    rw [List.getElem_append_left (by simp; omega), List.getElem_take]
   rw [e3]
   exact h6.mono M
  ·have h4 : i * (L.ti t).sz ≤ q * (L.ti t).sz + jj := by
    have : i * (L.ti t).sz ≤ q * (L.ti t).sz := Nat.mul_le_mul_right _ (by omega)
    omega
   have h5 : (j + (q - i)) * (L.ti t).sz + jj < xs.length * (L.ti t).sz := by
    (have : (j + (q - i) + 1) * (L.ti t).sz ≤ xs.length * (L.ti t).sz := Nat.mul_le_mul_right _ (by omega)); (rw [Nat.add_mul] at this; omega)
   have h6 : j * (L.ti t).sz + (q * (L.ti t).sz + jj - i * (L.ti t).sz) = (j + (q - i)) * (L.ti t).sz + jj := by
    (have : q * (L.ti t).sz = i * (L.ti t).sz + (q - i) * (L.ti t).sz := by rw [← Nat.add_mul]; congr 1; omega); (rw [Nat.add_mul]; omega)
   (rw [if_pos ⟨h4, by rw [List.length_drop, hcl]; omega⟩, List.getElem?_drop, h6]); (have hlc : (j + (q - i)) * (L.ti t).sz + jj < cells.length := by rw [hcl]; exact h5)
   refine ⟨_, List.getElem?_eq_getElem hlc, ?_⟩
   (have h7 := hcr (j + (q - i)) jj (by omega) hjj); (rw [getD_lt hlc] at h7)
   have e3 : (xs.take i ++ xs.drop j)[q] = xs[j + (q - i)]'(by omega) := by
    rw [List.getElem_append_right (by simp; omega), List.getElem_drop]
    congr 1; simp; omega
   rw [e3]
   exact h7.mono M
 exact key _ hl.symm
end
end Go.Proofs.YtfeikakkfnnaoaaGreatDoor.V
namespace Go.Proofs.YtfeikakkfnnaoaaGreatDoor.V
open Go
set_option linter.unusedVariables false
set_option linter.unusedSimpArgs false
section
variable {P : Program} {L : Lay}
theorem append_zeros_grow (hL : LayOk P L) {t t' e : TypeId} (hk : elemOf L t = some e) (hk' : (L.ti t').kind = .int .i64) (ty : TypeId) {w : World} {g n cap : Nat} {cells : List Value} (hcl : cells.length = n * (L.ti e).sz) (hcell : ∀ q u, cells[q]? = some u → w.cell? ⟨g, q, none⟩ = some u) {m : Nat} (hroom : ¬ n + m ≤ cap) (hnc : n ≤ cap) (hb : ((n : Int) + m) * (L.ti e).bytes ≤ 70368744177664) :
  ∃ cap' w', (Builtin.append_ #[t, t'] ty #[.slice (some ⟨g, 0, none⟩) n cap, .int .i64 (m : Int)]).run P w = .ok (.slice (some ⟨w.heap.size, 0, none⟩) (n + m) cap') w' ∧ n + m ≤ cap' ∧ cap' ≤ maxLen ∧ (∃ cur : Array Value, w'.heap[w.heap.size]? = some (.cells cur e (0, 0)) ∧ cur.size = cap' * (L.ti e).sz ∧ cur.toList.take (n * (L.ti e).sz) = cells) ∧
   w'.heap.size = w.heap.size + 1 ∧ w'.os = w.os ∧ w'.tape = w.tape ∧ w'.output = w.output ∧ ∀ k, k < w.heap.size → w'.heap[k]? = w.heap[k]? := by
 (obtain ⟨hu, hko, _, hsz, i', z', hinf, hs, hbt, hzero, hb0⟩ := elem_info hL hk); (obtain ⟨i1, z1, hinf', _, _, hz', hcs, _⟩ := hL.info e hko); (obtain rfl : i1 = i' := Option.some.inj (hinf'.symm.trans hinf)); (obtain rfl : z1 = z' := Option.some.inj (hz'.symm.trans hzero))
 have hnb : (n + m) * i1.bytes ≤ 140737488355328 := by
  have e1 : (((n + m) * i1.bytes : Nat) : Int) = ((n : Int) + m) * (L.ti e).bytes := by rw [hbt]; simp
  omega
 have hmb : m * i1.bytes ≤ (n + m) * i1.bytes := Nat.mul_le_mul_right _ (by omega)
 have hnm : n + m ≤ maxLen := by
  have : (n + m) * 1 ≤ (n + m) * i1.bytes := Nat.mul_le_mul_left _ hb0
  unfold maxLen; omega
 have hnm' := hnm
 unfold maxLen at hnm'
 (have hwr : IntKind.i64.wrap (m : Int) = (m : Int) := by rw [IntKind.wrap_i64]; omega); (have hneg : ¬ ((m : Int) < 0) := by omega)
 have hbig : ¬ (281474976710656 < (m : Int) * (i1.bytes : Int)) := by
  have : ((m * i1.bytes : Nat) : Int) = (m : Int) * (i1.bytes : Int) := by simp
  omega
 (have hm : m ≠ 0 := by omega); (have hms : ¬ (m * i1.size = 0) := by rw [hs]; exact Nat.ne_of_gt (Nat.mul_pos (by omega) hsz)); (have h63 : ¬ (9223372036854775807 < (n : Int) + (m : Int)) := by omega); (have hnext : ¬ (281474976710656 < Builtin.nextslicecap (n + m) cap * i1.bytes) := by have := growslice_fits (need := n + m) (old := cap) (bytes := i1.bytes) (by omega) (by omega); omega); (have hf := run_firstCells_some (P := P) w.drew i1.size n ⟨g, 0, none⟩ n cap cells (by rw [hs]; exact hcl) (fun j u hj => by rw [Addr.add_lit, Nat.zero_add]; exact hcell j u hj)); (have hge := grownCap_ge w (n + m) cap e); (have hcm' := grownCap_le_maxLen w (n + m) cap e hnm)
 refine ⟨grownCap w (n + m) cap e, w.drew.alloc (.cells (cells.toArray ++ Builtin.zeroCells z1.cells m ++ Builtin.zeroCells z1.cells (grownCap w (n + m) cap e - (n + m))) e), ?_, hge, hcm', ⟨_, heap_alloc_new w.drew _, ?_, ?_⟩, by simp, rfl, rfl, rfl, fun k hk => heap_alloc_old w.drew _ hk⟩
 ·simp [Builtin.append_, run_underlying hu, run_underlying (hL.int t' .i64 hk'), sizeOf, typeInfo, hinf, asInt, asIntOf, hwr, hneg, hbig, zeroValue, hzero, hm, hms, h63, hroom, hnext, Question.forced, newRow, grownCap, hf]
 ·rw [Array.size_append, Array.size_append, size_zeroCells, size_zeroCells, hcs, List.size_toArray, hcl, ← Nat.add_mul, ← Nat.add_mul]; congr 1; omega
 ·rw [Array.toList_append, Array.toList_append, List.append_assoc, ← hcl]
  exact List.take_left
theorem rowOk_join {w w' : World} {F0 F : FS} {t : TypeId} {xs vs : List (L.D t)} {h cap i : Nat} {cur : Array Value} {fz : Nat × Nat} {cells vcells : List Value} (hfz : fz = (0, 0) ∨ (cur.size ≤ fz.1 ∧ (L.ti t).sz = 1)) (hh : w'.heap[h]? = some (.cells cur t fz)) (hcs : cur.size = cap * (L.ti t).sz) (hcm : cap ≤ maxLen) (hi : i ≤ xs.length) (hroom : xs.length + vs.length ≤ cap)
  (hcl : cells.length = xs.length * (L.ti t).sz) (hvl : vcells.length = vs.length * (L.ti t).sz) (M : Le w w' F0 F)
  (hcr : ∀ i j, (h : i < xs.length) → j < (L.ti t).sz → CR L w F0 ((L.cell t xs[i]).getD j .dead) (cells.getD (i * (L.ti t).sz + j) undef)) (hvr : ∀ i j, (h : i < vs.length) → j < (L.ti t).sz → CR L w F0 ((L.cell t vs[i]).getD j .dead) (vcells.getD (i * (L.ti t).sz + j) undef))
  (h1 : ∀ q, q < i * (L.ti t).sz → cur[q]? = cells[q]?) (h2 : ∀ q, q < vcells.length → cur[i * (L.ti t).sz + q]? = vcells[q]?) (h3 : ∀ q, i * (L.ti t).sz ≤ q → q < cells.length → cur[q + vcells.length]? = cells[q]?) :
  RowOk L w' F (.slice (some ⟨h, 0, none⟩) (xs.length + vs.length) cap) t (xs.take i ++ vs ++ xs.drop i) := by
 have hl : (xs.take i ++ vs ++ xs.drop i).length = xs.length + vs.length := by simp; omega
 have key : ∀ n, n = (xs.take i ++ vs ++ xs.drop i).length → RowOk L w' F (.slice (some ⟨h, 0, none⟩) n cap) t (xs.take i ++ vs ++ xs.drop i) := by
  rintro _ rfl
  refine rowOk_newT hfz hh (by omega) hcm hcs fun q jj hq hjj => ?_
  rw [hl] at hq
  have le_mul : ∀ {a b : Nat}, a < b → a * (L.ti t).sz + jj < b * (L.ti t).sz := fun {a b} hab => by
   (have : (a + 1) * (L.ti t).sz ≤ b * (L.ti t).sz := Nat.mul_le_mul_right _ hab); (rw [Nat.add_mul] at this; omega)
  by_cases c1 : q < i
  ·have hlc : q * (L.ti t).sz + jj < cells.length := by rw [hcl]; exact le_mul (by omega)
   refine ⟨_, (h1 _ (le_mul c1)).trans (List.getElem?_eq_getElem hlc), ?_⟩
   (have h6 := hcr q jj (by omega) hjj); (rw [getD_lt hlc] at h6)
   have e3 : (xs.take i ++ vs ++ xs.drop i)[q] = xs[q]'(by omega) := by
    rw [List.getElem_append_left (by simp; omega), List.getElem_append_left (by simp; omega), List.getElem_take]
   rw [e3]
   exact h6.mono M
  ·by_cases c2 : q < i + vs.length
   ·have hlc : (q - i) * (L.ti t).sz + jj < vcells.length := by rw [hvl]; exact le_mul (by omega)
    have e0 : q * (L.ti t).sz + jj = i * (L.ti t).sz + ((q - i) * (L.ti t).sz + jj) := by
     have : q * (L.ti t).sz = i * (L.ti t).sz + (q - i) * (L.ti t).sz := by rw [← Nat.add_mul]; congr 1; omega
     omega
    refine ⟨_, (by rw [e0]; exact (h2 _ hlc).trans (List.getElem?_eq_getElem hlc)), ?_⟩
    (have h6 := hvr (q - i) jj (by omega) hjj); (rw [getD_lt hlc] at h6)
    have e3 : (xs.take i ++ vs ++ xs.drop i)[q] = vs[q - i]'(by omega) := by
     rw [List.getElem_append_left (by simp; omega), List.getElem_append_right (by simp; omega)]
     congr 1; simp; omega
    rw [e3]
    exact h6.mono M
   ·have hlc : (q - vs.length) * (L.ti t).sz + jj < cells.length := by rw [hcl]; exact le_mul (by omega)
    have e0 : q * (L.ti t).sz + jj = (q - vs.length) * (L.ti t).sz + jj + vcells.length := by
     have : q * (L.ti t).sz = (q - vs.length) * (L.ti t).sz + vs.length * (L.ti t).sz := by rw [← Nat.add_mul]; congr 1; omega
     omega
    have hge : i * (L.ti t).sz ≤ (q - vs.length) * (L.ti t).sz + jj := by
     have : i * (L.ti t).sz ≤ (q - vs.length) * (L.ti t).sz := Nat.mul_le_mul_right _ (by omega)
     omega
    refine ⟨_, (by rw [e0]; exact (h3 _ hge hlc).trans (List.getElem?_eq_getElem hlc)), ?_⟩
    (have h6 := hcr (q - vs.length) jj (by omega) hjj); (rw [getD_lt hlc] at h6)
    have e3 : (xs.take i ++ vs ++ xs.drop i)[q] = xs[q - vs.length]'(by omega) := by
     rw [List.getElem_append_right (by simp; omega), List.getElem_drop]
     congr 1; simp; omega
    rw [e3]
    exact h6.mono M
 exact key _ hl.symm
end
end Go.Proofs.YtfeikakkfnnaoaaGreatDoor.V
namespace Go.Proofs.YtfeikakkfnnaoaaGreatDoor.V
open Go
set_option linter.unusedVariables false
set_option linter.unusedSimpArgs false
theorem ts_all : ∀ t, (tiD t).kind ≠ .other → t ∈ tsD := by
 intro t h
 unfold tiD at h
 split at h <;> first | exact absurd rfl h | (unfold tsD; decide)
theorem ts_ok : tsD.all (fun t => infoB Tryz.prog LD t && typeB Tryz.prog LD t) = true := by kernel_rfl
theorem cellL : ∀ t x, (cellD t x).length = (tiD t).sz := by
 intro t x
 unfold cellD
 split <;> first | rfl | simp
theorem formL : ∀ t x s, s ∈ cellD t x → (∃ u, s = .v u ∧ u.oneCell' = true) ∨ (∃ e ys, s = .ro e ys ∧ labdD t = false) ∨ ∃ l e ys, s = .lr l e ys ∧ labdD t = true ∧ ((zeroC e).any isNl = false ∨ labdD e = true) := by
  intro t x s hs
  unfold cellD at hs
  split at hs <;> first
    | (rw [List.eq_of_mem_replicate hs]; exact .inl ⟨_, rfl, rfl⟩)
    | (simp only [List.mem_cons, List.not_mem_nil, or_false] at hs
       repeat' (first | (obtain rfl := hs; first | exact .inl ⟨_, rfl, rfl⟩ | exact .inr (.inl ⟨_, _, rfl, rfl⟩) | exact .inr (.inr ⟨_, _, _, rfl, rfl, .inl rfl⟩) | exact .inr (.inr ⟨_, _, _, rfl, rfl, .inr rfl⟩)) | (rcases hs with hs | hs)))
theorem list_ok {t : TypeId} {s : SV DD} {xs : List (DD t)} (h : listOf t s = some xs) : canonT false s = .ro t xs := by
 unfold listOf at h
 split at h
 ·obtain ⟨e, rfl⟩ := castL_eq h
  subst e; rfl
 ·split at h
  ·rename_i hb
   (obtain rfl := Nat.eq_of_beq_eq_true hb); (obtain rfl := Option.some.inj h)
   rfl
  ·cases h
 ·cases h
theorem lr_ok {t : TypeId} {s : SV DD} {p : Nat × List (DD t)} (h : lrOf t s = some p) : canonT true s = .lr p.1 t p.2 := by
 unfold lrOf at h
 split at h
 ·split at h
  ·rename_i hc
   (obtain ⟨e, rfl⟩ := castL_eq hc); (subst e); (rw [← Option.some.inj h]; rfl)
  ·cases h
 ·split at h
  ·rename_i hb
   (obtain rfl := Nat.eq_of_beq_eq_true hb); (obtain rfl := Option.some.inj h)
   rfl
  ·cases h
 ·cases h
theorem makeL : ∀ t cs x, makeD t cs = some x → cellD t x = cs.map (canonT (labdD t)) := by
  intro t cs x h
  unfold makeD at h
  split at h <;> first
    | (cases h; done)
    | (obtain rfl := Option.some.inj h; rfl)
    | (repeat' (split at h)
       all_goals first
         | (cases h; done)
         | (obtain rfl := Option.some.inj h
            first
              | (show cellD _ _ = List.map (canonT false) _
                 simp only [List.map_cons, List.map_nil]
                 first
                   | rfl
                   | (rename_i h1; rw [list_ok h1]; rfl)
                   | (rename_i h1 _ _ h2; rw [list_ok h1, list_ok h2]; rfl)
                   | (rename_i h1 _ _ h2 _ _ h3; rw [list_ok h1, list_ok h2, list_ok h3]; rfl))
              | (show cellD _ _ = List.map (canonT true) _
                 simp only [List.map_cons, List.map_nil]
                 first
                   | rfl
                   | (rename_i h1; rw [lr_ok h1]; rfl)
                   | (rename_i h1 _ _ h2; rw [lr_ok h1, lr_ok h2]; rfl)
                   | (rename_i h1 _ _ h2 _ _ h3; rw [lr_ok h1, lr_ok h2, lr_ok h3]; rfl))))
theorem flatL : ∀ t x, (zeroC t).any isNl = false → ∀ s, s ∈ cellD t x → ∃ u, s = .v u := by
  intro t x hz s hs
  unfold cellD at hs
  split at hs <;> first
    | (cases hz; done)
    | (rw [List.eq_of_mem_replicate hs]; exact ⟨_, rfl⟩)
    | (simp only [List.mem_cons, List.not_mem_nil, or_false] at hs
       repeat' (first | (obtain rfl := hs; exact ⟨_, rfl⟩) | (rcases hs with hs | hs)))
theorem zdL : ∀ t e, (tiD t).kind = .slice e → cellD e (zeroD e) = (zeroC e).map (canonT (labdD e)) := by
 intro t e h
 unfold tiD at h
 split at h <;> first
  | (cases h; done)
  | (injection h with h; subst h; rfl)
theorem byteL : ∀ e, (tiD e).kind = .int .u8 → (tiD e).sz = 1 ∧ (tiD e).bytes = 1 ∧ (zeroC e) = [.v (.int .u8 0)] ∧ (∀ n, ∃ x, makeD e [.v (.int .u8 n)] = some x) ∧ ∀ x, ∃ n, cellD e x = [.v (.int .u8 n)] := by
 intro e h
 unfold tiD at h
 split at h <;> first
  | (cases h; done)
  | exact ⟨rfl, rfl, rfl, fun n => ⟨n, rfl⟩, fun x => ⟨x, rfl⟩⟩
theorem eqt_all : eqtL.all (fun p => eqtB Tryz.prog p.1 p.2) = true := by kernel_rfl
theorem all_look {α : Type} {f : Nat × α → Bool} {m : List (Nat × α)} {n : Nat} {x : α} (h : m.all f = true) (hl : look m n = some x) : f (n, x) = true := List.all_eq_true.1 h _ (look_mem hl)
theorem eqt_gen {P : Program} {m : List (Nat × List Nat)} (h : m.all (fun p => eqtB P p.1 p.2) = true) (t : TypeId) (g : List Nat) (hg : g = match look m t with
  | some l => l
  | none => []) (hne : g ≠ []) : eqtB P t g = true := by
 cases hl : look m t with
 | none => rw [hl] at hg; exact absurd hg hne
 | some l => rw [hl] at hg; rw [hg]; exact all_look h hl
theorem eqt_ok' : ∀ t, eqtD t ≠ [] → eqtB Tryz.prog t (eqtD t) = true := fun t h => eqt_gen eqt_all t (eqtD t) rfl h
theorem eqt_ok : ∀ t, LD.eqt t ≠ [] → eqtB Tryz.prog t (LD.eqt t) = true := eqt_ok'
theorem lay_ok : LayOk Tryz.prog LD := layOk_of ts_all ts_ok eqt_ok ⟨byteL, cellL, formL, makeL, flatL, zdL⟩
theorem sigs_ok : sigL.all (fun p => Nat.ble p.2.all.length 900) = true := by kernel_rfl
theorem small_ok : ∀ f, (sigD f).all.length ≤ 900 := by
 intro f
 unfold sigD
 split
 ·rename_i s hl
  exact Nat.le_of_ble_eq_true (List.all_eq_true.1 sigs_ok _ (look_mem hl))
 ·exact Nat.zero_le _
theorem mixed_ok : Tryz.prog.follows .mixedOrders = true := by kernel_rfl
theorem names_ok : Tryz.prog.funcs.toList.all (fun fn => !(fn.name == "runtime.NumGoroutine")) = true := by kernel_rfl
theorem name_ok : ∀ (f : FuncId) (fn : Func), Tryz.prog.funcs[f]? = some fn → (fn.name == "runtime.NumGoroutine") = false := fun f fn h => by
 have := List.all_eq_true.1 names_ok fn (List.mem_of_getElem? (by rw [Array.getElem?_toList]; exact h))
 simpa using this
theorem ctx_ok {Tab : TabP} (hk : TabKept Tab) (hx : ∀ (f : FuncId) (h : Nat → List (SV DD) → Option (RT DD (sigD f).all)), extD f = some h → ∀ k q r, h k q = some r → Meets Tryz.prog LD Tab (sigD f) f q r ∧ Callable Tryz.prog f) : CtxOk CD Tab where
 kept := hk
 lay := lay_ok
 mixed := mixed_ok
 small := small_ok
 name := name_ok
 ext := hx
end Go.Proofs.YtfeikakkfnnaoaaGreatDoor.V
