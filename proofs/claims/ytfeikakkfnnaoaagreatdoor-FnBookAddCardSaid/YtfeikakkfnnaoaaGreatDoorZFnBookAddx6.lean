/- Part of the proof of the law FnBookAdd: what it uses of the texts that this session and the kit's print wrote. -/
import Derived.Test.YtfeikakkfnnaoaaGreatDoorZFnBookAddx5
import Derived.LoopN
import Derived.Deep.MidRow
import Derived.KernelRfl
namespace Go.Proofs.YtfeikakkfnnaoaaGreatDoor.V
open Go
set_option linter.unusedVariables false
set_option linter.unusedSimpArgs false
section
variable {P : Program} {L : Lay} {E : Ent} {sig : FuncId → Sig} {call : (f : FuncId) → List (SV L.D) → Option (RT L.D (sig f).all)} {ρ : Type}
abbrev Tr (L : Lay) := Nat × Oper × Dl L.D × List Key
abbrev Ac := Nat × List Key × List Key × List Key
def fin_ : St L.D → List (Tr L) → St L.D
 | st, [] => st
 | st, (_, o, d, _) :: T => fin_ (st.put o.dst d) T
def accs : List (Tr L) → List Ac
 | [] => []
 | (i, o, d, R) :: T => (i, R, writesOf L o d, newOf L i o d) :: accs T
structure Ok1 (sig : FuncId → Sig) (call : (f : FuncId) → List (SV L.D) → Option (RT L.D (sig f).all)) (nt : Nat) (ops : List Oper) (i : Nat) (acc : List Ac) (st : St L.D) (o : Oper) (d : Dl L.D) (R : List Key) : Prop where
 op : ops[i]? = some o
 reads : R = readsOf L sig ops st o
 made : Made sig call ops i (restr L st R) o d
 clean : clean st (newOf L i o d) = true
 dst : dstOk nt o.dst = true
 back : doneB acc o = true
 apart : apartD L ops i o d R (writesOf L o d) acc = true
def Good (sig : FuncId → Sig) (call : (f : FuncId) → List (SV L.D) → Option (RT L.D (sig f).all)) (nt : Nat) (ops : List Oper) : List Ac → St L.D → List (Tr L) → Prop
 | _, _, [] => True
 | acc, st, (i, o, d, R) :: T => Ok1 sig call nt ops i acc st o d R ∧ Good sig call nt ops (acc ++ [(i, R, writesOf L o d, newOf L i o d)]) (st.put o.dst d) T
theorem opsD_good {nt : Nat} {ops : List Oper} {K : St L.D → Option ρ} {x : ρ} : ∀ (l : List Nat) (acc : List Ac) (st : St L.D), opsD L sig call nt ops acc l st K = some x → ∃ T : List (Tr L), T.map (·.1) = l ∧ Good sig call nt ops acc st T ∧ K (fin_ st T) = some x
 | [], acc, st, h => ⟨[], rfl, trivial, h⟩
 | i :: l, acc, st, h => by
  simp only [opsD] at h
  cases ho : ops[i]? with
  | none => rw [ho] at h; cases h
  | some o =>
   (rw [ho] at h); (simp only at h); (obtain ⟨d, hm, hn⟩ := oneK_made h)
   split at hn
   ·rename_i hc
    (simp only [Bool.and_eq_true] at hc); (obtain ⟨T, h1, h2, h3⟩ := opsD_good l _ _ hn)
    exact ⟨(i, o, d, readsOf L sig ops st o) :: T, by simp [h1], ⟨⟨ho, rfl, hm, hc.1.1.1, hc.1.1.2, hc.1.2, hc.2⟩, h2⟩, h3⟩
   ·cases hn
theorem good_get {nt : Nat} {ops : List Oper} : ∀ {T : List (Tr L)} {acc : List Ac} {st : St L.D}, Good sig call nt ops acc st T → ∀ j (hj : j < T.length), Ok1 sig call nt ops T[j].1 (acc ++ accs (T.take j)) (fin_ st (T.take j)) T[j].2.1 T[j].2.2.1 T[j].2.2.2
 | [], _, _, _, j, hj => absurd hj (Nat.not_lt_zero j)
 | (i, o, d, R) :: T, acc, st, h, 0, _ => by
  have := h.1
  simpa [accs, fin_] using this
 | (i, o, d, R) :: T, acc, st, h, j + 1, hj => by
  have := good_get h.2 j (by simpa using hj)
  simpa [accs, fin_] using this
theorem accs_len : ∀ (T : List (Tr L)), (accs T).length = T.length
 | [] => rfl
 | (i, o, d, R) :: T => by simp [accs, accs_len T]
theorem accs_get : ∀ (T : List (Tr L)) (j : Nat) (hj : j < T.length), (accs T)[j]? = some (T[j].1, T[j].2.2.2, writesOf L T[j].2.1 T[j].2.2.1, newOf L T[j].1 T[j].2.1 T[j].2.2.1)
 | [], j, hj => absurd hj (Nat.not_lt_zero j)
 | (i, o, d, R) :: T, 0, _ => by simp [accs]
 | (i, o, d, R) :: T, j + 1, hj => by
  have := accs_get T j (by simpa using hj)
  simpa [accs] using this
theorem keyIn_mem : ∀ {k : Key} {l : List Key}, k ∈ l → keyIn k l = true
 | k, (a, b) :: l, h => by
  simp only [keyIn, Bool.or_eq_true]
  rcases List.mem_cons.1 h with rfl | h
  ·left; simp
  ·exact .inr (keyIn_mem h)
theorem apartK_spec : ∀ {l m : List Key}, apartK l m = true → ∀ k, k ∈ l → k ∉ m
 | x :: l, m, h, k, hk => by
  simp only [apartK, Bool.and_eq_true, Bool.not_eq_true'] at h
  rcases List.mem_cons.1 hk with rfl | hk
  ·intro hm; rw [keyIn_mem hm] at h; cases h.1
  ·exact apartK_spec h.2 k hk
theorem silent_spec {o : Oper} {d : Dl L.D} : ∀ {l : List Key}, silent L o d l = true → ∀ k ∈ l, (o.dst.isSome = true → ment k d.val = false) ∧ mentC k d.boxes = false
 | x :: l, h, k, hk => by
  simp only [silent, Bool.and_eq_true, Bool.not_eq_true'] at h
  rcases List.mem_cons.1 hk with rfl | hk
  ·refine ⟨fun hs => ?_, h.1.2⟩
   have := h.1.1
   cases hd : o.dst with
   | none => rw [hd] at hs; cases hs
   | some n => rw [hd] at this; simpa using this
  ·exact silent_spec h.2 k hk
theorem apartD_get {ops : List Oper} {j : Nat} {o : Oper} {d : Dl L.D} {r w : List Key} : ∀ {acc : List Ac}, apartD L ops j o d r w acc = true → ∀ (q : Nat) (a : Ac), acc[q]? = some a → waitsB ops ops.length a.1 j = true ∨ (apartK a.2.2.1 r = true ∧ apartK a.2.2.1 w = true ∧ apartK w a.2.1 = true ∧ silent L o d a.2.2.2 = true)
 | [], _, q, a, h => by simp at h
 | (i, r', w', n') :: l, h, 0, a, ha => by
  (simp only [apartD, Bool.and_eq_true, Bool.or_eq_true] at h); (obtain rfl : (i, r', w', n') = a := by simpa using ha)
  rcases h.1 with h1 | h1
  ·exact .inl h1
  ·exact .inr ⟨h1.1.1.1, h1.1.1.2, h1.1.2, h1.2⟩
 | (i, r', w', n') :: l, h, q + 1, a, ha => by
  simp only [apartD, Bool.and_eq_true] at h
  exact apartD_get h.2 q a (by simpa using ha)
def putsB : Nat → (Nat → Bool) → St L.D → List (Tr L) → St L.D
 | _, _, st, [] => st
 | i, B, st, (_, o, d, _) :: T => putsB (i + 1) B (if B i then st.put o.dst d else st) T
theorem putsB_imps : ∀ (T : List (Tr L)) (i : Nat) (B : Nat → Bool) (st : St L.D), (putsB i B st T).imps = st.imps
 | [], _, _, _ => rfl
 | (_, o, d, _) :: T, i, B, st => by
  (simp only [putsB]); (rw [putsB_imps T])
  cases B i <;> rfl
theorem putsB_c0 : ∀ (T : List (Tr L)) (i : Nat) (B : Nat → Bool) (st : St L.D), (putsB i B st T).c0 = st.c0
 | [], _, _, _ => rfl
 | (_, o, d, _) :: T, i, B, st => by
  (simp only [putsB]); (rw [putsB_c0 T])
  cases B i <;> rfl
theorem fin_putsB : ∀ (T : List (Tr L)) (i j : Nat) (st : St L.D), fin_ st (T.take j) = putsB i (fun q => decide (q < i + j)) st T
 | [], i, j, st => by cases j <;> rfl
 | (ix, o, d, R) :: T, i, 0, st => by
  simp only [List.take_zero, fin_, putsB]
  have : ∀ (T : List (Tr L)) (i i0 : Nat) (st : St L.D), i0 ≤ i → putsB i (fun q => decide (q < i0)) st T = st := by
   intro T
   induction T with
   | nil => intro i i0 st _; rfl
   | cons t T ih =>
    intro i i0 st h
    (obtain ⟨ix, o, d, R⟩ := t); (simp only [putsB]); (rw [if_neg (by simp; omega)])
    exact ih _ _ _ (by omega)
  rw [if_neg (by simp)]
  exact (this T (i + 1) (i + 0) st (by omega)).symm
 | (ix, o, d, R) :: T, i, j + 1, st => by
  (simp only [List.take_succ_cons, fin_, putsB]); (rw [fin_putsB T (i + 1) j (st.put o.dst d), if_pos (by simp)]); (have e : i + (j + 1) = i + 1 + j := by omega); (rw [e])
theorem putsB_all (T : List (Tr L)) (st : St L.D) : ∀ (i : Nat) (B : Nat → Bool), (∀ q, q < T.length → B (i + q) = true) → putsB i B st T = fin_ st T := by
 induction T generalizing st with
 | nil => intro i B _; rfl
 | cons t T ih =>
  intro i B h
  (obtain ⟨ix, o, d, R⟩ := t); (simp only [putsB, fin_]); (rw [if_pos (by simpa using h 0 (by simp))])
  refine ih _ (i + 1) B fun q hq => ?_
  have := h (q + 1) (by simpa using hq)
  rwa [show i + (q + 1) = i + 1 + q by omega] at this
theorem putsB_none (T : List (Tr L)) (st : St L.D) : ∀ (i : Nat) (B : Nat → Bool), (∀ q, q < T.length → B (i + q) = false) → putsB i B st T = st := by
 induction T generalizing st with
 | nil => intro i B _; rfl
 | cons t T ih =>
  intro i B h
  (obtain ⟨ix, o, d, R⟩ := t); (simp only [putsB]); (rw [if_neg (by have := h 0 (by simp); simpa using this)])
  refine ih _ (i + 1) B fun q hq => ?_
  have := h (q + 1) (by simpa using hq)
  rwa [show i + (q + 1) = i + 1 + q by omega] at this
theorem agree_B {k : Key} : ∀ (T : List (Tr L)) (i : Nat) (B B' : Nat → Bool) (st st' : St L.D), Agree k st st' → (∀ q (hq : q < T.length), B (i + q) ≠ B' (i + q) → k ∉ writesOf L T[q].2.1 T[q].2.2.1) → Agree k (putsB i B st T) (putsB i B' st' T)
 | [], _, _, _, _, _, h, _ => h
 | (ix, o, d, R) :: T, i, B, B', st, st', h, hd => by
  simp only [putsB]
  refine agree_B T (i + 1) B B' _ _ ?_ fun q hq hne => ?_
  ·have h0 := hd 0 (by simp)
   simp only [Nat.add_zero, List.getElem_cons_zero] at h0
   cases hb : B i <;> cases hb' : B' i
   ·exact h
   ·exact h.trans (put_out (h0 (by rw [hb, hb']; simp)) st').symm
   ·exact (put_out (h0 (by rw [hb, hb']; simp)) st).trans h
   ·exact put_both h o d
  ·have := hd (q + 1) (by simpa using hq)
   rw [show i + (q + 1) = i + 1 + q by omega] at this
   simpa using this hne
theorem agree_add {k : Key} : ∀ (T : List (Tr L)) (i j : Nat) (B B' : Nat → Bool) (st st' : St L.D), (hj : j < T.length) → (∀ q, q < T.length → q ≠ j → B (i + q) = B' (i + q)) → B (i + j) = false → B' (i + j) = true → Agree k st st' →
  (∀ q (hq : q < T.length), j < q → B (i + q) = true → ∀ k, k ∈ writesOf L T[j].2.1 T[j].2.2.1 → k ∉ writesOf L T[q].2.1 T[q].2.2.1) → Agree k ((putsB i B st T).put T[j].2.1.dst T[j].2.2.1) (putsB i B' st' T)
 | [], _, j, _, _, _, _, hj, _, _, _, _, _ => absurd hj (Nat.not_lt_zero j)
 | (ix, o, d, R) :: T, i, 0, B, B', st, st', hj, hB, h0, h1, ha, hw => by
  (simp only [Nat.add_zero] at h0 h1); (simp only [putsB, h0, h1, if_true, Bool.false_eq_true, if_false, List.getElem_cons_zero])
  have hsame : ∀ q, q < T.length → B (i + 1 + q) = B' (i + 1 + q) := fun q hq => by
   have := hB (q + 1) (by simpa using hq) (by omega)
   rwa [show i + (q + 1) = i + 1 + q by omega] at this
  by_cases hk : k ∈ writesOf L o d
  ·refine (put_in hk _ st').trans ?_
   have := agree_B (k := k) T (i + 1) (fun _ => false) B' (st'.put o.dst d) (st'.put o.dst d) (Agree.refl _ _) fun q hq hne => ?_
   ·rwa [putsB_none T _ (i + 1) (fun _ => false) fun _ _ => rfl] at this
   ·have h2 := hw (q + 1) (by simpa using hq) (by omega) (by rw [show i + (q + 1) = i + 1 + q by omega, hsame q hq]; cases hb : B' (i + 1 + q) with | true => rfl | false => rw [hb] at hne; exact absurd rfl hne) k (by simpa using hk)
    simpa using h2
  ·refine (put_out hk _).trans (agree_B T (i + 1) B B' _ _ (ha.trans (put_out hk st').symm) fun q hq hne => absurd (hsame q hq) hne)
 | (ix, o, d, R) :: T, i, j + 1, B, B', st, st', hj, hB, h0, h1, ha, hw => by
  (have e0 := hB 0 (by simp) (by omega)); (simp only [Nat.add_zero] at e0); (simp only [putsB, List.getElem_cons_succ])
  refine agree_add T (i + 1) j B B' _ _ (by simpa using hj) (fun q hq hne => ?_) (by rwa [show i + 1 + j = i + (j + 1) by omega]) (by rwa [show i + 1 + j = i + (j + 1) by omega]) ?_ fun q hq hlt hb k hk => ?_
  ·have := hB (q + 1) (by simpa using hq) (by omega)
   rwa [show i + (q + 1) = i + 1 + q by omega] at this
  ·rw [e0]
   cases B' i with
   | true => exact put_both ha o d
   | false => exact ha
  ·have := hw (q + 1) (by simpa using hq) (by omega) (by rwa [show i + (q + 1) = i + 1 + q by omega]) k (by simpa using hk)
   simpa using this
theorem clean_put {st : St L.D} {o : Oper} {d : Dl L.D} : ∀ {ks : List Key}, clean st ks = true → (∀ k ∈ ks, (o.dst.isSome = true → ment k d.val = false) ∧ mentC k d.boxes = false) → clean (st.put o.dst d) ks = true
 | [], _, _ => rfl
 | k :: l, h, hd => by
  (simp only [clean, Bool.and_eq_true, Bool.not_eq_true'] at h ⊢); (obtain ⟨h1, h2⟩ := hd k List.mem_cons_self)
  refine ⟨⟨⟨?_, ?_⟩, h.1.2⟩, clean_put h.2 fun k hk => hd k (List.mem_cons_of_mem _ hk)⟩
  ·cases hdst : o.dst with
   | none => exact h.1.1.1
   | some n =>
    simp only [St.put, mentT, Bool.or_eq_false_iff]
    exact ⟨h1 (by rw [hdst]; rfl), h.1.1.1⟩
  ·have : ∀ (l m : List (Nat × Option (List (SV L.D)))), mentC k l = false → mentC k m = false → mentC k (l ++ m) = false := by
    intro l
    induction l with
    | nil => intro m _ hm; exact hm
    | cons x l ih =>
     intro m hl hm
     obtain ⟨n, o⟩ := x
     cases o with
     | none => simp only [List.cons_append, mentC] at hl ⊢; exact ih m hl hm
     | some cs =>
      simp only [List.cons_append, mentC, Bool.or_eq_false_iff] at hl ⊢
      exact ⟨hl.1, ih m hl.2 hm⟩
   exact this _ _ h2 h.1.1.2
theorem clean_of_put {st : St L.D} {o : Oper} {d : Dl L.D} : ∀ {ks : List Key}, clean (st.put o.dst d) ks = true → clean st ks = true ∧ ∀ k ∈ ks, (o.dst.isSome = true → ment k d.val = false) ∧ mentC k d.boxes = false
 | [], _ => ⟨rfl, fun _ h => by cases h⟩
 | k :: l, h => by
  (simp only [clean, Bool.and_eq_true, Bool.not_eq_true'] at h); (obtain ⟨g1, g2⟩ := clean_of_put h.2)
  have app : ∀ (l m : List (Nat × Option (List (SV L.D)))), mentC k (l ++ m) = false → mentC k l = false ∧ mentC k m = false := by
   intro l
   induction l with
   | nil => intro m hm; exact ⟨rfl, hm⟩
   | cons x l ih =>
    intro m hl
    obtain ⟨n, o⟩ := x
    cases o with
    | none => simp only [List.cons_append, mentC] at hl ⊢; exact ih m hl
    | some cs =>
     simp only [List.cons_append, mentC, Bool.or_eq_false_iff] at hl ⊢
     exact ⟨⟨hl.1, (ih m hl.2).1⟩, (ih m hl.2).2⟩
  obtain ⟨c1, c2⟩ := app _ _ h.1.1.2
  have ht : mentT k st.tmps = false ∧ (o.dst.isSome = true → ment k d.val = false) := by
   cases hdst : o.dst with
   | none => have := h.1.1.1; rw [hdst] at this; exact ⟨this, fun e => by cases e⟩
   | some n =>
    (have := h.1.1.1); (rw [hdst] at this); (simp only [St.put, mentT, Bool.or_eq_false_iff] at this)
    exact ⟨this.2, fun _ => this.1⟩
  refine ⟨by simp only [clean, Bool.and_eq_true, Bool.not_eq_true']; exact ⟨⟨⟨ht.1, c2⟩, h.1.2⟩, g1⟩, fun k' hk' => ?_⟩
  rcases List.mem_cons.1 hk' with rfl | hk'
  ·exact ⟨ht.2, c1⟩
  ·exact g2 k' hk'
theorem clean_B {ks : List Key} : ∀ (T : List (Tr L)) (i : Nat) (B : Nat → Bool) (st : St L.D), clean st ks = true → (∀ q (hq : q < T.length), B (i + q) = true → ∀ k ∈ ks, (T[q].2.1.dst.isSome = true → ment k T[q].2.2.1.val = false) ∧ mentC k T[q].2.2.1.boxes = false) → clean (putsB i B st T) ks = true
 | [], _, _, _, h, _ => h
 | (ix, o, d, R) :: T, i, B, st, h, hq => by
  simp only [putsB]
  refine clean_B T (i + 1) B _ ?_ fun q hq' hb => ?_
  ·cases hb : B i with
   | false => exact h
   | true => exact clean_put h (hq 0 (by simp) (by simpa using hb))
  ·exact hq (q + 1) (by simpa using hq') (by rwa [show i + (q + 1) = i + 1 + q by omega])
theorem clean_of_B {ks : List Key} : ∀ (T : List (Tr L)) (i : Nat) (B : Nat → Bool) (st : St L.D), clean (putsB i B st T) ks = true → clean st ks = true ∧ ∀ q (hq : q < T.length), B (i + q) = true → ∀ k ∈ ks, (T[q].2.1.dst.isSome = true → ment k T[q].2.2.1.val = false) ∧ mentC k T[q].2.2.1.boxes = false
 | [], _, _, _, h => ⟨h, fun q hq => absurd hq (Nat.not_lt_zero q)⟩
 | (ix, o, d, R) :: T, i, B, st, h => by
  (simp only [putsB] at h); (obtain ⟨g1, g2⟩ := clean_of_B T (i + 1) B _ h)
  have h0 : clean st ks = true ∧ (B i = true → ∀ k ∈ ks, (o.dst.isSome = true → ment k d.val = false) ∧ mentC k d.boxes = false) := by
   cases hb : B i with
   | false => rw [hb] at g1; exact ⟨g1, fun e => by cases e⟩
   | true => rw [hb] at g1; exact ⟨(clean_of_put g1).1, fun _ => (clean_of_put g1).2⟩
  refine ⟨h0.1, fun q hq hb => ?_⟩
  cases q with
  | zero => exact h0.2 (by simpa using hb)
  | succ q => exact g2 q (by simpa using hq) (by rwa [show i + 1 + q = i + (q + 1) by omega])
end
end Go.Proofs.YtfeikakkfnnaoaaGreatDoor.V
namespace Go.Proofs.YtfeikakkfnnaoaaGreatDoor.V
open Go
set_option linter.unusedVariables false
set_option linter.unusedSimpArgs false
def bOf (l : Array Bool) (q : Nat) : Bool := l.getD q false
def cntF : Nat → Array Bool → Nat
 | 0, _ => 0
 | m + 1, l => cntF m l + (if bOf l m then 0 else 1)
theorem bOf_set {l : Array Bool} {j : Nat} (hj : j < l.size) (q : Nat) : bOf (l.setIfInBounds j true) q = if q = j then true else bOf l q := by
 unfold bOf
 simp only [Array.getD_eq_getD_getElem?]
 by_cases e : q = j
 ·subst e; rw [if_pos rfl, Array.getElem?_setIfInBounds_self_of_lt hj]; rfl
 ·rw [if_neg e, Array.getElem?_setIfInBounds_ne (by omega)]
theorem cntF_out {l : Array Bool} {j : Nat} (hj : j < l.size) : ∀ m, m ≤ j → cntF m (l.setIfInBounds j true) = cntF m l
 | 0, _ => rfl
 | m + 1, h => by
  (simp only [cntF]); (rw [cntF_out hj m (by omega), bOf_set hj, if_neg (show ¬ m = j by omega)])
theorem cntF_set {l : Array Bool} {j : Nat} (hj : j < l.size) (hb : bOf l j = false) : ∀ m, j < m → cntF m (l.setIfInBounds j true) + 1 = cntF m l
 | 0, h => absurd h (Nat.not_lt_zero j)
 | m + 1, h => by
  simp only [cntF]
  by_cases e : m = j
  ·subst e
   rw [cntF_out hj m (Nat.le_refl _), bOf_set hj, if_pos rfl, hb]; simp
  ·have := cntF_set hj hb m (by omega)
   rw [bOf_set hj, if_neg e]; omega
theorem cntF_zero {l : Array Bool} : ∀ m, cntF m l = 0 → ∀ q, q < m → bOf l q = true
 | 0, _, q, h => absurd h (Nat.not_lt_zero q)
 | m + 1, h, q, hq => by
  simp only [cntF] at h
  by_cases e : q = m
  ·subst e
   cases hb : bOf l q with
   | true => rfl
   | false => rw [hb] at h; simp at h
  ·exact cntF_zero m (by omega) q (by omega)
section
variable {P : Program} {L : Lay} {E : Ent} {sig : FuncId → Sig} {call : (f : FuncId) → List (SV L.D) → Option (RT L.D (sig f).all)} {ρ : Type}
def Closed (ops : Array Oper) (l : Array Bool) : Prop := ∀ (q : Nat) o, ops[q]? = some o → bOf l q = true → ∀ e ∈ o.after, Region.binds .any e = true → bOf l e.on = true
theorem waits_in {ops : Array Oper} {l : Array Bool} (hc : Closed ops l) : ∀ (n i j : Nat), waitsB ops.toList n i j = true → (∀ o, ops[j]? = some o → ∀ e ∈ o.after, Region.binds .any e = true → bOf l e.on = true) → bOf l i = true
 | 0, i, j, h, _ => by cases h
 | n + 1, i, j, h, hj => by
  simp only [waitsB] at h
  split at h
  ·rename_i o ho
   (rw [Array.getElem?_toList] at ho); (obtain ⟨e, he, h2⟩ := List.any_eq_true.1 h); (simp only [Bool.and_eq_true, Bool.or_eq_true] at h2); (have hb := hj o ho e (by simpa using he) h2.1)
   rcases h2.2 with h3 | h3
   ·rw [← Nat.eq_of_beq_eq_true h3]; exact hb
   ·exact waits_in hc n i e.on h3 fun o' ho' e' he' hb' => hc e.on o' ho' hb e' he' hb'
  ·cases h
variable {ops : Array Oper} {st0 : St L.D} {T : List (Tr L)}
def bP (T : List (Tr L)) (l : Array Bool) (q : Nat) : Bool := match T[q]? with
 | some t => bOf l t.1
 | none => false
theorem bP_at {l : Array Bool} {q : Nat} (hq : q < T.length) : bP T l q = bOf l T[q].1 := by
 unfold bP; rw [List.getElem?_eq_getElem hq]
structure Perm (ops : Array Oper) (T : List (Tr L)) : Prop where
 len : T.length = ops.size
 nd : (T.map (·.1)).Nodup
theorem pigeon : ∀ (n : Nat) (l : List Nat), l.Nodup → (∀ x ∈ l, x < n) → l.length ≤ n
 | 0, l, _, h => by
  cases l with
  | nil => exact Nat.le_refl _
  | cons x l => exact absurd (h x List.mem_cons_self) (Nat.not_lt_zero x)
 | n + 1, l, hn, h => by
  have := pigeon n (l.erase n) (hn.erase n) fun x hx => by
   (have h1 := h x (List.mem_of_mem_erase hx)); (have h2 : x ≠ n := fun e => by rw [e] at hx; exact hn.not_mem_erase hx)
   omega
  by_cases hm : n ∈ l
  ·rw [List.length_erase_of_mem hm] at this; omega
  ·rw [List.erase_of_not_mem hm] at this; omega
theorem Perm.inj (h : Perm ops T) {p q : Nat} (hp : p < T.length) (hq : q < T.length) (e : T[p].1 = T[q].1) : p = q := by
 (have h1 : p < (T.map (·.1)).length := by simpa using hp); (have h2 : q < (T.map (·.1)).length := by simpa using hq); (have e' : (T.map (·.1))[p] = (T.map (·.1))[q] := by simpa using e)
 exact (List.getElem_inj h.nd).1 e'
theorem Perm.pos (h : Perm ops T) (hlt : ∀ q (hq : q < T.length), T[q].1 < ops.size) {j : Nat} (hj : j < ops.size) : ∃ (p : Nat) (hp : p < T.length), T[p].1 = j := by
 have hall : ∀ x ∈ T.map (·.1), x < ops.size := fun x hx => by
  (obtain ⟨q, hq, e⟩ := List.getElem_of_mem hx); (simp only [List.getElem_map] at e); (rw [← e])
  exact hlt q (by simpa using hq)
 by_cases hm : j ∈ T.map (·.1)
 ·obtain ⟨q, hq, e⟩ := List.getElem_of_mem hm
  exact ⟨q, by simpa using hq, by simpa using e⟩
 ·have := pigeon ops.size (j :: T.map (·.1)) (List.nodup_cons.2 ⟨hm, h.nd⟩) fun x hx => by
   rcases List.mem_cons.1 hx with rfl | hx
   ·exact hj
   ·exact hall x hx
  have hl := h.len
  simp at this; omega
theorem draw_step (hL : LayOk P L) {Tab : TabP} (hC : CallOk P L Tab E sig call) (hT : Perm ops T) (hg : Good sig call E.nt ops.toList [] st0 T) {l : Array Bool} (hs : l.size = ops.size) (hc : Closed ops l) {i : Nat} {o : Oper} (ho : ops[i]? = some o) (hb : bOf l i = false) (hw : ∀ e ∈ o.after, Region.binds .any e = true → bOf l e.on = true)
  {V : Vl} {a : Act} {w : World} (hr : Rel L E (putsB 0 (bP T l) st0 T) V a w) {K : Act → World → Prop} {Q : Exit → Act → World → Prop} (hK : ∀ V' a' w', Rel L E (putsB 0 (bP T (l.setIfInBounds i true)) st0 T) V' a' w' → K a' w') : wpOp P ops Q i K a w := by
 have hn : T.length = ops.size := hT.len
 have opT : ∀ q (hq : q < T.length), ops[T[q].1]? = some T[q].2.1 := fun q hq => by
  have := (good_get hg q hq).op
  rwa [Array.getElem?_toList] at this
 (have hlt : ∀ q (hq : q < T.length), T[q].1 < ops.size := fun q hq => (Array.getElem?_eq_some_iff.1 (opT q hq)).1); (obtain ⟨j, hj, ej⟩ := hT.pos hlt (Array.getElem?_eq_some_iff.1 ho).1); (have eo : T[j].2.1 = o := Option.some.inj ((opT j hj).symm.trans (by rw [ej]; exact ho)))
 -- two operations, the later one not waiting for the earlier one
 have pair : ∀ p q (hp : p < T.length) (hq : q < T.length), p < q → waitsB ops.toList ops.toList.length T[p].1 T[q].1 = true ∨ (apartK (writesOf L T[p].2.1 T[p].2.2.1) T[q].2.2.2 = true ∧ apartK (writesOf L T[p].2.1 T[p].2.2.1) (writesOf L T[q].2.1 T[q].2.2.1) = true ∧ apartK (writesOf L T[q].2.1 T[q].2.2.1) T[p].2.2.2 = true ∧ silent L T[q].2.1 T[q].2.2.1 (newOf L T[p].1 T[p].2.1 T[p].2.2.1) = true) := fun p q hp hq hlt => by
  (have G := (good_get hg q hq).apart); (simp only [List.nil_append] at G); (have hp' : p < (T.take q).length := by simp; omega); (have A := accs_get (T.take q) p hp'); (have := apartD_get G p _ A); (simp only [List.getElem_take] at this)
  exact this
 have early : ∀ q (hq : q < T.length), q < j → bP T l q = false → waitsB ops.toList ops.toList.length T[q].1 i = false := fun q hq hlt hbq => by
  cases hwt : waitsB ops.toList ops.toList.length T[q].1 i with
  | false => rfl
  | true =>
   (have := waits_in hc _ T[q].1 i hwt fun o' ho' e he hbd => hw e (by rwa [Option.some.inj (ho'.symm.trans ho)] at he) hbd); (rw [bP_at hq, this] at hbq; cases hbq)
 have late : ∀ q (hq : q < T.length), bP T l q = true → waitsB ops.toList ops.toList.length i T[q].1 = false := fun q hq hbq => by
  cases hwt : waitsB ops.toList ops.toList.length i T[q].1 with
  | false => rfl
  | true =>
   (have := waits_in hc _ i T[q].1 hwt fun o' ho' e he hbd => hc T[q].1 o' ho' (by rw [← bP_at hq]; exact hbq) e he hbd); (rw [hb] at this; cases this)
 have hbj : bP T l j = false := by rw [bP_at hj, ej]; exact hb
 have hset : ∀ q, q < T.length → bP T (l.setIfInBounds i true) q = if q = j then true else bP T l q := fun q hq => by
  rw [bP_at hq, bP_at hq, bOf_set (by rw [hs]; exact (Array.getElem?_eq_some_iff.1 ho).1)]
  by_cases e : q = j
  ·subst e; rw [if_pos ej, if_pos rfl]
  ·rw [if_neg e, if_neg fun e' => e (hT.inj hq hj (e'.trans ej.symm))]
 (obtain ⟨r0, r1, r2, r3, r4, r5, r6⟩ := good_get hg j hj); (rw [ej] at r2 r3); (have est := fin_putsB T 0 j st0); (rw [Nat.zero_add] at est)
 -- the reading of less is the same
 have hres : restr L (putsB 0 (bP T l) st0 T) T[j].2.2.2 = restr L (fin_ st0 (T.take j)) T[j].2.2.2 := by
  refine restr_eq (st := putsB 0 (bP T l) st0 T) (st' := fin_ st0 (T.take j)) (fun k hk => ?_) (by rw [est, putsB_imps, putsB_imps]) (by rw [est, putsB_c0, putsB_c0])
  rw [est]
  refine agree_B T 0 _ _ _ _ (Agree.refl _ _) fun q hq hne => ?_
  rw [Nat.zero_add] at hne
  by_cases hlt : q < j
  ·have hbq : bP T l q = false := by
    cases h : bP T l q with
    | false => rfl
    | true => rw [h] at hne; simp [hlt] at hne
   rcases pair q j hq hj hlt with h | h
   ·rw [ej, early q hq hlt hbq] at h; cases h
   ·exact fun hm => apartK_spec h.1 k hm hk
  ·have hbq : bP T l q = true := by
    cases h : bP T l q with
    | true => rfl
    | false => rw [h] at hne; simp [hlt] at hne
   have hqj : q ≠ j := fun e => by rw [e, hbj] at hbq; cases hbq
   rcases pair j q hj hq (by omega) with h | h
   ·rw [ej, late q hq hbq] at h; cases h
   ·exact fun hm => apartK_spec h.2.2.1 k hm hk
 have hmade : Made sig call ops.toList i (putsB 0 (bP T l) st0 T) o T[j].2.2.1 := by
  (rw [← eo]); (have hrd : T[j].2.2.2 = readsOf L sig ops.toList (fin_ st0 (T.take j)) T[j].2.1 := r1)
  refine made_mono (r := T[j].2.2.2) (fun n hn' => ?_) (by rw [hres]; exact r2)
  rw [hrd]
  unfold readsOf
  exact List.mem_append_left _ (List.mem_append_left _ (List.mem_map.2 ⟨n, List.mem_append_left _ hn', rfl⟩))
 have hclean : clean (putsB 0 (bP T l) st0 T) (newOf L i o T[j].2.2.1) = true := by
  (rw [eo, est] at r3); (obtain ⟨c1, c2⟩ := clean_of_B T 0 _ _ r3)
  refine clean_B T 0 _ _ c1 fun q hq hbq k hk => ?_
  rw [Nat.zero_add] at hbq
  by_cases hlt : q < j
  ·exact c2 q hq (by simpa using hlt) k hk
  ·have hqj : q ≠ j := fun e => by rw [e, hbj] at hbq; cases hbq
   rcases pair j q hj hq (by omega) with h | h
   ·rw [ej, late q hq hbq] at h; cases h
   ·refine silent_spec h.2.2.2 k ?_
    rw [ej, eo]; exact hk
 have step := made_ok hL hC hr hmade hclean (by rw [← eo]; exact r4) (K := K) (Q := Q) fun V' v w' hrel => by
  refine hK V' _ w' ?_
  have hag : ∀ k, Agree k ((putsB 0 (bP T l) st0 T).put o.dst T[j].2.2.1) (putsB 0 (bP T (l.setIfInBounds i true)) st0 T) := fun k => by
   have := agree_add (k := k) T 0 j (bP T l) (bP T (l.setIfInBounds i true)) st0 st0 hj (fun q hq hne => ?_) (by rw [Nat.zero_add]; exact hbj) ?_ (Agree.refl _ _) fun q hq hlt hbq k hk hm => ?_
   ·rwa [eo] at this
   ·rw [Nat.zero_add, hset q hq, if_neg hne]
   ·rw [Nat.zero_add, hset j hj, if_pos rfl]
   ·rw [Nat.zero_add] at hbq
    rcases pair j q hj hq hlt with h | h
    ·rw [ej, late q hq hbq] at h; cases h
    ·exact apartK_spec h.2.1 k hk hm
  refine hrel.less (fun b => ((hag (1, b)).2.1 rfl).symm) (fun i => ((hag (2, i)).2.2.1 rfl).symm) (by rw [putsB_imps]; show st0.imps = (putsB 0 (bP T l) st0 T).imps; rw [putsB_imps]) ((hag (3, 0)).2.2.2 rfl).symm (by rw [putsB_c0]; show st0.c0 = (putsB 0 (bP T l) st0 T).c0; rw [putsB_c0]) fun n hsr => ?_
  rw [← (hag (0, n)).1 rfl]; exact hsr
 unfold wpOp
 simp only [ho]
 split
 ·rename_i hwn
  rw [if_pos hwn] at step
  exact .inl step
 ·rename_i hwn
  rw [if_neg hwn] at step
  exact step
theorem getD_tf {l : Array Bool} {j : Nat} (hj : j < l.size) : l.getD j true = bOf l j := by
 unfold bOf; simp [Array.getD, hj]
theorem draw_any (hL : LayOk P L) {Tab : TabP} (hC : CallOk P L Tab E sig call) (hT : Perm ops T) (hg : Good sig call E.nt ops.toList [] st0 T) {Q : Exit → Act → World → Prop} (hQ : ∀ V a w, Rel L E (fin_ st0 T) V a w → Q .normal a w) :
  ∀ (fuel : Nat) (l : Array Bool) (V : Vl) (a : Act) (w : World), l.size = ops.size → Closed ops l → cntF ops.size l ≤ fuel → Rel L E (putsB 0 (bP T l) st0 T) V a w → wpAny P .any ops Q fuel l a w := by
 have hn : T.length = ops.size := hT.len
 have opT : ∀ q (hq : q < T.length), ops[T[q].1]? = some T[q].2.1 := fun q hq => by
  have := (good_get hg q hq).op
  rwa [Array.getElem?_toList] at this
 have hlt0 : ∀ q (hq : q < T.length), T[q].1 < ops.size := fun q hq => (Array.getElem?_eq_some_iff.1 (opT q hq)).1
 have done : ∀ {l : Array Bool} {V : Vl} {a : Act} {w : World}, cntF ops.size l = 0 → Rel L E (putsB 0 (bP T l) st0 T) V a w → Q .normal a w := fun {l V a w} h0 hr => by
  rw [putsB_all T st0 0 _ fun q hq => by rw [Nat.zero_add, bP_at hq]; exact cntF_zero _ h0 _ (hlt0 q hq)] at hr
  exact hQ V a w hr
 -- while something is left, something is ready
 have some_ready : ∀ {l : Array Bool}, l.size = ops.size → Region.ready .any ops l = [] → cntF ops.size l = 0 := fun {l} hs hr => by
  have allP : ∀ q (hq : q < T.length), bOf l T[q].1 = true := by
   intro q
   induction q using Nat.strongRecOn with
   | ind q ih =>
    intro hqT
    cases hb : bOf l T[q].1 with
    | true => rfl
    | false =>
     exfalso
     have ho := opT q hqT
     have : T[q].1 ∈ Region.ready .any ops l := by
      rw [mem_ready]
      refine ⟨by rw [getD_tf (by rw [hs]; exact hlt0 q hqT)]; exact hb, T[q].2.1, ho, fun e he hbd => ?_⟩
      (have hbk := (good_get hg q hqT).back); (simp only [List.nil_append, doneB] at hbk); (have h1 := List.all_eq_true.1 hbk e (by simpa using he)); (rw [hbd, Bool.not_true, Bool.false_or] at h1); (obtain ⟨x, hx, h2⟩ := List.any_eq_true.1 h1); (obtain ⟨p, hp, e1⟩ := List.getElem_of_mem hx); (rw [accs_len] at hp); (have hpq : p < q := by simp at hp; omega); (have hg' := accs_get (T.take q) p hp); (rw [List.getElem?_eq_getElem (by rw [accs_len]; exact hp), e1] at hg'); (have e2 := Option.some.inj hg'); (have e3 : x.1 = T[p].1 := by rw [e2]; simp); (rw [← Nat.eq_of_beq_eq_true h2, e3])
      exact ih p hpq (by omega)
     rw [hr] at this; cases this
  have all : ∀ q, q < ops.size → bOf l q = true := fun q hq => by
   (obtain ⟨p, hp, e⟩ := hT.pos hlt0 hq); (rw [← e]; exact allP p hp)
  have : ∀ m, m ≤ ops.size → cntF m l = 0 := by
   intro m
   induction m with
   | zero => intro _; rfl
   | succ m ih =>
    intro hm
    simp only [cntF, ih (by omega), all m (by omega), if_true]
  exact this _ (Nat.le_refl _)
 intro fuel
 induction fuel with
 | zero =>
  intro l V a w hs hc hcnt hr
  have h0 : cntF ops.size l = 0 := by omega
  refine ⟨?_, done h0 hr⟩
  cases hrd : Region.ready .any ops l with
  | nil => rfl
  | cons j r =>
   (have hj : j ∈ Region.ready .any ops l := by rw [hrd]; exact List.mem_cons_self); (rw [mem_ready] at hj); (obtain ⟨h1, o, ho, _⟩ := hj); (have hlt := (Array.getElem?_eq_some_iff.1 ho).1); (rw [getD_tf (by omega), cntF_zero _ h0 j hlt] at h1)
   cases h1
 | succ fuel ih =>
  intro l V a w hs hc hcnt hr
  refine ⟨fun hrd => done (some_ready hs hrd) hr, fun j hj => ?_⟩
  (rw [mem_ready] at hj); (obtain ⟨h1, o, ho, h2⟩ := hj); (have hlt := (Array.getElem?_eq_some_iff.1 ho).1); (rw [getD_tf (by omega)] at h1)
  refine draw_step hL hC hT hg hs hc ho h1 h2 hr fun V' a' w' hrel => ih _ V' a' w' (by simpa using hs) (fun q o' ho' hbq e he hbd => ?_) (by have := cntF_set (l := l) (by omega) h1 ops.size hlt; omega) hrel
  rw [bOf_set (by omega)] at hbq ⊢
  by_cases ej : e.on = j
  ·rw [if_pos ej]
  ·rw [if_neg ej]
   by_cases eq' : q = j
   ·subst eq'
    exact h2 e (by rwa [Option.some.inj (ho'.symm.trans ho)] at he) hbd
   ·rw [if_neg eq'] at hbq
    exact hc q o' ho' hbq e he hbd
theorem Rel.drawn {st : St L.D} {V : Vl} {a : Act} {w : World} (h : Rel L E st V a w) : Rel L E st V a { w with drawn := w.drawn + 1 } := by
 have := Rel.put (dst := none) (s := .dead) (ks := []) (v := undef) (w' := { w with drawn := w.drawn + 1 }) h rfl (fun n hn => by cases hn) (fun _ _ => rfl) (Nat.le_refl _) rfl rfl rfl (.dead _)
 exact this
theorem region_draw (hL : LayOk P L) {Tab : TabP} (hC : CallOk P L Tab E sig call) (hm : P.follows .mixedOrders = true) {K : St L.D → Option ρ} {x : ρ} {Q : Exit → Act → World → Prop} (hK : ∀ st V a w, K st = some x → Rel L E st V a w → Q .normal a w) {id : Nat} {st : St L.D} {V : Vl} {a : Act} {w : World}
  (h : opsR L sig call E.nt ops.toList true st K = some x) (hr : Rel L E st V a w) : (Code.region id ops true).wp P Q a w := by
 simp only [opsR] at h
 split at h
 case h_2 => cases h
 rename_i hck
 (rw [Bool.and_eq_true] at hck); (obtain ⟨T, h1, h2, h3⟩ := opsD_good _ [] st h)
 have hP : Perm ops T := ⟨by
  (have e1 := congrArg List.length h1); (have e2 := Nat.eq_of_beq_eq_true hck.1); (rw [List.length_map] at e1)
  rw [e1, e2, Array.length_toList], by rw [h1]; exact nodupB_spec hck.2⟩
 have hb : ∀ q, bOf (Array.replicate ops.size false) q = false := fun q => by
  unfold bOf
  simp only [Array.getD_eq_getD_getElem?, Array.getElem?_replicate]
  split <;> rfl
 have hcnt : ∀ m (l : Array Bool), cntF m l ≤ m := by
  intro m l
  induction m with
  | zero => exact Nat.le_refl _
  | succ m ih => simp only [cntF]; split <;> omega
 refine wp_region_any hm (draw_any hL hC hP h2 (fun V a w hrel => hK _ V a w h3 hrel) ops.size _ V a _ (by simp) (fun q o ho hbq => by rw [hb] at hbq; cases hbq) (hcnt _ _) ?_)
 rw [putsB_none T st 0 _ fun q hq => by rw [Nat.zero_add, bP_at hq]; exact hb _]
 exact hr.drawn
end
end Go.Proofs.YtfeikakkfnnaoaaGreatDoor.V
namespace Go.Proofs.YtfeikakkfnnaoaaGreatDoor.V
open Go
set_option linter.unusedVariables false
set_option linter.unusedSimpArgs false
section
variable {P : Program} {L : Lay} {E : Ent} {st st' : St L.D} {V V' : Vl} {a : Act} {w : World}
structure RB (L : Lay) (st st' : St L.D) (V V' : Vl) (mb mr : Nat → Nat) : Prop where
 box : ∀ b cs', st'.box b = some cs' → ∃ cs, st.box (mb b) = some cs ∧ cs'.length = cs.length ∧ V'.ba b = V.ba (mb b) ∧ V'.bo b = V.bo (mb b)
 boxI : ∀ b1 b2 c1 c2, st'.box b1 = some c1 → st'.box b2 = some c2 → mb b1 = mb b2 → b1 = b2
 row : ∀ i r, st'.row i = some r → (st.row (mr i) = some r ∧ V'.rv i = V.rv (mr i)) ∨ (V'.rv i = .slice none 0 0 ∧ r.xs = [] ∧ r.fz = false)
 rowI : ∀ i1 i2 r1 r2, st'.row i1 = some r1 → st'.row i2 = some r2 → V'.rv i1 ≠ .slice none 0 0 → mr i1 = mr i2 → i1 = i2
 ctr : st'.ctr = st.ctr
 c0 : st'.c0 = st.c0
 lv : ∀ l, V'.lv l = V.lv l
variable {mb mr : Nat → Nat}
theorem RB.lab (R : RB L st st' V V' mb mr) (l : Nat) : Lab st' l ↔ Lab st l := by unfold Lab; rw [R.ctr, R.c0]
theorem RB.ow (R : RB L st st' V V' mb mr) {k : Nat} (h : Ow st' V' k) : Ow st V k := by
 rcases h with (⟨b, cs, hb, e⟩ | ⟨i, r, hr, hf, e⟩) | ⟨l, hl, e⟩
 ·obtain ⟨cs0, h0, _, h1, _⟩ := R.box b cs hb
  exact .inl (.inl ⟨mb b, cs0, h0, by rw [← h1]; exact e⟩)
 ·rcases R.row i r hr with ⟨h0, h1⟩ | ⟨h0, _⟩
  ·exact .inl (.inr ⟨mr i, r, h0, hf, by rw [← h1]; exact e⟩)
  ·rw [h0] at e; cases e
 ·exact .inr ⟨l, (R.lab l).1 hl, by rw [← R.lv]; exact e⟩
theorem RB.fz (R : RB L st st' V V' mb mr) : Le w w (Fz E st V w) (Fz E st' V' w) := .sub (fun k h => h.imp id fun ⟨h1, h2, h3⟩ => ⟨h1, h2, fun ho => h3 (R.ow ho)⟩) fun l v h => h.imp id fun ⟨h1, h2⟩ => ⟨(R.lab l).2 h1, by rw [R.lv]; exact h2⟩
theorem Rel.recast (h : Rel L E st V a w) (R : RB L st st' V V' mb mr)
  (hc : ∀ b cs' cs, st'.box b = some cs' → st.box (mb b) = some cs → ∀ j, j < cs.length → ∀ v, SR L w (Fz E st V w) st V a.tmps (cs.getD j .dead) v → SR L w (Fz E st' V' w) st' V' a.tmps (cs'.getD j .dead) v)
  (ht : ∀ n v, SR L w (Fz E st V w) st V a.tmps (st.tmp n) v → SR L w (Fz E st' V' w) st' V' a.tmps (st'.tmp n) v)
  (hi : st'.imps.length = st.imps.length) (hb : ∀ q (h1 : q < st'.imps.length) (h2 : q < st.imps.length), (∃ cs', st'.box st'.imps[q] = some cs') ∧ mb st'.imps[q] = st.imps[q]) : Rel L E st' V' a w := by
 (have FF : Le w w (Fz E st V w) (Fz E st' V' w) := R.fz); (have nz : ∀ {v : Value} {k : Nat}, v.ownBlock = some k → v ≠ .slice none 0 0 := fun e e' => by rw [e'] at e; cases e)
 refine ⟨fun n => ht n _ (h.tmp n), fun b cs' hb' => ?_, fun i r hr => ?_, fun b b' cs cs' h1 h2 e => ?_, fun b cs i r hb' hr hf e => ?_, fun i i' r r' k hr hr' hf hf' e e' => ?_, fun k hk => h.own k (R.ow hk), h.old, h.fimp, h.size, h.kept, h.os, h.tape, h.output, h.defers, h.slots, fun q hq => ?_, hi.trans h.impN, fun l hl => by rw [R.lv]; exact h.lab l ((R.lab l).1 hl), fun l b cs hl hb' e => ?_, fun l i r k hl hr hf e e' => ?_, fun l l' k hl hl' e e' => h.ll l l' k ((R.lab l).1 hl) ((R.lab l').1 hl') (by rw [← R.lv]; exact e) (by rw [← R.lv]; exact e'), fun n hn => by rw [R.c0]; exact h.labF n (by rw [← R.ctr]; exact hn), h.oldL, fun n hn => by rw [R.c0]; exact h.qc n (by rw [← R.ctr]; exact hn)⟩
 ·obtain ⟨cs, h0, hl, h1, h2⟩ := R.box b cs' hb'
  obtain ⟨vs, T, g1, g2, g3⟩ := h.box _ cs h0
  refine ⟨vs, T, by rw [h1]; exact g1, by rw [h2, hl]; exact g2, fun j hj => ?_⟩
  obtain ⟨u, k1, k2, k3⟩ := g3 j (by omega)
  exact ⟨u, by rw [h2]; exact k1, k2, hc b cs' cs hb' h0 j (by omega) u k3⟩
 ·rcases R.row i r hr with ⟨h0, h1⟩ | ⟨h0, h1, h2⟩
  ·rw [h1]
   obtain ⟨p, q⟩ := h.row _ r h0
   exact ⟨fun hf => (p hf).mono FF, fun hf => (q hf).mono FF fun _ _ => rfl⟩
  ·rw [h0, h1]
   refine ⟨(fun hf => by rw [h2] at hf; cases hf), fun _ => ⟨[], ⟨by simp, .inl ⟨rfl, rfl⟩⟩, (fun u hu => by cases hu), fun i j hi => absurd hi (Nat.not_lt_zero i)⟩⟩
 ·obtain ⟨c1, k1, _, k2, _⟩ := R.box b cs h1
  obtain ⟨c2, k3, _, k4, _⟩ := R.box b' cs' h2
  exact R.boxI b b' cs cs' h1 h2 (h.bb _ _ c1 c2 k1 k3 (by rw [← k2, ← k4]; exact e))
 ·obtain ⟨c1, k1, _, k2, _⟩ := R.box b cs hb'
  rcases R.row i r hr with ⟨h0, h1⟩ | ⟨h0, _⟩
  ·exact h.br _ c1 _ r k1 h0 hf (by rw [← h1, e, k2])
  ·rw [h0] at e; cases e
 ·rcases R.row i r hr with ⟨h0, h1⟩ | ⟨h0, _⟩
  ·rcases R.row i' r' hr' with ⟨g0, g1⟩ | ⟨g0, _⟩
   ·exact R.rowI i i' r r' hr hr' (nz e) (h.rr _ _ r r' k h0 g0 hf hf' (by rw [← h1]; exact e) (by rw [← g1]; exact e'))
   ·rw [g0] at e'; cases e'
  ·rw [h0] at e; cases e
 ·have hq' : q < st.imps.length := by omega
  (obtain ⟨⟨cs', h1⟩, h2⟩ := hb q hq hq'); (obtain ⟨cs, h0, hl, g1, g2⟩ := R.box _ cs' h1); (obtain ⟨cs2, p, k1, k2, k3, k4, k5⟩ := h.imps q hq'); (rw [h2] at h0 g1 g2); (obtain rfl : cs = cs2 := Option.some.inj (h0.symm.trans k1))
  exact ⟨cs', p, h1, k2, g1.trans k3, g2.trans k4, fun o ho => k5 o (by rw [← hl]; exact ho)⟩
 ·obtain ⟨c1, k1, _, k2, _⟩ := R.box b cs hb'
  rw [R.lv, k2] at e
  exact h.lbx l _ c1 ((R.lab l).1 hl) k1 e
 ·rw [R.lv] at e
  rcases R.row i r hr with ⟨h0, h1⟩ | ⟨h0, _⟩
  ·rw [h1] at e'
   exact h.lrw l _ r k ((R.lab l).1 hl) h0 hf e e'
  ·rw [h0] at e'; cases e'
theorem idx_spec : ∀ {l : List Nat} {n p q : Nat}, idx n p l = some q → p ≤ q ∧ l[q - p]? = some n
 | [], n, p, q, h => by cases h
 | m :: l, n, p, q, h => by
  simp only [idx] at h
  split at h
  ·rename_i hb
   (obtain rfl := Option.some.inj h); (rw [Nat.eq_of_beq_eq_true hb])
   exact ⟨Nat.le_refl _, by simp⟩
  ·obtain ⟨h1, h2⟩ := idx_spec h
   refine ⟨by omega, ?_⟩
   rw [show q - p = (q - (p + 1)) + 1 by omega, List.getElem?_cons_succ]; exact h2
theorem look_renB {st : St L.D} {bs0 rs : List Nat} : ∀ {l : List Nat} {p b : Nat} {o : Option (List (SV L.D))}, look (renB L st bs0 rs p l) b = some o → p ≤ b ∧ ∃ b0, l[b - p]? = some b0 ∧ o = (st.box b0).map (renL L st bs0 rs)
 | [], _, _, _, h => by cases h
 | b0 :: l, p, b, o, h => by
  (simp only [renB] at h); (rw [look_cons] at h)
  by_cases e : b = p
  ·subst e
   rw [if_pos rfl] at h
   refine ⟨Nat.le_refl _, b0, by simp, ?_⟩
   rw [← Option.some.inj h]
   cases st.box b0 <;> rfl
  ·rw [if_neg e] at h
   obtain ⟨h1, b1, h2, h3⟩ := look_renB h
   refine ⟨by omega, b1, ?_, h3⟩
   rw [show b - p = (b - (p + 1)) + 1 by omega, List.getElem?_cons_succ]; exact h2
theorem look_renR {st : St L.D} : ∀ {l : List Nat} {p b : Nat} {o : Option (Row L.D)}, look (renR L st p l) b = some o → p ≤ b ∧ ∃ b0, l[b - p]? = some b0 ∧ o = st.row b0
 | [], _, _, _, h => by cases h
 | b0 :: l, p, b, o, h => by
  (simp only [renR] at h); (rw [look_cons] at h)
  by_cases e : b = p
  ·subst e
   rw [if_pos rfl] at h
   exact ⟨Nat.le_refl _, b0, by simp, (Option.some.inj h).symm⟩
  ·rw [if_neg e] at h
   obtain ⟨h1, b1, h2, h3⟩ := look_renR h
   refine ⟨by omega, b1, ?_, h3⟩
   rw [show b - p = (b - (p + 1)) + 1 by omega, List.getElem?_cons_succ]; exact h2
theorem look_renT {st : St L.D} {bs rs : List Nat} : ∀ {l : List Nat} {n : Nat} {s : SV L.D}, look (renT L st bs rs l) n = some s → s = ren L st bs rs (st.tmp n)
 | [], _, _, h => by cases h
 | m :: l, n, s, h => by
  (simp only [renT] at h); (rw [look_cons] at h)
  by_cases e : n = m
  ·subst e; rw [if_pos rfl] at h; exact (Option.some.inj h).symm
  ·rw [if_neg e] at h; exact look_renT h
theorem renL_get {st : St L.D} {bs rs : List Nat} : ∀ (l : List (SV L.D)) (j : Nat), (renL L st bs rs l).length = l.length ∧ (j < l.length → (renL L st bs rs l).getD j .dead = ren1 L st bs rs (l.getD j .dead))
 | [], _ => ⟨rfl, fun h => absurd h (Nat.not_lt_zero _)⟩
 | s :: l, 0 => ⟨by simp [renL, (renL_get l 0).1], fun _ => rfl⟩
 | s :: l, j + 1 => ⟨by simp [renL, (renL_get l 0).1], fun h => by simpa [renL] using (renL_get l j).2 (by simpa using h)⟩
end
end Go.Proofs.YtfeikakkfnnaoaaGreatDoor.V
namespace Go.Proofs.YtfeikakkfnnaoaaGreatDoor.V
open Go
set_option linter.unusedVariables false
set_option linter.unusedSimpArgs false
section
variable {P : Program} {L : Lay} {E : Ent} {st st' : St L.D} {V V' : Vl} {a : Act} {w : World}
theorem boxIds_pre : ∀ (ks : List Key) (l : List Nat), ∃ m, boxIds ks l = l ++ m
 | [], l => ⟨[], by simp [boxIds]⟩
 | (0, b) :: ks, l => boxIds_pre ks l
 | (1, b) :: ks, l => by
  (obtain ⟨m, h⟩ := boxIds_pre ks (addN b l)); (simp only [boxIds]); (rw [h])
  unfold addN
  split
  ·exact ⟨m, rfl⟩
  ·exact ⟨b :: m, by simp⟩
 | (k + 2, b) :: ks, l => boxIds_pre ks l
theorem boxesOf_pre (live : List Nat) (st : St L.D) : ∃ m, boxesOf L live st = st.imps ++ m := by
 unfold boxesOf
 (obtain ⟨m, h⟩ := boxIds_pre (live.flatMap fun n => keys1 L (st.tmp n)) st.imps); (simp only [h])
 suffices H : ∀ ks, ∃ m', boxIds ks (st.imps ++ m) = st.imps ++ m' from H _
 intro ks
 obtain ⟨m', h'⟩ := boxIds_pre ks (st.imps ++ m)
 exact ⟨m ++ m', by rw [h', List.append_assoc]⟩
theorem liveBoxes_app (st : St L.D) : ∀ (l m : List Nat), liveBoxes L st (l ++ m) = liveBoxes L st l ++ liveBoxes L st m
 | [], m => rfl
 | b :: l, m => by
  simp only [List.cons_append, liveBoxes, liveBoxes_app st l m]
  split <;> rfl
theorem liveBoxes_all (st : St L.D) : ∀ (l : List Nat), (∀ b ∈ l, ∃ cs, st.box b = some cs) → liveBoxes L st l = l
 | [], _ => rfl
 | b :: l, h => by
  (obtain ⟨cs, hb⟩ := h b List.mem_cons_self); (simp only [liveBoxes, hb]); (rw [liveBoxes_all st l fun b hb => h b (List.mem_cons_of_mem _ hb)])
theorem ren1_ok (h : Rel L E st V a w) {bs rs : List Nat} {F' : FS} (hF : Le w w (Fz E st V w) F') (hB : ∀ q cs, st'.box q = some cs → ∃ b cs0, bs[q]? = some b ∧ st.box b = some cs0 ∧ V'.ba q = V.ba b ∧ V'.bo q = V.bo b) (hR : ∀ q r, st'.row q = some r → ∃ j, rs[q]? = some j ∧ st.row j = some r ∧ V'.rv q = V.rv j)
  {s : SV L.D} {v : Value} (hs : SR L w (Fz E st V w) st V a.tmps s v) : SR L w F' st' V' a.tmps (ren1 L st bs rs s) v := by
 have FF := hF
 cases s with
 | own j =>
  simp only [ren1]
  cases hi : idx j 0 rs with
  | some q =>
   refine .own q v fun r hr => ?_
   (obtain ⟨j', h1, h2, h3⟩ := hR q r hr); (have := (idx_spec hi).2); (rw [Nat.sub_zero, h1] at this); (obtain rfl := Option.some.inj this); (rw [h3]; exact hs.own_inv h2)
  | none =>
   simp only
   cases hr : st.row j with
   | none => exact .dead v
   | some r =>
    simp only
    cases hf : r.fz with
    | false => exact .dead v
    | true =>
     (simp only); (rw [hs.own_inv hr])
     exact .c (((h.row j r hr).1 hf).mono FF)
 | ep j ix off =>
  simp only [ren1]
  cases hi : idx j 0 rs with
  | some q =>
   refine .ep q ix off v fun r hr => ?_
   (obtain ⟨j', h1, h2, h3⟩ := hR q r hr); (have := (idx_spec hi).2); (rw [Nat.sub_zero, h1] at this); (obtain rfl := Option.some.inj this); (rw [h3]; exact hs.ep_inv h2)
  | none => exact .dead v
 | ptr b off =>
  simp only [ren1]
  cases hi : idx b 0 bs with
  | some q =>
   refine .ptr q off v fun cs hb => ?_
   (obtain ⟨b', cs0, h1, h2, h3, h4⟩ := hB q cs hb); (have := (idx_spec hi).2); (rw [Nat.sub_zero, h1] at this); (obtain rfl := Option.some.inj this); (rw [h3, h4]; exact hs.ptr_inv h2)
  | none => exact .dead v
 | v x => rw [hs.v_inv.1]; exact .c (.v _ hs.v_inv.2)
 | ro t xs => exact .c (hs.ro_inv.mono FF)
 | rp t x off =>
  (obtain ⟨b, o, f, hb, e, hu, hr⟩ := hs.rp_inv); (rw [e])
  exact .rp t x off b o f (hF.keeps hb).1 hu fun j hj => (hr j hj).mono FF
 | nl t => rw [hs.nl_inv]; exact .nl t
 | agg => exact .dead v
 | tup => exact .dead v
 | cl => exact .dead v
 | rb cs off =>
  (obtain ⟨b, o, f, hb, e, hu, hr⟩ := hs.rb_inv); (rw [e])
  exact .rb cs off b o f (hF.keeps hb).1 hu fun j hj => (hr j hj).mono hF
 | pb => exact .dead v
 | fr => exact .dead v
 | gd => exact .dead v
 | ct => exact .dead v
 | lr l t xs => exact .c (hs.lr_inv.mono FF)
 | rn t xs => exact .c (hs.rn_inv.mono FF)
 | dead => exact .dead v
theorem ren_ok (h : Rel L E st V a w) {bs rs : List Nat} {F' : FS} (hF : Le w w (Fz E st V w) F') (hB : ∀ q cs, st'.box q = some cs → ∃ b cs0, bs[q]? = some b ∧ st.box b = some cs0 ∧ V'.ba q = V.ba b ∧ V'.bo q = V.bo b) (hR : ∀ q r, st'.row q = some r → ∃ j, rs[q]? = some j ∧ st.row j = some r ∧ V'.rv q = V.rv j)
  {s : SV L.D} {v : Value} (hs : SR L w (Fz E st V w) st V a.tmps s v) : SR L w F' st' V' a.tmps (ren L st bs rs s) v := by
 have one : ∀ {s : SV L.D} {v : Value}, SR L w (Fz E st V w) st V a.tmps s v → SR L w F' st' V' a.tmps (ren1 L st bs rs s) v := fun hs => ren1_ok h hF hB hR hs
 have list : ∀ {cs : List (SV L.D)} {vs : List Value}, cs.length = vs.length → (∀ j, j < cs.length → SR L w (Fz E st V w) st V a.tmps (cs.getD j .dead) (vs.getD j undef)) → (renL L st bs rs cs).length = vs.length ∧ ∀ j, j < (renL L st bs rs cs).length → SR L w F' st' V' a.tmps ((renL L st bs rs cs).getD j .dead) (vs.getD j undef) := fun {cs vs} hl hj => by
  refine ⟨by rw [(renL_get cs 0).1, hl], fun j hjl => ?_⟩
  (rw [(renL_get cs 0).1] at hjl); (rw [(renL_get cs j).2 hjl])
  exact one (hj j hjl)
 cases s with
 | agg cs =>
  (obtain ⟨vs, rfl, hl, h1, hj⟩ := hs.agg_inv); (obtain ⟨g1, g2⟩ := list hl hj)
  exact .agg _ vs g1 h1 g2
 | tup cs =>
  obtain ⟨vs, rfl, hl, hj⟩ := hs.tup_inv
  refine .tup _ vs (by simp [hl]) fun j hjl => ?_
  (have hjl' : j < cs.length := by simpa using hjl); (rw [getD_lt hjl, List.getElem_map]); (have hx := hj j hjl'); (rw [getD_lt hjl'] at hx)
  generalize cs[j] = x at hx
  split
  ·obtain ⟨us, e, hl', h1', hj'⟩ := hx.agg_inv
   (obtain ⟨g1, g2⟩ := list hl' hj'); (rw [e])
   exact .agg _ us g1 h1' g2
  ·exact one hx
 | cl f cs =>
  (obtain ⟨vs, rfl, hl, hj⟩ := hs.cl_inv); (obtain ⟨g1, g2⟩ := list hl hj)
  exact .cl f _ vs g1 g2
 | rb cs off =>
  (obtain ⟨b, o, f, hb, e, hu, hr⟩ := hs.rb_inv); (rw [e])
  exact .rb cs off b o f (hF.keeps hb).1 hu fun j hj => (hr j hj).mono hF
 | _ => exact one hs
theorem getD_some {l : List Nat} {q b : Nat} (h : l[q]? = some b) : l.getD q 0 = b := by rw [List.getD_eq_getElem?_getD, h]; rfl
theorem nodup_at : ∀ {l : List Nat}, l.Nodup → ∀ {p q b : Nat}, l[p]? = some b → l[q]? = some b → p = q
 | [], _, p, _, _, h, _ => by simp at h
 | x :: l, hn, 0, 0, _, _, _ => rfl
 | x :: l, hn, 0, q + 1, b, h1, h2 => by
  obtain rfl : x = b := by simpa using h1
  exact absurd (List.mem_of_getElem? (by simpa using h2)) (List.nodup_cons.1 hn).1
 | x :: l, hn, p + 1, 0, b, h1, h2 => by
  obtain rfl : x = b := by simpa using h2
  exact absurd (List.mem_of_getElem? (by simpa using h1)) (List.nodup_cons.1 hn).1
 | x :: l, hn, p + 1, q + 1, b, h1, h2 => congrArg (· + 1) (nodup_at (List.nodup_cons.1 hn).2 (by simpa using h1) (by simpa using h2))
theorem view_ok (h : Rel L E st V a w) {live : List Nat} (hv : view L live st = some st') : ∃ V', Rel L E st' V' a w := by
 unfold view at hv
 simp only at hv
 generalize hbs : liveBoxes L st (boxesOf L live st) = bs at hv
 split at hv
 ·rename_i hn
  (obtain rfl := Option.some.inj hv); (simp only [Bool.and_eq_true] at hn); (have n1 := nodupB_spec hn.1); (have n2 := nodupB_spec hn.2)
  generalize (liveRows L st (rowIds ((live.flatMap fun n => keys1 L (st.tmp n)) ++ bs.flatMap fun b => match st.box b with | some cs => keysL L cs | none => []) [])) = rs at n2
  let V' : Vl := { ba := fun q => V.ba (bs.getD q 0), bo := fun q => V.bo (bs.getD q 0), rv := fun q => V.rv (rs.getD q 0), lv := V.lv }
  let s2 : St L.D := { tmps := renT L st bs rs live, boxes := renB L st bs rs 0 bs, rows := renR L st 0 rs, imps := List.range st.imps.length, ctr := st.ctr, c0 := st.c0 }
  have hbox : ∀ b cs', s2.box b = some cs' → ∃ b0 cs, bs[b]? = some b0 ∧ st.box b0 = some cs ∧ cs' = renL L st bs rs cs := fun b cs' hb => by
   unfold St.box at hb
   split at hb
   ·rename_i o hl
    (obtain ⟨_, b0, h1, h2⟩ := look_renB hl); (rw [h2] at hb)
    cases hb0 : st.box b0 with
    | none => rw [hb0] at hb; cases hb
    | some cs => rw [hb0] at hb; exact ⟨b0, cs, by simpa using h1, hb0, (Option.some.inj hb).symm⟩
   ·cases hb
  have hrow : ∀ i r, s2.row i = some r → ∃ j, rs[i]? = some j ∧ st.row j = some r := fun i r hr => by
   unfold St.row at hr
   split at hr
   ·rename_i o hl
    (obtain ⟨_, b0, h1, h2⟩ := look_renR hl); (rw [h2] at hr)
    exact ⟨b0, by simpa using h1, hr⟩
   ·cases hr
  have R : RB L st s2 V V' (fun q => bs.getD q 0) (fun q => rs.getD q 0) := by
   refine ⟨fun b cs' hb => ?_, fun b1 b2 c1 c2 h1 h2 e => ?_, fun i r hr => ?_, fun i1 i2 r1 r2 h1 h2 _ e => ?_, rfl, rfl, fun _ => rfl⟩
   ·obtain ⟨b0, cs, h1, h2, rfl⟩ := hbox b cs' hb
    exact ⟨cs, by simp only [getD_some h1]; exact h2, (renL_get cs 0).1, rfl, rfl⟩
   ·obtain ⟨x, _, g1, _⟩ := hbox b1 c1 h1
    (obtain ⟨y, _, g2, _⟩ := hbox b2 c2 h2); (simp only [getD_some g1, getD_some g2] at e); (subst e)
    exact nodup_at n1 g1 g2
   ·obtain ⟨j, h1, h2⟩ := hrow i r hr
    exact .inl ⟨by simp only [getD_some h1]; exact h2, rfl⟩
   ·obtain ⟨x, g1, _⟩ := hrow i1 r1 h1
    (obtain ⟨y, g2, _⟩ := hrow i2 r2 h2); (simp only [getD_some g1, getD_some g2] at e); (subst e)
    exact nodup_at n2 g1 g2
  have hB : ∀ q cs, s2.box q = some cs → ∃ b cs0, bs[q]? = some b ∧ st.box b = some cs0 ∧ V'.ba q = V.ba b ∧ V'.bo q = V.bo b := fun q cs hb => by
   obtain ⟨b0, cs0, h1, h2, _⟩ := hbox q cs hb
   exact ⟨b0, cs0, h1, h2, by simp only [V', getD_some h1], by simp only [V', getD_some h1]⟩
  have hR : ∀ q r, s2.row q = some r → ∃ j, rs[q]? = some j ∧ st.row j = some r ∧ V'.rv q = V.rv j := fun q r hr => by
   obtain ⟨j, h1, h2⟩ := hrow q r hr
   exact ⟨j, h1, h2, by simp only [V', getD_some h1]⟩
  refine ⟨V', h.recast R (fun b cs' cs hb hb0 j hj v hs => ?_) (fun n v hs => ?_) (by simp [s2]) fun q h1 h2 => ?_⟩
  ·obtain ⟨b0, cs0, g1, g2, rfl⟩ := hbox b cs' hb
   (simp only [getD_some g1] at hb0); (obtain rfl := Option.some.inj (g2.symm.trans hb0)); (rw [(renL_get cs0 j).2 hj])
   exact ren1_ok h R.fz hB hR hs
  ·show SR L w (Fz E s2 V' w) s2 V' a.tmps (orDead (look (renT L st bs rs live) n)) v
   cases hl : look (renT L st bs rs live) n with
   | none => exact .dead v
   | some s =>
    rw [look_renT hl]
    exact ren_ok h R.fz hB hR hs
  ·have e : s2.imps[q] = q := by simp [s2]
   obtain ⟨m, hm⟩ := boxesOf_pre (L := L) live st
   have hpre : bs = st.imps ++ liveBoxes L st m := by
    (rw [← hbs, hm, liveBoxes_app, liveBoxes_all st st.imps fun b hb => ?_]); (obtain ⟨q, hq, rfl⟩ := List.getElem_of_mem hb); (obtain ⟨cs, p, g, _⟩ := h.imps q hq)
    exact ⟨cs, g⟩
   (have hq : bs[q]? = some st.imps[q] := by rw [hpre, List.getElem?_append_left h2]; exact List.getElem?_eq_getElem h2); (rw [e])
   refine ⟨?_, getD_some hq⟩
   obtain ⟨cs, p, g, _⟩ := h.imps q h2
   have : ∀ (l : List Nat) (p i b0 : Nat), l[i]? = some b0 → look (renB L st bs rs p l) (p + i) = some ((st.box b0).map (renL L st bs rs)) := by
    intro l
    induction l with
    | nil => intro p i b0 h; cases h
    | cons x l ih =>
     intro p i b0 h
     (simp only [renB]); (rw [look_cons])
     cases i with
     | zero =>
      (obtain rfl : x = b0 := by simpa using h); (rw [if_pos (show p + 0 = p from rfl)])
      cases st.box x <;> rfl
     | succ i =>
      rw [if_neg (by omega), show p + (i + 1) = p + 1 + i by omega]
      exact ih (p + 1) i b0 (by simpa using h)
   (have hlk := this bs 0 q _ hq); (rw [Nat.zero_add, g] at hlk)
   refine ⟨renL L st bs rs cs, ?_⟩
   unfold St.box
   simp only [hlk]; rfl
 ·cases hv
end
end Go.Proofs.YtfeikakkfnnaoaaGreatDoor.V
namespace Go.Proofs.YtfeikakkfnnaoaaGreatDoor.V
open Go
set_option linter.unusedVariables false
set_option linter.unusedSimpArgs false
section
variable {P : Program} {L : Lay} {E : Ent} {st st' : St L.D} {V V' : Vl} {a : Act} {w : World}
theorem nilL_get : ∀ (id : Nat) (l : List (SV L.D)) (j : Nat), (nilL L id l).1.length = l.length ∧ (j < l.length → (nilL L id l).1.getD j .dead = (nil1 L (id + j) (l.getD j .dead)).1 ∧ ∀ x ∈ (nil1 L (id + j) (l.getD j .dead)).2, x ∈ (nilL L id l).2) ∧ ∀ x ∈ (nilL L id l).2, ∃ t, x.2 = some ⟨t, false, []⟩
 | _, [], _ => ⟨rfl, fun h => absurd h (Nat.not_lt_zero _), fun x hx => by cases hx⟩
 | id, s :: l, j => by
  obtain ⟨h1, h2, h3⟩ := nilL_get (id + 1) l (j - 1)
  refine ⟨by simp [nilL, h1], fun hj => ?_, fun x hx => ?_⟩
  ·cases j with
   | zero => exact ⟨rfl, fun x hx => List.mem_append_left _ hx⟩
   | succ j =>
    (obtain ⟨g1, g2⟩ := h2 (by simpa using hj)); (simp only [Nat.add_sub_cancel] at g1 g2); (have e : id + (j + 1) = id + 1 + j := by omega); (rw [e])
    exact ⟨by simpa [nilL] using g1, fun x hx => List.mem_append_right _ (g2 x (by simpa using hx))⟩
  ·rcases List.mem_append.1 hx with hx | hx
   ·cases s <;> simp only [nil1] at hx <;> first | (cases hx; done) | skip
    obtain rfl := List.mem_singleton.1 hx
    exact ⟨_, rfl⟩
   ·exact h3 x hx
theorem nilT_get (st : St L.D) : ∀ (id : Nat) (l : List Nat), (∀ n s, look (nilT L st id l).1 n = some s → ∃ i, s = (nil1 L i (st.tmp n)).1 ∧ ∀ x ∈ (nil1 L i (st.tmp n)).2, x ∈ (nilT L st id l).2) ∧ ∀ x ∈ (nilT L st id l).2, ∃ t, x.2 = some ⟨t, false, []⟩
 | _, [] => ⟨(fun _ _ h => by cases h), (fun x hx => by cases hx)⟩
 | id, m :: l => by
  obtain ⟨h1, h2⟩ := nilT_get st (id + 1) l
  refine ⟨fun n s h => ?_, fun x hx => ?_⟩
  ·simp only [nilT] at h
   rw [look_cons] at h
   by_cases e : n = m
   ·subst e
    rw [if_pos rfl] at h
    exact ⟨id, (Option.some.inj h).symm, fun x hx => List.mem_append_left _ hx⟩
   ·rw [if_neg e] at h
    obtain ⟨i, g1, g2⟩ := h1 n s h
    exact ⟨i, g1, fun x hx => List.mem_append_right _ (g2 x hx)⟩
  ·rcases List.mem_append.1 hx with hx | hx
   ·generalize st.tmp m = s at hx
    cases s <;> simp only [nil1] at hx <;> first | (cases hx; done) | skip
    obtain rfl := List.mem_singleton.1 hx
    exact ⟨_, rfl⟩
   ·exact h2 x hx
theorem nilB_get (st : St L.D) : ∀ (id : Nat) (l : List Nat), (∀ b o, look (nilB L st id l).1 b = some o → ∃ i cs, st.box b = some cs ∧ o = some (nilL L i cs).1 ∧ ∀ x ∈ (nilL L i cs).2, x ∈ (nilB L st id l).2) ∧ ∀ x ∈ (nilB L st id l).2, ∃ t, x.2 = some ⟨t, false, []⟩
 | _, [] => ⟨(fun _ _ h => by cases h), (fun x hx => by cases hx)⟩
 | id, m :: l => by
  cases hb : st.box m with
  | none =>
   (have e : nilB L st id (m :: l) = nilB L st id l := by simp only [nilB, hb]); (rw [e]; exact nilB_get st id l)
  | some cs =>
   (obtain ⟨h1, h2⟩ := nilB_get st (id + cs.length) l); (have e : nilB L st id (m :: l) = ((m, some (nilL L id cs).1) :: (nilB L st (id + cs.length) l).1, (nilL L id cs).2 ++ (nilB L st (id + cs.length) l).2) := by simp only [nilB, hb]); (rw [e])
   refine ⟨fun b o h => ?_, fun x hx => ?_⟩
   ·rw [look_cons] at h
    by_cases e : b = m
    ·subst e
     rw [if_pos rfl] at h
     exact ⟨id, cs, hb, (Option.some.inj h).symm, fun x hx => List.mem_append_left _ hx⟩
    ·rw [if_neg e] at h
     obtain ⟨i, cs', g1, g2, g3⟩ := h1 b o h
     exact ⟨i, cs', g1, g2, fun x hx => List.mem_append_right _ (g3 x hx)⟩
   ·rcases List.mem_append.1 hx with hx | hx
    ·exact (nilL_get id cs 0).2.2 x hx
    ·exact h2 x hx
theorem unnil_ok (h : Rel L E st V a w) {live : List Nat} (hu : unnil L live st = some st') : ∃ V', Rel L E st' V' a w := by
 unfold unnil at hu
 split at hu
 ·rename_i hc
  (obtain ⟨t1, t2⟩ := nilT_get (L := L) st 500000 live); (obtain ⟨b1, b2⟩ := nilB_get (L := L) st 600000 (boxesOf L live st)); (obtain rfl := Option.some.inj hu)
  generalize nilT L st 500000 live = X at t1 t2 hc
  generalize nilB L st 600000 (boxesOf L live st) = Y at b1 b2 hc
  have hnil : ∀ i o, look (X.2 ++ Y.2) i = some o → ∃ t, o = some ⟨t, false, []⟩ := fun i o hl => by
   rcases List.mem_append.1 (look_mem hl) with hm | hm
   ·exact t2 _ hm
   ·exact b2 _ hm
  let V' : Vl := { ba := V.ba, bo := V.bo, rv := fun i => match look (X.2 ++ Y.2) i with | some _ => .slice none 0 0 | none => V.rv i, lv := V.lv }
  let s1 : St L.D := { tmps := X.1, boxes := Y.1 ++ st.boxes, rows := X.2 ++ Y.2 ++ st.rows, imps := st.imps, ctr := st.ctr, c0 := st.c0 }
  have hbox : ∀ b cs', s1.box b = some cs' → ∃ cs, st.box b = some cs ∧ (cs' = cs ∨ ∃ i, cs' = (nilL L i cs).1 ∧ ∀ x ∈ (nilL L i cs).2, x ∈ X.2 ++ Y.2) := fun b cs' hb => by
   have e : look (Y.1 ++ st.boxes) b = (look Y.1 b).or (look st.boxes b) := look_append _ _ _
   unfold St.box at hb
   simp only [s1, e] at hb
   cases hl : look Y.1 b with
   | some o =>
    (rw [hl] at hb); (obtain ⟨i, cs, g1, g2, g3⟩ := b1 b o hl); (rw [g2] at hb)
    exact ⟨cs, g1, .inr ⟨i, (Option.some.inj hb).symm, fun x hx => List.mem_append_right _ (g3 x hx)⟩⟩
   | none =>
    rw [hl] at hb
    exact ⟨cs', by unfold St.box; exact hb, .inl rfl⟩
  have hrow : ∀ i r, s1.row i = some r → (∃ o, look (X.2 ++ Y.2) i = some o ∧ o = some r) ∨ (look (X.2 ++ Y.2) i = none ∧ st.row i = some r) := fun i r hr => by
   have e : look (X.2 ++ Y.2 ++ st.rows) i = (look (X.2 ++ Y.2) i).or (look st.rows i) := look_append _ _ _
   unfold St.row at hr
   simp only [s1, e] at hr
   cases hl : look (X.2 ++ Y.2) i with
   | some o => rw [hl] at hr; exact .inl ⟨o, rfl, hr⟩
   | none => rw [hl] at hr; exact .inr ⟨rfl, by unfold St.row; exact hr⟩
  have R : RB L st s1 V V' id id := by
   refine ⟨fun b cs' hb => ?_, fun b1 b2 c1 c2 h1 h2 e => e, fun i r hr => ?_, fun i1 i2 r1 r2 h1 h2 _ e => e, rfl, rfl, fun _ => rfl⟩
   ·obtain ⟨cs, h1, h2⟩ := hbox b cs' hb
    refine ⟨cs, h1, ?_, rfl, rfl⟩
    rcases h2 with rfl | ⟨i, rfl, _⟩
    ·rfl
    ·exact (nilL_get i cs 0).1
   ·rcases hrow i r hr with ⟨o, hl, rfl⟩ | ⟨hl, h0⟩
    ·obtain ⟨t, e⟩ := hnil i _ hl
     obtain rfl := Option.some.inj e
     exact .inr ⟨by simp only [V', hl], rfl, rfl⟩
    ·exact .inl ⟨h0, by simp only [V', hl, id]⟩
  have S : Same L w w (Fz E st V w) (Fz E s1 V' w) st s1 V V' a.tmps a.tmps (· ∈ (X.2 ++ Y.2).map fun x => (2, x.1)) := by
   refine ⟨R.fz, fun i r' hn hr => ?_, fun b cs' _ hb => ?_, fun _ _ => rfl⟩
   ·rcases hrow i r' hr with ⟨o, hl, _⟩ | ⟨hl, h0⟩
    ·exact absurd (List.mem_map.2 ⟨_, look_mem hl, rfl⟩) hn
    ·exact ⟨r', h0, by simp only [V', hl], rfl, rfl⟩
   ·obtain ⟨cs, h1, _⟩ := hbox b cs' hb
    exact ⟨cs, h1, rfl, rfl⟩
  have nil : ∀ {i : Nat} {s : SV L.D} {v : Value}, (∀ x ∈ (nil1 L i s).2, x ∈ X.2 ++ Y.2) → (∀ k ∈ (X.2 ++ Y.2).map (fun x => (2, x.1)), ment k s = false) → SR L w (Fz E st V w) st V a.tmps s v → SR L w (Fz E s1 V' w) s1 V' a.tmps (nil1 L i s).1 v := fun {i s v} hm hk hs => by
   by_cases hn : ∃ t, s = .nl t
   ·obtain ⟨t, rfl⟩ := hn
    refine .own i v fun r _ => ?_
    (obtain ⟨y, hy⟩ := look_of_mem (hm (i, some ⟨t, false, []⟩) (List.mem_singleton.2 rfl))); (simp only [V', hy])
    exact hs.nl_inv
   ·have e : (nil1 L i s).1 = s := by
     cases s <;> first | rfl | exact absurd ⟨_, rfl⟩ hn
    rw [e]
    exact hs.same S hk
  refine ⟨V', h.recast R (fun b cs' cs hb hb0 j hj v hs => ?_) (fun n v hs => ?_) rfl fun q h1 h2 => ⟨?_, rfl⟩⟩
  ·obtain ⟨cs0, g1, g2⟩ := hbox b cs' hb
   (obtain rfl := Option.some.inj (g1.symm.trans hb0)); (have hk : ∀ k ∈ (X.2 ++ Y.2).map (fun x => (2, x.1)), ment k (cs0.getD j .dead) = false := fun k hk => clean_box hc hk g1 j)
   rcases g2 with rfl | ⟨i, rfl, hm⟩
   ·exact hs.same S hk
   ·obtain ⟨e1, e2⟩ := (nilL_get i cs0 j).2.1 hj
    rw [e1]
    exact nil (fun x hx => hm x (e2 x hx)) hk hs
  ·show SR L w (Fz E s1 V' w) s1 V' a.tmps (orDead (look X.1 n)) v
   cases hl : look X.1 n with
   | none => exact .dead v
   | some s =>
    obtain ⟨i, e1, e2⟩ := t1 n s hl
    show SR L w (Fz E s1 V' w) s1 V' a.tmps s v
    rw [e1]
    exact nil (fun x hx => List.mem_append_left _ (e2 x hx)) (fun k hk => clean_tmp hc hk n) hs
  ·obtain ⟨cs, p, g, _⟩ := h.imps q h2
   have e : look (Y.1 ++ st.boxes) st.imps[q] = (look Y.1 st.imps[q]).or (look st.boxes st.imps[q]) := look_append _ _ _
   show ∃ cs', s1.box st.imps[q] = some cs'
   unfold St.box
   simp only [s1, e]
   cases hl : look Y.1 st.imps[q] with
   | some o =>
    obtain ⟨i, cs2, _, g2, _⟩ := b1 _ o hl
    exact ⟨_, by rw [g2]; rfl⟩
   | none =>
    refine ⟨cs, ?_⟩
    unfold St.box at g
    exact g
 ·cases hu
end
end Go.Proofs.YtfeikakkfnnaoaaGreatDoor.V
namespace Go.Proofs.YtfeikakkfnnaoaaGreatDoor.V
open Go
set_option linter.unusedVariables false
set_option linter.unusedSimpArgs false
def exOf : Ex → Exit
 | .normal => .normal
 | .exit id => .exit id
 | .ret => .ret
section
variable {P : Program} {L : Lay} {E : Ent} {sig : FuncId → Sig} {call : (f : FuncId) → List (SV L.D) → Option (RT L.D (sig f).all)} {ρ : Type}
theorem look_erase {α : Type} (n : Nat) : ∀ (l : List (Nat × α)) (m : Nat), look (eraseK n l) m = if m = n then none else look l m
 | [], m => by simp [eraseK, look]
 | (k, x) :: l, m => by
  simp only [eraseK]
  cases hb : Nat.beq k n with
  | true =>
   obtain rfl := Nat.eq_of_beq_eq_true hb
   show look (eraseK k l) m = _
   rw [look_erase k l m, look_cons]
   by_cases e : m = k
   ·rw [if_pos e, if_pos e]
   ·rw [if_neg e, if_neg e, if_neg e]
  | false =>
   show look ((k, x) :: eraseK n l) m = _
   (have hne : k ≠ n := fun e => by subst e; simp at hb); (rw [look_cons, look_cons, look_erase n l m])
   by_cases e : m = k
   ·rw [if_pos e, if_pos e, if_neg (by omega)]
   ·rw [if_neg e, if_neg e]
theorem drop_ok {live : Nat → List Nat} {st : St L.D} {V : Vl} {a : Act} {w : World} {c : Operand} (h : Rel L E st V a w) : Rel L E (dropC L live st c) V a w := by
 cases c with
 | tmp n =>
  show Rel L E (match live (900000 + n) with
   | [] => st
   | _ :: _ => { st with tmps := eraseK n st.tmps }) V a w
  cases live (900000 + n) with
  | nil => exact h
  | cons _ _ =>
   refine h.less (fun _ => rfl) (fun _ => rfl) rfl rfl rfl fun m hs => ?_
   show SR L w _ st V a.tmps (orDead (look (eraseK n st.tmps) m)) _
   rw [look_erase]
   split
   ·exact .dead _
   ·exact hs
 | _ => exact h
theorem run_ok (hL : LayOk P L) {Tab : TabP} (hC : CallOk P L Tab E sig call) (hm : P.follows .mixedOrders = true) (live : Nat → List Nat) (n : Nat) {x : ρ} : ∀ (c : Code) (st : St L.D) (K : Ex → St L.D → Option ρ) (Q : Exit → Act → World → Prop) (V : Vl) (a : Act) (w : World), run L sig call E.nt live n c st K = some x → Rel L E st V a w →
  (∀ e st' V' a' w', K e st' = some x → Rel L E st' V' a' w' → Q (exOf e) a' w') → c.wp P Q a w := by
 intro c
 induction c with
 | skip =>
  intro st K Q V a w h hr hK
  exact wp_skip (hK .normal st V a w h hr)
 | region id ops draw =>
  intro st K Q V a w h hr hK
  have step : ∀ st V a w, (match unnil L (live id) st with
    | some st1 => match view L (live id) st1 with
     | some st2 => K .normal st2
     | none => none
    | none => none) = some x → Rel L E st V a w → Q .normal a w := fun st V a w h hr => by
   split at h
   ·rename_i st1 h1
    split at h
    ·rename_i st2 h2
     (obtain ⟨V1, r1⟩ := unnil_ok hr h1); (obtain ⟨V2, r2⟩ := view_ok r1 h2)
     exact hK .normal st2 V2 a w h r2
    ·cases h
   ·cases h
  cases draw with
  | false => exact region_seq hL hC (fun st V a w => step st V a w) h hr
  | true => exact region_draw hL hC hm (fun st V a w => step st V a w) h hr
 | seq b c ihb ihc =>
  intro st K Q V a w h hr hK
  refine wp_seq (ihb st _ _ V a w h hr fun e st' V' a' w' h' hr' => ?_)
  cases e with
  | normal => exact ihc st' K Q V' a' w' h' hr' hK
  | exit id => exact hK _ st' V' a' w' h' hr'
  | ret => exact hK _ st' V' a' w' h' hr'
 | cond c b d ihb ihd =>
  intro st K Q V a w h hr hK
  simp only [run] at h
  split at h
  ·rename_i t ht
   have hv := (ht ▸ hr.opd c).v_inv.1
   refine wp_cond hv ?_
   have hr' := drop_ok (live := live) (c := c) hr
   cases t with
   | true => exact ihb _ K Q V a w h hr' hK
   | false => exact ihd _ K Q V a w h hr' hK
  ·cases h
 | block id b ih =>
  intro st K Q V a w h hr hK
  refine wp_block (ih st _ _ V a w h hr fun e st' V' a' w' h' hr' => ?_)
  cases e with
  | normal => exact hK .normal st' V' a' w' h' hr'
  | exit j =>
   simp only at h'
   show Exit.inBlock id Q (.exit j) a' w'
   split at h'
   ·rename_i hb
    (obtain rfl := Nat.eq_of_beq_eq_true hb); (simp only [Exit.inBlock, if_true])
    exact hK .normal st' V' a' w' h' hr'
   ·rename_i hb
    (have : ¬ j = id := fun e => by subst e; simp at hb); (simp only [Exit.inBlock, this, if_false])
    exact hK (.exit j) st' V' a' w' h' hr'
  | ret => exact hK .ret st' V' a' w' h' hr'
 | loop b ih =>
  intro st K Q V a w h hr hK
  have rounds : ∀ m st V a w, loopN L (run L sig call E.nt live n b) K m st = some x → Rel L E st V a w → Code.rounds P b Q m a w := by
   intro m
   induction m with
   | zero => intro st V a w h hr; cases h
   | succ m ihm =>
    intro st V a w h hr
    rw [rounds_succ]
    refine ih st _ _ V a w h hr fun e st' V' a' w' h' hr' => ?_
    cases e with
    | normal => exact ihm st' V' a' w' h' hr'
    | exit id => exact hK _ st' V' a' w' h' hr'
    | ret => exact hK _ st' V' a' w' h' hr'
  exact wp_loop_rounds n (rounds n st V a w h hr)
 | exit id =>
  intro st K Q V a w h hr hK
  exact wp_exit (hK (.exit id) st V a w h hr)
 | ret =>
  intro st K Q V a w h hr hK
  exact wp_ret (hK .ret st V a w h hr)
 | _ => intro st K Q V a w h; cases h
end
end Go.Proofs.YtfeikakkfnnaoaaGreatDoor.V
namespace Go.Proofs.YtfeikakkfnnaoaaGreatDoor.V
open Go
set_option linter.unusedVariables false
set_option linter.unusedSimpArgs false
section
variable {P : Program} {L : Lay} {E : Ent} {st : St L.D} {V : Vl} {a : Act} {w : World}
def resV (tm : Array Value) : ResultVar → Sem Value
 | .tmp t => pure (tm.getD t undef)
 | .cell a t => do loadVar t (← asAddr (tm.getD a undef))
theorem packV_cons (s : List Sh) (ss : List (List Sh)) (az : List Bool) (vs : List Value) : packV (s :: ss) az vs = (if az.headD false = true then .agg (vs.take s.length).toArray else vs.headD undef) :: packV ss az.tail (vs.drop s.length) := by
 cases az with
 | nil => rfl
 | cons b az => cases b <;> rfl
theorem load_ok (hL : LayOk P L) (h : Rel L E st V a w) {t : TypeId} {p : SV L.D} {v : Value} (hp : SR L w (Fz E st V w) st V a.tmps p v) {cs : List (SV L.D)} {off : Nat} (hm : memo p st = some (cs, off)) (hk : okT L t = true) (hl : off + (L.ti t).sz ≤ cs.length) :
  ∃ u, SR L w (Fz E st V w) st V a.tmps (pack L t ((cs.drop off).take (L.ti t).sz)) u ∧ (do loadVar t (← asAddr v) : Sem Value).run P w = .ok u w := by
 (have hko : (L.ti t).kind ≠ .other := by intro h; simp [okT, h] at hk); (obtain ⟨i, z, hi, hsz, _⟩ := hL.info t hko); (obtain ⟨b, q, f, rfl, hf⟩ := memo_ok hL h hm hp)
 have hgd : ∀ j, j < (L.ti t).sz → ((cs.drop off).take (L.ti t).sz).getD j .dead = cs.getD (off + j) .dead := fun j hj => by
  simp only [List.getD_eq_getElem?_getD, List.getElem?_take, if_pos hj, List.getElem?_drop]
 cases hg : isAgg L t with
 | true =>
  (have e : pack L t ((cs.drop off).take (L.ti t).sz) = .agg ((cs.drop off).take (L.ti t).sz) := by simp [pack, hg]); (rw [e])
  obtain ⟨d, hd, hrow⟩ : ∃ d, P.underlying t = some d ∧ d.isRow = true := by
   unfold isAgg at hg
   split at hg
   ·rename_i fs hfs
    obtain ⟨fields, hu, _⟩ := hL.struct t fs hfs
    exact ⟨_, hu, rfl⟩
   ·cases hg
  have hlen : ((cs.drop off).take (L.ti t).sz).length = (L.ti t).sz := by simp; omega
  refine ⟨.agg ((List.range (L.ti t).sz).map fun j => f (off + j)).toArray, ?_, ?_⟩
  ·refine .agg _ _ (by simp; omega) (fun v hv => ?_) fun j hj => ?_
   ·obtain ⟨j, hj, rfl⟩ := List.mem_map.1 hv
    exact (hf (off + j) (by have := List.mem_range.1 hj; omega)).2.1
   ·rw [hlen] at hj
    rw [hgd j hj, range_cells _ _ hj]
    exact (hf (off + j) (by omega)).2.2
  ·simp only [Sem.run_bind, asAddr, Sem.run_pure, Result.andThen_ok]
   refine run_loadVar_mid w b (q + off) t ((List.range (L.ti t).sz).map fun j => f (off + j)) d (fun j v hv => ?_) hd hrow (by simp [hi, hsz])
   rw [List.getElem?_map] at hv
   by_cases hj : j < (L.ti t).sz
   ·rw [List.getElem?_range hj, Option.map_some] at hv
    rw [← hv, Nat.add_assoc]
    exact (hf (off + j) (by omega)).1
   ·rw [List.getElem?_eq_none (by simp; omega)] at hv; cases hv
 | false =>
  (have h1 := hL.one t hg hko); (obtain ⟨d, hd, hns, hna⟩ := hL.plain t hg hko)
  have e : pack L t ((cs.drop off).take (L.ti t).sz) = cs.getD off .dead := by
   (have := hgd 0 (by omega)); (rw [Nat.add_zero] at this); (rw [← this]); (simp only [pack, hg])
   cases hc : (cs.drop off).take (L.ti t).sz <;> rfl
  (rw [e]); (have hf0 := hf off (by omega))
  refine ⟨f off, hf0.2.2, ?_⟩
  have hag : (Go.isAgg t).run P w = .ok false w := by
   unfold Go.isAgg
   rw [Sem.run_bind, run_underlying hd w]
   cases d <;> first | rfl | exact absurd rfl (hns _) | exact absurd rfl (hna _ _)
  simp only [asAddr, loadVar, Sem.run_bind, Sem.run_pure, Result.andThen_ok, hag, Bool.false_eq_true, if_false, run_load, hf0.1]
theorem resv_ok (hL : LayOk P L) (h : Rel L E st V a w) {rv : ResultVar} (hg : good st (resv L st rv) = true) : ∃ u, SR L w (Fz E st V w) st V a.tmps (resv L st rv) u ∧ (resV a.tmps rv).run P w = .ok u w := by
 cases rv with
 | tmp t => exact ⟨_, h.tmp t, rfl⟩
 | cell b t =>
  have e : resv L st (.cell b t) = match memo (st.tmp b) st with
    | some (cs, off) => (match okT L t && Nat.ble (off + (L.ti t).sz) cs.length with
     | true => pack L t ((cs.drop off).take (L.ti t).sz)
     | false => .dead)
    | none => .dead := rfl
  rw [e] at hg ⊢
  cases hm : memo (st.tmp b) st with
  | none => rw [hm] at hg; cases hg
  | some x =>
   (obtain ⟨cs, off⟩ := x); (rw [hm] at hg); (simp only at hg ⊢)
   cases hk : okT L t && Nat.ble (off + (L.ti t).sz) cs.length with
   | false => rw [hk] at hg; cases hg
   | true =>
    rw [Bool.and_eq_true] at hk
    exact load_ok hL h (h.tmp b) hm hk.1 (Nat.le_of_ble_eq_true hk.2)
theorem res_ok (hL : LayOk P L) (h : Rel L E st V a w) : ∀ {rs : List ResultVar} {res : List (List Sh)} {az : List Bool} {cs : List (SV L.D)}, resOf L st rs res az = some cs → ∃ vs us : List Value, vs.length = cs.length ∧ cs.length = res.flatten.length ∧ (∀ u ∈ vs, u.oneCell' = true) ∧ (∀ c, c < cs.length → SR L w (Fz E st V w) st V a.tmps (cs.getD c .dead) (vs.getD c undef)) ∧
  (∀ tl, packV res az (vs ++ tl) = us) ∧ (rs.mapM (resV a.tmps) : Sem (List Value)).run P w = .ok us w
 | [], [], _, cs, hs => by
  (simp only [resOf, Option.some.injEq] at hs); (subst hs)
  exact ⟨[], [], rfl, rfl, (fun u hu => by cases hu), fun c hc => absurd hc (Nat.not_lt_zero c), fun _ => rfl, rfl⟩
 | [], _ :: _, _, cs, hs => by cases hs
 | rv :: l, [], _, cs, hs => by cases hs
 | rv :: l, s :: ss, az, cs, hs => by
  simp only [resOf] at hs
  split at hs
  ·rename_i r hg hr
   (obtain rfl := Option.some.inj hs); (simp only [Bool.and_eq_true] at hg); (have hlen := Nat.eq_of_beq_eq_true hg.1.2); (obtain ⟨vs, us, h1, h2, h3, h4, h5, h6⟩ := res_ok hL h hr); (obtain ⟨u0, hv, hrun⟩ := resv_ok hL h hg.1.1); (obtain ⟨c1, c2, c3⟩ := cells_ok hv (good_one hg.1.1 hv h.rv_one))
   refine ⟨u0.cells.toList ++ vs, u0 :: us, by simp only [List.length_append]; omega, by simp only [List.length_append, List.flatten_cons]; omega, fun u hu => (List.mem_append.1 hu).elim (c2 u) (h3 u), fun c hc => ?_, fun tl => ?_, ?_⟩
   ·by_cases hlt : c < (cellsOf (resv L st rv)).length
    ·have e1 : (cellsOf (resv L st rv) ++ r).getD c .dead = (cellsOf (resv L st rv)).getD c .dead := by rw [List.getD_eq_getElem?_getD, List.getD_eq_getElem?_getD, List.getElem?_append_left hlt]
     (have e2 : (u0.cells.toList ++ vs).getD c undef = u0.cells.toList.getD c undef := by rw [List.getD_eq_getElem?_getD, List.getD_eq_getElem?_getD, List.getElem?_append_left (by omega)]); (rw [e1, e2]; exact c3 c hlt)
    ·have e1 : (cellsOf (resv L st rv) ++ r).getD c .dead = r.getD (c - (cellsOf (resv L st rv)).length) .dead := by rw [List.getD_eq_getElem?_getD, List.getD_eq_getElem?_getD, List.getElem?_append_right (by omega)]
     (have e2 : (u0.cells.toList ++ vs).getD c undef = vs.getD (c - (cellsOf (resv L st rv)).length) undef := by rw [List.getD_eq_getElem?_getD, List.getD_eq_getElem?_getD, List.getElem?_append_right (by omega), c1]); (rw [e1, e2]; exact h4 _ (by simp only [List.length_append] at hc; omega))
   ·have hsl : u0.cells.toList.length = s.length := by omega
    (have htk : ((u0.cells.toList ++ vs) ++ tl).take s.length = u0.cells.toList := by rw [List.append_assoc, ← hsl, List.take_left']; rfl); (have hdr : ((u0.cells.toList ++ vs) ++ tl).drop s.length = vs ++ tl := by rw [List.append_assoc, ← hsl, List.drop_left']; rfl)
    have head : (if az.headD false = true then Value.agg (((u0.cells.toList ++ vs) ++ tl).take s.length).toArray else ((u0.cells.toList ++ vs) ++ tl).headD undef) = u0 := by
     have hone : isAggV L (resv L st rv) = false → ((u0.cells.toList ++ vs) ++ tl).headD undef = u0 := fun hna => by
      have h1 : u0.oneCell' = true := (good_one hg.1.1 hv h.rv_one).resolve_right fun ⟨cs, e⟩ => by rw [e] at hna; cases hna
      generalize u0 = u at h1
      (have hc : u.cells = #[u] := by cases u <;> first | rfl | cases h1); (rw [hc]; rfl)
     have hag : isAggV L (resv L st rv) = true → Value.agg (((u0.cells.toList ++ vs) ++ tl).take s.length).toArray = u0 := fun hya => by
      rw [htk]
      cases hs' : resv L st rv <;> rw [hs'] at hya <;> first | (cases hya; done) | skip
      (rw [hs'] at hv); (obtain ⟨vs', e, _⟩ := hv.agg_inv); (rw [e])
      rfl
     have hg2 := hg.2
     cases hx : az.headD false with
     | true =>
      (rw [if_pos rfl]); (rw [hx] at hg2)
      exact hag (by cases hy : isAggV L (resv L st rv) with | true => rfl | false => rw [hy] at hg2; cases hg2)
     | false =>
      (rw [if_neg (by simp)]); (rw [hx] at hg2)
      exact hone (by cases hy : isAggV L (resv L st rv) with | false => rfl | true => rw [hy] at hg2; cases hg2)
    (have tail : packV ss az.tail (((u0.cells.toList ++ vs) ++ tl).drop s.length) = us := by rw [hdr]; exact h5 tl); (rw [packV_cons, head, tail])
   ·simp only [List.mapM_cons, Sem.run_bind, Sem.run_pure, Result.andThen_ok, hrun, h6]
  ·cases hs
end
end Go.Proofs.YtfeikakkfnnaoaaGreatDoor.V
namespace Go.Proofs.YtfeikakkfnnaoaaGreatDoor.V
open Go
set_option linter.unusedVariables false
set_option linter.unusedSimpArgs false
section
variable {P : Program} {L : Lay} {E : Ent} {st : St L.D} {V : Vl} {a : Act} {w : World}
theorem dec1_ok {D : TypeId → Type} {s : Sh} {x : SV D} {r : ST D s} (h : dec1 s x = some r) : enc1 s r = x ∨ ∃ t xs, x = .fr t xs ∧ enc1 s r = .ro t xs := by
 cases s with
 | int k =>
  left
  cases x <;> simp only [dec1] at h <;> try (cases h; done)
  rename_i v
  cases v <;> simp only [dec1] at h <;> try (cases h; done)
  split at h
  ·rename_i e; subst e; rw [Option.some.inj h]; rfl
  ·cases h
 | bool =>
  left
  cases x <;> simp only [dec1] at h <;> try (cases h; done)
  rename_i v
  cases v <;> simp only [dec1] at h <;> try (cases h; done)
  rw [Option.some.inj h]; rfl
 | str =>
  left
  cases x <;> simp only [dec1] at h <;> try (cases h; done)
  rename_i v
  cases v <;> simp only [dec1] at h <;> try (cases h; done)
  rw [Option.some.inj h]; rfl
 | ro t =>
  cases x <;> simp only [dec1] at h <;> try (cases h; done)
  ·obtain ⟨e, rfl⟩ := castL_eq h; subst e; exact .inl rfl
  ·obtain ⟨e, rfl⟩ := castL_eq h; subst e; exact .inr ⟨_, _, rfl, rfl⟩
 | fr t =>
  left
  cases x <;> simp only [dec1] at h <;> try (cases h; done)
  obtain ⟨e, rfl⟩ := castL_eq h; subst e; rfl
 | lr t =>
  left
  cases x <;> simp only [dec1] at h <;> try (cases h; done)
  split at h
  ·rename_i ys hy
   (obtain ⟨e, rfl⟩ := castL_eq hy); (subst e); (rw [← Option.some.inj h]; rfl)
  ·cases h
 | ct =>
  left
  cases x <;> simp only [dec1] at h <;> try (cases h; done)
  rw [Option.some.inj h]; rfl
theorem dec_ok {D : TypeId → Type} : ∀ {l : List Sh} {cells : List (SV D)} {r : RT D l}, dec l cells = some r → cells.length = l.length ∧ ∀ c, c < l.length → (enc l r).getD c .dead = cells.getD c .dead ∨ ∃ t xs, cells.getD c .dead = .fr t xs ∧ (enc l r).getD c .dead = .ro t xs
 | [], [], r, h => ⟨rfl, fun c hc => absurd hc (Nat.not_lt_zero c)⟩
 | [], _ :: _, r, h => by cases h
 | [s], [], r, h => by cases h
 | [s], [x], r, h => ⟨rfl, fun c hc => by
  obtain rfl : c = 0 := by simp at hc; omega
  exact dec1_ok (s := s) h⟩
 | [s], _ :: _ :: _, r, h => by cases h
 | s :: t :: l, [], r, h => by cases h
 | s :: t :: l, x :: y, r, h => by
  simp only [dec] at h
  split at h
  ·rename_i u hu
   split at h
   ·rename_i b hb
    (obtain rfl := Option.some.inj h); (obtain ⟨h1, h2⟩ := dec_ok hb)
    refine ⟨by simp [h1], fun c hc => ?_⟩
    cases c with
    | zero => exact dec1_ok hu
    | succ c =>
     have := h2 c (by simpa using hc)
     simpa [enc] using this
   ·cases h
  ·cases h
theorem given_uniq : ∀ {l : List (SV L.D)}, (given L st l).Nodup → ∀ {c c' j : Nat} {r : Row L.D}, c < l.length → c' < l.length → l.getD c .dead = .own j → l.getD c' .dead = .own j → st.row j = some r → r.fz = false → c = c'
 | [], _, c, _, _, _, h, _, _, _, _, _ => absurd h (Nat.not_lt_zero c)
 | s :: l, hn, c, c', j, r, hc, hc', h1, h2, hr, hf => by
  have mem : ∀ (l : List (SV L.D)) (c : Nat), c < l.length → l.getD c .dead = .own j → j ∈ given L st l := by
   intro l
   induction l with
   | nil => intro c hc; exact absurd hc (Nat.not_lt_zero c)
   | cons s l ih =>
    intro c hc h
    cases c with
    | zero =>
     (simp only [List.getD_cons_zero] at h); (subst h); (simp only [given, hr, hf])
     exact List.mem_cons_self
    | succ c =>
     have := ih c (by simpa using hc) (by simpa using h)
     cases s with
     | own i =>
      simp only [given]
      split
      ·split
       ·exact List.mem_cons_of_mem _ this
       ·exact this
      ·exact this
     | _ => exact this
  have sub : (given L st l).Nodup := by
   cases s with
   | own i =>
    simp only [given] at hn
    split at hn
    ·split at hn
     ·exact (List.nodup_cons.1 hn).2
     ·exact hn
    ·exact hn
   | _ => exact hn
  cases c with
  | zero =>
   cases c' with
   | zero => rfl
   | succ c' =>
    (simp only [List.getD_cons_zero] at h1); (subst h1); (simp only [given, hr, hf] at hn)
    exact absurd (mem l c' (by simpa using hc') (by simpa using h2)) (List.nodup_cons.1 hn).1
  | succ c =>
   cases c' with
   | zero =>
    (simp only [List.getD_cons_zero] at h2); (subst h2); (simp only [given, hr, hf] at hn)
    exact absurd (mem l c (by simpa using hc) (by simpa using h1)) (List.nodup_cons.1 hn).1
   | succ c' => exact congrArg (· + 1) (given_uniq sub (by simpa using hc) (by simpa using hc') (by simpa using h1) (by simpa using h2) hr hf)
theorem fin_ok (h : Rel L E st V a w) : ∀ {ids : List Nat} {fin : List (List Sh)} {ds : List (SV L.D)}, finOf L st ids fin = some ds → ∃ ws : List Value, ws.length = ds.length ∧ ds.length = fin.flatten.length ∧ (∀ u ∈ ws, u.oneCell' = true) ∧ (∀ c, c < ds.length → SR L w (Fz E st V w) st V a.tmps (ds.getD c .dead) (ws.getD c undef)) ∧
  ∀ q (hq : q < ids.length), ∃ cs xs T, st.box ids[q] = some cs ∧ cs.length = (fin.getD q []).length ∧ w.heap[V.ba ids[q]]? = some (.cells xs T (0, 0)) ∧ V.bo ids[q] + cs.length ≤ xs.size ∧ ∀ j, j < cs.length → xs[V.bo ids[q] + j]? = some (ws.getD ((fin.take q).flatten.length + j) undef)
 | [], [], ds, hs => by
  (simp only [finOf, Option.some.injEq] at hs); (subst hs)
  exact ⟨[], rfl, rfl, (fun u hu => by cases hu), fun c hc => absurd hc (Nat.not_lt_zero c), fun q hq => absurd hq (Nat.not_lt_zero q)⟩
 | [], _ :: _, ds, hs => by cases hs
 | _ :: _, [], ds, hs => by cases hs
 | b :: l, s :: ss, ds, hs => by
  simp only [finOf] at hs
  split at hs
  ·rename_i cs r hb hr
   split at hs
   ·rename_i hl
    (obtain rfl := Option.some.inj hs); (have hl := Nat.eq_of_beq_eq_true hl); (obtain ⟨ws, h1, h2, h3, h4, h5⟩ := fin_ok h hr); (obtain ⟨xs, T, g1, g2, g3⟩ := h.box b cs hb)
    have hcell : ∀ j, j < cs.length → xs[V.bo b + j]? = some (xs.getD (V.bo b + j) undef) ∧ (xs.getD (V.bo b + j) undef).oneCell' = true ∧ SR L w (Fz E st V w) st V a.tmps (cs.getD j .dead) (xs.getD (V.bo b + j) undef) := fun j hj => by
     (obtain ⟨u, k1, k2, k3⟩ := g3 j hj); (have e : xs.getD (V.bo b + j) undef = u := by rw [Array.getD_eq_getD_getElem?, k1]; rfl); (rw [e]; exact ⟨k1, k2, k3⟩)
    have hml : ((List.range cs.length).map fun j => xs.getD (V.bo b + j) undef).length = cs.length := by simp
    have hmg : ∀ j, j < cs.length → ((List.range cs.length).map fun j => xs.getD (V.bo b + j) undef).getD j undef = xs.getD (V.bo b + j) undef := fun j hj => by
     rw [getD_lt (by rw [hml]; exact hj)]; simp
    refine ⟨((List.range cs.length).map fun j => xs.getD (V.bo b + j) undef) ++ ws, by simp only [List.length_append, hml, h1], by simp only [List.length_append, List.flatten_cons]; omega, fun u hu => ?_, fun c hc => ?_, fun q hq => ?_⟩
    ·rcases List.mem_append.1 hu with hu | hu
     ·obtain ⟨j, hj, rfl⟩ := List.mem_map.1 hu
      exact (hcell j (List.mem_range.1 hj)).2.1
     ·exact h3 u hu
    ·by_cases hlt : c < cs.length
     ·have e1 : (cs ++ r).getD c .dead = cs.getD c .dead := by rw [List.getD_eq_getElem?_getD, List.getD_eq_getElem?_getD, List.getElem?_append_left hlt]
      have e2 : (((List.range cs.length).map fun j => xs.getD (V.bo b + j) undef) ++ ws).getD c undef = xs.getD (V.bo b + c) undef := by
       rw [← hmg c hlt, List.getD_eq_getElem?_getD, List.getD_eq_getElem?_getD, List.getElem?_append_left (by rw [hml]; exact hlt)]
      rw [e1, e2]; exact (hcell c hlt).2.2
     ·have e1 : (cs ++ r).getD c .dead = r.getD (c - cs.length) .dead := by rw [List.getD_eq_getElem?_getD, List.getD_eq_getElem?_getD, List.getElem?_append_right (by omega)]
      have e2 : (((List.range cs.length).map fun j => xs.getD (V.bo b + j) undef) ++ ws).getD c undef = ws.getD (c - cs.length) undef := by
       rw [List.getD_eq_getElem?_getD, List.getD_eq_getElem?_getD, List.getElem?_append_right (by rw [hml]; omega), hml]
      rw [e1, e2]; exact h4 _ (by simp only [List.length_append] at hc; omega)
    ·cases q with
     | zero =>
      refine ⟨cs, xs, T, hb, by simpa using hl, g1, g2, fun j hj => ?_⟩
      have e2 : (((List.range cs.length).map fun j => xs.getD (V.bo b + j) undef) ++ ws).getD j undef = xs.getD (V.bo b + j) undef := by
       rw [← hmg j hj, List.getD_eq_getElem?_getD, List.getD_eq_getElem?_getD, List.getElem?_append_left (by rw [hml]; exact hj)]
      (simp only [List.take_zero, List.flatten_nil, List.length_nil, Nat.zero_add]); (rw [e2]; exact (hcell j hj).1)
     | succ q =>
      obtain ⟨cs', xs', T', k1, k2, k3, k4, k5⟩ := h5 q (by simpa using hq)
      refine ⟨cs', xs', T', by simpa using k1, by simpa using k2, by simpa using k3, by simpa using k4, fun j hj => ?_⟩
      have e2 : (((List.range cs.length).map fun j => xs.getD (V.bo b + j) undef) ++ ws).getD (((s :: ss).take (q + 1)).flatten.length + j) undef = ws.getD ((ss.take q).flatten.length + j) undef := by
       (have e0 : ((s :: ss).take (q + 1)).flatten.length = cs.length + (ss.take q).flatten.length := by simp [hl]); (rw [e0, List.getD_eq_getElem?_getD, List.getD_eq_getElem?_getD, List.getElem?_append_right (by rw [hml]; omega), hml])
       congr 2
       omega
      rw [e2]
      simpa using k5 j hj
   ·cases hs
  ·cases hs
end
end Go.Proofs.YtfeikakkfnnaoaaGreatDoor.V
namespace Go.Proofs.YtfeikakkfnnaoaaGreatDoor.V
open Go
set_option linter.unusedVariables false
set_option linter.unusedSimpArgs false
section
variable {P : Program} {L : Lay} {E : Ent} {st : St L.D} {V : Vl} {a : Act} {w : World} {sig : FuncId → Sig}
theorem ctFin_cases {D : TypeId → Type} {b : Bool} {c : Option Nat} {ct : List (SV D)} (h : ctFin b c = some ct) : (b = false ∧ c = none ∧ ct = []) ∨ ∃ n, b = true ∧ c = some n ∧ ct = [.ct n] := by
 unfold ctFin at h
 split at h
 ·exact .inl ⟨rfl, rfl, (Option.some.inj h).symm⟩
 ·exact .inr ⟨_, rfl, rfl, (Option.some.inj h).symm⟩
 ·cases h
theorem given_ct (n : Nat) : ∀ l : List (SV L.D), given L st (l ++ [.ct n]) = given L st l
 | [] => rfl
 | s :: l => by
  have := given_ct n l
  cases s <;> simp only [List.cons_append, given, this]
theorem given_fin {b : Bool} {c : Option Nat} {ct : List (SV L.D)} (h : ctFin b c = some ct) (l : List (SV L.D)) : given L st (l ++ ct) = given L st l := by
 rcases ctFin_cases h with ⟨_, _, rfl⟩ | ⟨n, _, _, rfl⟩
 ·rw [List.append_nil]
 ·exact given_ct n l
theorem fin_okC (h : Rel L E st V a w) {ids : List Nat} {fin : List (List Sh)} {ds ct : List (SV L.D)} {b : Bool} {c : Option Nat} (hs : finOf L st ids fin = some ds) (hc : ctFin b c = some ct) : ∃ ws : List Value, ws.length = (ds ++ ct).length ∧ ds.length = fin.flatten.length ∧ (∀ u ∈ ws, u.oneCell' = true) ∧ (∀ c, c < (ds ++ ct).length → SR L w (Fz E st V w) st V a.tmps ((ds ++ ct).getD c .dead) (ws.getD c undef)) ∧
  ∀ q (hq : q < ids.length), ∃ cs xs T, st.box ids[q] = some cs ∧ cs.length = (fin.getD q []).length ∧ w.heap[V.ba ids[q]]? = some (.cells xs T (0, 0)) ∧ V.bo ids[q] + cs.length ≤ xs.size ∧ ∀ j, j < cs.length → xs[V.bo ids[q] + j]? = some (ws.getD ((fin.take q).flatten.length + j) undef) := by
 obtain ⟨ws, h1, h2, h3, h4, h5⟩ := fin_ok h hs
 rcases ctFin_cases hc with ⟨_, _, rfl⟩ | ⟨n, _, _, rfl⟩
 ·rw [List.append_nil]; exact ⟨ws, h1, h2, h3, h4, h5⟩
 ·have e2 : ∀ c, c < ws.length → (ws ++ [Value.bool true]).getD c undef = ws.getD c undef := fun c hc => by rw [List.getD_eq_getElem?_getD, List.getD_eq_getElem?_getD, List.getElem?_append_left hc]
  refine ⟨ws ++ [.bool true], by simp [h1], h2, fun u hu => ?_, fun c hc => ?_, fun q hq => ?_⟩
  ·rcases List.mem_append.1 hu with hu | hu
   ·exact h3 u hu
   ·rw [List.mem_singleton.1 hu]; rfl
  ·by_cases hlt : c < ds.length
   ·have e1 : (ds ++ [SV.ct n]).getD c .dead = ds.getD c .dead := by rw [List.getD_eq_getElem?_getD, List.getD_eq_getElem?_getD, List.getElem?_append_left hlt]
    rw [e1, e2 c (by omega)]
    exact h4 c hlt
   ·obtain rfl : c = ds.length := by simp at hc; omega
    (have e1 : (ds ++ [SV.ct n]).getD ds.length .dead = .ct n := by simp [List.getD_eq_getElem?_getD]); (rw [e1]; exact .ct n _)
  ·obtain ⟨cs, xs, T, k1, k2, k3, k4, k5⟩ := h5 q hq
   refine ⟨cs, xs, T, k1, k2, k3, k4, fun j hj => ?_⟩
   by_cases hlt : (fin.take q).flatten.length + j < ws.length
   ·rw [e2 _ hlt]; exact k5 j hj
   ·exfalso
    have hq' : q < fin.length := by
     rcases Nat.lt_or_ge q fin.length with hlt' | hge
     ·exact hlt'
     ·have : fin.getD q [] = [] := by rw [List.getD_eq_getElem?_getD, List.getElem?_eq_none hge]; rfl
      rw [this, List.length_nil] at k2; omega
    have := Ch.call.flatten_take hq'
    omega
theorem finishV_ok (hL : LayOk P L) (h : Rel L E st V a w) {f : FuncId} {fn : Func} {r : RT L.D (sig f).all} (hk : (sig f).new = false) (hf : finish L sig f fn.results.toList st = some r) : ∃ v, (results fn a.tmps).run P w = .ok v w ∧ ∃ vs lv, PostV L E (sig f) E.q (enc (sig f).all r) vs lv v w := by
 unfold finish at hf
 (rw [hk] at hf); (simp only at hf)
 split at hf
 ·rename_i cs ds0 h1 h2
  split at hf
  ·rename_i hn
   split at hf
   case h_2 => cases hf
   rename_i ct hct
   (obtain ⟨ws, f1, f2, f3, f4, f5⟩ := fin_okC h h2 hct); (have hnd := nodupB_spec hn); (rw [← given_fin hct] at hnd); (have hcs := ctFin_cases hct); (obtain ⟨ds, hds⟩ : ∃ ds, ds = ds0 ++ ct := ⟨_, rfl⟩); (rw [← hds] at f1 f4); (rw [List.append_assoc, ← hds] at hnd); (rw [List.append_assoc, ← hds] at hf); (obtain ⟨vs, us, r1, r2, r3, r4, r5, r6⟩ := res_ok hL h h1); (obtain ⟨d1, d2⟩ := dec_ok hf); (have hall : (sig f).all.length = (cs ++ ds).length := by rw [← d1]; simp); (have hlen : (vs ++ ws).length = (cs ++ ds).length := by simp only [List.length_append]; omega); (have hel : (enc (sig f).all r).length = (cs ++ ds).length := by rw [enc_len, hall])
   have sr : ∀ c, c < (cs ++ ds).length → SR L w (Fz E st V w) st V a.tmps ((cs ++ ds).getD c .dead) ((vs ++ ws).getD c undef) := fun c hc => by
    by_cases hlt : c < cs.length
    ·have e1 : (cs ++ ds).getD c .dead = cs.getD c .dead := by rw [List.getD_eq_getElem?_getD, List.getD_eq_getElem?_getD, List.getElem?_append_left hlt]
     (have e2 : (vs ++ ws).getD c undef = vs.getD c undef := by rw [List.getD_eq_getElem?_getD, List.getD_eq_getElem?_getD, List.getElem?_append_left (by omega)]); (rw [e1, e2]; exact r4 c hlt)
    ·have e1 : (cs ++ ds).getD c .dead = ds.getD (c - cs.length) .dead := by rw [List.getD_eq_getElem?_getD, List.getD_eq_getElem?_getD, List.getElem?_append_right (by omega)]
     (have e2 : (vs ++ ws).getD c undef = ws.getD (c - cs.length) undef := by rw [List.getD_eq_getElem?_getD, List.getD_eq_getElem?_getD, List.getElem?_append_right (by omega), r1]); (rw [e1, e2]; exact f4 _ (by simp only [List.length_append] at hc; omega))
   -- a cell of the results, az it was in the state
   have cell : ∀ c, c < (cs ++ ds).length → (enc (sig f).all r).getD c .dead = out1 L st ((cs ++ ds).getD c .dead) ∨ ∃ t xs, out1 L st ((cs ++ ds).getD c .dead) = .fr t xs ∧ (enc (sig f).all r).getD c .dead = .ro t xs := fun c hc => by
    have := d2 c (by omega)
    have e : ((cs ++ ds).map (out1 L st)).getD c .dead = out1 L st ((cs ++ ds).getD c .dead) := by
     rw [getD_lt (by simpa using hc), List.getElem_map, getD_lt hc]
    rw [e] at this
    exact this
   have outFr : ∀ {s : SV L.D} {t : TypeId} {xs : List (L.D t)}, out1 L st s = .fr t xs → (∃ j, s = .own j ∧ st.row j = some ⟨t, false, xs⟩) ∨ (∃ t', s = .nl t' ∧ xs = []) := fun {s t xs} e => by
    cases s with
    | own j =>
     simp only [out1] at e
     cases hr : st.row j with
     | none => rw [hr] at e; cases e
     | some x =>
      (rw [hr] at e); (simp only at e)
      cases hfz : x.fz with
      | true => rw [hfz] at e; cases e
      | false =>
       (rw [hfz] at e); (obtain ⟨t0, z0, l0⟩ := x); (simp only at hfz e); (subst hfz)
       injection e with e0 e1
       (subst e0); (obtain rfl := eq_of_heq e1)
       exact .inl ⟨j, rfl, hr⟩
    | nl t' =>
     simp only [out1] at e
     injection e with e0 e1
     subst e0
     exact .inr ⟨_, rfl, (eq_of_heq e1).symm⟩
    | _ => simp only [out1] at e; cases e
   have encFr : ∀ c, c < (cs ++ ds).length → ∀ t xs, (enc (sig f).all r).getD c .dead = .fr t xs → out1 L st ((cs ++ ds).getD c .dead) = .fr t xs := fun c hc t xs e => by
    rcases cell c hc with h' | ⟨t', xs', _, h'⟩
    ·rw [← h']; exact e
    ·rw [h'] at e; cases e
   -- the counter
   have hctr : ∀ n, ctOf ((enc (sig f).all r).drop ((sig f).res.flatten.length + (sig f).fin.flatten.length)) = some n ↔ st.ctr = some n := fun n => by
    rcases hcs with ⟨_, c2, c3⟩ | ⟨m, _, c2, c3⟩
    ·have e : (enc (sig f).all r).drop ((sig f).res.flatten.length + (sig f).fin.flatten.length) = [] := List.drop_eq_nil_of_le (by rw [hel, hds, c3]; simp only [List.length_append, List.length_nil]; omega)
     rw [e, c2]; exact ⟨(fun h => by cases h), (fun h => by cases h)⟩
    ·have hl1 : (enc (sig f).all r).length = (sig f).res.flatten.length + (sig f).fin.flatten.length + 1 := by rw [hel, hds, c3]; simp only [List.length_append, List.length_cons, List.length_nil]; omega
     have hg : (cs ++ ds).getD ((sig f).res.flatten.length + (sig f).fin.flatten.length) .dead = .ct m := by
      rw [hds, c3, ← r2, ← f2, List.getD_eq_getElem?_getD, List.getElem?_append_right (by omega), Nat.add_sub_cancel_left, List.getElem?_append_right (Nat.le_refl _), Nat.sub_self]; rfl
     have hx : (enc (sig f).all r).getD ((sig f).res.flatten.length + (sig f).fin.flatten.length) .dead = .ct m := by
      rcases cell ((sig f).res.flatten.length + (sig f).fin.flatten.length) (by omega) with h' | ⟨_, _, h', _⟩
      ·rw [h', hg]; rfl
      ·rw [hg] at h'; cases h'
     have e : (enc (sig f).all r).drop ((sig f).res.flatten.length + (sig f).fin.flatten.length) = [.ct m] := by
      rw [List.drop_eq_getElem_cons (by omega), List.drop_eq_nil_of_le (by omega), ← hx, getD_lt (by omega)]
     rw [e, c2]; exact ⟨fun h => h, fun h => h⟩
   have nlab : ∀ l, NL (sig f) E.q (enc (sig f).all r) l ↔ Lab st l := fun l => by
    constructor
    ·rintro ⟨m, n, e1, e2, e3, e4⟩
     (have e2 := (hctr n).1 e2); (have := h.qc n e2); (rw [e1] at this)
     exact ⟨n, e2, by rw [← Option.some.inj this]; exact e3, e4⟩
    ·rintro ⟨n, e1, e2, e3⟩
     exact ⟨_, n, h.qc n e1, (hctr n).2 e1, e2, e3⟩
   -- the rows that are given
   have ownOf : ∀ {c k : Nat}, OwnV (enc (sig f).all r) (vs ++ ws) c k → ∃ j x, c < (cs ++ ds).length ∧ (cs ++ ds).getD c .dead = .own j ∧ st.row j = some x ∧ x.fz = false ∧ (V.rv j).ownBlock = some k := fun {c k} ⟨hc, ⟨t, xs, e⟩, ho⟩ => by
    (rw [hel] at hc); (have hs := sr c hc)
    rcases outFr (encFr c hc t xs e) with ⟨j, e1, e2⟩ | ⟨t', e1, _⟩
    ·rw [e1] at hs
     rw [hs.own_inv e2] at ho
     exact ⟨j, _, hc, e1, e2, rfl, ho⟩
    ·rw [e1] at hs
     rw [hs.nl_inv] at ho; cases ho
   have adrOw : ∀ p ∈ E.adr, ∃ q cs, ∃ hq : q < st.imps.length, st.box st.imps[q] = some cs ∧ V.ba st.imps[q] = p.1 := fun p hp => by
    (obtain ⟨q, hq, rfl⟩ := List.getElem_of_mem hp); (have hq' : q < st.imps.length := by rw [h.impN]; exact hq); (obtain ⟨cs, p, g1, g2, g3, _⟩ := h.imps q hq'); (rw [List.getElem?_eq_getElem hq] at g2); (rw [Option.some.inj g2])
    exact ⟨q, cs, hq', g1, g3⟩
   have own : ∀ c k, OwnV (enc (sig f).all r) (vs ++ ws) c k → ¬ E.F0 k ∧ (E.w0.heap.size ≤ k ∨ E.Imp k) ∧ ∀ p ∈ E.adr, p.1 ≠ k := fun c k ho => by
    (obtain ⟨j, x, _, _, hx, hfz, e⟩ := ownOf ho); (obtain ⟨g1, g2⟩ := h.own k (.inl (.inr ⟨j, x, hx, hfz, e⟩)))
    refine ⟨g1, g2, fun p hp e' => ?_⟩
    obtain ⟨q, cs', hq, hb, hba⟩ := adrOw p hp
    exact h.br _ cs' j x hb hx hfz (by rw [hba, e', e])
   have FF : Le w w (Fz E st V w) (PF E (sig f) E.q (enc (sig f).all r) (vs ++ ws) V.lv w) := by
    refine .sub (fun k hk => hk.imp id fun ⟨g1, g2, g3⟩ => ⟨g1, g2, fun c ho => ?_, fun p hp e => ?_, fun l hl e => g3 (.inr ⟨l, (nlab l).1 hl, e⟩)⟩) fun l u hl => hl.imp id fun ⟨g1, g2⟩ => ⟨(nlab l).2 g1, g2⟩
    ·obtain ⟨j, x, _, _, hx, hfz, e⟩ := ownOf ho
     exact g3 (.inl (.inr ⟨j, x, hx, hfz, e⟩))
    ·obtain ⟨q, cs', hq, hb, hba⟩ := adrOw p hp
     exact g3 (.inl (.inl ⟨_, cs', hb, hba.trans e⟩))
   refine ⟨valueV us, ?_, vs ++ ws, V.lv, ?_⟩
   ·have e0 : results fn a.tmps = (do let vs ← fn.results.mapM (resV a.tmps); pure (if h : vs.size = 1 then vs[0] else .tuple vs)) := rfl
    (rw [e0, Array.mapM_eq_mapM_toList]); (simp only [Sem.run_bind])
    have : ((List.toArray <$> (fn.results.toList.mapM (resV a.tmps) : Sem (List Value))) : Sem (Array Value)).run P w = .ok us.toArray w := by
     rw [Sem.run_map, r6]
     rfl
    (rw [this]); (simp only [Result.andThen_ok, Sem.run_pure])
    congr 1
    unfold valueV
    match us with
    | [] => rfl
    | [x] => rfl
    | x :: y :: l => rfl
   ·refine ⟨by rw [hlen, hel], (congrArg valueV (r5 ws)).symm, fun u hu => (List.mem_append.1 hu).elim (r3 u) (f3 u), fun c t xs hc e => ?_, fun c hc hnf => ?_, fun c c' k ho ho' => ?_, own, fun l hl => h.lab l ((nlab l).1 hl), fun l k hl e => ?_, fun l l' k hl hl' => h.ll l l' k ((nlab l).1 hl) ((nlab l').1 hl'), fun m n e1 e2 => ?_, fun q p hp => ?_, fun q p hp o ho => ?_, h.size, h.kept, h.os, h.tape, h.output⟩
    ·rw [hel] at hc
     have hs := sr c hc
     rcases outFr (encFr c hc t xs e) with ⟨j, e1, e2⟩ | ⟨t', e1, e2⟩
     ·rw [e1] at hs
      rw [hs.own_inv e2]
      exact ((h.row j _ e2).2 rfl).mono FF fun _ _ => rfl
     ·rw [e1] at hs
      rw [hs.nl_inv, e2]
      exact ⟨[], ⟨by simp, .inl ⟨rfl, rfl⟩⟩, (fun u hu => by cases hu), fun i j hi => absurd hi (Nat.not_lt_zero i)⟩
    ·rw [hel] at hc
     (have hs := sr c hc); (have hcell := cell c hc)
     have hone : ((vs ++ ws).getD c undef).oneCell' = true := by
      rw [getD_lt (by rw [hlen]; exact hc)]
      exact (List.mem_append.1 (List.getElem_mem (by rw [hlen]; exact hc))).elim (r3 _) (f3 _)
     have hyd : (enc (sig f).all r).getD c .dead ≠ .dead := by
      (obtain ⟨sh, _, x, hx⟩ := enc_cell (sig f).all r c (by omega)); (rw [hx])
      cases sh <;> (intro e; cases e)
     generalize hy : (enc (sig f).all r).getD c .dead = y at hnf hcell hyd
     rcases hcell with rfl | ⟨t, xs, e1, rfl⟩
     ·generalize (cs ++ ds).getD c .dead = s at hs hnf hyd
      clear hy
      cases s with
      | v x => rw [hs.v_inv.1]; exact .v _ hs.v_inv.2
      | ro t xs => exact hs.ro_inv.mono FF
      | own j =>
       simp only [out1] at hnf hyd ⊢
       cases hr : st.row j with
       | none => rw [hr] at hyd; exact absurd rfl hyd
       | some x =>
        (rw [hr] at hnf); (simp only at hnf ⊢)
        cases hfz : x.fz with
        | false => rw [hfz] at hnf; exact absurd ⟨_, _, rfl⟩ hnf
        | true =>
         (simp only); (rw [hs.own_inv hr])
         exact ((h.row j x hr).1 hfz).mono FF
      | nl t => exact absurd ⟨_, _, rfl⟩ hnf
      | lr l t xs => exact hs.lr_inv.mono FF
      | ct n => exact .ct n _ hone
      | _ => exact absurd rfl hyd
     ·rcases outFr e1 with ⟨j, e2, e3⟩ | ⟨t', e2, e3⟩
      ·rw [e2] at hs
       rw [hs.own_inv e3]
       refine ((h.row j _ e3).2 rfl).reads FF fun k hk => ?_
       have hOw : Ow st V k := .inl (.inr ⟨j, _, e3, rfl, hk⟩)
       refine .inr ⟨(h.own k hOw).2, h.ow_lt hOw, fun c' ho => ?_, fun p hp e => ?_, fun l hl e => h.lrw l j _ k ((nlab l).1 hl) e3 rfl e hk⟩
       ·obtain ⟨j', x, hc', e4, hx, hfz, e5⟩ := ownOf ho
        (obtain rfl := h.rr j j' _ x k e3 hx rfl hfz hk e5); (obtain rfl := given_uniq hnd hc hc' e2 e4 e3 rfl); (obtain ⟨_, ⟨t', xs', e6⟩, _⟩ := ho); (rw [hy] at e6; cases e6)
       ·obtain ⟨q, cs', hq, hb, hba⟩ := adrOw p hp
        exact h.br _ cs' j _ hb e3 rfl (by rw [hba, e, hk])
      ·rw [e2] at hs
       rw [hs.nl_inv, e3]
       exact .ro0 t none 0
    ·obtain ⟨j, x, hc, e1, hx, hfz, e2⟩ := ownOf ho
     (obtain ⟨j', x', hc', e1', hx', hfz', e2'⟩ := ownOf ho'); (obtain rfl := h.rr j j' x x' k hx hx' hfz hfz' e2 e2')
     exact given_uniq hnd hc hc' e1 e1' hx hfz
    ·obtain ⟨g1, g2⟩ := h.own k (.inr ⟨l, (nlab l).1 hl, e⟩)
     refine ⟨g1, g2, fun p hp e' => ?_, fun c ho => ?_⟩
     ·obtain ⟨q, cs', hq, hb, hba⟩ := adrOw p hp
      exact h.lbx l _ cs' ((nlab l).1 hl) hb (by rw [hba, e', e])
     ·obtain ⟨j, x, _, _, hx, hfz, e2⟩ := ownOf ho
      exact h.lrw l j x k ((nlab l).1 hl) hx hfz e e2
    ·have e2 := (hctr n).1 e2
     (have := h.qc n e2); (rw [e1] at this); (rw [Option.some.inj this])
     exact (h.labF n e2).1
    ·have hq : q < st.imps.length := by rw [h.impN]; exact (List.getElem?_eq_some_iff.1 hp).1
     (obtain ⟨cs', xs, T, g1, g2, g3, g4, g5⟩ := f5 q hq); (obtain ⟨cs2, p2, k1, k2, k3, k4, k5⟩ := h.imps q hq); (obtain rfl := Option.some.inj (hp.symm.trans k2)); (rw [k3] at g3); (rw [k4] at g4 g5)
     refine ⟨xs, T, g3, by rw [← g2]; exact g4, fun j hj => ?_⟩
     rw [g5 j (by rw [g2]; exact hj)]
     congr 1
     rw [← r2, List.getD_eq_getElem?_getD, List.getD_eq_getElem?_getD, List.getElem?_append_right (by omega), r1]
     congr 2
     omega
    ·have hq : q < st.imps.length := by rw [h.impN]; exact (List.getElem?_eq_some_iff.1 hp).1
     (obtain ⟨cs', xs, T, g1, g2, g3, g4, g5⟩ := f5 q hq); (obtain ⟨cs2, p2, k1, k2, k3, k4, k5⟩ := h.imps q hq); (obtain rfl := Option.some.inj (hp.symm.trans k2)); (obtain rfl := Option.some.inj (g1.symm.trans k1))
     exact k5 o (by rw [g2]; exact ho)
  ·cases hf
 ·cases hf
theorem noFr_spec : ∀ {l : List Sh}, noFr l = true → ∀ (c : Nat) (t : TypeId), l[c]? ≠ some (.fr t)
 | [], _, c, t => by simp
 | s :: l, h, 0, t => by
  cases s <;> simp only [noFr] at h <;> simp_all
 | s :: l, h, c + 1, t => by
  have : noFr l = true := by cases s <;> simp only [noFr] at h <;> first | exact h | cases h
  simpa using noFr_spec this c t
theorem given_nil : ∀ {l : List (SV L.D)}, given L st l = [] → ∀ c j r, l.getD c .dead = .own j → st.row j = some r → r.fz = true
 | [], _, c, j, r, h, _ => by cases c <;> cases h
 | s :: l, hg, 0, j, r, h, hr => by
  (simp only [List.getD_cons_zero] at h); (subst h); (simp only [given, hr] at hg)
  cases hf : r.fz with
  | true => rfl
  | false => rw [hf] at hg; cases hg
 | s :: l, hg, c + 1, j, r, h, hr => by
  refine given_nil (l := l) ?_ c j r (by simpa using h) hr
  cases s <;> first | (simpa [given] using hg) | skip
  rename_i i
  simp only [given] at hg
  cases hi : st.row i with
  | none => rw [hi] at hg; exact hg
  | some x =>
   (rw [hi] at hg); (simp only at hg)
   cases hf : x.fz with
   | true => rw [hf] at hg; exact hg
   | false => rw [hf] at hg; cases hg
theorem finishM_ok (h : Rel L E st V a w) {f : FuncId} {fn : Func} {r : RT L.D (sig f).all} (hf : finishM L sig f fn.results.toList st = some r) : ∃ v, (results fn a.tmps).run P w = .ok v w ∧ ∃ vs, PostM L E (sig f) (enc (sig f).all r) vs v w := by
 unfold finishM at hf
 split at hf
 ·rename_i t hres himp hno
  (rw [Bool.and_eq_true] at hno); (have hnl : ∀ l, ¬ Lab st l := fun l ⟨n, hn, _⟩ => by rw [Option.isNone_iff_eq_none.1 hno.2] at hn; cases hn); (have hno := hno.1)
  split at hf
  ·rename_i b hb
   split at hf
   ·rename_i cs hcs
    split at hf
    ·rename_i hgv
     (have hgv := List.isEmpty_iff.1 hgv); (obtain ⟨d1, d2⟩ := dec_ok hf); (have hp := (hb ▸ h.tmp t).ptr_inv hcs); (obtain ⟨xs, T, g1, g2, g3⟩ := h.box b cs hcs); (have hO : Ow st V (V.ba b) := .inl (.inl ⟨b, cs, hcs, rfl⟩)); (have hlen : (enc (sig f).all r).length = cs.length := by rw [enc_len, ← d1]; simp); (have hrs : fn.results = #[.tmp t] := Array.toList_inj.1 hres)
     refine ⟨a.tmps.getD t undef, ?_, (List.range cs.length).map fun j => xs.getD (V.bo b + j) undef, ?_⟩
     ·unfold results
      rw [hrs]
      simp [Sem.run_bind]
     ·have hcell : ∀ c, c < cs.length → ∃ u, xs[V.bo b + c]? = some u ∧ ((List.range cs.length).map fun j => xs.getD (V.bo b + j) undef).getD c undef = u ∧ u.oneCell' = true ∧ SR L w (Fz E st V w) st V a.tmps (cs.getD c .dead) u := fun c hc => by
       obtain ⟨u, k1, k2, k3⟩ := g3 c hc
       exact ⟨u, k1, by rw [range_cells _ _ hc]; simp [Array.getD_eq_getD_getElem?, k1], k2, k3⟩
      refine ⟨by simp [hlen], fun u hu => ?_, ⟨V.ba b, V.bo b, xs, T, by rw [hp, Nat.add_zero], (h.own _ hO).2, g1, by rw [hlen]; exact g2, fun j hj => ?_, fun c hc => ?_⟩, h.size, h.kept, h.os, h.tape, h.output⟩
      ·obtain ⟨j, hj, rfl⟩ := List.mem_map.1 hu
       (have hj := List.mem_range.1 hj); (obtain ⟨u, _, e, k, _⟩ := hcell j hj); (rw [range_cells _ _ hj] at e); (rw [e]; exact k)
      ·rw [hlen] at hj
       (obtain ⟨u, e1, e2, _⟩ := hcell j hj); (rw [e2]; exact e1)
      ·rw [hlen] at hc
       (obtain ⟨u, _, e2, k2, k3⟩ := hcell c hc); (rw [e2])
       have hF : Le w w (Fz E st V w) ⟨fun k => E.F0 k ∨ ((E.w0.heap.size ≤ k ∨ E.Imp k) ∧ k < w.heap.size ∧ k ≠ V.ba b), E.F0.lb⟩ := .sub (fun k hk => by
        rcases hk with hk | ⟨a1, a2, a3⟩
        ·exact .inl hk
        ·exact .inr ⟨a1, a2, fun e => a3 (e ▸ hO)⟩) fun l u hl => hl.resolve_right fun hl => hnl l hl.1
       (have hc' : c < (sig f).all.length := by rw [← enc_len (sig f).all r, hlen]; exact hc); (obtain ⟨sh, s1, x, s2⟩ := enc_cell (sig f).all r c hc')
       have hnf : ∀ t xs, (enc (sig f).all r).getD c .dead ≠ .fr t xs := fun t xs e => by
        rw [s2] at e
        cases sh with
        | fr t' => exact noFr_spec hno c t' s1
        | int k => simp only [enc1] at e; cases e
        | bool => simp only [enc1] at e; cases e
        | str => simp only [enc1] at e; cases e
        | ro t' => simp only [enc1] at e; cases e
        | lr t' => simp only [enc1] at e; cases e
        | ct => simp only [enc1] at e; cases e
       have eo : (cs.map (out1 L st)).getD c .dead = out1 L st (cs.getD c .dead) := by
        rw [getD_lt (by simpa using hc), List.getElem_map, getD_lt hc]
       (have hd := d2 c hc'); (rw [eo] at hd); (have hgn := given_nil hgv c)
       have hnd : (enc (sig f).all r).getD c .dead ≠ .dead := fun e => by
        rw [s2] at e
        cases sh <;> (simp only [enc1] at e; cases e)
       generalize cs.getD c .dead = s at k3 hd hgn
       cases s with
       | v y =>
        rcases hd with e | ⟨_, _, e, _⟩
        ·rw [e]; rw [k3.v_inv.1]; exact .v _ k3.v_inv.2
        ·cases e
       | ro t' ys =>
        rcases hd with e | ⟨_, _, e, _⟩
        ·rw [e]; exact k3.ro_inv.mono hF
        ·cases e
       | lr l t' ys =>
        rcases hd with e | ⟨_, _, e, _⟩
        ·rw [e]; exact k3.lr_inv.mono hF
        ·cases e
       | ct n =>
        rcases hd with e | ⟨_, _, e, _⟩
        ·rw [e]; exact .ct n _ k2
        ·cases e
       | nl t' =>
        rw [k3.nl_inv]
        rcases hd with e | ⟨t1, xs1, e1, e⟩
        ·exact absurd e (hnf _ _)
        ·simp only [out1] at e1
         injection e1 with e2 e3
         (subst e2); (obtain rfl := eq_of_heq e3); (rw [e]; exact .ro0 _ none 0)
       | own j =>
        cases hr : st.row j with
        | none =>
         rcases hd with e | ⟨_, _, e, _⟩
         ·simp only [out1, hr] at e
          exact absurd e hnd
         ·simp only [out1, hr] at e; cases e
        | some y =>
         (have hfz := hgn j y rfl hr); (rw [k3.own_inv hr])
         rcases hd with e | ⟨_, _, e, _⟩
         ·simp only [out1, hr, hfz] at e
          rw [e]; exact ((h.row j y hr).1 hfz).mono hF
         ·simp only [out1, hr, hfz] at e; cases e
       | _ =>
        rcases hd with e | ⟨_, _, e, _⟩
        ·exact absurd e hnd
        ·cases e
    ·cases hf
   ·cases hf
  ·cases hf
 ·cases hf
theorem finish_ok (hL : LayOk P L) (h : Rel L E st V a w) {f : FuncId} {fn : Func} {r : RT L.D (sig f).all} (hf : finish L sig f fn.results.toList st = some r) : ∃ v, (results fn a.tmps).run P w = .ok v w ∧ ∃ vs lv, PostA L E (sig f) E.q (enc (sig f).all r) vs lv v w := by
 unfold PostA
 cases hk : (sig f).new with
 | false => exact finishV_ok hL h hk hf
 | true =>
  unfold finish at hf
  (rw [hk] at hf); (obtain ⟨v, h1, vs, h2⟩ := finishM_ok h hf)
  exact ⟨v, h1, vs, fun _ => (0, undef), h2⟩
end
end Go.Proofs.YtfeikakkfnnaoaaGreatDoor.V
namespace Go.Proofs.YtfeikakkfnnaoaaGreatDoor.V
open Go
set_option linter.unusedVariables false
set_option linter.unusedSimpArgs false
structure CtxOk (C : Ctx) (Tab : TabP) : Prop where
 kept : TabKept Tab
 lay : LayOk C.P C.L
 mixed : C.P.follows .mixedOrders = true
 small : ∀ f, (C.sig f).all.length ≤ 900
 name : ∀ (f : FuncId) (fn : Func), C.P.funcs[f]? = some fn → (fn.name == "runtime.NumGoroutine") = false
 ext : ∀ (f : FuncId) (h : Nat → List (SV C.L.D) → Option (RT C.L.D (C.sig f).all)), C.ext f = some h → ∀ k az r, h k az = some r → Meets C.P C.L Tab (C.sig f) f az r ∧ Callable C.P f
section
variable {P : Program} {L : Lay} {E : Ent} {st : St L.D} {V : Vl} {a : Act} {w : World}
theorem Rel.retmp (h : Rel L E st V a w) {tm : Array Value} (ht : ∀ n, tm.getD n undef = a.tmps.getD n undef) : Rel L { E with nt := tm.size } st V ⟨tm, []⟩ w := by
 have S : Same L w w (Fz E st V w) (Fz { E with nt := tm.size } st V w) st st V V a.tmps tm (fun _ => False) := ⟨Le.refl _ _, fun i r' _ h' => ⟨r', h', rfl, rfl, rfl⟩, fun b cs' _ h' => ⟨cs', h', rfl, rfl⟩, fun j _ => ht j⟩
 refine ⟨fun n => ?_, fun b cs hb => ?_, h.row, h.bb, h.br, h.rr, h.own, h.old, h.fimp, h.size, h.kept, h.os, h.tape, h.output, rfl, rfl, h.imps, h.impN, h.lab, h.lbx, h.lrw, h.ll, h.labF, h.oldL, h.qc⟩
 ·show SR L w _ st V tm (st.tmp n) (tm.getD n undef)
  rw [ht]
  exact (h.tmp n).same S fun k hk => hk.elim
 ·obtain ⟨vs, T, g1, g2, g3⟩ := h.box b cs hb
  refine ⟨vs, T, g1, g2, fun j hj => ?_⟩
  obtain ⟨u, k1, k2, k3⟩ := g3 j hj
  exact ⟨u, k1, k2, k3.same S fun k hk => hk.elim⟩
theorem postA_nt {s : Sig} {q : Option Nat} {cs : List (SV L.D)} {vs : List Value} {lv : Nat → LV} {v : Value} {n : Nat} (h : PostA L { E with nt := n } s q cs vs lv v w) : PostA L E s q cs vs lv v w := by
 unfold PostA at h ⊢
 split at h
 ·exact ⟨h.len, h.one, h.ptr, h.size, h.kept, h.os, h.tape, h.output⟩
 ·exact ⟨h.len, h.val, h.one, h.fr, h.ro, h.apart, h.own, h.lab, h.labO, h.labD, h.ctr, h.fin, h.outer, h.size, h.kept, h.os, h.tape, h.output⟩
end
theorem Fn_ok {C : Ctx} {Tab : TabP} (H : CtxOk C Tab) : ∀ k f az r, Fn C k f az = some r → Meets C.P C.L Tab (C.sig f) f az r ∧ Callable C.P f
 | 0, f, az, r, h => by cases h
 | k + 1, f, az, r, h => by
  (have ih := Fn_ok H k); (simp only [Fn] at h)
  cases hx : C.ext f with
  | some e =>
   rw [hx] at h
   exact H.ext f e hx k az r h
  | none =>
   (rw [hx] at h); (simp only at h)
   cases hf : C.P.funcs[f]? with
   | none => rw [hf] at h; cases h
   | some fn =>
    (rw [hf] at h); (simp only at h)
    split at h
    ·rename_i c hb hn
     have hn := Nat.le_of_ble_eq_true hn
     refine ⟨fun E V vals hT hnt hq hlen hr => ?_, fn, c, hf, H.name f fn hf, hb⟩
     refine calls_of_wp hf hb ?_
     have htm : ∀ n, (vals.toArray ++ Array.replicate (fn.ntmps - vals.toArray.size) undef).getD n undef = vals.toArray.getD n undef := fun n => by
      simp only [Array.getD_eq_getD_getElem?, Array.getElem?_append, Array.getElem?_replicate]
      split
      ·rfl
      ·rename_i hlt
       rw [Array.getElem?_eq_none (by omega)]
       split <;> rfl
     have hlen := hlen.2
     have hsz : (vals.toArray ++ Array.replicate (fn.ntmps - vals.toArray.size) undef).size = fn.ntmps := by
      simp; omega
     (have hr' := hr.retmp htm); (rw [hsz] at hr')
     refine run_ok (E := { E with nt := fn.ntmps }) H.lay ⟨ih, H.small, hT, H.kept⟩ H.mixed (C.live f) k c _ _ _ V _ E.w0 h hr' fun e st' V' a' w' hK hrel => ?_
     have fin : finish C.L C.sig f fn.results.toList st' = some r → a'.defers = [] ∧ ∃ v, (results fn a'.tmps).run C.P w' = .ok v w' ∧ ∃ vs lv, PostA C.L E (C.sig f) (ctOf az) (enc (C.sig f).all r) vs lv v w' := fun hfin => by
      (obtain ⟨v, h1, vs, lv, h2⟩ := finish_ok H.lay hrel hfin); (have h3 := postA_nt (E := E) (n := fn.ntmps) h2); (rw [show ({ E with nt := fn.ntmps } : Ent).q = ctOf az from hq] at h3)
      exact ⟨hrel.defers, v, h1, vs, lv, h3⟩
     cases e with
     | normal => exact fin hK
     | exit id => cases hK
     | ret => exact fin hK
    ·cases h
end Go.Proofs.YtfeikakkfnnaoaaGreatDoor.V
namespace Go.Proofs.YtfeikakkfnnaoaaGreatDoor.V
open Go
set_option linter.unusedVariables false
set_option linter.unusedSimpArgs false
section
variable {D : TypeId → Type}
def zB : SV D → Value → Bool
 | .nl _, .slice none 0 0 => true
 | .v (.int k n), .int k' n' => decide (k = k') && decide (n = n')
 | .v (.bool b), .bool b' => b == b'
 | .v (.string a), .string b => Nat.beq a.size 0 && Nat.beq b.size 0
 | .v (.pointer none), .pointer none => true
 | .v .nilFunc, .nilFunc => true
 | .v .nilIface, .nilIface => true
 | _, _ => false
def zsB : List (SV D) → List Value → Bool
 | [], [] => true
 | s :: l, u :: r => zB s u && zsB l r
 | _, _ => false
theorem zB_ok {s : SV D} {u : Value} (h : zB s u = true) : u.oneCell' = true ∧ (s = .v u ∨ ∃ e, s = .nl e ∧ u = .slice none 0 0) := by
 unfold zB at h
 split at h
 ·exact ⟨rfl, .inr ⟨_, rfl, rfl⟩⟩
 ·simp only [Bool.and_eq_true, decide_eq_true_eq] at h
  obtain ⟨rfl, rfl⟩ := h
  exact ⟨rfl, .inl rfl⟩
 ·simp only [beq_iff_eq] at h
  subst h
  exact ⟨rfl, .inl rfl⟩
 ·rename_i a b
  (simp only [Bool.and_eq_true] at h); (have h1 := Nat.eq_of_beq_eq_true h.1); (have h2 := Nat.eq_of_beq_eq_true h.2)
  have : a = b := by
   (obtain ⟨x⟩ := a); (obtain ⟨y⟩ := b); (have e1 : x = #[] := Array.eq_empty_of_size_eq_zero h1); (have e2 : y = #[] := Array.eq_empty_of_size_eq_zero h2); (rw [e1, e2])
  subst this
  exact ⟨rfl, .inl rfl⟩
 ·exact ⟨rfl, .inl rfl⟩
 ·exact ⟨rfl, .inl rfl⟩
 ·exact ⟨rfl, .inl rfl⟩
 ·cases h
theorem zsB_ok : ∀ {l : List (SV D)} {r : List Value}, zsB l r = true → l.length = r.length ∧ ∀ j (h : j < l.length), ∃ u, r[j]? = some u ∧ u.oneCell' = true ∧ (l[j] = .v u ∨ ∃ e, l[j] = .nl e ∧ u = .slice none 0 0)
 | [], [], _ => ⟨rfl, fun j h => absurd h (Nat.not_lt_zero j)⟩
 | [], _ :: _, h => by cases h
 | _ :: _, [], h => by cases h
 | s :: l, u :: r, h => by
  (simp only [zsB, Bool.and_eq_true] at h); (obtain ⟨h1, h2⟩ := zsB_ok h.2)
  refine ⟨by simp [h1], fun j hj => ?_⟩
  cases j with
  | zero => exact ⟨u, rfl, zB_ok h.1⟩
  | succ j => simpa using h2 j (by simpa using hj)
end
def aggB : Value → Bool
 | .agg _ => true
 | _ => false
def infoB (P : Program) (L : Lay) (t : TypeId) : Bool := match P.info? t with
 | some i => match i.zero with
  | some z => Nat.beq i.size (L.ti t).sz && Nat.beq i.bytes (L.ti t).bytes && Nat.beq z.cells.size (L.ti t).sz && (match isAgg L t with | true => aggB z | false => z.oneCell' && Nat.beq (L.ti t).sz 1) && zsB (L.zero t) z.cells.toList
  | none => false
 | none => false
def fieldsB (P : Program) : List (Nat × Nat) → List Field → Bool
 | [], [] => true
 | (q, n) :: l, f :: r => Nat.beq f.offset q && (match P.info? f.type with | some i => Nat.beq i.size n | none => false) && fieldsB P l r
 | _, _ => false
def typeB (P : Program) (L : Lay) (t : TypeId) : Bool := match (L.ti t).kind, P.underlying t with
 | .int k, some (.int k') => decide (k = k')
 | .bool, some .bool => true
 | .str, some .string => true
 | .slice e, some (.slice e') => Nat.beq e e' && okT L e && Nat.blt 0 (L.ti e).sz && Nat.blt 0 (L.ti e).bytes
 | .struct fs, some (.struct fields) => fieldsB P fs fields.toList
 | .ptr _, some (.pointer _) => true
 | _, _ => false
theorem fieldsB_ok {P : Program} : ∀ {fs : List (Nat × Nat)} {l : List Field}, fieldsB P fs l = true → l.length = fs.length ∧ ∀ (j q n : Nat), fs[j]? = some (q, n) → ∃ (f : Field) (i : TypeInfo), l[j]? = some f ∧ f.offset = q ∧ P.info? f.type = some i ∧ i.size = n
 | [], [], _ => ⟨rfl, fun j q n h => by cases h⟩
 | [], _ :: _, h => by cases h
 | (_, _) :: _, [], h => by cases h
 | (q, n) :: l, f :: r, h => by
  (simp only [fieldsB, Bool.and_eq_true] at h); (obtain ⟨h1, h2⟩ := fieldsB_ok h.2)
  refine ⟨by simp [h1], fun j q' n' hj => ?_⟩
  cases j with
  | zero =>
   (obtain ⟨rfl, rfl⟩ := Prod.mk.inj (Option.some.inj hj)); (have := h.1.2)
   split at this
   ·rename_i i hi
    exact ⟨f, i, rfl, Nat.eq_of_beq_eq_true h.1.1, hi, Nat.eq_of_beq_eq_true this⟩
   ·cases this
  | succ j => simpa using h2 j q' n' (by simpa using hj)
def scalB (P : Program) : Nat → TypeId → Bool
 | 1, t => match P.underlying t with
  | some (.int _) => true
  | _ => false
 | 2, t => match P.underlying t with
  | some .bool => true
  | _ => false
 | 3, t => match P.underlying t with
  | some .string => true
  | _ => false
 | _, _ => false
def fldsB (P : Program) : Nat → List Nat → List Field → Bool
 | _, [], [] => true
 | j, n :: l, f :: r => !(f.name == "_") && Nat.beq f.offset j && scalB P n f.type && fldsB P (j + 1) l r
 | _, _, _ => false
def eqtB (P : Program) (t : TypeId) (ns : List Nat) : Bool := match P.underlying t with
 | some (.struct fs) => !P.stoodInHeld t && !P.eqGuardType P.depth t && fldsB P 0 ns fs.toList
 | _ => false
theorem scalB_ok {P : Program} {n : Nat} {t : TypeId} (h : scalB P n t = true) : ScalT P n t := by
 unfold scalB at h
 split at h
 ·split at h
  ·rename_i k hk; exact ⟨k, hk⟩
  ·cases h
 ·split at h
  ·rename_i hk; exact hk
  ·cases h
 ·split at h
  ·rename_i hk; exact hk
  ·cases h
 ·cases h
theorem fldsB_ok {P : Program} : ∀ {j : Nat} {ns : List Nat} {l : List Field}, fldsB P j ns l = true → l.length = ns.length ∧ ∀ i n f, ns[i]? = some n → l[i]? = some f → FldT P (j + i) n f
 | _, [], [], _ => ⟨rfl, fun i n f h => by simp at h⟩
 | _, [], _ :: _, h => by cases h
 | _, _ :: _, [], h => by cases h
 | j, n :: ns, f :: l, h => by
  (simp only [fldsB, Bool.and_eq_true, Bool.not_eq_true'] at h); (obtain ⟨h1, h2⟩ := fldsB_ok h.2)
  refine ⟨by simp [h1], fun i n' f' hi hf => ?_⟩
  cases i with
  | zero =>
   (obtain rfl := Option.some.inj hi); (obtain rfl := Option.some.inj hf)
   exact ⟨h.1.1.1, Nat.eq_of_beq_eq_true h.1.1.2, scalB_ok h.1.2⟩
  | succ i =>
   have := h2 i n' f' (by simpa using hi) (by simpa using hf)
   rwa [show j + 1 + i = j + (i + 1) by omega] at this
theorem eqtB_ok {P : Program} {t : TypeId} {ns : List Nat} (h : eqtB P t ns = true) : ∃ fs : Array Field, P.underlying t = some (.struct fs) ∧ P.stoodInHeld t = false ∧ P.eqGuardType P.depth t = false ∧ fs.toList.length = ns.length ∧ ∀ j n f, ns[j]? = some n → fs.toList[j]? = some f → FldT P j n f := by
 unfold eqtB at h
 split at h
 ·rename_i fs hu
  (simp only [Bool.and_eq_true, Bool.not_eq_true'] at h); (obtain ⟨h1, h2⟩ := fldsB_ok h.2)
  exact ⟨fs, hu, h.1.1, h.1.2, h1, fun j n f a b => by have := h2 j n f a b; rwa [Nat.zero_add] at this⟩
 ·cases h
structure LayL (L : Lay) : Prop where
 byte : ∀ e, (L.ti e).kind = .int .u8 → (L.ti e).sz = 1 ∧ (L.ti e).bytes = 1 ∧ (L.zero e) = [.v (.int .u8 0)] ∧ (∀ n, ∃ x, L.make e [.v (.int .u8 n)] = some x) ∧ ∀ x, ∃ n, L.cell e x = [.v (.int .u8 n)]
 cell : ∀ t x, (L.cell t x).length = (L.ti t).sz
 form : ∀ t x s, s ∈ L.cell t x → (∃ u, s = .v u ∧ u.oneCell' = true) ∨ (∃ e ys, s = .ro e ys ∧ L.labd t = false) ∨ ∃ l e ys, s = .lr l e ys ∧ L.labd t = true ∧ ((L.zero e).any isNl = false ∨ L.labd e = true)
 make : ∀ t cs x, L.make t cs = some x → L.cell t x = cs.map (canonT (L.labd t))
 flat : ∀ t x, (L.zero t).any isNl = false → ∀ s, s ∈ L.cell t x → ∃ u, s = .v u
 zd : ∀ t e, (L.ti t).kind = .slice e → L.cell e (L.zd e) = (L.zero e).map (canonT (L.labd e))
theorem layOk_of {P : Program} {L : Lay} {ts : List TypeId} (h0 : ∀ t, (L.ti t).kind ≠ .other → t ∈ ts) (hB : ts.all (fun t => infoB P L t && typeB P L t) = true) (hE : ∀ t, L.eqt t ≠ [] → eqtB P t (L.eqt t) = true) (hL : LayL L) : LayOk P L := by
 have at_ : ∀ t, (L.ti t).kind ≠ .other → infoB P L t = true ∧ typeB P L t = true := fun t h => by
  have := List.all_eq_true.1 hB t (h0 t h)
  simpa using this
 have info : ∀ t, (L.ti t).kind ≠ .other → ∃ i z, P.info? t = some i ∧ i.size = (L.ti t).sz ∧ i.bytes = (L.ti t).bytes ∧ i.zero = some z ∧ z.cells.size = (L.ti t).sz ∧ (isAgg L t = true → ∃ cs, z = .agg cs) ∧ (isAgg L t = false → z.oneCell' = true ∧ (L.ti t).sz = 1) ∧ zsB (L.zero t) z.cells.toList = true := fun t h => by
  have := (at_ t h).1
  unfold infoB at this
  split at this
  ·rename_i i hi
   split at this
   ·rename_i z hz
    simp only [Bool.and_eq_true] at this
    refine ⟨i, z, hi, Nat.eq_of_beq_eq_true this.1.1.1.1, Nat.eq_of_beq_eq_true this.1.1.1.2, hz, Nat.eq_of_beq_eq_true this.1.1.2, fun ha => ?_, fun ha => ?_, this.2⟩
    ·have h2 := this.1.2
     rw [ha] at h2
     cases z <;> first | exact ⟨_, rfl⟩ | cases h2
    ·have h2 := this.1.2
     (rw [ha] at h2); (simp only [Bool.and_eq_true] at h2)
     exact ⟨h2.1, Nat.eq_of_beq_eq_true h2.2⟩
   ·cases this
  ·cases this
 have nk : ∀ {t : TypeId} {k : TK}, (L.ti t).kind = k → k ≠ .other → (L.ti t).kind ≠ .other := fun h h' e => h' (h.symm.trans e)
 refine ⟨fun t e hk => ?_, fun t k hk => ?_, fun t hk => ?_, fun t hk => ?_, fun t fs hk => ?_, fun t ha hk => ?_, fun t ha hk => ?_, fun t hk => ?_, hL.byte, hL.cell, hL.form, hL.make, hL.flat, hL.zd, fun t h => eqtB_ok (hE t h)⟩
 ·have := (at_ t (nk hk (by simp))).2
  unfold typeB at this
  rw [hk] at this
  split at this <;> first | (rename_i heq _; cases heq; done) | skip
  ·rename_i e1 e2 hk' hu
   injection hk' with hk'
   (subst hk'); (simp only [Bool.and_eq_true] at this); (obtain rfl := Nat.eq_of_beq_eq_true this.1.1.1)
   have hko : (L.ti e).kind ≠ .other := by
    intro h; have := this.1.1.2; simp [okT, h] at this
   obtain ⟨i, z, g1, g2, g3, g4, _⟩ := info e hko
   exact ⟨hu, hko, by have := this.1.2; simpa [Nat.blt_eq] using this, i, z, g1, g2, g3, g4, by rw [g3]; have := this.2; simpa [Nat.blt_eq] using this⟩
  ·cases this
 ·have := (at_ t (nk hk (by simp))).2
  unfold typeB at this
  rw [hk] at this
  split at this <;> first | (rename_i heq _; cases heq; done) | skip
  ·rename_i k1 k2 hk' hu
   injection hk' with hk'
   (subst hk'); (rw [hu, of_decide_eq_true this])
  ·cases this
 ·have := (at_ t (nk hk (by simp))).2
  unfold typeB at this
  rw [hk] at this
  split at this <;> first | (rename_i heq _; cases heq; done) | (rename_i hu; exact hu) | skip
  all_goals cases this
 ·have := (at_ t (nk hk (by simp))).2
  unfold typeB at this
  rw [hk] at this
  split at this <;> first | (rename_i heq _; cases heq; done) | (rename_i hu; exact hu) | skip
  all_goals cases this
 ·have := (at_ t (nk hk (by simp))).2
  unfold typeB at this
  rw [hk] at this
  split at this <;> first | (rename_i heq _; cases heq; done) | skip
  ·rename_i f1 fields hk' hu
   injection hk' with hk'
   (subst hk'); (obtain ⟨g1, g2⟩ := fieldsB_ok this)
   exact ⟨fields, hu, by simpa using g1, fun j q n h => by simpa using g2 j q n h⟩
  ·cases this
 ·have := (at_ t hk).2
  unfold typeB at this
  split at this
  ·rename_i hu; exact ⟨_, hu, (fun fs e => by cases e), (fun n e e' => by cases e')⟩
  ·rename_i hu; exact ⟨_, hu, (fun fs e => by cases e), (fun n e e' => by cases e')⟩
  ·rename_i hu; exact ⟨_, hu, (fun fs e => by cases e), (fun n e e' => by cases e')⟩
  ·rename_i hu; exact ⟨_, hu, (fun fs e => by cases e), (fun n e e' => by cases e')⟩
  ·rename_i hk' _; unfold isAgg at ha; rw [hk'] at ha; cases ha
  ·rename_i hu; exact ⟨_, hu, (fun fs e => by cases e), (fun n e e' => by cases e')⟩
  ·cases this
 ·obtain ⟨_, _, _, _, _, _, _, _, h1, _⟩ := info t hk
  exact (h1 ha).2
 ·obtain ⟨i, z, g1, g2, g3, g4, g5, g6, g7, g8⟩ := info t hk
  obtain ⟨z1, z2⟩ := zsB_ok g8
  refine ⟨i, z, g1, g2, g3, g4, g5, g6, fun ha => (g7 ha).1, by rw [z1, Array.length_toList (xs := z.cells)]; exact g5, fun j hj => ?_⟩
  obtain ⟨u, k1, k2, k3⟩ := z2 j hj
  exact ⟨u, by rw [← Array.getElem?_toList]; exact k1, k2, k3⟩
end Go.Proofs.YtfeikakkfnnaoaaGreatDoor.V
namespace Go.Proofs.YtfeikakkfnnaoaaGreatDoor.V
open Go
set_option linter.unusedVariables false
set_option linter.unusedSimpArgs false
section
variable {P : Program} {L : Lay}
def lawE (W : World) (n : Nat) (q : Option Nat) : Ent := { nt := n, w0 := W, F0 := ⟨fun k => k < W.heap.size, fun _ _ => False⟩, Imp := fun _ => False, adr := [], q := q }
def lawV : Vl := { ba := fun _ => 0, bo := fun _ => 0, rv := fun _ => .slice none 0 0, lv := fun _ => (0, undef) }
def FlatArg (L : Lay) (W : World) (s : SV L.D) (v : Value) : Prop := (∀ cs, s ≠ .pb cs) ∧ ∀ st V tm (F : FS), (∀ k, k < W.heap.size → F k) → SR L W F st V tm s v
theorem start_none : ∀ (p : Nat) (az : List (SV L.D)), (∀ s ∈ az, ∀ cs, s ≠ .pb cs) → (∀ s ∈ az, ∀ t xs, s ≠ .fr t xs) → startB L p az = ([], [])
 | _, [], _, _ => rfl
 | p, s :: l, h, h' => by
  (have h1 := start_none (p + 1) l (fun s hs => h s (List.mem_cons_of_mem _ hs)) fun s hs => h' s (List.mem_cons_of_mem _ hs)); (have h2 := h s List.mem_cons_self); (have h3 := h' s List.mem_cons_self)
  cases s <;> first | exact h1 | exact absurd rfl (h2 _) | exact absurd rfl (h3 _ _)
theorem start_none1 : ∀ (p : Nat) (az : List (SV L.D)), (∀ s ∈ az, ∀ cs, s ≠ .pb cs) → (startB L p az).1 = []
 | _, [], _ => rfl
 | p, s :: l, h => (startB_skip p (h s List.mem_cons_self) l).trans (start_none1 (p + 1) l fun s hs => h s (List.mem_cons_of_mem _ hs))
theorem FlatArg.nofr {W : World} {s : SV L.D} {v : Value} (h : FlatArg L W s v) {t : TypeId} {xs : List (L.D t)} : s ≠ .fr t xs := fun e => noFr_SR (h.2 { tmps := [], boxes := [], rows := [], imps := [], ctr := none, c0 := 0 } ⟨fun _ => 0, fun _ => 0, fun _ => undef, fun _ => (0, undef)⟩ #[] ⟨fun _ => True, fun _ _ => True⟩ fun _ _ => trivial) e
theorem start_flat {W : World} {az : List (SV L.D)} {vals : List Value} (h : ∀ p, p < az.length → FlatArg L W (az.getD p .dead) (vals.getD p undef)) : Rel L (lawE W vals.length (ctOf az)) (start L az) lawV ⟨vals.toArray, []⟩ W := by
 have hn : startB L 0 az = ([], []) := start_none 0 az (fun s hs cs e => by
  (obtain ⟨p, hp, rfl⟩ := List.getElem_of_mem hs); (have := (h p hp).1 cs); (rw [getD_lt hp] at this)
  exact this e) (fun s hs t xs e => by
  (obtain ⟨p, hp, rfl⟩ := List.getElem_of_mem hs); (have := (h p hp).nofr (t := t) (xs := xs)); (rw [getD_lt hp] at this)
  exact this e)
 (have hb : ∀ b, (start L az).box b = none := fun b => by unfold St.box start; rw [hn]; rfl); (have hr : ∀ b, (start L az).row b = none := fun b => by unfold St.row start; rw [hn]; rfl); (have hi : (start L az).imps = [] := by unfold start; rw [hn]; rfl)
 have ow : ∀ k, ¬ Ow (start L az) lawV k := fun k ho => by
  rcases ho with (⟨b, cs, h1, _⟩ | ⟨i, r, h1, _⟩) | ⟨l, hl, _⟩
  ·rw [hb] at h1; cases h1
  ·rw [hr] at h1; cases h1
  ·exact absurd hl no_lab
 have hcc : ∀ n, (start L az).ctr = some n → (start L az).c0 = n := fun n hc => by
  (have hc' : ctOf az = some n := hc); (simp only [start, hc'])
 refine ⟨fun n => ?_, (fun b cs h1 => by rw [hb] at h1; cases h1), (fun i r h1 => by rw [hr] at h1; cases h1), (fun b b' cs cs' h1 => by rw [hb] at h1; cases h1), (fun b cs i r h1 => by rw [hb] at h1; cases h1), (fun i i' r r' k h1 => by rw [hr] at h1; cases h1), fun k hk => absurd hk (ow k), fun k hk => hk, fun k _ hk => hk, Nat.le_refl _, fun _ _ _ => rfl, rfl, rfl, rfl, rfl, by simp [lawE], (fun q hq => by rw [hi] at hq; exact absurd hq (Nat.not_lt_zero q)), by rw [hi]; rfl, fun l hl => absurd hl no_lab, fun l _ _ hl => absurd hl no_lab, fun l _ _ _ hl => absurd hl no_lab, fun l _ _ hl => absurd hl no_lab, fun n hc => ⟨Nat.le_of_eq (hcc n hc), fun l v hl => hl.elim⟩, fun l v k hl => hl.elim, fun n hc => by rw [hcc n hc]; exact hc⟩
 by_cases hlt : n < az.length
 ·have e1 : (start L az).tmp n = startS n (az.getD n .dead) := by
   (have := startT_get 0 az n hlt); (rw [Nat.zero_add] at this)
   unfold St.tmp start
   simp only [this]; rfl
  have hf := h n hlt
  have e2 : startS n (az.getD n .dead) = az.getD n .dead := by
   (have := hf.1); (have h3 := fun t xs => hf.nofr (t := t) (xs := xs))
   generalize az.getD n .dead = s at this h3
   cases s <;> first | rfl | exact absurd rfl (this _) | exact absurd rfl (h3 _ _)
  (have e3 : ({ tmps := vals.toArray, defers := [] } : Act).tmps.getD n undef = vals.getD n undef := by simp [List.getD_eq_getElem?_getD]); (rw [e1, e2, e3])
  exact hf.2 _ _ _ _ fun k hk => Or.inl hk
 ·have e1 : (start L az).tmp n = .dead := by
   have := startT_none 0 az n (.inr (by omega))
   unfold St.tmp start
   simp only [this]; rfl
  rw [e1]; exact .dead _
end
theorem law_calls {C : Ctx} {Tab : TabP} (H : CtxOk C Tab) {f : FuncId} {b : Bool} {nk : List Bool} (hs : C.sig f = ⟨[[.bool]], [], [false], false, b, nk, []⟩) {az : List (SV C.L.D)} {vals : List Value} {W : World} (hT : Tab (fun k => k < W.heap.size) W) (hl : (ctOf az = none → az.length = vals.length) ∧ vals.length ≤ az.length) (h : ∀ p, p < az.length → FlatArg C.L W (az.getD p .dead) (vals.getD p undef)) {k : Nat} {r : RT C.L.D (C.sig f).all} (hr : Fn C k f az = some r) {tl : List (SV C.L.D)} (ht : enc (C.sig f).all r = .v (.bool true) :: tl) :
  Calls C.P f vals.toArray W fun | .returned v, W' => v = .bool true ∧ RowKit.Below W.heap.size W W' | _, _ => False := by
 have M := (Fn_ok H k f az r hr).1 (lawE W vals.length (ctOf az)) lawV vals hT rfl rfl hl (start_flat h)
 refine M.mono fun e W' he => ?_
 cases e with
 | returned v =>
  obtain ⟨vs, lv, Q⟩ := he
  unfold PostA at Q
  (rw [show (C.sig f).new = false by rw [hs]] at Q); (simp only at Q); (rw [ht] at Q)
  refine ⟨?_, Q.os, Q.tape, Q.output, Q.size, fun k hk => Q.kept k hk fun hi => hi⟩
  (have hv := Q.val); (have hln := Q.len); (have h0 := Q.ro 0 (by simp) (fun ⟨t, xs, e⟩ => by cases e)); (rw [hs] at hv)
  obtain ⟨u, us, rfl⟩ : ∃ u us, vs = u :: us := by
   match vs, hln with
   | u :: us, _ => exact ⟨u, us, rfl⟩
  (simp only [List.getD_cons_zero] at h0); (rw [hv])
  exact h0.v_inv'
 | panicked chain => exact he.elim
 | outgrown => exact he.elim
end Go.Proofs.YtfeikakkfnnaoaaGreatDoor.V
namespace Go.Proofs.YtfeikakkfnnaoaaGreatDoor.V
open Go
set_option linter.unusedVariables false
noncomputable section
abbrev w64 (x : Int) : Int := IntKind.wrap .i64 x
abbrev w8 (x : Int) : Int := IntKind.wrap .i8 x
abbrev wu64 (x : Int) : Int := IntKind.wrap .u64 x
abbrev wu8 (x : Int) : Int := IntKind.wrap .u8 x
def shlI (k : IntKind) (a b : Int) : Int := k.wrap (a * 2 ^ min b.toNat k.bits)
def shrI (k : IntKind) (a b : Int) : Int := a.fdiv (2 ^ min b.toNat k.bits)
def eqS (a b : ByteArray) : Bool := a.toList == b.toList
def ltS (a b : ByteArray) : Bool := Op.bytesLess a.toList b.toList
def leS (a b : ByteArray) : Bool := Op.bytesLess a.toList b.toList || a.toList == b.toList
def byteAt (s : ByteArray) (n : Int) : Int := ((s.data.toList.getD n.toNat 0).toNat : Int)
def strB (xs : List Int) : ByteArray := ⟨(xs.map fun n => UInt8.ofNat n.toNat).toArray⟩
def inB (n l : Int) : Bool := decide (0 ≤ n) && decide (n < l)
def cutOk (l h n : Int) : Bool := decide (0 ≤ l) && decide (l ≤ h) && decide (h ≤ n)
def mkOk (a b : Int) (z : Nat) : Bool := decide (0 ≤ a) && decide (a ≤ b) && okLe (b * (z : Int)) 281474976710656
def appOk {α β : Type} (xs : List α) (ys : List β) (z : Nat) : Bool := okLe (((xs.length : Int) + (ys.length : Int)) * (z : Int)) 70368744177664
def sumOk (a b : ByteArray) : Bool := okLe ((a.size + b.size : Nat) : Int) IntKind.i64.max
def child : Code → Nat → Code
 | .seq a _, 0 => a
 | .seq _ b, _ => b
 | .cond _ a _, 0 => a
 | .cond _ _ b, _ => b
 | .block _ b, _ => b
 | .loop b, _ => b
 | .scope b, _ => b
 | c, _ => c
def sub (c : Code) : List Nat → Code
 | [] => c
 | i :: l => sub (child c i) l
def bodyOf (f : Func) : Code := match f.body with
 | some c => c
 | none => .skip
section
variable {L : Lay} {sig : FuncId → Sig} {call : (f : FuncId) → List (SV L.D) → Option (RT L.D (sig f).all)} {ρ : Type} {nt : Nat} {live : Nat → List Nat} {n : Nat}
def seqK (L : Lay) (sig : FuncId → Sig) (call : (f : FuncId) → List (SV L.D) → Option (RT L.D (sig f).all)) (nt : Nat) (live : Nat → List Nat) (n : Nat) (c : Code) (K : Ex → St L.D → Option ρ) : Ex → St L.D → Option ρ
 | .normal, st => run L sig call nt live n c st K
 | .exit j, st => K (.exit j) st
 | .ret, st => K .ret st
def flat : Code → Code → Code
 | .seq a b, c => flat a (flat b c)
 | x, c => .seq x c
end
end
end Go.Proofs.YtfeikakkfnnaoaaGreatDoor.V
