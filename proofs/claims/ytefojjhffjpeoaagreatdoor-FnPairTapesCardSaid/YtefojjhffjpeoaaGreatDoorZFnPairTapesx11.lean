/- Part of the proof of the law FnPairTapes: what it uses of the texts that this session and the kit's print wrote. -/
import Derived.Test.YtefojjhffjpeoaaGreatDoorZFnPairTapesx5
import Derived.Test.YtefojjhffjpeoaaGreatDoorZFnPairTapesx7
import Derived.Test.YtefojjhffjpeoaaGreatDoorZFnPairTapesx9
import Derived.Test.YtefojjhffjpeoaaGreatDoorZFnPairTapesx10
import Derived.KernelRfl
namespace Go.Proofs.YtefojjhffjpeoaaGreatDoor.V
open Go Go.RowKit Go.Proofs.YtefojjhffjpeoaaGreatDoor.L Go.Proofs.YtefojjhffjpeoaaGreatDoorW.PrintWords Go.Proofs.YtefojjhffjpeoaaGreatDoorW.PrintLast Go.Proofs.YtefojjhffjpeoaaGreatDoorW.PrintMore
set_option linter.unusedVariables false
set_option linter.unusedSimpArgs false
section
variable {c : List Int}
theorem size_tot (hc : Byt c) (hl : c.length ≤ 1048576) {p s b : Int} (h : Cur p s b) (hb : b ≤ 4611686018427387000) (n : Int) (hn0 : 1 ≤ n) (hn : n ≤ 1000) :
    Tt (fun k => c41 k [cuA c p s, .v (.int .i64 n)]) fun r => 0 ≤ r.1 ∧ r.1 ≤ n ∧ r.2.1 = c ∧ Cur r.2.2.1 r.2.2.2 (b + 1) := by
  refine Tt.st (fun k => g41_eq k n c p s) ?_
  have e0 : w64 (Int.tdiv (c.length : Int) 8) = (c.length : Int) / 8 := by rw [Int.tdiv_eq_ediv_of_nonneg (by omega), w64_id (by omega) (by omega)]
  have e1 : w64 (1 + (c.length : Int) / 8) = 1 + (c.length : Int) / 8 := w64_id (by omega) (by omega)
  have hg : ∃ g : Int, (cond (decide (1 + (c.length : Int) / 8 < n)) (1 + (c.length : Int) / 8) n) = g ∧ 1 ≤ g ∧ g ≤ n := by
    by_cases hh : 1 + (c.length : Int) / 8 < n
    · exact ⟨1 + (c.length : Int) / 8, by rw [decide_eq_true hh]; rfl, by omega, by omega⟩
    · exact ⟨n, by rw [decide_eq_false hh]; rfl, by omega, by omega⟩
  obtain ⟨g, eg, g1, g2⟩ := hg
  rw [e0, e1, eg, w64_id (by omega) (by omega)]
  refine T4.bind (pick_tot hc hl h (by omega) _) ?_
  rintro ⟨x1, c1, p1, s1⟩ ⟨a1, b1, e1, h1⟩
  have b1 := b1 (by omega)
  try dsimp only at *
  subst e1
  exact T4.now ⟨a1, by dsimp only; omega, rfl, h1⟩
def Drawn (l : List S68) : Prop := ∀ x, x ∈ l → (0 ≤ x.f5 ∧ x.f5 ≤ 16) ∧ x.f1.size ≤ 100000 ∧ x.f6.size ≤ 200000
theorem Drawn.snoc {l : List S68} {x : S68} (h : Drawn l) (hx : (0 ≤ x.f5 ∧ x.f5 ≤ 16) ∧ x.f1.size ≤ 100000 ∧ x.f6.size ≤ 200000) : Drawn (l ++ [x]) := fun y hy => by
  rcases List.mem_append.1 hy with h' | h'
  · exact h y h'
  · rw [List.mem_singleton.1 h']; exact hx
theorem reqsL_tot {c : List Int} (hc : Byt c) (hl : c.length ≤ 1048576) (ws : List ByteArray) (hw : ws.length = 4) (hws : ∀ w, w ∈ ws → w.size ≤ 32) : ∀ (d : Nat) (p s b : Int) (out : List S68), out.length + d ≤ 1000 → Drawn out → Cur p s b → b + 6000 * d ≤ 4611686018427000000 →
    T4 (fun k m _ _ => L14_1 k m (d : Int) c p s out ws) fun r => (Drawn r.1 ∧ r.1.length ≤ out.length + d) ∧ r.2.1 = c ∧ Cur r.2.2.1 r.2.2.2 (b + 6000 * d)
  | 0, p, s, b, out, ho, hd, h, hb => by
    refine T4.s1 (fun k m _ _ => L14_1_eq k m _ _ _ _ _ _) ?_
    exact T4.ite (fun hx => absurd (of_decide_eq_true hx) (by simp)) fun _ => T4.now ⟨⟨hd, by dsimp only; omega⟩, rfl, h.le (by omega)⟩
  | d + 1, p, s, b, out, ho, hd, h, hb => by
    refine T4.s1 (fun k m _ _ => L14_1_eq k m _ _ _ _ _ _) ?_
    refine T4.ite (fun _ => ?_) (fun hx => absurd (of_decide_eq_false hx) (by omega))
    simp only [J14_2_eq, J14_3_eq]
    have ew : w64 (((d + 1 : Nat) : Int) - 1) = (d : Int) := by rw [w64_id (by omega) (by omega)]; omega
    rw [ew]
    have hsz := getD_size hws
    have next : ∀ (x0 : Int) (w : ByteArray) (x2 x3 x4 x5 : Int) (t : ByteArray) (p' s' b' : Int), w.size ≤ 1000 → t.size ≤ 100100 → 0 ≤ x5 → x5 ≤ 16 → Cur p' s' b' → b' ≤ b + 5010 →
        T4 (fun k m _ _ => chk true (appOk out ([(⟨x0, w, x2, x3, x4, x5, t⟩ : S68)] : List S68) 72) (L14_1 k m (d : Int) c p' s' (out ++ ([(⟨x0, w, x2, x3, x4, x5, t⟩ : S68)] : List S68)) ws)) fun r => (Drawn r.1 ∧ r.1.length ≤ out.length + (d + 1 : Nat)) ∧ r.2.1 = c ∧ Cur r.2.2.1 r.2.2.2 (b + 6000 * (d + 1 : Nat)) := by
      intro x0 w x2 x3 x4 x5 t p' s' b' h1 h2 h3 h4 h5 h6
      refine T4.ck (appOk_of (by simp only [List.length_cons, List.length_nil]; omega)) ?_
      refine (reqsL_tot hc hl ws hw hws d p' s' b' (out ++ [⟨x0, w, x2, x3, x4, x5, t⟩]) (by rw [List.length_append]; simp only [List.length_cons, List.length_nil]; omega) (hd.snoc ⟨⟨h3, h4⟩, by dsimp only; omega, by dsimp only; omega⟩) h5 (by omega)).mono fun r hr => ?_
      rw [List.length_append] at hr
      simp only [List.length_cons, List.length_nil] at hr
      exact ⟨⟨hr.1.1, by omega⟩, hr.2.1, hr.2.2.le (by omega)⟩
    refine T4.bind (req_tot hc hl h (by omega)) ?_
    rintro ⟨x0, w, x2, x3, x4, x5, t, c1, p1, s1⟩ ⟨⟨hw1, ht1, h51, h52⟩, e1, h1⟩
    try dsimp only at *
    subst e1
    refine T4.gc (fun _ => once_tot hc hl h1 (by omega) 4) ?_
    rintro ⟨o1, c2, p2, s2⟩ hq1 hq2
    have hcu : (cond (!(eqS w ⟨#[]⟩)) c2 c1) = c1 ∧ Cur (cond (!(eqS w ⟨#[]⟩)) p2 p1) (cond (!(eqS w ⟨#[]⟩)) s2 s1) (b + 5001) := by
      cases hb : !(eqS w ⟨#[]⟩) with
      | true => have := hq1 hb; exact ⟨this.1, this.2.le (by omega)⟩
      | false => exact ⟨rfl, h1.le (by omega)⟩
    try dsimp only at *
    rw [hcu.1]
    have hcu := hcu.2
    generalize (cond (!(eqS w ⟨#[]⟩)) p2 p1) = p3 at hcu ⊢
    generalize (cond (!(eqS w ⟨#[]⟩)) s2 s1) = s3 at hcu ⊢
    have tail : ∀ (w' : ByteArray) (p' s' b' : Int), w'.size ≤ 1000 → Cur p' s' b' → b' ≤ b + 5002 → T4 (fun k m _ _ => (gcall (x0 == (6 : Int)) (c16 k [cuA c1 p' s', .v (.int .i64 2)]) (false, [], 0, 0)).bind fun (r1 : Bool × (List Int) × Int × Int) => cond ((x0 == (6 : Int)) && r1.1) ((c36 k [.pb [.ro 5 (cond (x0 == (6 : Int)) r1.2.1 c1), .v (.int .i64 (cond (x0 == (6 : Int)) r1.2.2.1 p')), .v (.int .i64 (cond (x0 == (6 : Int)) r1.2.2.2 s'))], .v (.int .i64 (4 : Int))]).bind fun (r2 : Int × (List Int) × Int × Int) => chk true (inB r2.1 (ws.length : Int)) (chk true (sumOk (ws.getD r2.1.toNat ⟨#[]⟩) (⟨#[32]⟩ : ByteArray)) (chk true (sumOk ((ws.getD r2.1.toNat ⟨#[]⟩) ++ (⟨#[32]⟩ : ByteArray)) t) (chk true (appOk out ([(⟨x0, w', x2, x3, x4, x5, ((ws.getD r2.1.toNat ⟨#[]⟩) ++ (⟨#[32]⟩ : ByteArray)) ++ t⟩ : S68)] : List S68) 72) (L14_1 k m (d : Int) r2.2.1 r2.2.2.1 r2.2.2.2 (out ++ ([(⟨x0, w', x2, x3, x4, x5, ((ws.getD r2.1.toNat ⟨#[]⟩) ++ (⟨#[32]⟩ : ByteArray)) ++ t⟩ : S68)] : List S68)) ws))))) (chk true (appOk out ([(⟨x0, w', x2, x3, x4, x5, t⟩ : S68)] : List S68) 72) (L14_1 k m (d : Int) (cond (x0 == (6 : Int)) r1.2.1 c1) (cond (x0 == (6 : Int)) r1.2.2.1 p') (cond (x0 == (6 : Int)) r1.2.2.2 s') (out ++ ([(⟨x0, w', x2, x3, x4, x5, t⟩ : S68)] : List S68)) ws))) fun r => (Drawn r.1 ∧ r.1.length ≤ out.length + (d + 1 : Nat)) ∧ r.2.1 = c1 ∧ Cur r.2.2.1 r.2.2.2 (b + 6000 * (d + 1 : Nat)) := by
      intro w' p' s' b' hw' hcu' hb'
      refine T4.gc (fun _ => once_tot hc hl hcu' (by omega) 2) ?_
      rintro ⟨o1, c2, p2, s2⟩ hq1 hq2
      have hcu : (cond (x0 == (6 : Int)) c2 c1) = c1 ∧ Cur (cond (x0 == (6 : Int)) p2 p') (cond (x0 == (6 : Int)) s2 s') (b + 5003) := by
        cases hb : (x0 == (6 : Int)) with
        | true => have := hq1 hb; exact ⟨this.1, this.2.le (by omega)⟩
        | false => exact ⟨rfl, hcu'.le (by omega)⟩
      try dsimp only at *
      rw [hcu.1]
      have hcu := hcu.2
      generalize (cond (x0 == (6 : Int)) p2 p') = p4 at hcu ⊢
      generalize (cond (x0 == (6 : Int)) s2 s') = s4 at hcu ⊢
      refine T4.ite (fun _ => ?_) fun _ => ?_
      · refine T4.bind (pick_tot hc hl hcu (by omega) 4) ?_
        rintro ⟨y, c5, p5, s5⟩ ⟨a5, b5, e5, h5⟩
        have b5 := b5 (by decide)
        try dsimp only at *
        subst e5
        have hz := hsz y.toNat
        generalize ws.getD y.toNat ⟨#[]⟩ = q at hz ⊢
        have h32 : (⟨#[32]⟩ : ByteArray).size = 1 := rfl
        refine T4.ck (inB_of a5 (by omega)) (T4.ck (sumOk_of (by omega)) (T4.ck (sumOk_of (by rw [ByteArray.size_append]; omega)) ?_))
        exact next _ _ _ _ _ _ _ _ _ _ hw' (by rw [ByteArray.size_append, ByteArray.size_append]; omega) h51 h52 h5 (by omega)
      · exact next _ _ _ _ _ _ _ _ _ _ hw' (by omega) h51 h52 hcu (by omega)
    refine T4.ite (fun _ => ?_) fun _ => ?_
    · refine T4.bind (pick_tot hc hl hcu (by omega) 4) ?_
      rintro ⟨y, c5, p5, s5⟩ ⟨a5, b5, e5, h5⟩
      have b5 := b5 (by decide)
      try dsimp only at *
      subst e5
      have hz := hsz y.toNat
      refine T4.ck (inB_of a5 (by omega)) ?_
      exact tail _ _ _ _ (by omega) h5 (by omega)
    · exact tail _ _ _ _ (by omega) hcu (by omega)
theorem reqs_tot (hc : Byt c) (hl : c.length ≤ 1048576) {p s b : Int} (h : Cur p s b) (hb : b ≤ 4611686018400000000) (n : Int) (hn0 : 1 ≤ n) (hn : n ≤ 100) :
    Tt (fun k => c14 k [cuA c p s, .v (.int .i64 n)]) fun r => (Drawn r.1 ∧ (r.1.length : Int) ≤ n) ∧ r.2.1 = c ∧ Cur r.2.2.1 r.2.2.2 (b + 1000000) := by
  refine Tt.st (fun k => g14_eq k n c p s) ?_
  refine T4.bind (word_tot hc hl h (by omega)) ?_
  rintro ⟨w1, c1, p1, s1⟩ ⟨z1, e1, h1⟩
  try dsimp only at *
  subst e1
  refine T4.bind (word_tot hc hl h1 (by omega)) ?_
  rintro ⟨w2, c1, p1, s1⟩ ⟨z2, e1, h2⟩
  try dsimp only at *
  subst e1
  refine T4.bind (word_tot hc hl h2 (by omega)) ?_
  rintro ⟨w3, c1, p1, s1⟩ ⟨z3, e1, h3⟩
  try dsimp only at *
  subst e1
  refine T4.bind (word_tot hc hl h3 (by omega)) ?_
  rintro ⟨w4, c1, p1, s1⟩ ⟨z4, e1, h4⟩
  try dsimp only at *
  subst e1
  refine T4.bind (size_tot hc hl h4 (by omega) n hn0 (by omega)) ?_
  rintro ⟨x, c1, p1, s1⟩ ⟨x0, x1, e1, h5⟩
  try dsimp only at *
  subst e1
  obtain ⟨d, rfl⟩ := Int.eq_ofNat_of_zero_le x0
  refine (reqsL_tot hc hl [w1, w2, w3, w4] rfl (fun w hw => ?_) d _ _ _ [] (by simp; omega) (fun x hx => by cases hx) h5 (by omega)).e1.mono fun r hr => ⟨⟨hr.1.1, ?_⟩, hr.2.1, hr.2.2.le (by omega)⟩
  · simp only [List.mem_cons, List.not_mem_nil, or_false] at hw
    rcases hw with rfl | rfl | rfl | rfl <;> assumption
  · have := hr.1.2; simp at this; omega
theorem twinL_tot {c : List Int} (hc : Byt c) (hl : c.length ≤ 1048576) (ws : List ByteArray) (hw : ws.length = 3) (hws : ∀ w, w ∈ ws → w.size ≤ 32) (l : List S68) (hdr : Drawn l) (hlen : l.length ≤ 1000) : ∀ (d i : Nat) (p s b : Int) (out : List S68), i + d = l.length → out.length = i → Cur p s b → b + 6000 * d ≤ 4611686018427000000 →
    T4 (fun k m _ _ => L15_1 k m l (i : Int) c p s out ws) fun r => r.2.1 = c ∧ Cur r.2.2.1 r.2.2.2 (b + 6000 * d)
  | 0, i, p, s, b, out, hi, ho, h, hb => by
    refine T4.s1 (fun k m _ _ => L15_1_eq k m _ _ _ _ _ _ _) ?_
    exact T4.ite (fun hx => absurd (of_decide_eq_true hx) (by omega)) fun _ => T4.now ⟨rfl, h.le (by omega)⟩
  | d + 1, i, p, s, b, out, hi, ho, h, hb => by
    refine T4.s1 (fun k m _ _ => L15_1_eq k m _ _ _ _ _ _ _) ?_
    refine T4.ite (fun _ => ?_) (fun hx => absurd (of_decide_eq_false hx) (by omega))
    have hx := hdr _ (mem_getD (⟨(0 : Int), (⟨#[]⟩ : ByteArray), (0 : Int), (0 : Int), (0 : Int), (0 : Int), (⟨#[]⟩ : ByteArray)⟩ : S68) (show i < l.length by omega))
    refine T4.ck (inB_of (by omega) (by omega)) ?_
    have last : ∀ (x0 : Int) (w : ByteArray) (x2 x3 x4 x5 : Int) (t : ByteArray) (p' s' b' : Int), Cur p' s' b' → b' ≤ b + 5000 →
        T4 (fun k m _ _ => J15_4 k m l (i : Int) c p' s' x0 w x2 x3 x4 x5 t out ws) fun r => r.2.1 = c ∧ Cur r.2.2.1 r.2.2.2 (b + 6000 * (d + 1 : Nat)) := by
      intro x0 w x2 x3 x4 x5 t p' s' b' h5 h6
      refine T4.eq (fun k m _ _ => J15_4_eq k m _ _ _ _ _ _ _ _ _ _ _ _ _ _) (T4.ck (appOk_of (by simp only [List.length_cons, List.length_nil]; omega)) ?_)
      rw [w64_succ (by omega)]
      refine T4.mono (twinL_tot hc hl ws hw hws l hdr hlen d (i + 1) p' s' b' (out ++ [(⟨x0, w, x2, x3, x4, x5, t⟩ : S68)]) (by omega) (by rw [List.length_append]; simp only [List.length_cons, List.length_nil]; omega) h5 (by omega)) fun r hr => ?_
      exact ⟨hr.1, hr.2.le (by omega)⟩
    have third : ∀ (x0 : Int) (w : ByteArray) (x2 x3 x4 x5 : Int) (t : ByteArray) (p' s' b' : Int), Cur p' s' b' → b' ≤ b + 4000 →
        T4 (fun k m _ _ => J15_3 k m l (i : Int) c p' s' x0 w x2 x3 x4 x5 t out ws) fun r => r.2.1 = c ∧ Cur r.2.2.1 r.2.2.2 (b + 6000 * (d + 1 : Nat)) := by
      intro x0 w x2 x3 x4 x5 t p' s' b' h5 h6
      refine T4.eq (fun k m _ _ => J15_3_eq k m _ _ _ _ _ _ _ _ _ _ _ _ _ _) (T4.bind (once_tot hc hl h5 (by omega) 5) ?_)
      rintro ⟨o, c1, p1, s1⟩ ⟨e1, h1⟩
      try dsimp only at *
      subst e1
      refine T4.ite (fun _ => ?_) fun _ => last _ _ _ _ _ _ _ _ _ _ h1 (by omega)
      refine T4.bind (wide_tot hc hl h1 (by omega) _ (by decide)) ?_
      rintro ⟨y1, c1, p1, s1⟩ ⟨_, _, e1, h1⟩
      try dsimp only at *
      subst e1
      refine T4.bind (pick_tot hc hl h1 (by omega) 10) ?_
      rintro ⟨y2, c1, p1, s1⟩ ⟨_, _, e1, h1⟩
      try dsimp only at *
      subst e1
      exact last _ _ _ _ _ _ _ _ _ _ h1 (by omega)
    have second : ∀ (x0 : Int) (w : ByteArray) (x2 x3 x4 x5 : Int) (t : ByteArray) (p' s' b' : Int), 0 ≤ x5 → x5 ≤ 16 → Cur p' s' b' → b' ≤ b + 1000 →
        T4 (fun k m _ _ => J15_2 k m l (i : Int) c p' s' x0 w x2 x3 x4 x5 t out ws) fun r => r.2.1 = c ∧ Cur r.2.2.1 r.2.2.2 (b + 6000 * (d + 1 : Nat)) := by
      intro x0 w x2 x3 x4 x5 t p' s' b' h3 h4 h5 h6
      refine T4.eq (fun k m _ _ => J15_2_eq k m _ _ _ _ _ _ _ _ _ _ _ _ _ _) (T4.gc (fun _ => once_tot hc hl h5 (by omega) 2) ?_)
      rintro ⟨o1, c2, p2, s2⟩ hq1 hq2
      have hcu : (cond (x0 == (6 : Int)) c2 c) = c ∧ Cur (cond (x0 == (6 : Int)) p2 p') (cond (x0 == (6 : Int)) s2 s') (b + 1001) := by
        cases hb : (x0 == (6 : Int)) with
        | true => have := hq1 hb; exact ⟨this.1, this.2.le (by omega)⟩
        | false => exact ⟨rfl, h5.le (by omega)⟩
      try dsimp only at *
      rw [hcu.1]
      have hcu := hcu.2
      generalize (cond (x0 == (6 : Int)) p2 p') = p4 at hcu ⊢
      generalize (cond (x0 == (6 : Int)) s2 s') = s4 at hcu ⊢
      refine T4.ite (fun _ => ?_) fun _ => third _ _ _ _ _ _ _ _ _ _ hcu (by omega)
      refine T4.bind (text_tot hc hl hcu (by omega) x5 h3 (by omega)) ?_
      rintro ⟨y1, c1, p1, s1⟩ ⟨_, e1, h1⟩
      try dsimp only at *
      subst e1
      exact third _ _ _ _ _ _ _ _ _ _ h1 (by omega)
    refine T4.bind (pick_tot hc hl h (by omega) 4) ?_
    rintro ⟨y, c1, p1, s1⟩ ⟨_, _, e1, h1⟩
    try dsimp only at *
    subst e1
    refine T4.ite (fun _ => ?_) fun _ => T4.ite (fun _ => ?_) fun _ => second _ _ _ _ _ _ _ _ _ _ hx.1.1 hx.1.2 h1 (by omega)
    · refine T4.bind (pick_tot hc hl h1 (by omega) 3) ?_
      rintro ⟨y, c1, p1, s1⟩ ⟨a2, b2, e1, h1⟩
      have b2 := b2 (by decide)
      try dsimp only at *
      subst e1
      exact T4.ck (inB_of a2 (by omega)) (second _ _ _ _ _ _ _ _ _ _ hx.1.1 hx.1.2 h1 (by omega))
    · refine T4.bind (badWord_tot hc hl h1 (by omega)) ?_
      rintro ⟨y, c1, p1, s1⟩ ⟨_, e1, h1⟩
      try dsimp only at *
      subst e1
      exact second _ _ _ _ _ _ _ _ _ _ hx.1.1 hx.1.2 h1 (by omega)
theorem twin_tot (hc : Byt c) (hl : c.length ≤ 1048576) {p s b : Int} (h : Cur p s b) (hb : b ≤ 4611686018400000000) (l : List S68) (hd : Drawn l) (hn : l.length ≤ 1000) :
    Tt (fun k => c15 k [cuA c p s, .ro 68 l]) fun r => r.2.1 = c ∧ Cur r.2.2.1 r.2.2.2 (b + 7000000) := by
  refine Tt.st (fun k => g15_eq k l c p s) ?_
  refine T4.bind (word_tot hc hl h (by omega)) ?_
  rintro ⟨w1, c1, p1, s1⟩ ⟨z1, e1, h1⟩
  try dsimp only at *
  subst e1
  refine T4.bind (word_tot hc hl h1 (by omega)) ?_
  rintro ⟨w2, c1, p1, s1⟩ ⟨z2, e1, h2⟩
  try dsimp only at *
  subst e1
  refine T4.bind (word_tot hc hl h2 (by omega)) ?_
  rintro ⟨w3, c1, p1, s1⟩ ⟨z3, e1, h3⟩
  try dsimp only at *
  subst e1
  refine (twinL_tot hc hl [w1, w2, w3] rfl (fun w hw => ?_) l hd hn l.length 0 _ _ _ [] (by omega) rfl h3 (by omega)).e1.mono fun r hr => ⟨hr.1, hr.2.le (by omega)⟩
  simp only [List.mem_cons, List.not_mem_nil, or_false] at hw
  rcases hw with rfl | rfl | rfl <;> assumption
theorem drawsOfL_tot {c : List Int} (hc : Byt c) (hl : c.length ≤ 1048576) (n : Int) (hn : n ≤ 100000) : ∀ (d : Nat) (p s b : Int) (out : List Int), (out.length : Int) + d = n → Cur p s b → b + 10 * d ≤ 4611686018400000000 →
    T4 (fun k m _ _ => L46_1 k m n c p s out) fun r => r.1.length ≤ 100001 ∧ r.2.1 = c ∧ Cur r.2.2.1 r.2.2.2 (b + 10 * d + 10)
  | 0, p, s, b, out, ho, h, hb => by
    refine T4.s1 (fun k m _ _ => L46_1_eq k m _ _ _ _ _) ?_
    refine T4.ite (fun hx => absurd (of_decide_eq_true hx) (by omega)) fun _ => ?_
    refine T4.bind (pick_tot hc hl h (by omega) 14) ?_
    rintro ⟨y, c1, p1, s1⟩ ⟨_, _, e1, h1⟩
    try dsimp only at *
    subst e1
    refine T4.ite (fun _ => ?_) fun _ => T4.ite (fun _ => T4.ite (fun hpos => ?_) fun _ => ?_) fun _ => ?_
    · exact T4.ck (appOk_of (by simp only [List.length_cons, List.length_nil]; omega)) (T4.now ⟨by rw [List.length_append]; simp only [List.length_cons, List.length_nil]; omega, rfl, h1.le (by omega)⟩)
    · have hpos := of_decide_eq_true hpos
      refine T4.bind (pick_tot hc hl h1 (by omega) _) ?_
      rintro ⟨y2, c1, p1, s1⟩ ⟨a2, b2, e1, h1⟩
      have b2 := b2 (by omega)
      try dsimp only at *
      subst e1
      refine T4.bind (raw_tot hc hl h1 (by omega)) ?_
      rintro ⟨y3, c1, p1, s1⟩ ⟨e1, h1⟩
      try dsimp only at *
      subst e1
      exact T4.ck (inB_of a2 b2) (T4.now ⟨by rw [List.length_set]; omega, rfl, h1.le (by omega)⟩)
    · exact T4.now ⟨by dsimp only; omega, rfl, h1.le (by omega)⟩
    · exact T4.now ⟨by dsimp only; omega, rfl, h1.le (by omega)⟩
  | d + 1, p, s, b, out, ho, h, hb => by
    refine T4.s1 (fun k m _ _ => L46_1_eq k m _ _ _ _ _) ?_
    refine T4.ite (fun _ => ?_) (fun hx => absurd (of_decide_eq_false hx) (by omega))
    refine T4.bind (wide_tot hc hl h (by omega) _ (by decide)) ?_
    rintro ⟨y, c1, p1, s1⟩ ⟨_, _, e1, h1⟩
    try dsimp only at *
    subst e1
    refine T4.ck (appOk_of (by simp only [List.length_cons, List.length_nil]; omega)) ?_
    exact (drawsOfL_tot hc hl n hn d _ _ _ (out ++ [y]) (by rw [List.length_append]; simp only [List.length_cons, List.length_nil]; omega) h1 (by omega)).mono fun r hr => ⟨hr.1, hr.2.1, hr.2.2.le (by omega)⟩
theorem drawsOf_tot (hc : Byt c) (hl : c.length ≤ 1048576) {p s b : Int} (h : Cur p s b) (hb : b ≤ 4611686018000000000) (n : Int) (hn0 : 0 ≤ n) (hn : n ≤ 100000) :
    Tt (fun k => c46 k [cuA c p s, .v (.int .i64 n)]) fun r => r.1.length ≤ 100001 ∧ r.2.1 = c ∧ Cur r.2.2.1 r.2.2.2 (b + 2000000) := by
  refine Tt.st (fun k => g46_eq k n c p s) ?_
  obtain ⟨d, rfl⟩ := Int.eq_ofNat_of_zero_le hn0
  exact (drawsOfL_tot hc hl d hn d _ _ _ [] (by simp) h (by omega)).e1.mono fun r hr => ⟨hr.1, hr.2.1, hr.2.2.le (by omega)⟩
theorem shapeDraws_tot (a b c' d : Int) (l : List S59) : Tt (fun k => c47 k [cfA a b c' d, .ro 59 l]) fun r => r ≤ 100000 := by
  by_cases hc : confB a b c' d = true
  · by_cases hs : shapesB l = true
    · have := confB_log hc
      obtain ⟨m, rfl⟩ : ∃ m : Nat, b = (m : Int) + 2 := ⟨(b - 2).toNat, by omega⟩
      have ht := takesS_range hs
      have hp : (1 : Int) ≤ 2 ^ m ∧ (2 : Int) ^ m ≤ 16 := ⟨pow2_pos _, by have : (2 : Int) ^ m ≤ 2 ^ 4 := pow2_le (by omega); omega⟩
      refine Tt.of (specShapeDraws_ev a c' d m l (by omega) hc hs) ?_
      unfold drawsI
      rw [show ((m : Int) + 2 - 2).toNat = m by omega]
      omega
    · have hs : shapesB l = false := by simpa using hs
      exact Tt.of (r := -1) (Ev.st (fun k => g47_eq k a b c' d l) (E4.bind (confOk_ev _ _ _ _) (E4.gc (fun _ => shapesOk_ev l) (E4.ct (by rw [hc, hs]; rfl) E4.now)))) (by decide)
  · have hc : confB a b c' d = false := by simpa using hc
    exact Tt.of (r := -1) (Ev.st (fun k => g47_eq k a b c' d l) (E4.bind (confOk_ev _ _ _ _) (E4.gc (fun _ => shapesOk_ev l) (E4.ct (by rw [hc]; rfl) E4.now)))) (by decide)
theorem drawsFor_tot (hc : Byt c) (hl : c.length ≤ 1048576) {p s b : Int} (h : Cur p s b) (hb : b ≤ 4611686018000000000) (w x y z : Int) (l : List S68) :
    Tt (fun k => c17 k [cuA c p s, cfA w x y z, .ro 68 l]) fun r => r.1.length ≤ 100001 ∧ r.2.1 = c ∧ Cur r.2.2.1 r.2.2.2 (b + 2000000) := by
  refine Tt.st (fun k => g17_eq k w x y z l c p s) ?_
  refine T4.bind (S := fun _ => True) (Tt.of (specShapesOf_ev l) trivial) fun r _ => ?_
  refine T4.bind (shapeDraws_tot w x y z r.1) fun n hn => ?_
  have hg : ∃ g : Int, (cond (decide (n > 0)) n 0) = g ∧ 0 ≤ g ∧ g ≤ 100000 := by
    by_cases hh : n > 0
    · exact ⟨n, by rw [decide_eq_true hh]; rfl, by omega, by omega⟩
    · exact ⟨0, by rw [decide_eq_false hh]; rfl, by omega, by omega⟩
  obtain ⟨g, eg, g1, g2⟩ := hg
  rw [eg]
  refine T4.bind (drawsOf_tot hc hl h hb g g1 g2) ?_
  rintro ⟨r1, c1, p1, s1⟩ ⟨h1, e1, h2⟩
  exact T4.now ⟨h1, e1, h2⟩
theorem drawSessPair_tot (hc : Byt c) (hl : c.length ≤ 1048576) : Tt (fun k => c5 k [.ro 5 c]) fun r => r.2.2.2.2.2.2.length ≤ 100001 := by
  refine Tt.st (fun k => g5_eq k c) ?_
  refine T4.bind (cur_open hl) ?_
  rintro ⟨c1, p1, s1⟩ ⟨e1, h1⟩
  try dsimp only at *
  subst e1
  refine T4.bind (badConf_tot hc hl h1 (by omega)) ?_
  rintro ⟨w, x, y, z, c1, p1, s1⟩ ⟨e1, h1⟩
  try dsimp only at *
  subst e1
  refine T4.bind (reqs_tot hc hl h1 (by omega) 10 (by decide) (by decide)) ?_
  rintro ⟨l1, c1, p1, s1⟩ ⟨⟨hd, hn⟩, e1, h1⟩
  try dsimp only at *
  subst e1
  have last : ∀ (l2 : List S68) (p s b : Int), Cur p s b → b ≤ 100000000 → T4 (fun k _ _ _ => J5_1 k l1 c1 p s w x y z l2) fun r => r.2.2.2.2.2.2.length ≤ 100001 := by
    intro l2 p s b h hb
    refine T4.eq (fun k _ _ _ => J5_1_eq k _ _ _ _ _ _ _ _ _) (T4.bind (drawsFor_tot hc hl h (by omega) w x y z l1) ?_)
    rintro ⟨r1, c1, p1, s1⟩ ⟨h1, e1, h2⟩
    exact T4.now h1
  refine T4.bind (twin_tot hc hl h1 (by omega) l1 hd (by omega)) ?_
  rintro ⟨l2, c2, p1, s1⟩ ⟨e1, h1⟩
  try dsimp only at *
  subst e1
  refine T4.bind (once_tot hc hl h1 (by omega) 9) ?_
  rintro ⟨o, c1, p1, s1⟩ ⟨e1, h1⟩
  try dsimp only at *
  subst e1
  refine T4.ite (fun _ => ?_) fun _ => last _ _ _ _ h1 (by omega)
  refine T4.bind (reqs_tot hc hl h1 (by omega) 10 (by decide) (by decide)) ?_
  rintro ⟨l3, c1, p1, s1⟩ ⟨⟨hd, hn⟩, e1, h1⟩
  try dsimp only at *
  subst e1
  exact last _ _ _ _ h1 (by omega)
end
end Go.Proofs.YtefojjhffjpeoaaGreatDoor.V
namespace Go.Proofs.YtefojjhffjpeoaaGreatDoor.L
open Go.RowKit Go.Proofs.YtefojjhffjpeoaaGreatDoor.V Go.Proofs.YtefojjhffjpeoaaGreatDoorW.PrintWords Go.Proofs.YtefojjhffjpeoaaGreatDoorW.PrintLast Go.Proofs.YtefojjhffjpeoaaGreatDoorW.PrintMore
set_option linter.unusedVariables false
set_option linter.unusedSimpArgs false
theorem nodup_inj {l : List Nat} (h : l.Nodup) {i j : Nat} (hi : i < l.length) (hj : j < l.length) (e : l.getD i 0 = l.getD j 0) : i = j := by
  rw [getD_lt 0 hi, getD_lt 0 hj] at e
  rcases Nat.lt_trichotomy i j with hl | he | hl
  · exact absurd e (List.pairwise_iff_getElem.1 h i j hi hj hl)
  · exact he
  · exact absurd e.symm (List.pairwise_iff_getElem.1 h j i hj hi hl)
theorem pairSet_other (draws : List Int) (P Q : List Nat) (out : List Int) (z : Nat) : ∀ c, (∀ j, j < c → Q.getD j 0 ≠ z) → (pairSet draws P Q out c).getD z 0 = out.getD z 0
  | 0, _ => rfl
  | c + 1, h => by
    unfold pairSet
    rw [List.getD_eq_getElem?_getD, List.getElem?_set_ne (h c (by omega)), ← List.getD_eq_getElem?_getD]
    exact pairSet_other draws P Q out z c fun j hj => h j (by omega)
theorem pairSet_at (draws : List Int) (P Q : List Nat) (out : List Int) (hQ : Q.Nodup) (hb : ∀ i, i < Q.length → Q.getD i 0 < out.length) : ∀ c, c ≤ Q.length → ∀ i, i < c → (pairSet draws P Q out c).getD (Q.getD i 0) 0 = draws.getD (P.getD i 0) 0
  | 0, _, i, hi => absurd hi (Nat.not_lt_zero i)
  | c + 1, hc, i, hi => by
    unfold pairSet
    rw [getD_set _ _ _ _ _ (by rw [pairSet_length]; exact hb c (by omega))]
    by_cases e : i = c
    · subst e; rw [if_pos rfl]
    · rw [if_neg (fun h => e (nodup_inj hQ (by omega) (by omega) h))]
      exact pairSet_at draws P Q out hQ hb c (by omega) i (by omega)
theorem rest_nodup (n : Nat) (u : List Nat) : (restL n u).Nodup := List.Pairwise.filter _ List.nodup_range
theorem rest_not {n : Nat} {u : List Nat} {j : Nat} (hj : j < (restL n u).length) : (restL n u).getD j 0 < n ∧ (restL n u).getD j 0 ∉ u := by
  obtain ⟨h1, h2, _⟩ := filter_back (notIn u) hj
  refine ⟨h2, fun hm => ?_⟩
  have e : notIn u ((restL n u).getD j 0) = !u.contains ((restL n u).getD j 0) := rfl
  have : notIn u ((restL n u).getD j 0) = true := h1
  rw [e, List.contains_iff_mem.2 hm] at this
  cases this
theorem pairV_at1 {x y : List Nat} {d : List Int} (hx : x.Nodup) (hy : y.Nodup) (hxb : ∀ z, z ∈ x → z < d.length) (hyb : ∀ z, z ∈ y → z < d.length) (hl : x.length = y.length) {i : Nat} (hi : i < x.length) : (pairV x y d).getD (y.getD i 0) 0 = d.getD (x.getD i 0) 0 := by
  have hm : y.getD i 0 ∈ y := by rw [getD_lt 0 (by omega)]; exact List.getElem_mem _
  have r1 := rest_length hx hxb
  have r2 := rest_length hy hyb
  unfold pairV
  rw [pairSet_other _ _ _ _ _ _ (fun j hj e => (rest_not (n := d.length) (u := y) (j := j) (by omega)).2 (e ▸ hm))]
  exact pairSet_at d x y _ hy (fun j hj => by rw [List.length_replicate, getD_lt 0 hj]; exact hyb _ (List.getElem_mem _)) x.length (by omega) i hi
theorem pairV_at2 {x y : List Nat} {d : List Int} (hx : x.Nodup) (hy : y.Nodup) (hxb : ∀ z, z ∈ x → z < d.length) (hyb : ∀ z, z ∈ y → z < d.length) (hl : x.length = y.length) {j : Nat} (hj : j < (restL d.length x).length) : (pairV x y d).getD ((restL d.length y).getD j 0) 0 = d.getD ((restL d.length x).getD j 0) 0 := by
  have r1 := rest_length hx hxb
  have r2 := rest_length hy hyb
  unfold pairV
  exact pairSet_at d _ _ _ (rest_nodup _ _) (fun i hi => by rw [pairSet_length, List.length_replicate]; exact (rest_not hi).1) _ (by omega) j hj
theorem pair_back {x y : List Nat} {d : List Int} (hx : x.Nodup) (hy : y.Nodup) (hxb : ∀ z, z ∈ x → z < d.length) (hyb : ∀ z, z ∈ y → z < d.length) (hl : x.length = y.length) : pairV y x (pairV x y d) = d := by
  have hlen : (pairV x y d).length = d.length := pairV_length _ _ _
  have r1 := rest_length hx hxb
  have r2 := rest_length hy hyb
  apply List.ext_getElem
  · rw [pairV_length, hlen]
  intro z h1 h2
  rw [← getD_lt 0 h1, ← getD_lt 0 h2]
  by_cases hz : z ∈ x
  · obtain ⟨i, hi, rfl⟩ := List.getElem_of_mem hz
    rw [← getD_lt 0 hi]
    rw [pairV_at1 (x := y) (y := x) (d := pairV x y d) hy hx (by rw [hlen]; exact hyb) (by rw [hlen]; exact hxb) hl.symm (by omega)]
    exact pairV_at1 hx hy hxb hyb hl hi
  · have hn : notIn x z = true := by
      show (!x.contains z) = true
      rw [Bool.not_eq_true', ← Bool.not_eq_true, List.contains_iff_mem]
      exact hz
    have hc := cnt_lt (notIn x) (n := d.length) h2 hn
    have hf : (restL d.length x).getD (cnt (notIn x) z) 0 = z := filter_at (notIn x) h2 hn
    have hc' : cnt (notIn x) z < (restL d.length y).length := by
      have : (restL d.length x).length = ((List.range d.length).filter (notIn x)).length := rfl
      omega
    have b2 := pairV_at2 (x := y) (y := x) (d := pairV x y d) hy hx (by rw [hlen]; exact hyb) (by rw [hlen]; exact hxb) hl.symm (j := cnt (notIn x) z) (by rw [hlen]; exact hc')
    rw [hlen, hf] at b2
    rw [b2, pairV_at2 hx hy hxb hyb hl (j := cnt (notIn x) z) hc, hf]
def InR (l : List Int) : Prop := ∀ x, x ∈ l → 0 ≤ x ∧ x ≤ 65535
theorem pairSet_range {d : List Int} (hd : InR d) (P Q : List Nat) {out : List Int} (ho : InR out) : ∀ c, InR (pairSet d P Q out c)
  | 0 => ho
  | c + 1 => fun z hz => by
    unfold pairSet at hz
    rcases List.mem_or_eq_of_mem_set hz with h | rfl
    · exact pairSet_range hd P Q ho c z h
    · exact draw_get hd _
theorem pairV_range {d : List Int} (hd : InR d) (x y : List Nat) : InR (pairV x y d) :=
  pairSet_range hd _ _ (pairSet_range hd _ _ (fun z hz => by rw [(List.mem_replicate.1 hz).2]; exact ⟨by omega, by omega⟩) _) _
theorem atPl_range {d : List Int} (hd : InR d) (pl : List Nat) : InR (atPl d pl) := fun z hz => by
  unfold atPl at hz
  obtain ⟨i, _, rfl⟩ := List.mem_map.1 hz
  exact draw_get hd i
theorem mixV_range {d one two : List Int} (B : Nat) (hd : InR d) (h1 : InR one) (h2 : InR two) : InR (mixV B d one two) := fun z hz => by
  unfold mixV at hz
  obtain ⟨j, _, rfl⟩ := List.mem_map.1 hz
  unfold mixF
  split
  · exact draw_get h2 _
  · split
    · exact draw_get h1 _
    · exact draw_get hd _
theorem drawsB_of {d : List Int} {c : Int} (hl : (d.length : Int) = c) (hd : InR d) : drawsB d c = true := by
  unfold drawsB drawB
  rw [decide_eq_true hl, Bool.true_and, List.all_eq_true]
  exact fun x hx => decide_eq_true (hd x hx)
theorem atPl_get (d : List Int) (pl : List Nat) (i : Nat) (hi : i < pl.length) : (atPl d pl).getD i 0 = d.getD (pl.getD i 0) 0 := by
  unfold atPl
  rw [getD_lt 0 (by rw [List.length_map]; exact hi), List.getElem_map, getD_lt 0 hi]
theorem mixV_get {d one two : List Int} (B : Nat) {j : Nat} (hj : j < d.length) : (mixV B d one two).getD j 0 = mixF d.length B d one two j := by
  unfold mixV
  rw [getD_lt 0 (by simpa using hj), List.getElem_map, List.getElem_range]
theorem mix_one {B C : Nat} {d one two : List Int} (hd : d.length = 6 * B + 2 * C) (ho : one.length = B + C) : atPl (mixV B d one two) (onePl B C) = one := by
  have e1 := one_filter B C
  rw [← hd] at e1
  have hlen := onePl_length B C
  apply List.ext_getElem
  · rw [atPl_length]; omega
  intro i h1 h2
  have hi : i < ((List.range d.length).filter (isOneB B)).length := by rw [← e1]; omega
  obtain ⟨f1, f2, f3⟩ := filter_back (isOneB B) hi
  rw [← getD_lt 0 h1, atPl_get _ _ _ (by omega), ← getD_lt 0 h2, e1, mixV_get B f2]
  unfold mixF
  rw [if_neg (fun h => by rw [one_not_two B _ f1] at h; cases h.1), f3, if_pos ⟨f1, hi⟩]
theorem mix_two {B C : Nat} {d one two : List Int} (hd : d.length = 6 * B + 2 * C) (ht : two.length = 4 * B + C) : atPl (mixV B d one two) (twoPl B C) = two := by
  have e1 := two_filter B C
  rw [← hd] at e1
  have hlen := twoPl_length B C
  apply List.ext_getElem
  · rw [atPl_length]; omega
  intro i h1 h2
  have hi : i < ((List.range d.length).filter (isTwoB B)).length := by rw [← e1]; omega
  obtain ⟨f1, f2, f3⟩ := filter_back (isTwoB B) hi
  rw [← getD_lt 0 h1, atPl_get _ _ _ (by omega), ← getD_lt 0 h2, e1, mixV_get B f2]
  unfold mixF
  rw [f3, if_pos ⟨f1, hi⟩]
theorem mix_back {B C : Nat} {d one two : List Int} (hd : d.length = 6 * B + 2 * C) : mixV B (mixV B d one two) (atPl d (onePl B C)) (atPl d (twoPl B C)) = d := by
  have e1 := one_filter B C
  have e2 := two_filter B C
  rw [← hd] at e1 e2
  have hlen : (mixV B d one two).length = d.length := mixV_length _ _ _ _
  apply List.ext_getElem
  · rw [mixV_length, hlen]
  intro j h1 h2
  rw [← getD_lt 0 h1, ← getD_lt 0 h2, mixV_get B (by rw [hlen]; exact h2), hlen]
  unfold mixF
  split
  · rename_i h
    rw [atPl_get _ _ _ (by rw [e2]; exact h.2), e2, filter_at (isTwoB B) h2 h.1]
  · rename_i hn2
    split
    · rename_i h
      rw [atPl_get _ _ _ (by rw [e1]; exact h.2), e1, filter_at (isOneB B) h2 h.1]
    · rename_i hn1
      rw [mixV_get B h2]
      unfold mixF
      rw [if_neg hn2, if_neg hn1]
theorem mix_six {B C : Nat} {d one two : List Int} (hd : d.length = 6 * B + 2 * C) {k : Nat} (hk : k < B) : (mixV B d one two).getD (6 * k) 0 = d.getD (6 * k) 0 := by
  rw [mixV_get B (by omega)]
  have h1 : isOneB B (6 * k) = false := by unfold isOneB is5; rw [if_pos (by omega), beq_eq_false_iff_ne]; omega
  have h2 : isTwoB B (6 * k) = false := by unfold isTwoB is14; rw [if_pos (by omega), Bool.and_eq_false_iff, decide_eq_false_iff_not]; left; omega
  unfold mixF
  rw [if_neg (fun h => by rw [h2] at h; cases h.1), if_neg (fun h => by rw [h1] at h; cases h.1)]
theorem leaves_pair {N m : Nat} {a b d : List Int} (ha : seqOk N a) (hb : seqOk N b) (hl : a.length = b.length) (hd : d.length = N + a.length) : leavesS N m b (pairV (coordsL N a) (coordsL N b) d) = leavesS N m a d := by
  have l1 := coordsL_length N a
  have l2 := coordsL_length N b
  unfold leavesS
  apply List.ext_getElem
  · rw [List.length_map, List.length_map]; omega
  intro i h1 h2
  rw [List.length_map] at h1 h2
  rw [List.getElem_map, List.getElem_map, ← getD_lt 0 h1, ← getD_lt 0 h2]
  rw [pairV_at1 (coords_nodup ha) (coords_nodup hb) (fun z hz => by have := coordsL_lt ha z hz; omega) (fun z hz => by have := coordsL_lt hb z hz; omega) (by omega) h2]
theorem pairS_val {n : Int} {a b d : List Int} (ha : seqB n a = true) (hb : seqB n b = true) (hl : a.length = b.length) (hd : (d.length : Int) = n + a.length) (hr : InR d) : pairS n a b d = (pairV (coordsL n.toNat a) (coordsL n.toNat b) d, true) := by
  obtain ⟨h0, h1, h2, _⟩ := seqB_all ha
  unfold pairS
  rw [if_pos (by rw [ha, hb, decide_eq_true (by omega), drawsB_of (by rw [wrap_id (by omega) (by omega)]; exact hd) hr]; rfl)]
theorem pairS_range {n : Int} {a b d : List Int} (ha : seqB n a = true) (hb : seqB n b = true) (hl : a.length = b.length) (hd : (d.length : Int) = n + a.length) (hr : InR d) : InR (pairS n a b d).1 := by rw [pairS_val ha hb hl hd hr]; exact pairV_range hr _ _
theorem pairS_len {n : Int} {a b d : List Int} (ha : seqB n a = true) (hb : seqB n b = true) (hl : a.length = b.length) (hd : (d.length : Int) = n + a.length) (hr : InR d) : (pairS n a b d).1.length = d.length := by rw [pairS_val ha hb hl hd hr]; exact pairV_length _ _ _
theorem pairS_back {n : Int} {a b d : List Int} (ha : seqB n a = true) (hb : seqB n b = true) (hl : a.length = b.length) (hd : (d.length : Int) = n + a.length) (hr : InR d) : (pairS n b a (pairS n a b d).1).1 = d := by
  obtain ⟨h0, h1, h2, hsa⟩ := seqB_all ha
  obtain ⟨_, _, _, hsb⟩ := seqB_all hb
  have hlen := pairS_len ha hb hl hd hr
  have hr' := pairS_range ha hb hl hd hr
  rw [pairS_val hb ha hl.symm (by rw [hlen]; omega) hr', pairS_val ha hb hl hd hr]
  exact pair_back (coords_nodup hsa) (coords_nodup hsb) (fun z hz => by have := coordsL_lt hsa z hz; omega) (fun z hz => by have := coordsL_lt hsb z hz; omega) (by rw [coordsL_length, coordsL_length]; exact hl)
theorem pathS_pair {n : Int} {a b d : List Int} (ha : seqB n a = true) (hb : seqB n b = true) (hl : a.length = b.length) (hd : (d.length : Int) = n + a.length) (hr : InR d) {m : Nat} (hm : m ≤ 6) : (pathS n m b (pairS n a b d).1).1 = (pathS n m a d).1 := by
  obtain ⟨h0, h1, h2, hsa⟩ := seqB_all ha
  obtain ⟨_, _, _, hsb⟩ := seqB_all hb
  have hlen := pairS_len ha hb hl hd hr
  have hr' := pairS_range ha hb hl hd hr
  unfold pathS
  rw [if_pos (by rw [hb, decide_eq_true (show 0 ≤ (m : Int) ∧ (m : Int) ≤ 6 by omega), drawsB_of (by rw [wrap_id (by omega) (by omega), hlen]; omega) hr']; rfl), if_pos (by rw [ha, decide_eq_true (show 0 ≤ (m : Int) ∧ (m : Int) ≤ 6 by omega), drawsB_of (by rw [wrap_id (by omega) (by omega)]; omega) hr]; rfl)]
  show leavesS _ _ b (pairS n a b d).1 = leavesS _ _ a d
  rw [pairS_val ha hb hl hd hr]
  exact leaves_pair hsa hsb hl (by omega)
theorem sess_parts {m : Nat} {p q draws : List Int} (hm : m ≤ 4) (hp : p.length ≤ 640) (hpq : p.length = q.length) (hrp : ∀ x, x ∈ p → -1 ≤ x ∧ x ≤ ((2 ^ (m + 2) : Nat) : Int) - 1) (hrq : ∀ x, x ∈ q → -1 ≤ x ∧ x ≤ ((2 ^ (m + 2) : Nat) : Int) - 1) (hd : draws.length = 6 * 2 ^ m + 2 * p.length) (hda : InR draws) : (seqB ((2 ^ m : Nat) : Int) (p.map quarter) = true ∧ seqB ((2 ^ m : Nat) : Int) (q.map quarter) = true ∧ (p.map quarter).length = (q.map quarter).length ∧ ((atPl draws (onePl (2 ^ m) p.length)).length : Int) = ((2 ^ m : Nat) : Int) + (p.map quarter).length ∧ InR (atPl draws (onePl (2 ^ m) p.length))) ∧
    seqB ((2 ^ (m + 2) : Nat) : Int) p = true ∧ seqB ((2 ^ (m + 2) : Nat) : Int) q = true ∧ ((atPl draws (twoPl (2 ^ m) p.length)).length : Int) = ((2 ^ (m + 2) : Nat) : Int) + p.length ∧ InR (atPl draws (twoPl (2 ^ m) p.length)) := by
  obtain ⟨a1, a2⟩ := seq_small hm hp hrp
  obtain ⟨b1, b2⟩ := seq_small hm (by omega) hrq
  have e4 : 2 ^ (m + 2) = 4 * 2 ^ m := by rw [Nat.pow_succ, Nat.pow_succ]; omega
  refine ⟨⟨a1, b1, by rw [List.length_map, List.length_map]; exact hpq, by rw [atPl_length, onePl_length, List.length_map]; omega, atPl_range hda _⟩, a2, b2, by rw [atPl_length, twoPl_length, e4]; omega, atPl_range hda _⟩
theorem sess_range {m : Nat} {p q draws : List Int} (hm : m ≤ 4) (hp : p.length ≤ 640) (hpq : p.length = q.length) (hrp : ∀ x, x ∈ p → -1 ≤ x ∧ x ≤ ((2 ^ (m + 2) : Nat) : Int) - 1) (hrq : ∀ x, x ∈ q → -1 ≤ x ∧ x ≤ ((2 ^ (m + 2) : Nat) : Int) - 1) (hd : draws.length = 6 * 2 ^ m + 2 * p.length) (hda : InR draws) : InR (sessPV m p q draws) := by
  obtain ⟨⟨a1, a2, a3, a4, a5⟩, b1, b2, b4, b5⟩ := sess_parts hm hp hpq hrp hrq hd hda
  unfold sessPV
  exact mixV_range _ hda (pairS_range a1 a2 a3 a4 a5) (pairS_range b1 b2 hpq b4 b5)
theorem sess_back {m : Nat} {p q draws : List Int} (hm : m ≤ 4) (hp : p.length ≤ 640) (hpq : p.length = q.length) (hrp : ∀ x, x ∈ p → -1 ≤ x ∧ x ≤ ((2 ^ (m + 2) : Nat) : Int) - 1) (hrq : ∀ x, x ∈ q → -1 ≤ x ∧ x ≤ ((2 ^ (m + 2) : Nat) : Int) - 1) (hd : draws.length = 6 * 2 ^ m + 2 * p.length) (hda : InR draws) : sessPV m q p (sessPV m p q draws) = draws := by
  obtain ⟨⟨a1, a2, a3, a4, a5⟩, b1, b2, b4, b5⟩ := sess_parts hm hp hpq hrp hrq hd hda
  obtain ⟨L1, L2⟩ := pair_lens m p q draws hm hp hpq hrp hrq hda
  have k1 := pairS_back a1 a2 a3 a4 a5
  have k2 := pairS_back b1 b2 hpq b4 b5
  have e1 : atPl (sessPV m p q draws) (onePl (2 ^ m) p.length) = (pairS ((2 ^ m : Nat) : Int) (p.map quarter) (q.map quarter) (atPl draws (onePl (2 ^ m) p.length))).1 := by unfold sessPV; exact mix_one hd L1
  have e2 : atPl (sessPV m p q draws) (twoPl (2 ^ m) p.length) = (pairS ((2 ^ (m + 2) : Nat) : Int) p q (atPl draws (twoPl (2 ^ m) p.length))).1 := by unfold sessPV; exact mix_two hd L2
  have e0 : sessPV m q p (sessPV m p q draws) = mixV (2 ^ m) (sessPV m p q draws) (pairS ((2 ^ m : Nat) : Int) (q.map quarter) (p.map quarter) (atPl (sessPV m p q draws) (onePl (2 ^ m) q.length))).1 (pairS ((2 ^ (m + 2) : Nat) : Int) q p (atPl (sessPV m p q draws) (twoPl (2 ^ m) q.length))).1 := rfl
  rw [e0, ← hpq, e1, e2, k1, k2]
  unfold sessPV
  exact mix_back hd
theorem sess_leaves {m : Nat} {p q draws : List Int} (hm : m ≤ 4) (hp : p.length ≤ 640) (hpq : p.length = q.length) (hrp : ∀ x, x ∈ p → -1 ≤ x ∧ x ≤ ((2 ^ (m + 2) : Nat) : Int) - 1) (hrq : ∀ x, x ∈ q → -1 ≤ x ∧ x ≤ ((2 ^ (m + 2) : Nat) : Int) - 1) (hd : draws.length = 6 * 2 ^ m + 2 * p.length) (hda : InR draws) : sessLV m q (sessPV m p q draws) = sessLV m p draws := by
  obtain ⟨⟨a1, a2, a3, a4, a5⟩, b1, b2, b4, b5⟩ := sess_parts hm hp hpq hrp hrq hd hda
  obtain ⟨L1, L2⟩ := pair_lens m p q draws hm hp hpq hrp hrq hda
  have k1 := pathS_pair a1 a2 a3 a4 a5 (m := m) (by omega)
  have k2 := pathS_pair b1 b2 hpq b4 b5 (m := m + 2) (by omega)
  rw [show ((m + 2 : Nat) : Int) = (m : Int) + 2 by omega] at k2
  have e1 : atPl (sessPV m p q draws) (onePl (2 ^ m) p.length) = (pairS ((2 ^ m : Nat) : Int) (p.map quarter) (q.map quarter) (atPl draws (onePl (2 ^ m) p.length))).1 := by unfold sessPV; exact mix_one hd L1
  have e2 : atPl (sessPV m p q draws) (twoPl (2 ^ m) p.length) = (pairS ((2 ^ (m + 2) : Nat) : Int) p q (atPl draws (twoPl (2 ^ m) p.length))).1 := by unfold sessPV; exact mix_two hd L2
  unfold sessLV
  rw [← hpq, e1, e2, k1, k2]
  congr 2
  apply List.map_congr_left
  intro k hk
  unfold sessPV
  rw [mix_six hd (List.mem_range.1 hk)]
theorem sameSh_refl (p : List S59) : sameShB p p = true := by
  unfold sameShB
  rw [decide_eq_true rfl, if_pos]
  · rfl
  · rw [List.all_eq_true]
    intro i _
    rw [sameAt_eq]
    simp
end Go.Proofs.YtefojjhffjpeoaaGreatDoor.L
namespace Go.Proofs.YtefojjhffjpeoaaGreatDoor.V
open Go Go.RowKit Go.Proofs.YtefojjhffjpeoaaGreatDoor.L Go.Proofs.YtefojjhffjpeoaaGreatDoorW.PrintWords Go.Proofs.YtefojjhffjpeoaaGreatDoorW.PrintLast Go.Proofs.YtefojjhffjpeoaaGreatDoorW.PrintMore
set_option linter.unusedVariables false
set_option linter.unusedSimpArgs false
theorem same_ev (a : List Int) (h : a.length ≤ 1000000) : Ev (fun k => c11 k [.ro 3 a, .ro 3 a]) true := by
  refine Ev.st (fun k => g11_eq k a a) (E4.cf (by simp) ?_)
  have := loop4 (r := true) a.length (fun i k m _ _ => L11_1 k m a a (i : Int)) ?_ ?_
  · exact this.e1
  · intro i hi hr
    refine E4.s1 (fun k m n p => L11_1_eq k m _ _ _) (E4.ct (decide_eq_true (by omega)) (E4.ck (inB_of (by omega) (by omega)) (E4.ck (inB_of (by omega) (by omega)) (E4.cf (by simp) ?_))))
    rw [w64_succ (by omega)]; exact hr
  · exact E4.s1 (fun k m n p => L11_1_eq k m _ _ _) (E4.cf (decide_eq_false (by omega)) E4.now)
theorem law_ev (code : List Int) (hc : Byt code) : Ev (fun k => c3 k [.ro 5 code]) true := by
  refine Ev.st (fun k => g3_eq k code) (E4.bind (Ev.st (fun k => g4_eq k code) E4.now) ?_)
  by_cases hl : (code.length : Int) > 1048576
  · exact E4.ct (decide_eq_true hl) E4.now
  refine E4.cf (decide_eq_false hl) ?_
  obtain ⟨⟨a, b, c, d, l1, l2, draws⟩, hdl, hdraw⟩ := drawSessPair_tot hc (by omega)
  have hdl : draws.length ≤ 100001 := hdl
  refine E4.bind hdraw (E4.bind (specSessPair_ev a b c d l1 l2 draws (by omega)) (E4.bind (implSessPair_ev a b c d l1 l2 draws (by omega)) ?_))
  have hs := implSameShape_ev l1 l2
  have hs2 := specSameShape_ev l1 l2
  by_cases h : (confB a b c d && ((reqsB l1 && (reqsB l2 && sameShB (l1.map shOf) (l2.map shOf))) && drawsB draws (drawsI b (l1.map shOf)))) = true
  · have e : sessPairS a b c d l1 l2 draws = (sessPV (b - 2).toNat (idsS a b l1) (idsS a b l2) draws, true) := by unfold sessPairS; rw [if_pos h]
    have h' := h
    simp only [Bool.and_eq_true] at h'
    obtain ⟨hc1, ⟨hb1, hb2, hsm⟩, hdB⟩ := h'
    obtain ⟨m, rfl, hm, em, hids, hlen, hda⟩ := sess_facts hc1 hb1 hdB
    have hpq := same_ids (a := a) (b := (m : Int) + 2) hb1 hb2 hsm
    have hrp := ids_lt a m l1
    have hrq := ids_lt a m l2
    have hsame := same_eq hsm
    rw [em] at e
    rw [e]
    have hback := sess_back hm hids hpq hrp hrq hlen hda
    have hleaf := sess_leaves hm hids hpq hrp hrq hlen hda
    have hrange := sess_range hm hids hpq hrp hrq hlen hda
    have hol : (sessPV m (idsS a ((m : Int) + 2) l1) (idsS a ((m : Int) + 2) l2) draws).length = draws.length := sessPV_length _ _ _ _
    have hdB2 : drawsB (sessPV m (idsS a ((m : Int) + 2) l1) (idsS a ((m : Int) + 2) l2) draws) (drawsI ((m : Int) + 2) (l2.map shOf)) = true := by
      refine drawsB_of ?_ hrange
      rw [hol, ← hsame]
      exact (drawsB_all hdB).1
    have e2 : sessPairS a ((m : Int) + 2) c d l2 l1 (sessPV m (idsS a ((m : Int) + 2) l1) (idsS a ((m : Int) + 2) l2) draws) = (draws, true) := by
      unfold sessPairS
      rw [if_pos (by rw [hc1, hb2, hb1, hdB2, hsame, sameSh_refl]; rfl), em, hback]
    have e3 : sessLeavesS a ((m : Int) + 2) c d l1 draws = ((sessLV m (idsS a ((m : Int) + 2) l1) draws).1, (sessLV m (idsS a ((m : Int) + 2) l1) draws).2, true) := by
      unfold sessLeavesS
      rw [if_pos (by rw [hc1, hb1, hdB]; rfl), em]
    have e4 : sessLeavesS a ((m : Int) + 2) c d l2 (sessPV m (idsS a ((m : Int) + 2) l1) (idsS a ((m : Int) + 2) l2) draws) = ((sessLV m (idsS a ((m : Int) + 2) l1) draws).1, (sessLV m (idsS a ((m : Int) + 2) l1) draws).2, true) := by
      unfold sessLeavesS
      rw [if_pos (by rw [hc1, hb2, hdB2]; rfl), em, hleaf]
    have hL : (sessLV m (idsS a ((m : Int) + 2) l1) draws).1.length ≤ 1000 ∧ (sessLV m (idsS a ((m : Int) + 2) l1) draws).2.length ≤ 1000 := by
      have h1 := pathS_len ((2 ^ m : Nat) : Int) (m : Int) ((idsS a ((m : Int) + 2) l1).map quarter) (atPl draws (onePl (2 ^ m) (idsS a ((m : Int) + 2) l1).length))
      have h2 := pathS_len ((2 ^ (m + 2) : Nat) : Int) ((m : Int) + 2) (idsS a ((m : Int) + 2) l1) (atPl draws (twoPl (2 ^ m) (idsS a ((m : Int) + 2) l1).length))
      have := two_pow_le m hm
      refine ⟨?_, by unfold sessLV; exact Nat.le_trans h2 (by decide)⟩
      unfold sessLV
      show (_ ++ _ : List Int).length ≤ 1000
      rw [List.length_append, List.length_map, List.length_range]
      omega
    have i2 := implSessPair_ev a ((m : Int) + 2) c d l2 l1 (sessPV m (idsS a ((m : Int) + 2) l1) (idsS a ((m : Int) + 2) l2) draws) (by omega)
    have i3 := implSessLeaves_ev a ((m : Int) + 2) c d l1 draws (by omega)
    have i4 := implSessLeaves_ev a ((m : Int) + 2) c d l2 (sessPV m (idsS a ((m : Int) + 2) l1) (idsS a ((m : Int) + 2) l2) draws) (by omega)
    have i5 := implSameShape_ev l2 l1
    rw [hb2, hb1, hsame, sameSh_refl] at i5
    rw [e2] at i2
    rw [e3] at i3
    rw [e4] at i4
    refine E4.cf rfl (E4.bind i2 (E4.bind i3 (E4.bind i4 ?_)))
    exact E4.gt rfl (same_ev _ (by dsimp only; omega)) (E4.gt rfl (same_ev _ (by dsimp only; omega)) (E4.gt rfl (same_ev _ (by dsimp only; omega)) (E4.gt rfl (same_ev _ (by dsimp only; rw [hol]; omega)) (E4.gt rfl i5 E4.now))))
  · have e : sessPairS a b c d l1 l2 draws = ([], false) := by unfold sessPairS; rw [if_neg h]
    rw [e]
    refine E4.ct rfl (E4.gt rfl hs (E4.gt rfl hs2 (E4.now.val ?_)))
    simp
end Go.Proofs.YtefojjhffjpeoaaGreatDoor.V
namespace Go.Proofs.YtefojjhffjpeoaaGreatDoor.V
open Go
set_option linter.unusedVariables false
set_option linter.unusedSimpArgs false
theorem ts_all : ∀ t, (tiD t).kind ≠ .other → t ∈ tsD := by
  intro t h
  unfold tiD at h
  split at h <;> first | exact absurd rfl h | (unfold tsD; decide)
theorem ts_ok : tsD.all (fun t => infoB Tryz.prog LD t && typeB Tryz.prog LD t) = true := by kernel_rfl
theorem cellL : ∀ t x, (cellD t x).length = (tiD t).sz := by
  intro t x
  unfold cellD
  split <;> first | rfl | simp
theorem formL : ∀ t x s, s ∈ cellD t x → (∃ u, s = .v u ∧ u.oneCell' = true) ∨ (∃ e ys, s = .ro e ys ∧ labdD t = false) ∨ ∃ l e ys, s = .lr l e ys ∧ labdD t = true ∧ ((zeroC e).any isNl = false ∨ labdD e = true) := by
  intro t x s hs
  unfold cellD at hs
  split at hs <;> first
    | (rw [List.eq_of_mem_replicate hs]; exact .inl ⟨_, rfl, rfl⟩)
    | (simp only [List.mem_cons, List.not_mem_nil, or_false] at hs
       repeat' (first | (obtain rfl := hs; first | exact .inl ⟨_, rfl, rfl⟩ | exact .inr (.inl ⟨_, _, rfl, rfl⟩) | exact .inr (.inr ⟨_, _, _, rfl, rfl, .inl rfl⟩) | exact .inr (.inr ⟨_, _, _, rfl, rfl, .inr rfl⟩)) | (rcases hs with hs | hs)))
theorem list_ok {t : TypeId} {s : SV DD} {xs : List (DD t)} (h : listOf t s = some xs) : canonT false s = .ro t xs := by
  unfold listOf at h
  split at h
  · obtain ⟨e, rfl⟩ := castL_eq h
    subst e; rfl
  · split at h
    · rename_i hb
      obtain rfl := Nat.eq_of_beq_eq_true hb
      obtain rfl := Option.some.inj h
      rfl
    · cases h
  · cases h
theorem lr_ok {t : TypeId} {s : SV DD} {p : Nat × List (DD t)} (h : lrOf t s = some p) : canonT true s = .lr p.1 t p.2 := by
  unfold lrOf at h
  split at h
  · split at h
    · rename_i hc
      obtain ⟨e, rfl⟩ := castL_eq hc
      subst e
      rw [← Option.some.inj h]; rfl
    · cases h
  · split at h
    · rename_i hb
      obtain rfl := Nat.eq_of_beq_eq_true hb
      obtain rfl := Option.some.inj h
      rfl
    · cases h
  · cases h
theorem makeL : ∀ t cs x, makeD t cs = some x → cellD t x = cs.map (canonT (labdD t)) := by
  intro t cs x h
  unfold makeD at h
  split at h <;> first
    | (cases h; done)
    | (obtain rfl := Option.some.inj h; rfl)
    | (repeat' (split at h)
       all_goals first
         | (cases h; done)
         | (obtain rfl := Option.some.inj h
            first
              | (show cellD _ _ = List.map (canonT false) _
                 simp only [List.map_cons, List.map_nil]
                 repeat (rename_i hl; rw [list_ok hl])
                 rfl)
              | (show cellD _ _ = List.map (canonT true) _
                 simp only [List.map_cons, List.map_nil]
                 repeat (rename_i hl; rw [lr_ok hl])
                 rfl)))
theorem flatL : ∀ t x, (zeroC t).any isNl = false → ∀ s, s ∈ cellD t x → ∃ u, s = .v u := by
  intro t x hz s hs
  unfold cellD at hs
  split at hs <;> first
    | (cases hz; done)
    | (rw [List.eq_of_mem_replicate hs]; exact ⟨_, rfl⟩)
    | (simp only [List.mem_cons, List.not_mem_nil, or_false] at hs
       repeat' (first | (obtain rfl := hs; exact ⟨_, rfl⟩) | (rcases hs with hs | hs)))
theorem zdL : ∀ t e, (tiD t).kind = .slice e → cellD e (zeroD e) = (zeroC e).map (canonT (labdD e)) := by
  intro t e h
  unfold tiD at h
  split at h <;> first
    | (cases h; done)
    | (injection h with h; subst h; rfl)
theorem byteL : ∀ e, (tiD e).kind = .int .u8 → (tiD e).sz = 1 ∧ (tiD e).bytes = 1 ∧ (zeroC e) = [.v (.int .u8 0)] ∧ (∀ n, ∃ x, makeD e [.v (.int .u8 n)] = some x) ∧ ∀ x, ∃ n, cellD e x = [.v (.int .u8 n)] := by
  intro e h
  unfold tiD at h
  split at h <;> first
    | (cases h; done)
    | exact ⟨rfl, rfl, rfl, fun n => ⟨n, rfl⟩, fun x => ⟨x, rfl⟩⟩
theorem eqt_all : eqtL.all (fun p => eqtB Tryz.prog p.1 p.2) = true := by kernel_rfl
theorem all_look {α : Type} {f : Nat × α → Bool} {m : List (Nat × α)} {n : Nat} {x : α} (h : m.all f = true) (hl : look m n = some x) : f (n, x) = true := List.all_eq_true.1 h _ (look_mem hl)
theorem eqt_gen {P : Program} {m : List (Nat × List Nat)} (h : m.all (fun p => eqtB P p.1 p.2) = true) (t : TypeId) (g : List Nat) (hg : g = match look m t with
    | some l => l
    | none => []) (hne : g ≠ []) : eqtB P t g = true := by
  cases hl : look m t with
  | none => rw [hl] at hg; exact absurd hg hne
  | some l => rw [hl] at hg; rw [hg]; exact all_look h hl
theorem eqt_ok' : ∀ t, eqtD t ≠ [] → eqtB Tryz.prog t (eqtD t) = true := fun t h => eqt_gen eqt_all t (eqtD t) rfl h
theorem eqt_ok : ∀ t, LD.eqt t ≠ [] → eqtB Tryz.prog t (LD.eqt t) = true := eqt_ok'
theorem lay_ok : LayOk Tryz.prog LD := layOk_of ts_all ts_ok eqt_ok ⟨byteL, cellL, formL, makeL, flatL, zdL⟩
theorem sigs_ok : sigL.all (fun p => Nat.ble p.2.all.length 900) = true := by kernel_rfl
theorem small_ok : ∀ f, (sigD f).all.length ≤ 900 := by
  intro f
  unfold sigD
  split
  · rename_i s hl
    exact Nat.le_of_ble_eq_true (List.all_eq_true.1 sigs_ok _ (look_mem hl))
  · exact Nat.zero_le _
theorem mixed_ok : Tryz.prog.follows .mixedOrders = true := by kernel_rfl
theorem names_ok : Tryz.prog.funcs.toList.all (fun fn => !(fn.name == "runtime.NumGoroutine")) = true := by kernel_rfl
theorem name_ok : ∀ (f : FuncId) (fn : Func), Tryz.prog.funcs[f]? = some fn → (fn.name == "runtime.NumGoroutine") = false := fun f fn h => by
  have := List.all_eq_true.1 names_ok fn (List.mem_of_getElem? (by rw [Array.getElem?_toList]; exact h))
  simpa using this
theorem ctx_ok {Tab : TabP} (hk : TabKept Tab) (hx : ∀ (f : FuncId) (h : Nat → List (SV DD) → Option (RT DD (sigD f).all)), extD f = some h → ∀ k q r, h k q = some r → Meets Tryz.prog LD Tab (sigD f) f q r ∧ Callable Tryz.prog f) : CtxOk CD Tab where
  kept := hk
  lay := lay_ok
  mixed := mixed_ok
  small := small_ok
  name := name_ok
  ext := hx
end Go.Proofs.YtefojjhffjpeoaaGreatDoor.V
namespace Go.Proofs.YtefojjhffjpeoaaGreatDoor.V
open Go Go.RowKit Go.Proofs.YtefojjhffjpeoaaGreatDoor.QA Go.Proofs.YtefojjhffjpeoaaGreatDoorW.PrintWords
set_option linter.unusedVariables false
set_option linter.unusedSimpArgs false
theorem flat_bytes {W : World} {A : Option Addr} {c : Nat} {xs : List Int} (h : Kd.C (Kd.int .u8) W A xs.length xs) (hc : xs.length ≤ c) : FlatArg LD W (.ro 5 (xs : List (DD 5))) (.slice A xs.length c) := by
  refine ⟨(fun cs e => by cases e), fun st V tm F hF => .c ?_⟩
  by_cases hn : xs = []
  · subst hn; exact .ro0 _ _ _
  obtain ⟨_, _, hr⟩ := h
  have hpos : 0 < xs.length := List.length_pos_iff.2 hn
  obtain ⟨ad, rfl, hcell⟩ := hr hpos
  have each : ∀ i (hi : i < xs.length), W.cell? (ad.add i) = some (.int .u8 xs[i]) := fun i hi => by
    obtain ⟨q, hq, hk, hcc⟩ := hcell i xs[i] (List.getElem?_eq_getElem hi)
    have e : q = [.int .u8 xs[i]] := hk
    have h0 := hcc 0 (.int .u8 xs[i]) (by rw [e]; rfl)
    rw [show i * (Kd.int .u8).sz + 0 = i by rw [show (Kd.int .u8).sz = 1 from rfl]; omega] at h0
    exact h0
  have h0 := each 0 hpos
  rw [show ad.add 0 = ad by simp [Addr.add]] at h0
  obtain ⟨b, off, sp⟩ := ad
  have hsp : sp = none := by
    unfold World.cell? at h0
    split at h0
    · cases sp with
      | none => rfl
      | some x => simp at h0
    · cases h0
  subst hsp
  have hb : b < W.heap.size := by
    unfold World.cell? at h0
    split at h0
    · rename_i hh; exact (Array.getElem?_eq_some_iff.1 hh).1
    · cases h0
  have each' : ∀ i (hi : i < xs.length), W.cell? ⟨b, off + i, none⟩ = some (.int .u8 (xs.getD i 0)) := fun i hi => by
    have := each i hi
    rw [show (⟨b, off, none⟩ : Addr).add i = ⟨b, off + i, none⟩ by unfold Addr.add; split <;> simp_all] at this
    rw [this, getD_lt hi]
  have key : ∀ (x z : Int), z = x → CR LD W F (.v (.int .u8 x)) (.int .u8 z) := fun x z e => by rw [e]; exact CR.v _ rfl
  have hv : ∀ i (hi : i < xs.length), xs.getD i 0 = xs[i] := fun i hi => getD_lt hi 0
  generalize hu : (fun i => xs.getD i 0) = u at each' hv
  refine CR.ro (L := LD) 5 xs b off c (fun i j => .int .u8 (u i)) hn hc (hF b hb) (fun i j hi hj => ?_) (fun i j hi hj => ?_)
  · have hj : j < 1 := hj
    obtain rfl : j = 0 := by omega
    have h1 := each' i hi
    have e : off + i * (LD.ti 5).sz + 0 = off + i := by rw [show (LD.ti 5).sz = 1 from rfl]; omega
    rw [e, h1, ← hu]
  · have hj : j < 1 := hj
    obtain rfl : j = 0 := by omega
    exact key xs[i] (u i) (by rw [← hu]; exact hv i hi)
theorem law_calls1 {kk : Nat} {A : Option Addr} {c : Nat} {y0 : List Int} {W : World} (hr : Kd.C (Kd.int .u8) W A y0.length y0) (hc : y0.length ≤ c) (hk : c3 kk [.ro 5 y0] = some true) (hG : TabG W) : Calls Tryz.prog 3 #[.slice A y0.length c] W fun | .returned v, W' => v = .bool true ∧ Below W.heap.size W W' | _, _ => False := by
  refine law_calls (C := CD) (Tab := TabD W) (ctx_ok (tabD_kept W) (ext_ok hG)) (f := 3) (b := false) (nk := []) (by kernel_rfl) (az := [.ro 5 y0]) (vals := [.slice A y0.length c]) (tabW_here W) ⟨fun _ => rfl, Nat.le_refl _⟩ ?_ (k := kk) (r := (true : Bool)) hk rfl
  intro p hp
  obtain rfl : p = 0 := by simp at hp; omega
  exact flat_bytes hr hc
end Go.Proofs.YtefojjhffjpeoaaGreatDoor.V
namespace Go.Proofs.YtefojjhffjpeoaaGreatDoor.QA
open Go Go.RowKit Go.Proofs.YtefojjhffjpeoaaGreatDoorW.PrintWords
set_option linter.unusedVariables false
noncomputable def laws_FnPairTapes.f (k : Nat) (y0 : List Int) : Option Bool := open Classical in if V.c3 k [.ro 5 y0] = some true then some true else none
theorem laws_FnPairTapes.calls (k : Nat) (A0 : Option Addr) (c0 : Nat) (l0 : List Int) (r : Bool) (w : World) (hr0 : Kd.C (Kd.int .u8) w A0 l0.length l0) (hc0 : l0.length ≤ c0) (h : laws_FnPairTapes.f k l0 = some r) (hG : TabG w) :
    Calls Tryz.prog 3 #[.slice A0 l0.length c0] w fun e w' => e = .returned (.bool r) ∧ Below w.heap.size w w' := by
  unfold laws_FnPairTapes.f at h
  split at h
  · rename_i h1
    obtain rfl := Option.some.inj h
    refine (V.law_calls1 hr0 hc0 h1 hG).mono fun e W' he => ?_
    cases e with
    | returned v => exact ⟨by rw [he.1], he.2⟩
    | panicked chain => exact he.elim
    | outgrown => exact he.elim
  · cases h
end Go.Proofs.YtefojjhffjpeoaaGreatDoor.QA
namespace Go.Proofs.YtefojjhffjpeoaaGreatDoor.Pure
open Go Go.RowKit Go.Proofs.YtefojjhffjpeoaaGreatDoor.QA
theorem FnPairTapes (y0 : List Int) (h : Open.InL (fun z => Open.InK .u8 z) y0) : ∃ k, laws_FnPairTapes.f k y0 = some true := by
  have hb : V.Byt y0 := fun x hx => by
    have h' : (Lit.int .u8 x).wf = true := h.2 x hx
    have e1 : IntKind.u8.min = 0 := by decide
    have e2 : IntKind.u8.max = 255 := by decide
    simp only [Lit.wf, e1, e2, Bool.and_eq_true, decide_eq_true_eq] at h'
    exact h'
  obtain ⟨k, hk⟩ := V.law_ev y0 hb
  exact ⟨k, by unfold laws_FnPairTapes.f; rw [if_pos (hk k (Nat.le_refl _))]⟩
end Go.Proofs.YtefojjhffjpeoaaGreatDoor.Pure
