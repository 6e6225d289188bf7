/- Part of the proof of the law FnExactShapesOf: what it uses of the texts that this session and the kit's print wrote. -/
import Derived.Test.YtpkmhdeimedhgaaZFnExactShapesOfWWords
import Derived.Deep.Slices
import Derived.WideShapes
import Derived.ProofKit
namespace Go.Proofs.Ytpkmhdeimedhgaa.Open
open Go.RowKit Go.Proofs.YtpkmhdeimedhgaaW.PrintWords
open Go.ChangeShapes Go.WideShapes
set_option linter.unusedVariables false
def InK (k : IntKind) (n : Int) : Prop := (Lit.int k n).wf = true
def InS (s : ByteArray) : Prop := s.size ≤ 9223372036854775807
def InL {α : Type} (W : α → Prop) (xs : List α) : Prop := xs.length ≤ 9223372036854775807 ∧ ∀ x, x ∈ xs → W x
structure Opens {α : Type} (P : Program) (t : TypeId) (d : Kd α) (W : α → Prop) : Prop where
  cells : P.cellsOf t = d.sz
  reads : ∀ {H : Type} (enc : TypeId × Value → H) (w : World) (base fuel : Nat) (held : Bool) (cs : List Value) (x : DataW H × List MemPlace),
    DataW.trod enc P w base (fun _ => true) held fuel t cs = some x → ∃ y, d.K w y cs ∧ W y
theorem opens_int {P : Program} {t : TypeId} {k : IntKind} (ht : P.underlying t = some (.int k)) (hc : P.cellsOf t = 1) : Opens P t (Kd.int k) (InK k) := by
  refine ⟨hc, ?_⟩
  intro H enc w base fuel held cs x h
  cases fuel with
  | zero => simp [DataW.trod] at h
  | succ n =>
    unfold DataW.trod at h
    rw [ht] at h
    split at h <;> simp_all
    rename_i h2
    obtain ⟨⟨rfl, h3⟩, _⟩ := h
    exact ⟨_, rfl, h3⟩
theorem opens_string {P : Program} {t : TypeId} (ht : P.underlying t = some .string) (hc : P.cellsOf t = 1) : Opens P t Kd.string InS := by
  refine ⟨hc, ?_⟩
  intro H enc w base fuel held cs x h
  cases fuel with
  | zero => simp [DataW.trod] at h
  | succ n =>
    unfold DataW.trod at h
    rw [ht] at h
    split at h <;> simp_all
    exact ⟨_, rfl, by unfold InS; have := h.1; simpa [maxLen] using this⟩
theorem opens_slice {α : Type} {P : Program} {t e : TypeId} {d : Kd α} {W : α → Prop} (ht : P.underlying t = some (.slice e)) (hc : P.cellsOf t = 1) (z : α) (he : Opens P e d W) : Opens P t (Kd.slice e d) (InL W) := by
  refine ⟨hc, ?_⟩
  intro H enc w base fuel held cs x h
  rcases Go.Deep.open_slice ht h with ⟨rfl, _⟩ | ⟨a, len, cap, m, n, D, Pl, rfl, hb, hl, hm, hmm, rfl, hx⟩
  · exact ⟨[], ⟨none, 0, rfl, Nat.le_refl _, rfl, by simp, fun h0 => absurd h0 (by simp)⟩, by simp, by simp⟩
  · simp only [if_true] at hmm
    subst hmm
    have hm' : m ≤ 9223372036854775807 := by simpa [maxLen] using hm
    have each : ∀ i, i < m → ∃ y : α, ∃ c : List Value, c.length = d.sz ∧ d.K w y c ∧ W y ∧ ∀ j u, c[j]? = some u → w.cell? (a.add (i * d.sz + j)) = some u := by
      intro i hi
      obtain ⟨cs', h1, h2⟩ := hx i hi
      obtain ⟨y, hK, hW⟩ := he.reads enc w base n held cs' _ h2
      obtain ⟨_, hlen, hcell⟩ := World.cells?_some h1
      refine ⟨y, cs', d.K_len hK, hK, hW, fun j u hu => ?_⟩
      have hj : j < P.cellsOf e := by
        rw [← hlen]
        exact (List.getElem?_eq_some_iff.1 hu).1
      have := hcell j hj
      rw [Go.Deep.add_add, he.cells] at this
      rw [this]; exact hu
    haveI : Inhabited α := ⟨z⟩
    obtain ⟨f, hf⟩ := Go.Deep.choose_lt each
    refine ⟨(List.range len).map f, ⟨some a, m, ?_, ?_, ?_⟩, ?_, ?_⟩
    · simp
    · simp; exact hl
    · refine ⟨by simp, by simp; omega, fun _ => ⟨a, rfl, fun j p hj => ?_⟩⟩
      have hj1 : j < len := by have := (List.getElem?_eq_some_iff.1 hj).1; simpa using this
      have hp : f j = p := by simpa [hj1] using hj
      obtain ⟨c, h1, h2, _, h3⟩ := hf j (by omega)
      exact ⟨c, h1, hp ▸ h2, h3⟩
    · simp; omega
    · intro y hy
      obtain ⟨i, hi, rfl⟩ := List.mem_map.1 hy
      obtain ⟨c, _, _, hW, _⟩ := hf i (by have := List.mem_range.1 hi; omega)
      exact hW
structure FieldsOpen {α : Type} (P : Program) (fs : List Field) (off : Nat) (d : Kd α) (W : α → Prop) : Prop where
  reads : ∀ {H : Type} (enc : TypeId × Value → H) (w : World) (base fuel : Nat) (held : Bool) (cs : List Value) (xs : List (DataW H × List MemPlace)),
    cs.length = off + d.sz → (fs.mapM fun f => DataW.trod enc P w base (fun _ => true) held fuel f.type ((cs.drop f.offset).take (P.cellsOf f.type))) = some xs → ∃ y, d.K w y (cs.drop off) ∧ W y
theorem fields_one {α : Type} {P : Program} {f : Field} {off : Nat} {d : Kd α} {W : α → Prop} (ho : f.offset = off) (h : Opens P f.type d W) : FieldsOpen P [f] off d W := by
  refine ⟨?_⟩
  intro H enc w base fuel held cs xs hl hm
  have h1 := mapM_some_get hm 0 f rfl
  have h2 := mapM_some_length hm
  simp only [List.length_singleton] at h2
  rw [List.getElem?_eq_getElem (by omega)] at h1
  obtain ⟨y, hK, hW⟩ := h.reads enc w base fuel held _ _ h1
  refine ⟨y, ?_, hW⟩
  rw [ho, h.cells, List.take_of_length_le (by rw [List.length_drop]; omega)] at hK
  exact hK
theorem fields_cons {α β : Type} {P : Program} {f : Field} {fs : List Field} {off : Nat} {a : Kd α} {b : Kd β} {Wa : α → Prop} {Wb : β → Prop} (ho : f.offset = off) (h : Opens P f.type a Wa) (hs : FieldsOpen P fs (off + a.sz) b Wb) :
    FieldsOpen P (f :: fs) off (Kd.pair a b) (fun x => Wa x.1 ∧ Wb x.2) := by
  refine ⟨?_⟩
  intro H enc w base fuel held cs xs hl hm
  have hsz : (Kd.pair a b).sz = a.sz + b.sz := rfl
  rw [hsz] at hl
  rw [List.mapM_cons] at hm
  obtain ⟨x0, h0, hm⟩ := Option.bind_eq_some_iff.1 hm
  obtain ⟨xs', hm', hm⟩ := Option.bind_eq_some_iff.1 hm
  obtain ⟨y, hK, hW⟩ := h.reads enc w base fuel held _ _ h0
  obtain ⟨y', hK', hW'⟩ := hs.reads enc w base fuel held cs xs' (by omega) hm'
  refine ⟨(y, y'), ⟨(cs.drop off).take a.sz, cs.drop (off + a.sz), ?_, ?_, hK'⟩, hW, hW'⟩
  · rw [← List.drop_drop, List.take_append_drop]
  · rw [ho, h.cells] at hK
    exact hK
theorem opens_struct {α : Type} {P : Program} {t : TypeId} {fs : Array Field} {d : Kd α} {W : α → Prop} (ht : P.underlying t = some (.struct fs)) (hc : P.cellsOf t = d.sz) (h : FieldsOpen P fs.toList 0 d W) : Opens P t d W := by
  refine ⟨hc, ?_⟩
  intro H enc w base fuel held cs x hx
  cases fuel with
  | zero => simp [DataW.trod] at hx
  | succ n =>
    have hx' : (if cs.length = P.cellsOf t then (fs.toList.mapM fun f => DataW.trod enc P w base (fun _ => true) held n f.type ((cs.drop f.offset).take (P.cellsOf f.type))).map fun xs => (DataW.agg (xs.map (·.1)), xs.flatMap (·.2)) else none) = some x := by
      unfold DataW.trod at hx
      rw [ht] at hx
      split at hx <;> first | exact hx | simp_all
    split at hx'
    · rename_i hlen
      obtain ⟨xs, hm, _⟩ := Option.map_eq_some_iff.1 hx'
      obtain ⟨y, hK, hW⟩ := h.reads enc w base n held cs xs (by omega) hm
      rw [List.drop_zero] at hK
      exact ⟨y, hK, hW⟩
    · cases hx'
theorem opens_iso {α β : Type} {P : Program} {t : TypeId} {d : Kd α} {W : α → Prop} {f : β → α} (g : α → β) (hg : ∀ x, f (g x) = x) (h : Opens P t d W) : Opens P t (Kd.iso d f) (fun y => W (f y)) := by
  refine ⟨h.cells, ?_⟩
  intro H enc w base fuel held cs x hx
  obtain ⟨y, hK, hW⟩ := h.reads enc w base fuel held cs x hx
  refine ⟨g y, ?_, by rw [hg]; exact hW⟩
  show d.K w (f (g y)) cs
  rw [hg]; exact hK
theorem opens_mono {α : Type} {P : Program} {t : TypeId} {d : Kd α} {W W' : α → Prop} (h : Opens P t d W) (hw : ∀ x, W x → W' x) : Opens P t d W' :=
  ⟨h.cells, fun enc w base fuel held cs x hx => let ⟨y, hK, hW⟩ := h.reads enc w base fuel held cs x hx; ⟨y, hK, hw y hW⟩⟩
theorem open_arg {α : Type} {H : Type} {enc : TypeId × Value → H} {P : Program} {w : World} {t : TypeId} {d : Kd α} {W : α → Prop} (ho : Opens P t d W) {v : Value} {dd : DataW H} {ps : List MemPlace}
    (h : DataW.Trod enc P w 0 (fun _ => true) true t v dd ps) : ∃ y, d.K w y v.cells.toList ∧ W y := by
  obtain ⟨fuel, hf⟩ := h
  exact ho.reads enc w 0 fuel true _ _ hf
end Go.Proofs.Ytpkmhdeimedhgaa.Open
