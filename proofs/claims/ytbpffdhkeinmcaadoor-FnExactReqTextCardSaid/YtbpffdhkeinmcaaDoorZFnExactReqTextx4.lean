/- Part of the proof of the law FnExactReqText: what it uses of the texts that this session and the kit's print wrote. -/
import Derived.Test.YtbpffdhkeinmcaaDoorZFnExactReqTextx0
import Derived.Test.YtbpffdhkeinmcaaDoorZFnExactReqTextx1
import Derived.Test.YtbpffdhkeinmcaaDoorZFnExactReqTextx2
import Derived.Test.YtbpffdhkeinmcaaDoorZFnExactReqTextx3
import Derived.Deep.Slices
import Derived.WideShapes
import Derived.ProofKit
import Derived.KernelRfl
import Derived.Lib.ItoaNum
import Derived.Lib.ItoaLen
import Derived.Laws.Strings
namespace Go.Proofs.YtbpffdhkeinmcaaDoor.Open
open Go.RowKit Go.Proofs.YtbpffdhkeinmcaaDoorW.PrintWords
open Go.ChangeShapes Go.WideShapes
set_option linter.unusedVariables false
def InK (k : IntKind) (n : Int) : Prop := (Lit.int k n).wf = true
def InS (s : ByteArray) : Prop := s.size ≤ 9223372036854775807
structure Opens {α : Type} (P : Program) (t : TypeId) (d : Kd α) (W : α → Prop) : Prop where
 cells : P.cellsOf t = d.sz
 reads : ∀ {H : Type} (enc : TypeId × Value → H) (w : World) (base fuel : Nat) (held : Bool) (cs : List Value) (x : DataW H × List MemPlace),
  DataW.trod enc P w base (fun _ => true) held fuel t cs = some x → ∃ y, d.K w y cs ∧ W y
theorem opens_int {P : Program} {t : TypeId} {k : IntKind} (ht : P.underlying t = some (.int k)) (hc : P.cellsOf t = 1) : Opens P t (Kd.int k) (InK k) := by
 refine ⟨hc, ?_⟩
 intro H enc w base fuel held cs x h
 cases fuel with
 | zero => simp [DataW.trod] at h
 | succ n =>
  unfold DataW.trod at h
  rw [ht] at h
  split at h <;> simp_all
  rename_i h2
  obtain ⟨⟨rfl, h3⟩, _⟩ := h
  exact ⟨_, rfl, h3⟩
theorem opens_string {P : Program} {t : TypeId} (ht : P.underlying t = some .string) (hc : P.cellsOf t = 1) : Opens P t Kd.string InS := by
 refine ⟨hc, ?_⟩
 intro H enc w base fuel held cs x h
 cases fuel with
 | zero => simp [DataW.trod] at h
 | succ n =>
  unfold DataW.trod at h
  rw [ht] at h
  split at h <;> simp_all
  exact ⟨_, rfl, by unfold InS; have := h.1; simpa [maxLen] using this⟩
structure FieldsOpen {α : Type} (P : Program) (fs : List Field) (off : Nat) (d : Kd α) (W : α → Prop) : Prop where
 reads : ∀ {H : Type} (enc : TypeId × Value → H) (w : World) (base fuel : Nat) (held : Bool) (cs : List Value) (xs : List (DataW H × List MemPlace)),
  cs.length = off + d.sz → (fs.mapM fun f => DataW.trod enc P w base (fun _ => true) held fuel f.type ((cs.drop f.offset).take (P.cellsOf f.type))) = some xs → ∃ y, d.K w y (cs.drop off) ∧ W y
theorem fields_one {α : Type} {P : Program} {f : Field} {off : Nat} {d : Kd α} {W : α → Prop} (ho : f.offset = off) (h : Opens P f.type d W) : FieldsOpen P [f] off d W := by
 refine ⟨?_⟩
 intro H enc w base fuel held cs xs hl hm
 (have h1 := mapM_some_get hm 0 f rfl); (have h2 := mapM_some_length hm); (simp only [List.length_singleton] at h2); (rw [List.getElem?_eq_getElem (by omega)] at h1); (obtain ⟨y, hK, hW⟩ := h.reads enc w base fuel held _ _ h1)
 refine ⟨y, ?_, hW⟩
 rw [ho, h.cells, List.take_of_length_le (by rw [List.length_drop]; omega)] at hK
 exact hK
theorem fields_cons {α β : Type} {P : Program} {f : Field} {fs : List Field} {off : Nat} {a : Kd α} {b : Kd β} {Wa : α → Prop} {Wb : β → Prop} (ho : f.offset = off) (h : Opens P f.type a Wa) (hs : FieldsOpen P fs (off + a.sz) b Wb) :
  FieldsOpen P (f :: fs) off (Kd.pair a b) (fun x => Wa x.1 ∧ Wb x.2) := by
 refine ⟨?_⟩
 intro H enc w base fuel held cs xs hl hm
 (have hsz : (Kd.pair a b).sz = a.sz + b.sz := rfl); (rw [hsz] at hl); (rw [List.mapM_cons] at hm); (obtain ⟨x0, h0, hm⟩ := Option.bind_eq_some_iff.1 hm); (obtain ⟨xs', hm', hm⟩ := Option.bind_eq_some_iff.1 hm); (obtain ⟨y, hK, hW⟩ := h.reads enc w base fuel held _ _ h0); (obtain ⟨y', hK', hW'⟩ := hs.reads enc w base fuel held cs xs' (by omega) hm')
 refine ⟨(y, y'), ⟨(cs.drop off).take a.sz, cs.drop (off + a.sz), ?_, ?_, hK'⟩, hW, hW'⟩
 ·rw [← List.drop_drop, List.take_append_drop]
 ·rw [ho, h.cells] at hK
  exact hK
theorem opens_struct {α : Type} {P : Program} {t : TypeId} {fs : Array Field} {d : Kd α} {W : α → Prop} (ht : P.underlying t = some (.struct fs)) (hc : P.cellsOf t = d.sz) (h : FieldsOpen P fs.toList 0 d W) : Opens P t d W := by
 refine ⟨hc, ?_⟩
 intro H enc w base fuel held cs x hx
 cases fuel with
 | zero => simp [DataW.trod] at hx
 | succ n =>
  have hx' : (if cs.length = P.cellsOf t then (fs.toList.mapM fun f => DataW.trod enc P w base (fun _ => true) held n f.type ((cs.drop f.offset).take (P.cellsOf f.type))).map fun xs => (DataW.agg (xs.map (·.1)), xs.flatMap (·.2)) else none) = some x := by
   unfold DataW.trod at hx
   rw [ht] at hx
   split at hx <;> first | exact hx | simp_all
  split at hx'
  ·rename_i hlen
   (obtain ⟨xs, hm, _⟩ := Option.map_eq_some_iff.1 hx'); (obtain ⟨y, hK, hW⟩ := h.reads enc w base n held cs xs (by omega) hm); (rw [List.drop_zero] at hK)
   exact ⟨y, hK, hW⟩
  ·cases hx'
theorem opens_iso {α β : Type} {P : Program} {t : TypeId} {d : Kd α} {W : α → Prop} {f : β → α} (g : α → β) (hg : ∀ x, f (g x) = x) (h : Opens P t d W) : Opens P t (Kd.iso d f) (fun y => W (f y)) := by
 refine ⟨h.cells, ?_⟩
 intro H enc w base fuel held cs x hx
 obtain ⟨y, hK, hW⟩ := h.reads enc w base fuel held cs x hx
 refine ⟨g y, ?_, by rw [hg]; exact hW⟩
 show d.K w (f (g y)) cs
 rw [hg]; exact hK
theorem opens_mono {α : Type} {P : Program} {t : TypeId} {d : Kd α} {W W' : α → Prop} (h : Opens P t d W) (hw : ∀ x, W x → W' x) : Opens P t d W' :=
 ⟨h.cells, fun enc w base fuel held cs x hx => let ⟨y, hK, hW⟩ := h.reads enc w base fuel held cs x hx; ⟨y, hK, hw y hW⟩⟩
theorem open_arg {α : Type} {H : Type} {enc : TypeId × Value → H} {P : Program} {w : World} {t : TypeId} {d : Kd α} {W : α → Prop} (ho : Opens P t d W) {v : Value} {dd : DataW H} {ps : List MemPlace}
  (h : DataW.Trod enc P w 0 (fun _ => true) true t v dd ps) : ∃ y, d.K w y v.cells.toList ∧ W y := by
 obtain ⟨fuel, hf⟩ := h
 exact ho.reads enc w 0 fuel true _ _ hf
theorem okWide_agg {P : Program} {w : World} {r : Reach} {base : Nat} {t : TypeId} {fs : Array Field} {v : Value} (ht : P.underlying t = some (.struct fs)) (h : Value.okWide P w r base t v) : ∃ cs, v = .agg cs := by
 unfold Value.okWide at h
 (rw [ht] at h); (obtain ⟨cs, rfl, _⟩ := h)
 exact ⟨cs, rfl⟩
end Go.Proofs.YtbpffdhkeinmcaaDoor.Open
namespace Go.Proofs.YtbpffdhkeinmcaaDoor.QG
open Go.RowKit Go.Proofs.YtbpffdhkeinmcaaDoorW.PrintWords Go.Proofs.YtbpffdhkeinmcaaDoorW.PrintLast Go.Proofs.YtbpffdhkeinmcaaDoor
def W29 (x : S29) : Prop := Open.InK .i64 x.f0 ∧ Open.InS x.f1 ∧ Open.InK .i64 x.f2 ∧ Open.InK .i64 x.f3 ∧ Open.InK .i64 x.f4 ∧ Open.InK .i64 x.f5 ∧ Open.InS x.f6
theorem opens29 : Open.Opens Tryd.prog 29 k29 W29 :=
 Open.opens_mono (Open.opens_iso (fun x => (⟨x.1, x.2.1, x.2.2.1, x.2.2.2.1, x.2.2.2.2.1, x.2.2.2.2.2.1, x.2.2.2.2.2.2⟩ : S29)) (fun _ => rfl) (Open.opens_struct Tryd.underlying29 (by kernel_rfl) (by exact (Open.fields_cons rfl (Open.opens_int (k := .i64) Tryd.underlying3 (by kernel_rfl)) (Open.fields_cons rfl (Open.opens_string Tryd.underlying9 (by kernel_rfl)) (Open.fields_cons rfl (Open.opens_int (k := .i64) Tryd.underlying3 (by kernel_rfl)) (Open.fields_cons rfl (Open.opens_int (k := .i64) Tryd.underlying3 (by kernel_rfl)) (Open.fields_cons rfl (Open.opens_int (k := .i64) Tryd.underlying3 (by kernel_rfl)) (Open.fields_cons rfl (Open.opens_int (k := .i64) Tryd.underlying3 (by kernel_rfl)) (Open.fields_one rfl (Open.opens_string Tryd.underlying9 (by kernel_rfl)))))))))))) (fun _ h => h)
def laws_FnExactReqText.Pure : Prop := ∀ (y0 : S29), W29 y0 → ∃ k, laws_FnExactReqText.f k y0.f0 y0.f1 y0.f2 y0.f3 y0.f4 y0.f5 y0.f6 = some true
end Go.Proofs.YtbpffdhkeinmcaaDoor.QG
namespace Go.Proofs.YtbpffdhkeinmcaaDoor.L
open Go.RowKit Go.Proofs.YtbpffdhkeinmcaaDoorW.PrintWords Go.Proofs.YtbpffdhkeinmcaaDoorW.PrintMore
set_option linter.unusedVariables false
set_option linter.unusedSimpArgs false
theorem wrap_id {x : Int} (h0 : -9223372036854775808 ≤ x) (h1 : x ≤ 9223372036854775807) : wrap64 x = x := by unfold wrap64; omega
theorem wrap_nat_succ {i : Nat} (h : i < 9223372036854775807) : wrap64 ((i : Int) + 1) = ((i + 1 : Nat) : Int) := by unfold wrap64; omega
theorem evVal {α : Type} {g : Nat → Option α} {r r' : α} (h : Ev g r) (e : r = r') : Ev g r' := e ▸ h
theorem evConst {α : Type} {o : Option α} {r : α} (h : o = some r) : Ev (fun _ => o) r := ⟨0, fun _ _ => h⟩
theorem search_ev {ρ : Type} (n : Nat) (G : Nat → Int → Option ρ) (p : Nat → Bool) (rno ryes : ρ)
  (hgo : ∀ i, i < n → p i = true → ∀ r, Ev (fun k => G k ((i + 1 : Nat) : Int)) r → Ev (fun k => G k (i : Int)) r)
  (hstop : ∀ i, i < n → p i = false → Ev (fun k => G k (i : Int)) rno)
  (hend : Ev (fun k => G k (n : Int)) ryes) : Ev (fun k => G k 0) (if (List.range n).all p then ryes else rno) := by
 have key : ∀ d i, i + d = n → Ev (fun k => G k (i : Int)) (if ((List.range n).drop i).all p then ryes else rno) := by
  intro d
  induction d with
  | zero =>
   intro i h
   (obtain rfl : i = n := by omega); (rw [List.drop_of_length_le (by simp)])
   exact hend
  | succ d ih =>
   intro i h
   (have hi : i < n := by omega); (rw [List.drop_eq_getElem_cons (by simpa using hi), List.getElem_range, List.all_cons])
   cases hp : p i with
   | true => simpa using hgo i hi hp _ (ih (i + 1) (by omega))
   | false => simpa using hstop i hi hp
 have := key n 0 (by omega)
 simpa using this
theorem all_range {α : Type} (l : List α) (z : α) (q : α → Bool) : (List.range l.length).all (fun i => q (l.getD i z)) = l.all q := by
 induction l with
 | nil => rfl
 | cons x xs ih =>
  rw [List.length_cons, List.range_succ_eq_map, List.all_cons, List.all_map, List.all_cons, ← ih]
  rfl
theorem getD_lt {α : Type} {l : List α} {i : Nat} (z : α) (h : i < l.length) : l.getD i z = l[i] := by simp [List.getD, h]
end Go.Proofs.YtbpffdhkeinmcaaDoor.L
namespace Go.Proofs.YtbpffdhkeinmcaaDoor.L
open Go.RowKit Go.Proofs.YtbpffdhkeinmcaaDoor.QG Go.Proofs.YtbpffdhkeinmcaaDoorW.PrintWords Go.Proofs.YtbpffdhkeinmcaaDoorW.PrintLast
set_option linter.unusedVariables false
set_option linter.unusedSimpArgs false
theorem within_eq (n lo hi : Int) : impl_within.f n lo hi = some (decide (lo ≤ n ∧ n ≤ hi)) := by
 unfold impl_within.f
 by_cases h : n ≥ lo
 ·rw [if_pos h]
  by_cases h2 : n ≤ hi <;> simp [h2] <;> omega
 ·rw [if_neg h]
  simp
  omega
def shapeB (a b : Int) : Bool := if a = 6 then decide (1 ≤ b ∧ b ≤ 16) else decide (1 ≤ a ∧ a ≤ 5 ∧ b = 0)
theorem isShape_eq (a b : Int) : impl_isShape.f a b = some (shapeB a b) := by
 unfold impl_isShape.f shapeB
 simp only [within_eq, Option.bind_some]
 by_cases h6 : a = 6
 ·simp [h6]
 ·by_cases h1 : 1 ≤ a ∧ a ≤ 5
  ·simp [h6, h1]
   by_cases hb : b = 0 <;> simp [hb]
  ·simp [h6, h1]
   omega
theorem l18Shape_eq (a b : Int) : spec_l18Shape.f a b = some (shapeB a b) := by
 unfold spec_l18Shape.f shapeB
 by_cases h6 : a = 6
 ·simp only [h6, if_true]
  by_cases h1 : b ≥ 1
  ·have h1' : 1 ≤ b := h1
   by_cases h2 : b ≤ 16 <;> simp [h1', h2]
  ·have h1' : ¬ 1 ≤ b := h1
   simp [h1']
 ·rw [if_neg h6, if_neg h6]
  by_cases h1 : a ≥ 1
  ·rw [if_pos h1]
   by_cases h2 : a ≤ 6
   ·rw [if_pos h2]
    (have h3 : a ≤ 5 := by omega); (have h1' : 1 ≤ a := h1)
    by_cases hb : b = 0 <;> simp [hb, h1', h3]
   ·rw [if_neg h2]
    have h3 : ¬ a ≤ 5 := by omega
    simp [h3]
  ·rw [if_neg h1]
   have h1' : ¬ 1 ≤ a := h1
   simp [h1']
theorem shape_range {a b : Int} (h : shapeB a b = true) : 1 ≤ a ∧ a ≤ 6 ∧ 0 ≤ b ∧ b ≤ 16 ∧ (a ≠ 6 → b = 0) ∧ (a = 6 → 1 ≤ b) := by
 unfold shapeB at h
 by_cases h6 : a = 6
 ·rw [if_pos h6] at h
  have := of_decide_eq_true h
  omega
 ·rw [if_neg h6] at h
  have := of_decide_eq_true h
  omega
end Go.Proofs.YtbpffdhkeinmcaaDoor.L
namespace Go.Proofs.YtbpffdhkeinmcaaDoor.L
open Go.RowKit Go.Proofs.YtbpffdhkeinmcaaDoorW.PrintWords Go.Proofs.YtbpffdhkeinmcaaDoorW.PrintMore
theorem evIf {α : Type} {p : Prop} [Decidable p] {g h : Nat → Option α} {r : α} (hp : p) (hg : Ev g r) : Ev (fun k => if p then g k else h k) r := by simp only [if_pos hp]; exact hg
theorem strOf_nums (l : List UInt8) : strOfNums (l.map fun b => (b.toNat : Int)) = ⟨l.toArray⟩ := by
 unfold strOfNums
 congr 1
 rw [List.map_map]
 have : (fun n : Int => UInt8.ofNat n.toNat) ∘ (fun b : UInt8 => (b.toNat : Int)) = id := by
  funext b
  simp
 rw [this]
 simp
end Go.Proofs.YtbpffdhkeinmcaaDoor.L
namespace Go.Proofs.YtbpffdhkeinmcaaDoor.L
open Go.RowKit Go.Proofs.YtbpffdhkeinmcaaDoor.QG Go.Proofs.YtbpffdhkeinmcaaDoorW.PrintWords Go.Proofs.YtbpffdhkeinmcaaDoorW.PrintLast Go.Proofs.YtbpffdhkeinmcaaDoorW.PrintMore
set_option linter.unusedVariables false
set_option linter.unusedSimpArgs false
def digI (u : Nat) : List Int := (Lib.decDigits u).map fun b => (b.toNat : Int)
theorem digI_small {u : Nat} (h : u < 10) : digI u = [((48 + u : Nat) : Int)] := by
 unfold digI
 rw [Lib.decDigits, dif_pos h, List.map_cons, List.map_nil, UInt8.toNat_ofNat']
 congr 2
 omega
theorem digI_big {u : Nat} (h : ¬ u < 10) : digI u = digI (u / 10) ++ [((48 + u % 10 : Nat) : Int)] := by
 unfold digI
 rw [Lib.decDigits, dif_neg h, List.map_append, List.map_cons, List.map_nil, UInt8.toNat_ofNat']
 congr 3
 omega
def numS (n : Int) : ByteArray := ⟨(Lib.itoa n).toArray⟩
theorem numS_pos {n : Int} (h : 0 ≤ n) : numS n = strOfNums (digI n.toNat) := by
 unfold numS Lib.itoa digI
 rw [if_neg (by omega), strOf_nums]
theorem numLoop_ev (n : Int) (hn : 0 ≤ n) : ∀ (u : Nat) (acc : List Int), 0 < u → u < 1000000000000000000 → acc.length + u < 140737488355320 → Ev (fun k => spec_l04Num.l0 k n acc (u : Int)) (strOfNums (digI u ++ acc)) := by
 intro u
 induction u using Nat.strongRecOn with
 | _ u ih =>
  intro acc h0 hu hl
  refine Ev.step (fun k => rfl) ?_
  (have e1 : Int.tmod (u : Int) 10 = ((u % 10 : Nat) : Int) := by rw [Int.tmod_eq_emod_of_nonneg (by omega)]; omega); (have e2 : wrap64 (Int.tdiv (u : Int) 10) = ((u / 10 : Nat) : Int) := by rw [Int.tdiv_eq_ediv_of_nonneg (by omega), wrap_id (by omega) (by omega)]; omega); (have e3 : (wrap64 (48 + ((u % 10 : Nat) : Int))) % 256 = ((48 + u % 10 : Nat) : Int) := by rw [wrap_id (by omega) (by omega)]; omega); (simp only [spec_l04Num.l0, if_neg (show ¬ (u : Int) = 0 by omega), e1, e2, e3, if_neg (show ¬ ((u % 10 : Nat) : Int) < 0 by omega), Option.bind_some, List.length_cons, List.length_nil, if_pos (show 0 + 1 + acc.length < 140737488355328 by omega)])
  by_cases hs : u < 10
  ·rw [digI_small hs, show u / 10 = 0 by omega, show u % 10 = u by omega]
   refine Ev.step (fun k => rfl) ?_
   simp only [spec_l04Num.l0, show ((0 : Nat) : Int) = 0 from rfl, if_true, if_neg (show ¬ n < 0 by omega)]
   exact Ev.now _
  ·have := ih (u / 10) (by omega) ([((48 + u % 10 : Nat) : Int)] ++ acc) (by omega) (by omega) (by simp only [List.length_append, List.length_cons, List.length_nil]; omega)
   rw [digI_big hs, List.append_assoc]
   exact this
theorem specNum_ev (n : Int) (h0 : 0 ≤ n) (h1 : n ≤ 100000000000000) : Ev (fun k => spec_l04Num.f k n) (numS n) := by
 unfold spec_l04Num.f
 by_cases h : n = 0
 ·subst h
  simp only [if_true]
  exact evVal (Ev.now _) (by rw [numS_pos (by omega), show (0 : Int).toNat = 0 from rfl, digI_small (by omega)]; rfl)
 ·simp only [if_neg h]
  (have := numLoop_ev n h0 n.toNat [] (by omega) (by omega) (by simp only [List.length_nil]; omega)); (rw [Int.toNat_of_nonneg h0] at this); (rw [numS_pos h0])
  simpa using this
theorem itoa_eq (n : Int) (h0 : 0 ≤ n) (h1 : n ≤ 100000000000000) : strconv_Itoa_79.f n = some (numS n) := by
 unfold strconv_Itoa_79.f numS
 rw [if_pos (by omega)]
theorem numS_size (n : Int) (h0 : 0 ≤ n) (h1 : n ≤ 100000000000000) : (numS n).size ≤ 21 := by
 have := Lib.itoa_length_le n (by omega) (by omega)
 unfold numS
 simpa [ByteArray.size] using this
def reqQ (a : Int) (w : ByteArray) (e : Int) (t : ByteArray) : Bool := shapeB a e && (decide (w.size ≤ 100) && decide (t.size ≤ 2000))
theorem specReqOk_q (a : Int) (w : ByteArray) (b c d e : Int) (t : ByteArray) : spec_ReqOk.f a w b c d e t = some (reqQ a w e t) := by
 unfold spec_ReqOk.f reqQ
 rw [l18Shape_eq, Option.bind_some]
 cases shapeB a e with
 | false => rfl
 | true =>
  simp only [if_true, Bool.true_and]
  by_cases h : w.size ≤ 100
  ·rw [if_pos (by omega)]
   simp only [h, decide_true, Bool.true_and]
   congr 2
   simp; omega
  ·rw [if_neg (by omega)]
   simp [h]
theorem isReq_q (a : Int) (w : ByteArray) (b c d e : Int) (t : ByteArray) : impl_isReq.f a w b c d e t = some (reqQ a w e t) := by
 unfold impl_isReq.f reqQ
 rw [isShape_eq, Option.bind_some]
 cases shapeB a e with
 | false => rfl
 | true =>
  simp only [if_true, Bool.true_and]
  by_cases h : w.size ≤ 100
  ·rw [if_pos (by omega)]
   simp only [h, decide_true, Bool.true_and]
   congr 2
   simp; omega
  ·rw [if_neg (by omega)]
   simp [h]
def gapU8 (b : UInt8) : Bool := ([9, 10, 13, 32] : List UInt8).contains b
def goodW (s : ByteArray) : Bool := decide (0 < s.size) && !(s.data.toList.any gapU8)
theorem data_size (s : ByteArray) : s.data.toList.length = s.size := (Lib.size_eq s).symm
theorem bt_data (s : ByteArray) {i : Nat} (h : i < s.size) : bt s (i : Int) = ((s.data.toList.getD i 0).toNat : Int) := by
 unfold bt
 rw [dif_pos (by simpa using h), getD_lt _ (by rw [data_size]; exact h)]
 rfl
theorem gap_eq (b : UInt8) : spec_l01Gap.f (b.toNat : Int) = some (gapU8 b) := by
 unfold spec_l01Gap.f gapU8
 (have e9 : ((b.toNat : Int) = 9) ↔ b = 9 := ⟨fun h => UInt8.toNat_inj.mp (by have e : (9 : UInt8).toNat = 9 := rfl; omega), fun h => by rw [h]; rfl⟩); (have e10 : ((b.toNat : Int) = 10) ↔ b = 10 := ⟨fun h => UInt8.toNat_inj.mp (by have e : (10 : UInt8).toNat = 10 := rfl; omega), fun h => by rw [h]; rfl⟩); (have e13 : ((b.toNat : Int) = 13) ↔ b = 13 := ⟨fun h => UInt8.toNat_inj.mp (by have e : (13 : UInt8).toNat = 13 := rfl; omega), fun h => by rw [h]; rfl⟩); (have e32 : ((b.toNat : Int) = 32) ↔ b = 32 := ⟨fun h => UInt8.toNat_inj.mp (by have e : (32 : UInt8).toNat = 32 := rfl; omega), fun h => by rw [h]; rfl⟩)
 by_cases h9 : b = 9
 ·subst h9; rfl
 by_cases h10 : b = 10
 ·subst h10; rfl
 by_cases h13 : b = 13
 ·subst h13; rfl
 rw [if_neg (fun e => h9 (e9.1 e)), if_neg (fun e => h10 (e10.1 e)), if_neg (fun e => h13 (e13.1 e))]
 congr 1
 rw [Bool.eq_iff_iff, beq_iff_eq, e32]
 simp [h9, h10, h13]
theorem any_false {l : List UInt8} {p : UInt8 → Bool} : (l.any p = false) ↔ (List.range l.length).all (fun i => !p (l.getD i 0)) = true := by
 rw [all_range l 0 (fun b => !p b), List.all_eq_true]
 simp
theorem specWord_ev (s : ByteArray) (hs : s.size ≤ 9223372036854775807) : Ev (fun k => spec_l26Word.f k s) (goodW s) := by
 unfold spec_l26Word.f goodW
 refine evVal (search_ev s.size (fun k i => spec_l26Word.l0 k s i) (fun i => !gapU8 (s.data.toList.getD i 0)) false (decide (0 < s.size)) ?_ ?_ ?_) ?_
 ·intro i hi hp r hr
  rw [Bool.not_eq_true'] at hp
  refine Ev.step (fun k => ?_) hr
  (simp only [spec_l26Word.l0, bt_data s hi, gap_eq, hp, Option.bind_some, Bool.false_eq_true, if_false]); (rw [if_pos (by omega), if_pos (by omega), wrap_nat_succ (by omega)])
 ·intro i hi hp
  rw [Bool.not_eq_false'] at hp
  refine Ev.step (f := fun _ => some false) (fun k => ?_) (Ev.now _)
  (simp only [spec_l26Word.l0, bt_data s hi, gap_eq, hp, Option.bind_some, if_true]); (rw [if_pos (by omega), if_pos (by omega)])
 ·refine Ev.step (f := fun _ => some _) (fun k => ?_) (Ev.now _)
  (simp only [spec_l26Word.l0]); (rw [if_neg (by omega)])
  congr 1
  rw [decide_eq_decide]
  omega
 ·have h := @any_false s.data.toList gapU8
  rw [data_size] at h
  cases hA : (List.range s.size).all fun i => !gapU8 (s.data.toList.getD i 0) with
  | true => rw [h.2 hA]; simp
  | false =>
   have : s.data.toList.any gapU8 = true := by
    cases hB : s.data.toList.any gapU8 with
    | true => rfl
    | false => rw [h.1 hB] at hA; cases hA
   rw [this]; simp
theorem num_eq (n : Int) : spec_l26Num.f n = some (decide (0 ≤ n ∧ n ≤ 999999999)) := by
 unfold spec_l26Num.f
 by_cases h : n ≥ 0
 ·rw [if_pos h]; congr 1; rw [decide_eq_decide]; omega
 ·rw [if_neg h, decide_eq_false (by omega)]
theorem indexAny_any (chars : List UInt8) : ∀ l : List UInt8, decide (0 ≤ Lib.indexAny l chars) = l.any (fun b => chars.contains b)
 | [] => rfl
 | x :: xs => by
  (have hge := Lib.indexAny_ge chars xs); (rw [List.any_cons, ← indexAny_any chars xs])
  show decide ((0 : Int) ≤ (if chars.contains x = true then 0 else if (Lib.indexAny xs chars == -1) = true then -1 else Lib.indexAny xs chars + 1)) = _
  cases chars.contains x with
  | true => simp
  | false =>
   simp only [Bool.false_eq_true, if_false, Bool.false_or, beq_iff_eq]
   by_cases h : Lib.indexAny xs chars = -1
   ·rw [if_pos h, h]
   ·rw [if_neg h, decide_eq_decide]
    omega
theorem containsAny_eq (s : ByteArray) (h : s.size ≤ 100) : strings_ContainsAny.f s ⟨#[9, 10, 13, 32]⟩ = some (s.data.toList.any gapU8) := by
 unfold strings_ContainsAny.f
 rw [if_pos ⟨by omega, by decide, by decide, by decide⟩]
 congr 1
 exact indexAny_any _ _
theorem contains_eq (s : ByteArray) : strings_Contains.f s ⟨#[10]⟩ = some (s.data.toList.any (· == 10)) := by
 unfold strings_Contains.f
 rw [if_pos (by decide)]
 congr 1
 have h := Lib.contains_iff_indexByte s.data.toList 10
 show decide (0 ≤ Lib.indexByte s.data.toList 10) = _
 rw [← h, List.contains_eq_any_beq]
 congr 1
 funext b
 rw [Bool.eq_iff_iff, beq_iff_eq, beq_iff_eq]
 exact eq_comm
abbrev NoT : ByteArray := ⟨#[]⟩
def inN (n : Int) : Prop := 0 ≤ n ∧ n ≤ 999999999
instance (n : Int) : Decidable (inN n) := inferInstanceAs (Decidable (_ ∧ _))
def kindW (a : Int) : ByteArray := if a = 1 then ⟨#[99, 104, 101, 99, 107, 32]⟩ else if a = 2 then ⟨#[116, 111, 112, 32]⟩ else if a = 3 then ⟨#[97, 100, 100, 32]⟩ else if a = 4 then ⟨#[100, 114, 111, 112, 32]⟩ else if a = 5 then ⟨#[115, 101, 116, 32]⟩ else ⟨#[116, 101, 120, 116, 32]⟩
def okT (w t : ByteArray) : Bool := t.toList.isEmpty && goodW w
def reqTextS (a : Int) (w : ByteArray) (b c d e : Int) (t : ByteArray) : ByteArray :=
 if reqQ a w e t = true then
  if a = 6 then (if (w.toList.isEmpty = true ∧ b = 0 ∧ c = 0 ∧ d = 0) ∧ t.data.toList.any (· == 10) = false then ((kindW 6 ++ numS e) ++ ⟨#[32]⟩) ++ t else NoT)
  else if okT w t = true then
   (if a = 2 then (if b = 0 ∧ inN c ∧ inN d then ((((kindW 2 ++ w) ++ ⟨#[32]⟩) ++ numS c) ++ ⟨#[32]⟩) ++ numS d else NoT)
   else if a = 3 ∨ a = 5 then (if (c = 0 ∧ d = 0) ∧ inN b then ((kindW a ++ w) ++ ⟨#[32]⟩) ++ numS b else NoT)
   else (if b = 0 ∧ c = 0 ∧ d = 0 then kindW a ++ w else NoT))
  else NoT
 else NoT
theorem reqTextS_14 {a : Int} {w : ByteArray} {b c d e : Int} {t : ByteArray} (ha : a = 1 ∨ a = 4) (hq : reqQ a w e t = true) : reqTextS a w b c d e t = if okT w t = true then (if b = 0 ∧ c = 0 ∧ d = 0 then kindW a ++ w else NoT) else NoT := by
 unfold reqTextS
 rw [hq, if_pos rfl, if_neg (show ¬ a = 6 by omega), if_neg (show ¬ a = 2 by omega), if_neg (show ¬ (a = 3 ∨ a = 5) by omega)]
theorem reqTextS_2 {w : ByteArray} {b c d e : Int} {t : ByteArray} (hq : reqQ 2 w e t = true) : reqTextS 2 w b c d e t = if okT w t = true then (if b = 0 ∧ inN c ∧ inN d then ((((kindW 2 ++ w) ++ ⟨#[32]⟩) ++ numS c) ++ ⟨#[32]⟩) ++ numS d else NoT) else NoT := by
 unfold reqTextS
 rw [hq, if_pos rfl, if_neg (show ¬ (2 : Int) = 6 by decide), if_pos (show (2 : Int) = 2 from rfl)]
theorem reqTextS_35 {a : Int} {w : ByteArray} {b c d e : Int} {t : ByteArray} (ha : a = 3 ∨ a = 5) (hq : reqQ a w e t = true) : reqTextS a w b c d e t = if okT w t = true then (if (c = 0 ∧ d = 0) ∧ inN b then ((kindW a ++ w) ++ ⟨#[32]⟩) ++ numS b else NoT) else NoT := by
 unfold reqTextS
 rw [hq, if_pos rfl, if_neg (show ¬ a = 6 by omega), if_neg (show ¬ a = 2 by omega), if_pos ha]
theorem empty_iff (l : List UInt8) : (l = []) ↔ l.isEmpty = true := by cases l <;> simp
theorem toList_size (s : ByteArray) : s.toList.isEmpty = decide (s.size = 0) := by
 rw [Lib.toList_data, Lib.size_eq]
 cases s.data.toList <;> simp
theorem kinds {a : Int} (h : 1 ≤ a ∧ a ≤ 6) : a = 1 ∨ a = 2 ∨ a = 3 ∨ a = 4 ∨ a = 5 ∨ a = 6 := by omega
theorem reqQ_facts {a : Int} {w : ByteArray} {e : Int} {t : ByteArray} (h : reqQ a w e t = true) : (1 ≤ a ∧ a ≤ 6) ∧ (0 ≤ e ∧ e ≤ 16) ∧ (a ≠ 6 → e = 0) ∧ w.size ≤ 100 ∧ t.size ≤ 2000 := by
 unfold reqQ at h
 (simp only [Bool.and_eq_true, decide_eq_true_eq] at h); (have := shape_range h.1)
 exact ⟨by omega, by omega, this.2.2.2.2.1, h.2.1, h.2.2⟩
theorem specReqText_ev (a : Int) (w : ByteArray) (b c d e : Int) (t : ByteArray) : Ev (fun k => spec_ReqText.f k a w b c d e t) (reqTextS a w b c d e t) := by
 unfold spec_ReqText.f
 have hno0 : Ev (fun k => spec_ReqText.j0 k true a w b c d e t) NoT := by
  refine Ev.step (fun k => rfl) ?_
  simp only [spec_ReqText.j0, if_true]
  exact Ev.now _
 have hno2 : Ev (fun k => spec_ReqText.j2 k true a w b c d e t) NoT := by
  refine Ev.step (fun k => rfl) ?_
  simp only [spec_ReqText.j2, if_true]
  exact Ev.now _
 simp only [specReqOk_q, num_eq, Option.bind_some]
 cases hq : reqQ a w e t with
 | false => simp only [Bool.false_eq_true, if_false]; exact evVal hno0 (by unfold reqTextS; rw [hq, if_neg (by decide)])
 | true =>
  (simp only [if_true]); (obtain ⟨ha, he, he0, hw, ht⟩ := reqQ_facts hq)
  by_cases hn : inN b ∧ inN c ∧ inN d
  ·obtain ⟨hb, hc, hd⟩ := hn
   (have nb := numS_size b hb.1 (by have := hb.2; omega)); (have nc := numS_size c hc.1 (by have := hc.2; omega)); (have nd := numS_size d hd.1 (by have := hd.2; omega)); (have ne := numS_size e he.1 (by omega)); (have evb := specNum_ev b hb.1 (by have := hb.2; omega)); (have evc := specNum_ev c hc.1 (by have := hc.2; omega)); (have evd := specNum_ev d hd.1 (by have := hd.2; omega)); (have eve := specNum_ev e he.1 (by omega)); (have s1 : (⟨#[32]⟩ : ByteArray).size = 1 := rfl); (simp only [decide_eq_true (show 0 ≤ b ∧ b ≤ 999999999 from hb), decide_eq_true (show 0 ≤ c ∧ c ≤ 999999999 from hc), decide_eq_true (show 0 ≤ d ∧ d ≤ 999999999 from hd), if_true, Bool.not_true])
   -- a word is asked for
   have htail : ∀ A, Ev (fun k => spec_ReqText.j2 k false a w b c d e t) A → Ev (fun k => if t.toList = ([] : List UInt8) then ((spec_l26Word.f k w).bind fun x => (if x = true then (spec_ReqText.j2 k false a w b c d e t) else (spec_ReqText.j2 k true a w b c d e t))) else (spec_ReqText.j2 k true a w b c d e t)) (if okT w t = true then A else NoT) := by
    intro A hA
    unfold okT
    by_cases h : t.toList = ([] : List UInt8)
    ·simp only [if_pos h, (empty_iff _).1 h, Bool.true_and]
     refine Ev.bind (specWord_ev w (by omega)) ?_
     cases goodW w with
     | true => simp only [if_true]; exact hA
     | false => simp only [Bool.false_eq_true, if_false]; exact hno2
    ·simp only [if_neg h, show t.toList.isEmpty = false by cases hh : t.toList.isEmpty with | false => rfl | true => exact absurd ((empty_iff _).2 hh) h, Bool.false_and, Bool.false_eq_true, if_false]
     exact hno2
   rcases kinds ha with rfl | rfl | rfl | rfl | rfl | rfl
   ·refine Ev.step (fun k => rfl) ?_
    simp only [spec_ReqText.j0, Bool.false_eq_true, if_false, show ¬ ((1 : Int) = 3) by decide, show ((1 : Int) == 2) = false by decide, show ((1 : Int) == 5) = false by decide]
    refine Ev.step (fun k => rfl) ?_
    simp only [spec_ReqText.j1, Bool.false_eq_true, if_false, show ¬ ((1 : Int) = 6) by decide]
    by_cases h : b = 0 ∧ c = 0 ∧ d = 0
    ·simp only [if_pos h.1, if_pos h.2.1, if_pos h.2.2]
     refine evVal (htail (kindW 1 ++ w) ?_) (by rw [reqTextS_14 (by decide) hq, if_pos h])
     refine Ev.step (fun k => rfl) ?_
     simp only [spec_ReqText.j2, Bool.false_eq_true, if_false, if_true]
     exact evIf (by omega) (Ev.now _)
    ·refine evVal (r := NoT) ?_ (by rw [reqTextS_14 (by decide) hq, if_neg h]; split <;> rfl)
     by_cases h1 : c = 0
     ·by_cases h2 : d = 0
      ·simp only [if_pos h1, if_pos h2, if_neg (show ¬ b = 0 from fun h3 => h ⟨h3, h1, h2⟩)]; exact hno2
      ·simp only [if_pos h1, if_neg h2]; exact hno2
     ·simp only [if_neg h1]; exact hno2
   ·refine Ev.step (fun k => rfl) ?_
    simp only [spec_ReqText.j0, Bool.false_eq_true, if_false, show ¬ ((2 : Int) = 3) by decide, show ((2 : Int) == 2) = true by decide, show ((2 : Int) == 5) = false by decide]
    refine Ev.step (fun k => rfl) ?_
    simp only [spec_ReqText.j1, Bool.false_eq_true, if_false, if_true, show ¬ ((2 : Int) = 6) by decide]
    by_cases h : b = 0
    ·simp only [if_pos h]
     refine evVal (htail (((((kindW 2 ++ w) ++ ⟨#[32]⟩) ++ numS c) ++ ⟨#[32]⟩) ++ numS d) ?_) (by rw [reqTextS_2 hq, if_pos (show b = 0 ∧ inN c ∧ inN d from ⟨h, hc, hd⟩)])
     refine Ev.step (fun k => rfl) ?_
     (have s4 : (⟨#[116, 111, 112, 32]⟩ : ByteArray).size = 4 := rfl); (simp only [spec_ReqText.j2, Bool.false_eq_true, if_false, if_true, show ¬ ((2 : Int) = 1) by decide])
     refine evIf (by omega) (evIf (by rw [ByteArray.size_append, s4]; omega) (Ev.bind evc ?_))
     refine evIf (by simp only [ByteArray.size_append, s4, s1]; omega) (evIf (by simp only [ByteArray.size_append, s4, s1]; omega) (Ev.bind evd ?_))
     exact evIf (by simp only [ByteArray.size_append, s4, s1]; omega) (Ev.now _)
    ·simp only [if_neg h]
     exact evVal hno2 (by rw [reqTextS_2 hq, if_neg (show ¬ (b = 0 ∧ inN c ∧ inN d) from fun hh => h hh.1)]; split <;> rfl)
   ·refine Ev.step (fun k => rfl) ?_
    simp only [spec_ReqText.j0, Bool.false_eq_true, if_false, if_true, show ((3 : Int) == 2) = false by decide]
    refine Ev.step (fun k => rfl) ?_
    simp only [spec_ReqText.j1, Bool.false_eq_true, if_false, if_true, show ¬ ((3 : Int) = 6) by decide]
    by_cases h : c = 0 ∧ d = 0
    ·simp only [if_pos h.1, if_pos h.2]
     refine evVal (htail (((kindW 3 ++ w) ++ ⟨#[32]⟩) ++ numS b) ?_) (by rw [reqTextS_35 (by decide) hq, if_pos (show (c = 0 ∧ d = 0) ∧ inN b from ⟨h, hb⟩)])
     refine Ev.step (fun k => rfl) ?_
     (have s4 : (⟨#[97, 100, 100, 32]⟩ : ByteArray).size = 4 := rfl); (simp only [spec_ReqText.j2, Bool.false_eq_true, if_false, if_true, show ¬ ((3 : Int) = 1) by decide, show ¬ ((3 : Int) = 2) by decide])
     refine evIf (by omega) (evIf (by rw [ByteArray.size_append, s4]; omega) (Ev.bind evb ?_))
     exact evIf (by simp only [ByteArray.size_append, s4, s1]; omega) (Ev.now _)
    ·refine evVal (r := NoT) ?_ (by rw [reqTextS_35 (by decide) hq, if_neg (show ¬ ((c = 0 ∧ d = 0) ∧ inN b) from fun hh => h hh.1)]; split <;> rfl)
     by_cases h1 : c = 0
     ·simp only [if_pos h1, if_neg (show ¬ d = 0 from fun h2 => h ⟨h1, h2⟩)]; exact hno2
     ·simp only [if_neg h1]; exact hno2
   ·refine Ev.step (fun k => rfl) ?_
    simp only [spec_ReqText.j0, Bool.false_eq_true, if_false, show ¬ ((4 : Int) = 3) by decide, show ((4 : Int) == 2) = false by decide, show ((4 : Int) == 5) = false by decide]
    refine Ev.step (fun k => rfl) ?_
    simp only [spec_ReqText.j1, Bool.false_eq_true, if_false, show ¬ ((4 : Int) = 6) by decide]
    by_cases h : b = 0 ∧ c = 0 ∧ d = 0
    ·simp only [if_pos h.1, if_pos h.2.1, if_pos h.2.2]
     refine evVal (htail (kindW 4 ++ w) ?_) (by rw [reqTextS_14 (by decide) hq, if_pos h])
     refine Ev.step (fun k => rfl) ?_
     simp only [spec_ReqText.j2, Bool.false_eq_true, if_false, if_true, show ¬ ((4 : Int) = 1) by decide, show ¬ ((4 : Int) = 2) by decide, show ¬ ((4 : Int) = 3) by decide]
     exact evIf (by omega) (Ev.now _)
    ·refine evVal (r := NoT) ?_ (by rw [reqTextS_14 (by decide) hq, if_neg h]; split <;> rfl)
     by_cases h1 : c = 0
     ·by_cases h2 : d = 0
      ·simp only [if_pos h1, if_pos h2, if_neg (show ¬ b = 0 from fun h3 => h ⟨h3, h1, h2⟩)]; exact hno2
      ·simp only [if_pos h1, if_neg h2]; exact hno2
     ·simp only [if_neg h1]; exact hno2
   ·refine Ev.step (fun k => rfl) ?_
    simp only [spec_ReqText.j0, Bool.false_eq_true, if_false, show ¬ ((5 : Int) = 3) by decide, show ((5 : Int) == 2) = false by decide, show ((5 : Int) == 5) = true by decide]
    refine Ev.step (fun k => rfl) ?_
    simp only [spec_ReqText.j1, Bool.false_eq_true, if_false, if_true, show ¬ ((5 : Int) = 6) by decide]
    by_cases h : c = 0 ∧ d = 0
    ·simp only [if_pos h.1, if_pos h.2]
     refine evVal (htail (((kindW 5 ++ w) ++ ⟨#[32]⟩) ++ numS b) ?_) (by rw [reqTextS_35 (by decide) hq, if_pos (show (c = 0 ∧ d = 0) ∧ inN b from ⟨h, hb⟩)])
     refine Ev.step (fun k => rfl) ?_
     (have s4 : (⟨#[115, 101, 116, 32]⟩ : ByteArray).size = 4 := rfl); (simp only [spec_ReqText.j2, Bool.false_eq_true, if_false, if_true, show ¬ ((5 : Int) = 1) by decide, show ¬ ((5 : Int) = 2) by decide, show ¬ ((5 : Int) = 3) by decide, show ¬ ((5 : Int) = 4) by decide])
     refine evIf (by omega) (evIf (by rw [ByteArray.size_append, s4]; omega) (Ev.bind evb ?_))
     exact evIf (by simp only [ByteArray.size_append, s4, s1]; omega) (Ev.now _)
    ·refine evVal (r := NoT) ?_ (by rw [reqTextS_35 (by decide) hq, if_neg (show ¬ ((c = 0 ∧ d = 0) ∧ inN b) from fun hh => h hh.1)]; split <;> rfl)
     by_cases h1 : c = 0
     ·simp only [if_pos h1, if_neg (show ¬ d = 0 from fun h2 => h ⟨h1, h2⟩)]; exact hno2
     ·simp only [if_neg h1]; exact hno2
   ·refine Ev.step (fun k => rfl) ?_
    simp only [spec_ReqText.j0, Bool.false_eq_true, if_false, show ¬ ((6 : Int) = 3) by decide, show ((6 : Int) == 2) = false by decide, show ((6 : Int) == 5) = false by decide]
    refine Ev.step (fun k => rfl) ?_
    simp only [spec_ReqText.j1, Bool.false_eq_true, if_false, if_true]
    by_cases h : b = 0 ∧ c = 0 ∧ d = 0
    ·simp only [if_pos h.1, if_pos h.2.1, if_pos h.2.2]
     by_cases hwe : w.toList.isEmpty = true
     ·have e1 : (w.toList != ([] : List UInt8)) = false := by rw [(empty_iff _).2 hwe]; rfl
      simp only [e1]
      refine Ev.step (fun k => rfl) ?_
      (simp only [spec_ReqText.j2, Bool.false_eq_true, if_false, show ¬ ((6 : Int) = 1) by decide, show ¬ ((6 : Int) = 2) by decide, show ¬ ((6 : Int) = 3) by decide, show ¬ ((6 : Int) = 4) by decide, show ¬ ((6 : Int) = 5) by decide]); (have s5 : (⟨#[116, 101, 120, 116, 32]⟩ : ByteArray).size = 5 := rfl)
      refine evVal (search_ev t.size (fun k i => spec_ReqText.l0 k i 6 w b c d e t) (fun i => !(t.data.toList.getD i 0 == 10)) NoT (((kindW 6 ++ numS e) ++ ⟨#[32]⟩) ++ t) ?_ ?_ ?_) ?_
      ·intro i hi hp r hr
       (rw [Bool.not_eq_true', beq_eq_false_iff_ne] at hp); (have hb10 : ¬ ((t.data.toList.getD i 0).toNat : Int) = 10 := fun hh => hp (UInt8.toNat_inj.mp (by have e : (10 : UInt8).toNat = 10 := rfl; omega)))
       refine Ev.step (fun k => ?_) hr
       (simp only [spec_ReqText.l0, bt_data t hi]); (rw [if_pos (by omega), if_pos (by omega), if_neg hb10, wrap_nat_succ (by omega)])
      ·intro i hi hp
       rw [Bool.not_eq_false', beq_iff_eq] at hp
       refine Ev.step (f := fun _ => some _) (fun k => ?_) (Ev.now _)
       (simp only [spec_ReqText.l0, bt_data t hi, hp]); (rw [if_pos (by omega), if_pos (by omega), if_pos (show ((UInt8.toNat 10 : Nat) : Int) = 10 from rfl)])
      ·refine Ev.step (fun k => rfl) ?_
       simp only [spec_ReqText.l0, if_neg (show ¬ (t.size : Int) < (t.size : Int) by omega)]
       refine Ev.bind eve ?_
       exact evIf (by omega) (evIf (by rw [ByteArray.size_append, s5]; omega) (evIf (by simp only [ByteArray.size_append, s5, s1]; omega) (Ev.now _)))
      ·have ha := @any_false t.data.toList (· == 10)
       rw [data_size] at ha
       unfold reqTextS
       rw [hq, if_pos rfl, if_pos rfl]
       cases hA : (List.range t.size).all fun i => !(t.data.toList.getD i 0 == 10) with
       | true => rw [if_pos rfl, if_pos ⟨⟨hwe, h⟩, ha.2 hA⟩]
       | false => rw [if_neg (by decide), if_neg (fun hh => by rw [ha.1 hh.2] at hA; cases hA)]
     ·have e1 : (w.toList != ([] : List UInt8)) = true := by rw [bne_iff_ne]; exact fun hh => hwe ((empty_iff _).1 hh)
      simp only [e1]
      exact evVal hno2 (by unfold reqTextS; rw [hq, if_pos rfl, if_pos rfl, if_neg (fun hh => hwe hh.1.1)])
    ·refine evVal (r := NoT) ?_ (by unfold reqTextS; rw [hq, if_pos rfl, if_pos rfl, if_neg (fun hh => h hh.1.2)])
     by_cases h1 : c = 0
     ·by_cases h2 : d = 0
      ·simp only [if_pos h1, if_pos h2, if_neg (show ¬ b = 0 from fun h3 => h ⟨h3, h1, h2⟩)]; exact hno2
      ·simp only [if_pos h1, if_neg h2]; exact hno2
     ·simp only [if_neg h1]; exact hno2
  ·have hz : inN 0 := by decide
   refine evVal (r := NoT) ?_ ?_
   ·by_cases h1 : 0 ≤ b ∧ b ≤ 999999999
    ·by_cases h2 : 0 ≤ c ∧ c ≤ 999999999
     ·simp only [decide_eq_true h1, decide_eq_true h2, if_true, decide_eq_false (show ¬ (0 ≤ d ∧ d ≤ 999999999) from fun h3 => hn ⟨h1, h2, h3⟩), Bool.not_false]; exact hno0
     ·simp only [decide_eq_true h1, decide_eq_false h2, if_true, Bool.false_eq_true, if_false]; exact hno0
    ·simp only [decide_eq_false h1, Bool.false_eq_true, if_false]; exact hno0
   ·unfold reqTextS
    rw [hq, if_pos rfl]
    by_cases h6 : a = 6
    ·rw [if_pos h6, if_neg (fun hh => hn (by rw [hh.1.2.1, hh.1.2.2.1, hh.1.2.2.2]; exact ⟨hz, hz, hz⟩))]
    ·rw [if_neg h6]
     split
     ·by_cases h2 : a = 2
      ·rw [if_pos h2, if_neg (fun hh => hn ⟨by rw [hh.1]; exact hz, hh.2⟩)]
      ·rw [if_neg h2]
       by_cases h35 : a = 3 ∨ a = 5
       ·rw [if_pos h35, if_neg (fun hh => hn ⟨hh.2, by rw [hh.1.1]; exact hz, by rw [hh.1.2]; exact hz⟩)]
       ·rw [if_neg h35, if_neg (fun hh => hn (by rw [hh.1, hh.2.1, hh.2.2]; exact ⟨hz, hz, hz⟩))]
     ·rfl
theorem l0_end (x : ByteArray) (L : List Int) : Ev (fun k => impl_reqText.l0 k x L (L.length : Int) (L.length : Int)) x := by
 refine Ev.step (f := fun _ => some x) (fun k => ?_) (Ev.now _)
 (simp only [impl_reqText.l0]); (rw [if_neg (by omega)])
theorem l0_step (x r : ByteArray) (L : List Int) (i : Nat) (hi : i < L.length) (hl : L.length ≤ 100) (hx : x.size ≤ 100000)
  (h : inN (rd L (i : Int)) → Ev (fun k => impl_reqText.l0 k (x ++ (⟨#[32]⟩ ++ numS (rd L (i : Int)))) L (L.length : Int) ((i + 1 : Nat) : Int)) r) :
  Ev (fun k => impl_reqText.l0 k x L (L.length : Int) (i : Int)) (if inN (rd L (i : Int)) then r else NoT) := by
 have s1 : (⟨#[32]⟩ : ByteArray).size = 1 := rfl
 by_cases hn : inN (rd L (i : Int))
 ·rw [if_pos hn]
  have ns := numS_size _ hn.1 (by have := hn.2; omega)
  refine Ev.step (fun k => ?_) (h hn)
  (simp only [impl_reqText.l0, within_eq, decide_eq_true (show 0 ≤ rd L (i : Int) ∧ rd L (i : Int) ≤ 999999999 from hn), Option.bind_some, if_true, itoa_eq _ hn.1 (show rd L (i : Int) ≤ 100000000000000 by have := hn.2; omega)]); (rw [if_pos (by omega), if_pos (by omega), if_pos (by omega), if_pos (by omega), if_pos (by rw [ByteArray.size_append, s1]; omega), wrap_nat_succ (by omega)])
 ·rw [if_neg hn]
  refine Ev.step (f := fun _ => some NoT) (fun k => ?_) (Ev.now _)
  (simp only [impl_reqText.l0, within_eq, decide_eq_false (show ¬ (0 ≤ rd L (i : Int) ∧ rd L (i : Int) ≤ 999999999) from hn), Option.bind_some, Bool.false_eq_true, if_false]); (rw [if_pos (by omega), if_pos (by omega), if_pos (by omega)])
theorem j1_ev (x r : ByteArray) (L : List Int) (z : Bool) (a : Int) (w : ByteArray) (b c d e : Int) (t : ByteArray) (hx : x.size ≤ 1000) (hw : w.size ≤ 100)
  (h : Ev (fun k => impl_reqText.l0 k ((x ++ ⟨#[32]⟩) ++ w) L (L.length : Int) 0) r) :
  Ev (fun k => impl_reqText.j1 k x L z a w b c d e t) (if z = true then NoT else r) := by
 have s1 : (⟨#[32]⟩ : ByteArray).size = 1 := rfl
 refine Ev.step (fun k => rfl) ?_
 simp only [impl_reqText.j1]
 cases z with
 | true => simp only [if_true]; exact Ev.now _
 | false =>
  simp only [Bool.false_eq_true, if_false]
  exact evIf (by omega) (evIf (by rw [ByteArray.size_append, s1]; omega) h)
theorem j0_ev (x r : ByteArray) (L : List Int) (a : Int) (w : ByteArray) (b c d e : Int) (t : ByteArray) (y0 : Int) (y1 : ByteArray) (y2 y3 y4 y5 : Int) (y6 : ByteArray) (hx : x.size ≤ 1000) (hw : w.size ≤ 100)
  (h : Ev (fun k => impl_reqText.l0 k ((x ++ ⟨#[32]⟩) ++ w) L (L.length : Int) 0) r) :
  Ev (fun k => impl_reqText.j0 k x L a w b c d e t y0 y1 y2 y3 y4 y5 y6) (if (!(y0 == 0) || (!(y1.toList.isEmpty) || (!(y2 == 0) || (!(y3 == 0) || (!(y4 == 0) || (!(y5 == 0) || !(y6.toList.isEmpty))))))) = true then NoT else if goodW w = true then r else NoT) := by
 refine Ev.step (fun k => rfl) ?_
 simp only [impl_reqText.j0, beq_nil_u8]
 generalize (!(y0 == 0) || (!(y1.toList.isEmpty) || (!(y2 == 0) || (!(y3 == 0) || (!(y4 == 0) || (!(y5 == 0) || !(y6.toList.isEmpty))))))) = T
 cases T with
 | true => simp only [if_true]; exact j1_ev x r L true a w b c d e t hx hw h
 | false =>
  simp only [Bool.false_eq_true, if_false]
  by_cases hz : w.toList = ([] : List UInt8)
  ·have : goodW w = false := by
    (have := toList_size w); (rw [(empty_iff _).1 hz] at this); (have h0 := of_decide_eq_true this.symm)
    unfold goodW
    rw [decide_eq_false (by omega)]; rfl
   simp only [if_pos hz, this, Bool.false_eq_true, if_false]
   exact j1_ev x r L true a w b c d e t hx hw h
  ·have : goodW w = !(w.data.toList.any gapU8) := by
    (have h1 := toList_size w); (have h2 : w.toList.isEmpty = false := by cases hh : w.toList.isEmpty with | false => rfl | true => exact absurd ((empty_iff _).2 hh) hz); (rw [h2] at h1); (have h0 := of_decide_eq_false h1.symm)
    unfold goodW
    rw [decide_eq_true (by omega)]; rfl
   simp only [if_neg hz, this]
   refine Ev.bind (evConst (containsAny_eq w (by omega))) ?_
   refine evVal (j1_ev x r L (w.data.toList.any gapU8) a w b c d e t hx hw h) ?_
   cases w.data.toList.any gapU8 <;> rfl
def kindN (a : Int) : ByteArray := if a = 1 then ⟨#[99, 104, 101, 99, 107]⟩ else if a = 2 then ⟨#[116, 111, 112]⟩ else if a = 3 then ⟨#[97, 100, 100]⟩ else if a = 4 then ⟨#[100, 114, 111, 112]⟩ else if a = 5 then ⟨#[115, 101, 116]⟩ else ⟨#[116, 101, 120, 116]⟩
theorem kindN_at {a : Int} (h : 1 ≤ a ∧ a ≤ 6) : reqWordAt.f a = some (kindN a) := by
 rcases kinds h with rfl | rfl | rfl | rfl | rfl | rfl <;> rfl
theorem kindN_w {a : Int} (h : 1 ≤ a ∧ a ≤ 6) : kindN a ++ ⟨#[32]⟩ = kindW a := by
 rcases kinds h with rfl | rfl | rfl | rfl | rfl | rfl <;> rfl
theorem kindN_size {a : Int} (h : 1 ≤ a ∧ a ≤ 6) : (kindN a).size ≤ 5 := by
 rcases kinds h with rfl | rfl | rfl | rfl | rfl | rfl <;> decide
theorem implReqText_ev (a : Int) (w : ByteArray) (b c d e : Int) (t : ByteArray) : Ev (fun k => impl_ReqText.f k a w b c d e t) (reqTextS a w b c d e t) := by
 unfold impl_ReqText.f
 refine Ev.bind (a := reqTextS a w b c d e t) ?_ (Ev.now _)
 unfold impl_reqText.f
 simp only [isReq_q, Option.bind_some]
 cases hq : reqQ a w e t with
 | false => simp only [Bool.false_eq_true, if_false]; exact evVal (Ev.now _) (by unfold reqTextS; rw [hq, if_neg (by decide)])
 | true =>
  (simp only [if_true]); (obtain ⟨ha, he, he0, hw, ht⟩ := reqQ_facts hq)
  refine Ev.bind (evConst (kindN_at ha)) ?_
  (have hk := kindN_size ha); (have s1 : (⟨#[32]⟩ : ByteArray).size = 1 := rfl)
  by_cases h6 : a = 6
  ·subst h6
   simp only [if_true, beq_nil_u8]
   by_cases hz : w.toList.isEmpty = true ∧ b = 0 ∧ c = 0 ∧ d = 0
   ·obtain ⟨z0, rfl, rfl, rfl⟩ := hz
    simp only [z0, show ((0 : Int) == 0) = true by decide, Bool.not_true, Bool.or_false, Bool.false_eq_true, if_false]
    refine Ev.bind (evConst (contains_eq t)) ?_
    cases hc : t.data.toList.any (· == 10) with
    | true => simp only [if_true]; exact evVal (Ev.now _) (by unfold reqTextS; rw [hq, if_pos rfl, if_pos rfl, if_neg (fun hh => by rw [hc] at hh; cases hh.2)])
    | false =>
     (simp only [Bool.false_eq_true, if_false]); (have ns := numS_size e he.1 (by omega))
     refine evIf (by omega) (Ev.bind (evConst (itoa_eq e he.1 (by omega))) ?_)
     refine evIf (by simp only [ByteArray.size_append, s1]; omega) (evIf (by simp only [ByteArray.size_append, s1]; omega) (evIf (by simp only [ByteArray.size_append, s1]; omega) ?_))
     refine evVal (Ev.now _) ?_
     unfold reqTextS
     rw [hq, if_pos rfl, if_pos rfl, if_pos ⟨⟨z0, rfl, rfl, rfl⟩, hc⟩, kindN_w ha]
   ·have : (!(w.toList.isEmpty) || (!(b == 0) || (!(c == 0) || !(d == 0)))) = true := by
     cases hw : w.toList.isEmpty with
     | false => rfl
     | true =>
      simp only [Bool.not_true, Bool.false_or, Bool.or_eq_true, Bool.not_eq_true', beq_eq_false_iff_ne]
      by_cases h1 : b = 0
      ·by_cases h2 : c = 0
       ·exact Or.inr (Or.inr (fun h3 => hz ⟨hw, h1, h2, h3⟩))
       ·exact Or.inr (Or.inl h2)
      ·exact Or.inl h1
    simp only [this, if_true]
    exact evVal (Ev.now _) (by unfold reqTextS; rw [hq, if_pos rfl, if_pos rfl, if_neg (fun hh => hz hh.1)])
  ·simp only [if_neg h6]
   (have hee := he0 h6); (have hK : ((kindN a ++ ⟨#[32]⟩) ++ w).size ≤ 1000 := by simp only [ByteArray.size_append, s1]; omega)
   rcases kinds ha with rfl | rfl | rfl | rfl | rfl | rfl
   ·simp only [if_neg (show ¬ (1 : Int) = 2 by decide), if_neg (show ¬ (1 : Int) = 3 by decide), if_neg (show ¬ (1 : Int) = 5 by decide)]
    refine evVal (j0_ev _ _ [] 1 w b c d e t _ _ _ _ _ _ _ (by omega) hw (l0_end _ [])) ?_
    rw [reqTextS_14 (by decide) hq, kindN_w ha, hee]
    unfold okT
    by_cases h1 : b = 0 <;> by_cases h2 : c = 0 <;> by_cases h3 : d = 0 <;> cases t.toList.isEmpty <;> cases goodW w <;> simp [h1, h2, h3, empty_toList_u8]
   ·simp only [if_true]
    refine evVal (j0_ev _ _ [c, d] 2 w b c d e t _ _ _ _ _ _ _ (by omega) hw (l0_step _ _ [c, d] 0 (by simp) (by simp) (by omega) (fun hc => l0_step _ _ [c, d] 1 (by simp) (by simp) (by have hc1 : inN c := hc; have := numS_size c hc1.1 (by have := hc1.2; omega); simp only [ByteArray.size_append, s1] at hK ⊢; show _ + (1 + (numS c).size) ≤ 100000; omega) (fun _ => l0_end _ [c, d])))) ?_
    rw [reqTextS_2 hq, kindN_w ha, hee]
    unfold okT
    (have e0 : rd [c, d] ((0 : Nat) : Int) = c := rfl); (have e1 : rd [c, d] ((1 : Nat) : Int) = d := rfl); (simp only [e0, e1])
    by_cases h1 : b = 0 <;> by_cases h2 : inN c <;> by_cases h3 : inN d <;> cases t.toList.isEmpty <;> cases goodW w <;> simp [h1, h2, h3, empty_toList_u8, ByteArray.append_assoc]
   ·simp only [if_neg (show ¬ (3 : Int) = 2 by decide), if_true]
    refine evVal (j0_ev _ _ [b] 3 w b c d e t _ _ _ _ _ _ _ (by omega) hw (l0_step _ _ [b] 0 (by simp) (by simp) (by omega) (fun _ => l0_end _ [b]))) ?_
    rw [reqTextS_35 (by decide) hq, kindN_w ha, hee]
    unfold okT
    (have e0 : rd [b] ((0 : Nat) : Int) = b := rfl); (simp only [e0])
    by_cases h1 : inN b <;> by_cases h2 : c = 0 <;> by_cases h3 : d = 0 <;> cases t.toList.isEmpty <;> cases goodW w <;> simp [h1, h2, h3, empty_toList_u8, ByteArray.append_assoc]
   ·simp only [if_neg (show ¬ (4 : Int) = 2 by decide), if_neg (show ¬ (4 : Int) = 3 by decide), if_neg (show ¬ (4 : Int) = 5 by decide)]
    refine evVal (j0_ev _ _ [] 4 w b c d e t _ _ _ _ _ _ _ (by omega) hw (l0_end _ [])) ?_
    rw [reqTextS_14 (by decide) hq, kindN_w ha, hee]
    unfold okT
    by_cases h1 : b = 0 <;> by_cases h2 : c = 0 <;> by_cases h3 : d = 0 <;> cases t.toList.isEmpty <;> cases goodW w <;> simp [h1, h2, h3, empty_toList_u8]
   ·simp only [if_neg (show ¬ (5 : Int) = 2 by decide), if_neg (show ¬ (5 : Int) = 3 by decide), if_true]
    refine evVal (j0_ev _ _ [b] 5 w b c d e t _ _ _ _ _ _ _ (by omega) hw (l0_step _ _ [b] 0 (by simp) (by simp) (by omega) (fun _ => l0_end _ [b]))) ?_
    rw [reqTextS_35 (by decide) hq, kindN_w ha, hee]
    unfold okT
    (have e0 : rd [b] ((0 : Nat) : Int) = b := rfl); (simp only [e0])
    by_cases h1 : inN b <;> by_cases h2 : c = 0 <;> by_cases h3 : d = 0 <;> cases t.toList.isEmpty <;> cases goodW w <;> simp [h1, h2, h3, empty_toList_u8, ByteArray.append_assoc]
   ·exact absurd rfl h6
end Go.Proofs.YtbpffdhkeinmcaaDoor.L
namespace Go.Proofs.YtbpffdhkeinmcaaDoor.Pure
open Go.RowKit Go.Proofs.YtbpffdhkeinmcaaDoor.L Go.Proofs.YtbpffdhkeinmcaaDoor.QG Go.Proofs.YtbpffdhkeinmcaaDoorW.PrintWords Go.Proofs.YtbpffdhkeinmcaaDoorW.PrintLast Go.Proofs.YtbpffdhkeinmcaaDoorW.PrintMore
set_option linter.unusedVariables false
set_option linter.unusedSimpArgs false
theorem FnExactReqText : laws_FnExactReqText.Pure := by
 intro y hw
 apply Ev.rounds
 unfold laws_FnExactReqText.f laws_szReq.f
 refine Ev.bind (a := if wrap64 (1048576 - (y.f1.size : Int)) < 0 then -1 else if wrap64 (wrap64 (1048576 - (y.f1.size : Int)) - (y.f6.size : Int)) < 0 then -1 else wrap64 (wrap64 (1048576 - (y.f1.size : Int)) - (y.f6.size : Int))) (evConst ?_) ?_
 ·split
  ·rfl
  ·split <;> rfl
 ·generalize (if wrap64 (1048576 - (y.f1.size : Int)) < 0 then -1 else if wrap64 (wrap64 (1048576 - (y.f1.size : Int)) - (y.f6.size : Int)) < 0 then -1 else wrap64 (wrap64 (1048576 - (y.f1.size : Int)) - (y.f6.size : Int))) = z
  by_cases hz : z < 0
  ·simp only [if_pos hz]; exact Ev.now _
  ·simp only [if_neg hz]
   unfold laws_toReq.f
   refine Ev.bind (evConst rfl) (Ev.bind (specReqText_ev _ _ _ _ _ _ _) (Ev.bind (evConst rfl) (Ev.bind (implReqText_ev _ _ _ _ _ _ _) ?_)))
   simp only [if_true]
   exact Ev.now _
end Go.Proofs.YtbpffdhkeinmcaaDoor.Pure
