/- The law FnExactReplyLine: for every input that can be read the call returns true, and each argument reads afterwards as it read before; the library's tables stand as the program's text lays them (the card). Out of the walk of the Go code and the statement over numbers, strings and lists. No condition. -/
import Derived.Test.YtbpffdhkeinmcaaDoorZFnExactReplyLinex12
import Derived.Test.YtbpffdhkeinmcaaDoorZFnExactReplyLinex13
import Derived.Test.YtbpffdhkeinmcaaDoorRows
import Derived.Test.YtbpffdhkeinmcaaDoorCards
import Derived.Test.YtbpffdhkeinmcaaDoorTie
import Derived.WalkKit
import Derived.ProofKit
import Derived.OpenShut
import Derived.ShutString
import Derived.ChangeOld
import Derived.Below
import Derived.SizedLaws
import Derived.Deep.DeepHandedRow
import Derived.Lib.LaidTab
import Derived.SevenTiedAt
namespace Go.Proofs.YtbpffdhkeinmcaaDoor.fnExactReplyLine
open Go.ChangeShapes Go.WideShapes Go.ChangeAt Go.RowKit Go.Proofs.YtbpffdhkeinmcaaDoor.QD Go.Proofs.YtbpffdhkeinmcaaDoorW.PrintWords
open Go.ChangeMaps (open_string shut_string)
set_option linter.unusedVariables false
theorem own : ownKnob Tryd.prog.godebug = none := by kernel_rfl
theorem laidOut : laidOutB Tryd.prog = true := by kernel_rfl
theorem tabIs_of_laid {P : Program} {W : World} {name : String} {k : IntKind} {zs : List Int} {g : Nat} {t e : TypeId} {n : Nat}
  (hg : P.globalNamed name = some g) (hty : (P.globals[g]?).map (·.type) = some t) (ht : P.underlying t = some (.array n e)) (he : P.underlying e = some (.int k)) (hce : P.cellsOf e = 1) (hct : P.cellsOf t = n) :
  ∀ (l : List (String × DataW Unit)) (ps : List MemPlace), DataW.LaidVars P W l ps → (name, Lib.tabData k zs) ∈ l → Lib.TabIs P W name k zs := by
 intro l
 induction l with
 | nil => intro ps _ hm; cases hm
 | cons x xs ih =>
  intro ps h hm
  (obtain ⟨nm, d⟩ := x); (obtain ⟨g', t', cs, fuel, p, q, hg', ht', hvar, hd, hr, _⟩ := h)
  rcases List.mem_cons.1 hm with h1 | h1
  ·obtain ⟨rfl, rfl⟩ := Prod.mk.inj h1
   (obtain rfl := Option.some.inj (hg.symm.trans hg')); (obtain rfl := Option.some.inj (hty.symm.trans ht'))
   unfold Lib.TabIs
   rw [hvar, ← Lib.cells_of_tab ht he hce hct hd]
  ·exact ih q hr h1
theorem table {W : World} (h : laidMetH Tryd.prog Rows.fnExactReplyLineRow.laid W) : TabG W := by
 (have h2 : laidMet Tryd.prog Rows.fnExactReplyLineRow.laid W := h); (obtain ⟨ps, hL, _⟩ := id h2)
 exact ⟨tabIs_of_laid (g := 4) (t := 185) (e := 163) (n := 20) (by kernel_rfl) (by kernel_rfl) (by kernel_rfl) (by kernel_rfl) (by kernel_rfl) (by kernel_rfl) _ ps hL (List.Mem.tail _ (List.Mem.tail _ (List.Mem.head _)))⟩
set_option maxRecDepth 100000 in
theorem contract (H : Type) (enc : TypeId × Value → H) (W : World) (base : Nat) (args : Array Value) (ds gs : List (DataW H)) (before : List MemPlace)
  (hval0 : ∀ (j : Nat) t v, Tryd.f5.params[j]? = some t → args[j]? = some v → Value.okWide Tryd.prog W .any base t v)
  (hW : DataW.Whole enc Tryd.prog Tryd.f5.params.toList Rows.fnExactReplyLineSpec.vars false W args.toList ds gs before) (hL : laidMetH Tryd.prog Rows.fnExactReplyLineRow.laid W) :
  Calls Tryd.prog 5 args W fun e W' => ∃ v, e = .returned v ∧ Rows.fnExactReplyLineSpec.post enc Tryd.prog Tryd.f5 false true false false W args v W' := by
 (have hval : ∀ (j : Nat) t v, Tryd.f5.params[j]? = some t → args[j]? = some v → Value.okWide Tryd.prog W .any base t v := hval0); (have hW' := hW); (obtain ⟨p, q, hA0, hV, rfl, hfz, hnd⟩ := hW); (have hA : DataW.TrodAll enc Tryd.prog W 0 (fun _ => true) true Tryd.f5.params.toList args.toList ds p := hA0); (rw [Tryd.params5] at hA hval); (obtain ⟨v0, vs0, d0, ds0, p0, q0, hargs, rfl, rfl, h0, r0⟩ := trodAll_cons hA); (obtain ⟨v1, vs1, d1, ds1, p1, q1, rfl, rfl, rfl, h1, r1⟩ := trodAll_cons r0); (obtain ⟨v2, vs2, d2, ds2, p2, q2, rfl, rfl, rfl, h2, r2⟩ := trodAll_cons r1); (obtain ⟨rfl, rfl, rfl⟩ := trodAll_nil r2); (obtain rfl : args = #[v0, v1, v2] := by cases args; simp_all); (obtain ⟨rfl, rfl⟩ := trodVars_none hV); (obtain ⟨y0, rfl, rfl, rfl, w0⟩ := open_int Tryd.underlying3 (hval 0 3 v0 rfl rfl) h0); (obtain ⟨y1, rfl, rfl, rfl, w1⟩ := open_int Tryd.underlying3 (hval 1 3 v1 rfl rfl) h1); (have k2 := h2); (have lt2 : ∀ x ∈ p2, x.block < W.heap.size := by obtain ⟨m, hm⟩ := k2; exact DataW.trod_lt m _ _ _ hm); (obtain ⟨cs2, rfl⟩ := Open.okWide_agg Tryd.underlying38 (hval 2 38 v2 rfl rfl)); (obtain ⟨y2, K2, w2⟩ := Open.open_arg opens38 h2); (obtain ⟨_, _, hcs2, rfl, ⟨_, _, rfl, rfl, ⟨_, _, rfl, rfl, ⟨_, _, rfl, ⟨A2_0, C2_0, rfl, hl2_0, hC2_0⟩, ⟨A2_1, C2_1, rfl, hl2_1, hC2_1⟩⟩⟩⟩⟩ := K2); (obtain rfl : cs2 = #[.int .i64 y2.f0, .bool y2.f1, .int .i64 y2.f2, .slice A2_0 y2.f3.length C2_0, .slice A2_1 y2.f4.length C2_1] := Array.ext' hcs2); (obtain ⟨kk, hk⟩ := Pure.FnExactReplyLine y0 y1 y2 w0 w1 w2); clear hA0 hval0
 refine (laws_FnExactReplyLine.calls kk y0 y1 y2.f0 y2.f1 y2.f2 A2_0 C2_0 y2.f3 A2_1 C2_1 y2.f4 true W hC2_0 hl2_0 hC2_1 hl2_1 hk (table hL)).mono fun e W' ⟨he, bel0⟩ => ?_
 (have bel : Below W.heap.size W W' := bel0); (subst he)
 exact ⟨_, rfl, _, _, _, [], _, [], hW', trodAll_mk1 (shut_bool Tryd.underlying4 _), (trodAll_cons_mk (shut_int Tryd.underlying3 w0) (trodAll_cons_mk (shut_int Tryd.underlying3 w1) (trodAll_cons_mk (Below.trod laidOut (by kernel_rfl) (of_decide_eq_true (by kernel_rfl)) k2 bel lt2) trodAll_mk0))), rfl, bel.frame _, fun h => by cases h⟩
def setTab (cs : Array Value) : Obj → Obj
 | .cells _ t frozen => .cells cs t frozen
 | o => o
noncomputable def laidWorld (os : Os) : World :=
 { World.holding Tryd.prog os ⟨#[], #[], []⟩ with heap := ((((World.holding Tryd.prog os ⟨#[], #[], []⟩).heap.modify 4 (setTab ((Lib.pow10Tab.map fun z => Value.int .u64 z).toArray))).modify 7 (setTab ((([0, 1, 28, 2, 29, 14, 24, 3, 30, 22, 20, 15, 25, 17, 4, 8, 31, 27, 13, 23, 21, 19, 16, 7, 26, 12, 18, 6, 11, 5, 10, 9] : List Int).map fun z => Value.int .u8 z).toArray))).modify 8 (setTab ((([0, 1, 56, 2, 57, 49, 28, 3, 61, 58, 42, 50, 38, 29, 17, 4, 62, 47, 59, 36, 45, 43, 51, 22, 53, 39, 33, 30, 24, 18, 12, 5, 63, 55, 48, 27, 60, 41, 37, 16, 46, 35, 44, 21, 52, 32, 23, 11, 54, 26, 40, 15, 34, 20, 31, 10, 25, 14, 19, 9, 13, 8, 7, 6] : List Int).map fun z => Value.int .u8 z).toArray))) }
theorem laid_met (os : Os) : laidMet Tryd.prog Rows.fnExactReplyLineRow.laid ((laidWorld os).forCall (fun _ _ => 0) ⟨#[], #[.int .i64 0, .int .i64 0, .agg #[.int .i64 0, .bool false, .int .i64 0, .slice none 0 0, .slice none 0 0]], []⟩).memory :=
 laidMet_of_run' 8 (by kernel_rfl) (by kernel_rfl)
theorem reads (os : Os) {H : Type} (enc : TypeId × Value → H) : ∃ places, DataW.whole enc Tryd.prog ((laidWorld os).forCall (fun _ _ => 0) ⟨#[], #[.int .i64 0, .int .i64 0, .agg #[.int .i64 0, .bool false, .int .i64 0, .slice none 0 0, .slice none 0 0]], []⟩).memory Tryd.f5.params.toList Rows.fnExactReplyLineSpec.vars false (#[.int .i64 0, .int .i64 0, .agg #[.int .i64 0, .bool false, .int .i64 0, .slice none 0 0, .slice none 0 0]] : Array Value).toList 8 = some ([.lit (.int .i64 0), .lit (.int .i64 0), .agg [.lit (.int .i64 0), .lit (.bool false), .lit (.int .i64 0), .nil, .nil]], [], places) :=
 ⟨[], by kernel_rfl⟩
set_option maxRecDepth 100000 in
theorem lifted (os : Os) (started : os.Started) (H : Type) (enc : TypeId × Value → H) (F : Stop.Interp) :
  ReturnsInHanded {} Tryd.checked os 5 .any ((OpenSpec.ofChange Rows.fnExactReplyLineSpec).preRow enc Tryd.prog Tryd.f5 Rows.fnExactReplyLineRow.domain false Rows.fnExactReplyLineRow.laid) (((OpenSpec.ofChange Rows.fnExactReplyLineSpec).at F).post enc Tryd.prog Tryd.f5 false true false false) := by
 obtain ⟨places, hx⟩ := reads os enc
 refine returnsInHanded_of_row (C := Tryd.checked) (s := OpenSpec.ofChange Rows.fnExactReplyLineSpec) own started (by kernel_rfl) Tryd.func5
  (witness_row_at (enc := enc) (C := Tryd.checked) false (laidWorld os) #[.int .i64 0, .int .i64 0, .agg #[.int .i64 0, .bool false, .int .i64 0, .slice none 0 0, .slice none 0 0]] rfl (by kernel_rfl) (by kernel_rfl) (by kernel_rfl)
   (OpenSpec.preRow_of_cond 8 hx (by kernel_rfl) (fun k hk => by cases hk) (by kernel_rfl) (laid_met os))) ?_
 intro W base args ds gs before hval hW _ _ _ hL _ _
 exact contract H enc W base args ds gs before hval hW hL
theorem said : Rows.FnExactReplyLineSaid :=
 OpenClaim.holds_of_cond 5 Tryd.f5 rfl rfl rfl rfl rfl rfl rfl ⟨rfl, rfl, rfl, rfl, rfl⟩ rfl rfl rfl rfl rfl (by kernel_rfl) Tryd.func5 (by kernel_rfl)
  (of_decide_eq_true (by kernel_rfl)) (by unfold Func.isWrapper; first | (rw [if_pos (by decide +kernel)]; kernel_rfl) | (rw [if_neg (by decide +kernel)]; exact ⟨rfl, rfl⟩))
  (fun os started H enc _ F => by rw [OpenClaim.pre_eq_preRow]; exact lifted os started H enc F)
theorem plain (f : FuncId) (fn : Func) (hf : Tryd.pinned.checked.prog.funcNamed "loop.example/g00663/laws.FnExactReplyLine" = some f) (hfn : Tryd.pinned.checked.prog.funcs[f]? = some fn) :
  true = Tryd.pinned.checked.prog.looks [] ∧ ∀ (j : Nat) t, fn.params[j]? = some t → Tryd.pinned.checked.prog.wantsStandIn t = false := by
 (obtain rfl : f = 5 := Option.some.inj ((show Tryd.prog.funcNamed "loop.example/g00663/laws.FnExactReplyLine" = some 5 by kernel_rfl).symm.trans hf) |>.symm); (obtain rfl : fn = Tryd.f5 := (Option.some.inj (Tryd.func5.symm.trans hfn)).symm)
 refine ⟨by kernel_rfl, fun j t ht => ?_⟩
 (rw [Tryd.params5] at ht); (have hm := Array.mem_of_getElem? ht); (simp only [List.mem_toArray, List.mem_cons, List.not_mem_nil, or_false] at hm)
 rcases hm with rfl | rfl | rfl
 ·exact (show Tryd.prog.wantsStandIn 3 = false by kernel_rfl)
 ·exact (show Tryd.prog.wantsStandIn 3 = false by kernel_rfl)
 ·exact (show Tryd.prog.wantsStandIn 38 = false by kernel_rfl)
theorem card : Rows.FnExactReplyLineCardSaid :=
 Claim7.holds_tied_plain_at .later [] _ _ _ _ said (fun _ h => by cases h) (by kernel_rfl) (fun _ h => by cases h) fnExactReplyLine_row_tie rfl ⟨rfl, rfl⟩ (by kernel_rfl) rfl plain (by kernel_rfl)
end Go.Proofs.YtbpffdhkeinmcaaDoor.fnExactReplyLine
namespace Go.Proofs.YtbpffdhkeinmcaaDoor
theorem fnExactReplyLine_holds : Rows.FnExactReplyLineCardSaid := fnExactReplyLine.card
#print axioms fnExactReplyLine_holds
end Go.Proofs.YtbpffdhkeinmcaaDoor
