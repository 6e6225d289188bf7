/- The law FnIdsBook: for every input that can be read the call returns true, and each argument reads afterwards as it read before; the library's tables stand as the program's text lays them (the card). Out of the walk of the Go code and the statement over numbers, strings and lists. No condition. -/
import Derived.Test.YtbpffdhkeinmcaaDoorZFnIdsBookx13
import Derived.Test.YtbpffdhkeinmcaaDoorZFnIdsBookx14
import Derived.Test.YtbpffdhkeinmcaaDoorRows
import Derived.Test.YtbpffdhkeinmcaaDoorCards
import Derived.Test.YtbpffdhkeinmcaaDoorTie
import Derived.WalkKit
import Derived.ProofKit
import Derived.OpenShut
import Derived.ShutString
import Derived.ChangeOld
import Derived.Below
import Derived.SizedLaws
import Derived.Deep.DeepHandedRow
import Derived.Lib.LaidTab
import Derived.SevenTiedAt
import Derived.Lib.LaidU8
namespace Go.Proofs.YtbpffdhkeinmcaaDoor.fnIdsBook
open Go.ChangeShapes Go.WideShapes Go.ChangeAt Go.RowKit Go.Proofs.YtbpffdhkeinmcaaDoor.QE Go.Proofs.YtbpffdhkeinmcaaDoorW.PrintWords
open Go.ChangeMaps (open_string shut_string)
set_option linter.unusedVariables false
theorem own : ownKnob Tryd.prog.godebug = none := by kernel_rfl
theorem laidOut : laidOutB Tryd.prog = true := by kernel_rfl
theorem reads_as {P : Program} {w : World} {n : String} {d d' : DataW Unit} (e : d = d') (h : Lib.VarReads P w n d) : Lib.VarReads P w n d' := e ▸ h
theorem first_eq : Rows.laid_unicode_utf8_first = Lib.firstData := by kernel_rfl
theorem accept_eq : (Rows.laid_unicode_utf8_acceptRanges : DataW Unit) = Lib.acceptData := by kernel_rfl
theorem table {W : World} (h : laidMetH Tryd.prog Rows.fnIdsBookRow.laid W) : TabG W := by
 (have h2 : laidMet Tryd.prog Rows.fnIdsBookRow.laid W := h); (obtain ⟨ps, hL, _⟩ := id h2)
 exact ⟨utf8Tabs_of_reads (ρ := Tryd.lays230_ren) { Tryd.lays230 with } ⟨by kernel_rfl, by kernel_rfl, by kernel_rfl, by kernel_rfl, by kernel_rfl, by kernel_rfl, by kernel_rfl⟩ (reads_as first_eq (Lib.laidMet.reads h2 (List.Mem.tail _ (List.Mem.head _)))) (reads_as accept_eq (Lib.laidMet.reads h2 (List.Mem.head _)))⟩
set_option maxRecDepth 100000 in
theorem contract (H : Type) (enc : TypeId × Value → H) (W : World) (base : Nat) (args : Array Value) (ds gs : List (DataW H)) (before : List MemPlace)
  (hval0 : ∀ (j : Nat) t v, Tryd.f7.params[j]? = some t → args[j]? = some v → Value.okWide Tryd.prog W .any base t v)
  (hW : DataW.Whole enc Tryd.prog Tryd.f7.params.toList Rows.fnIdsBookSpec.vars false W args.toList ds gs before) (hL : laidMetH Tryd.prog Rows.fnIdsBookRow.laid W) :
  Calls Tryd.prog 7 args W fun e W' => ∃ v, e = .returned v ∧ Rows.fnIdsBookSpec.post enc Tryd.prog Tryd.f7 false true false false W args v W' := by
 (have hval : ∀ (j : Nat) t v, Tryd.f7.params[j]? = some t → args[j]? = some v → Value.okWide Tryd.prog W .any base t v := hval0); (have hW' := hW); (obtain ⟨p, q, hA0, hV, rfl, hfz, hnd⟩ := hW); (have hA : DataW.TrodAll enc Tryd.prog W 0 (fun _ => true) true Tryd.f7.params.toList args.toList ds p := hA0); (rw [Tryd.params7] at hA hval); (obtain ⟨v0, vs0, d0, ds0, p0, q0, hargs, rfl, rfl, h0, r0⟩ := trodAll_cons hA); (obtain ⟨rfl, rfl, rfl⟩ := trodAll_nil r0); (obtain rfl : args = #[v0] := by cases args; simp_all); (obtain ⟨rfl, rfl⟩ := trodVars_none hV); (have k0 := h0); (have lt0 : ∀ x ∈ p0, x.block < W.heap.size := by obtain ⟨m, hm⟩ := k0; exact DataW.trod_lt m _ _ _ hm); (obtain ⟨a0, len0, cap0, rfl⟩ := okWide_slice Tryd.underlying58 (hval 0 58 v0 rfl rfl)); (obtain ⟨y0, K0, w0⟩ := Open.open_arg (Open.opens_slice Tryd.underlying58 (by kernel_rfl) 0 (Open.opens_int (k := .u8) Tryd.underlying5 (by kernel_rfl))) h0); (obtain ⟨A0_0, C0_0, hcs0, hl0_0, hC0_0⟩ := K0); (simp only [Value.cells, List.cons.injEq, Value.slice.injEq, and_true] at hcs0); (obtain ⟨rfl, rfl, rfl⟩ := hcs0); (obtain ⟨kk, hk⟩ := Pure.FnIdsBook y0 w0); clear hA0 hval0
 refine (laws_FnIdsBook.calls kk a0 cap0 y0 true W hC0_0 hl0_0 hk (table hL)).mono fun e W' ⟨he, bel0⟩ => ?_
 (have bel : Below W.heap.size W W' := bel0); (subst he)
 exact ⟨_, rfl, _, _, _, [], _, [], hW', trodAll_mk1 (shut_bool Tryd.underlying4 _), (trodAll_cons_mk (Below.trod laidOut (by kernel_rfl) (of_decide_eq_true (by kernel_rfl)) k0 bel lt0) trodAll_mk0), rfl, bel.frame _, fun h => by cases h⟩
def setTab (cs : Array Value) : Obj → Obj
 | .cells _ t frozen => .cells cs t frozen
 | o => o
noncomputable def laidWorld (os : Os) : World :=
 { World.holding Tryd.prog os ⟨#[], #[], []⟩ with heap := (((World.holding Tryd.prog os ⟨#[], #[], []⟩).heap.modify 5 (setTab ((Lib.firstTab.map fun z => Value.int .u8 z).toArray))).modify 6 (setTab (((List.range 16).flatMap fun i => [Value.int .u8 (Lib.accLo i : Int), Value.int .u8 (Lib.accHi i : Int)]).toArray))) }
theorem laid_met (os : Os) : laidMet Tryd.prog Rows.fnIdsBookRow.laid ((laidWorld os).forCall (fun _ _ => 0) ⟨#[], #[.slice none 0 0], []⟩).memory :=
 laidMet_of_run' 8 (by kernel_rfl) (by kernel_rfl)
theorem reads (os : Os) {H : Type} (enc : TypeId × Value → H) : ∃ places, DataW.whole enc Tryd.prog ((laidWorld os).forCall (fun _ _ => 0) ⟨#[], #[.slice none 0 0], []⟩).memory Tryd.f7.params.toList Rows.fnIdsBookSpec.vars false (#[.slice none 0 0] : Array Value).toList 8 = some ([.nil], [], places) :=
 ⟨[], by kernel_rfl⟩
set_option maxRecDepth 100000 in
theorem lifted (os : Os) (started : os.Started) (H : Type) (enc : TypeId × Value → H) (F : Stop.Interp) :
  ReturnsInHanded {} Tryd.checked os 7 .any ((OpenSpec.ofChange Rows.fnIdsBookSpec).preRow enc Tryd.prog Tryd.f7 Rows.fnIdsBookRow.domain false Rows.fnIdsBookRow.laid) (((OpenSpec.ofChange Rows.fnIdsBookSpec).at F).post enc Tryd.prog Tryd.f7 false true false false) := by
 obtain ⟨places, hx⟩ := reads os enc
 refine returnsInHanded_of_row (C := Tryd.checked) (s := OpenSpec.ofChange Rows.fnIdsBookSpec) own started (by kernel_rfl) Tryd.func7
  (witness_row_at (enc := enc) (C := Tryd.checked) false (laidWorld os) #[.slice none 0 0] rfl (by kernel_rfl) (by kernel_rfl) (by kernel_rfl)
   (OpenSpec.preRow_of_cond 8 hx (by kernel_rfl) (fun k hk => by cases hk) (by kernel_rfl) (laid_met os))) ?_
 intro W base args ds gs before hval hW _ _ _ hL _ _
 exact contract H enc W base args ds gs before hval hW hL
theorem said : Rows.FnIdsBookSaid :=
 OpenClaim.holds_of_cond 7 Tryd.f7 rfl rfl rfl rfl rfl rfl rfl ⟨rfl, rfl, rfl, rfl, rfl⟩ rfl rfl rfl rfl rfl (by kernel_rfl) Tryd.func7 (by kernel_rfl)
  (of_decide_eq_true (by kernel_rfl)) (by unfold Func.isWrapper; first | (rw [if_pos (by decide +kernel)]; kernel_rfl) | (rw [if_neg (by decide +kernel)]; exact ⟨rfl, rfl⟩))
  (fun os started H enc _ F => by rw [OpenClaim.pre_eq_preRow]; exact lifted os started H enc F)
theorem plain (f : FuncId) (fn : Func) (hf : Tryd.pinned.checked.prog.funcNamed "loop.example/g00663/laws.FnIdsBook" = some f) (hfn : Tryd.pinned.checked.prog.funcs[f]? = some fn) :
  true = Tryd.pinned.checked.prog.looks [] ∧ ∀ (j : Nat) t, fn.params[j]? = some t → Tryd.pinned.checked.prog.wantsStandIn t = false := by
 (obtain rfl : f = 7 := Option.some.inj ((show Tryd.prog.funcNamed "loop.example/g00663/laws.FnIdsBook" = some 7 by kernel_rfl).symm.trans hf) |>.symm); (obtain rfl : fn = Tryd.f7 := (Option.some.inj (Tryd.func7.symm.trans hfn)).symm)
 refine ⟨by kernel_rfl, fun j t ht => ?_⟩
 (rw [Tryd.params7] at ht); (obtain rfl : t = 58 := by simpa using Array.mem_of_getElem? ht)
 exact (show Tryd.prog.wantsStandIn 58 = false by kernel_rfl)
theorem card : Rows.FnIdsBookCardSaid :=
 Claim7.holds_tied_plain_at .later [] _ _ _ _ said (fun _ h => by cases h) (by kernel_rfl) (fun _ h => by cases h) fnIdsBook_row_tie rfl ⟨rfl, rfl⟩ (by kernel_rfl) rfl plain (by kernel_rfl)
end Go.Proofs.YtbpffdhkeinmcaaDoor.fnIdsBook
namespace Go.Proofs.YtbpffdhkeinmcaaDoor
theorem fnIdsBook_holds : Rows.FnIdsBookCardSaid := fnIdsBook.card
#print axioms fnIdsBook_holds
end Go.Proofs.YtbpffdhkeinmcaaDoor
