/- The law FnExactSessPair: for every input that can be read the call returns true, and each argument reads afterwards as it read before; the library's tables stand as the program's text lays them (the card). Out of the walk of the Go code and the statement over numbers, strings and lists. No condition. -/
import Derived.Test.YtppopmajclmhjaaGreatDoorZFnExactSessPairx11
import Derived.Test.YtppopmajclmhjaaGreatDoorZFnExactSessPairx13
import Derived.Test.YtppopmajclmhjaaGreatDoorRows
import Derived.Test.YtppopmajclmhjaaGreatDoorCards
import Derived.Test.YtppopmajclmhjaaGreatDoorTie
import Derived.WalkKit
import Derived.ProofKit
import Derived.OpenShut
import Derived.ShutString
import Derived.ChangeOld
import Derived.Below
import Derived.SizedLaws
import Derived.Deep.DeepHandedRow
import Derived.Lib.LaidTab
import Derived.SevenTiedAt
import Derived.Lib.LaidU8
namespace Go.Proofs.YtppopmajclmhjaaGreatDoor.fnExactSessPair
open Go.ChangeShapes Go.WideShapes Go.ChangeAt Go.RowKit Go.Proofs.YtppopmajclmhjaaGreatDoor.QB Go.Proofs.YtppopmajclmhjaaGreatDoorW.PrintWords
open Go.ChangeMaps (open_string shut_string)
set_option linter.unusedVariables false
theorem own : ownKnob Tryz.prog.godebug = none := by kernel_rfl
theorem laidOut : laidOutB Tryz.prog = true := by kernel_rfl
theorem reads_as {P : Program} {w : World} {n : String} {d d' : DataW Unit} (e : d = d') (h : Lib.VarReads P w n d) : Lib.VarReads P w n d' := e ▸ h
theorem first_eq : Rows.laid_unicode_utf8_first = Lib.firstData := by kernel_rfl
theorem accept_eq : (Rows.laid_unicode_utf8_acceptRanges : DataW Unit) = Lib.acceptData := by kernel_rfl
theorem table {W : World} (h : laidMetH Tryz.prog Rows.fnExactSessPairRow.laid W) : TabG W := by
 (have h2 : laidMet Tryz.prog Rows.fnExactSessPairRow.laid W := h); (obtain ⟨ps, hL, _⟩ := id h2)
 exact ⟨utf8Tabs_of_reads (ρ := Tryz.lays230_ren) { Tryz.lays230 with } ⟨by kernel_rfl, by kernel_rfl, by kernel_rfl, by kernel_rfl, by kernel_rfl, by kernel_rfl, by kernel_rfl⟩ (reads_as first_eq (Lib.laidMet.reads h2 (List.Mem.tail _ (List.Mem.head _)))) (reads_as accept_eq (Lib.laidMet.reads h2 (List.Mem.head _)))⟩
set_option maxRecDepth 100000 in
theorem contract (H : Type) (enc : TypeId × Value → H) (W : World) (base : Nat) (args : Array Value) (ds gs : List (DataW H)) (before : List MemPlace)
  (hval0 : ∀ (j : Nat) t v, Tryz.f4.params[j]? = some t → args[j]? = some v → Value.okWide Tryz.prog W .any base t v)
  (hW : DataW.Whole enc Tryz.prog Tryz.f4.params.toList Rows.fnExactSessPairSpec.vars false W args.toList ds gs before) (hL : laidMetH Tryz.prog Rows.fnExactSessPairRow.laid W) :
  Calls Tryz.prog 4 args W fun e W' => ∃ v, e = .returned v ∧ Rows.fnExactSessPairSpec.post enc Tryz.prog Tryz.f4 false true false false W args v W' := by
 (have hval : ∀ (j : Nat) t v, Tryz.f4.params[j]? = some t → args[j]? = some v → Value.okWide Tryz.prog W .any base t v := hval0); (have hW' := hW); (obtain ⟨p, q, hA0, hV, rfl, hfz, hnd⟩ := hW); (have hA : DataW.TrodAll enc Tryz.prog W 0 (fun _ => true) true Tryz.f4.params.toList args.toList ds p := hA0); (rw [Tryz.params4] at hA hval); (obtain ⟨v0, vs0, d0, ds0, p0, q0, hargs, rfl, rfl, h0, r0⟩ := trodAll_cons hA); (obtain ⟨v1, vs1, d1, ds1, p1, q1, rfl, rfl, rfl, h1, r1⟩ := trodAll_cons r0); (obtain ⟨v2, vs2, d2, ds2, p2, q2, rfl, rfl, rfl, h2, r2⟩ := trodAll_cons r1); (obtain ⟨v3, vs3, d3, ds3, p3, q3, rfl, rfl, rfl, h3, r3⟩ := trodAll_cons r2); (obtain ⟨rfl, rfl, rfl⟩ := trodAll_nil r3); (obtain rfl : args = #[v0, v1, v2, v3] := by cases args; simp_all); (obtain ⟨rfl, rfl⟩ := trodVars_none hV); (have k0 := h0); (have lt0 : ∀ x ∈ p0, x.block < W.heap.size := by obtain ⟨m, hm⟩ := k0; exact DataW.trod_lt m _ _ _ hm); (obtain ⟨cs0, rfl⟩ := Open.okWide_agg Tryz.underlying23 (hval 0 23 v0 rfl rfl)); (obtain ⟨y0, K0, w0⟩ := Open.open_arg opens23 h0); (obtain ⟨_, _, hcs0, rfl, ⟨_, _, rfl, rfl, ⟨_, _, rfl, rfl, rfl⟩⟩⟩ := K0); (obtain rfl : cs0 = #[.int .i64 y0.f0, .int .i64 y0.f1, .int .i64 y0.f2, .int .i64 y0.f3] := Array.ext' hcs0); (have k1 := h1); (have lt1 : ∀ x ∈ p1, x.block < W.heap.size := by obtain ⟨m, hm⟩ := k1; exact DataW.trod_lt m _ _ _ hm); (obtain ⟨a1, len1, cap1, rfl⟩ := okWide_slice Tryz.underlying24 (hval 1 24 v1 rfl rfl)); (obtain ⟨y1, K1, w1⟩ := Open.open_arg (Open.opens_slice Tryz.underlying24 (by kernel_rfl) z48 opens48) h1); (obtain ⟨A1_0, C1_0, hcs1, hl1_0, hC1_0⟩ := K1); (simp only [Value.cells, List.cons.injEq, Value.slice.injEq, and_true] at hcs1); (obtain ⟨rfl, rfl, rfl⟩ := hcs1); (have k2 := h2); (have lt2 : ∀ x ∈ p2, x.block < W.heap.size := by obtain ⟨m, hm⟩ := k2; exact DataW.trod_lt m _ _ _ hm); (obtain ⟨a2, len2, cap2, rfl⟩ := okWide_slice Tryz.underlying24 (hval 2 24 v2 rfl rfl)); (obtain ⟨y2, K2, w2⟩ := Open.open_arg (Open.opens_slice Tryz.underlying24 (by kernel_rfl) z48 opens48) h2); (obtain ⟨A2_0, C2_0, hcs2, hl2_0, hC2_0⟩ := K2); (simp only [Value.cells, List.cons.injEq, Value.slice.injEq, and_true] at hcs2); (obtain ⟨rfl, rfl, rfl⟩ := hcs2); (have k3 := h3); (have lt3 : ∀ x ∈ p3, x.block < W.heap.size := by obtain ⟨m, hm⟩ := k3; exact DataW.trod_lt m _ _ _ hm); (obtain ⟨a3, len3, cap3, rfl⟩ := okWide_slice Tryz.underlying25 (hval 3 25 v3 rfl rfl)); (obtain ⟨y3, K3, w3⟩ := Open.open_arg (Open.opens_slice Tryz.underlying25 (by kernel_rfl) 0 (Open.opens_int (k := .i64) Tryz.underlying3 (by kernel_rfl))) h3); (obtain ⟨A3_0, C3_0, hcs3, hl3_0, hC3_0⟩ := K3); (simp only [Value.cells, List.cons.injEq, Value.slice.injEq, and_true] at hcs3); (obtain ⟨rfl, rfl, rfl⟩ := hcs3); (obtain ⟨kk, hk⟩ := Pure.FnExactSessPair y0 y1 y2 y3 w0 w1 w2 w3); clear hA0 hval0
 refine (laws_FnExactSessPair.calls kk y0.f0 y0.f1 y0.f2 y0.f3 a1 cap1 y1 a2 cap2 y2 a3 cap3 y3 true W hC1_0 hl1_0 hC2_0 hl2_0 hC3_0 hl3_0 hk (table hL)).mono fun e W' ⟨he, bel0⟩ => ?_
 (have bel : Below W.heap.size W W' := bel0); (subst he)
 exact ⟨_, rfl, _, _, _, [], _, [], hW', trodAll_mk1 (shut_bool Tryz.underlying4 _), (trodAll_cons_mk (Below.trod laidOut (by kernel_rfl) (of_decide_eq_true (by kernel_rfl)) k0 bel lt0) (trodAll_cons_mk (Below.trod laidOut (by kernel_rfl) (of_decide_eq_true (by kernel_rfl)) k1 bel lt1) (trodAll_cons_mk (Below.trod laidOut (by kernel_rfl) (of_decide_eq_true (by kernel_rfl)) k2 bel lt2) (trodAll_cons_mk (Below.trod laidOut (by kernel_rfl) (of_decide_eq_true (by kernel_rfl)) k3 bel lt3) trodAll_mk0)))), rfl, bel.frame _, fun h => by cases h⟩
def setTab (cs : Array Value) : Obj → Obj
 | .cells _ t frozen => .cells cs t frozen
 | o => o
noncomputable def laidWorld (os : Os) : World :=
 { World.holding Tryz.prog os ⟨#[], #[], []⟩ with heap := (((World.holding Tryz.prog os ⟨#[], #[], []⟩).heap.modify 0 (setTab ((Lib.firstTab.map fun z => Value.int .u8 z).toArray))).modify 1 (setTab (((List.range 16).flatMap fun i => [Value.int .u8 (Lib.accLo i : Int), Value.int .u8 (Lib.accHi i : Int)]).toArray))) }
theorem laid_met (os : Os) : laidMet Tryz.prog Rows.fnExactSessPairRow.laid ((laidWorld os).forCall (fun _ _ => 0) ⟨#[], #[.agg #[.int .i64 0, .int .i64 0, .int .i64 0, .int .i64 0], .slice none 0 0, .slice none 0 0, .slice none 0 0], []⟩).memory :=
 laidMet_of_run' 8 (by kernel_rfl) (by kernel_rfl)
theorem reads (os : Os) {H : Type} (enc : TypeId × Value → H) : ∃ places, DataW.whole enc Tryz.prog ((laidWorld os).forCall (fun _ _ => 0) ⟨#[], #[.agg #[.int .i64 0, .int .i64 0, .int .i64 0, .int .i64 0], .slice none 0 0, .slice none 0 0, .slice none 0 0], []⟩).memory Tryz.f4.params.toList Rows.fnExactSessPairSpec.vars false (#[.agg #[.int .i64 0, .int .i64 0, .int .i64 0, .int .i64 0], .slice none 0 0, .slice none 0 0, .slice none 0 0] : Array Value).toList 8 = some ([.agg [.lit (.int .i64 0), .lit (.int .i64 0), .lit (.int .i64 0), .lit (.int .i64 0)], .nil, .nil, .nil], [], places) :=
 ⟨[], by kernel_rfl⟩
set_option maxRecDepth 100000 in
theorem lifted (os : Os) (started : os.Started) (H : Type) (enc : TypeId × Value → H) (F : Stop.Interp) :
  ReturnsInHanded {} Tryz.checked os 4 .any ((OpenSpec.ofChange Rows.fnExactSessPairSpec).preRow enc Tryz.prog Tryz.f4 Rows.fnExactSessPairRow.domain false Rows.fnExactSessPairRow.laid) (((OpenSpec.ofChange Rows.fnExactSessPairSpec).at F).post enc Tryz.prog Tryz.f4 false true false false) := by
 obtain ⟨places, hx⟩ := reads os enc
 refine returnsInHanded_of_row (C := Tryz.checked) (s := OpenSpec.ofChange Rows.fnExactSessPairSpec) own started (by kernel_rfl) Tryz.func4
  (witness_row_at (enc := enc) (C := Tryz.checked) false (laidWorld os) #[.agg #[.int .i64 0, .int .i64 0, .int .i64 0, .int .i64 0], .slice none 0 0, .slice none 0 0, .slice none 0 0] rfl (by kernel_rfl) (by kernel_rfl) (by kernel_rfl)
   (OpenSpec.preRow_of_cond 8 hx (by kernel_rfl) (fun k hk => by cases hk) (by kernel_rfl) (laid_met os))) ?_
 intro W base args ds gs before hval hW _ _ _ hL _ _
 exact contract H enc W base args ds gs before hval hW hL
theorem said : Rows.FnExactSessPairSaid :=
 OpenClaim.holds_of_cond 4 Tryz.f4 rfl rfl rfl rfl rfl rfl rfl ⟨rfl, rfl, rfl, rfl, rfl⟩ rfl rfl rfl rfl rfl (by kernel_rfl) Tryz.func4 (by kernel_rfl)
  (of_decide_eq_true (by kernel_rfl)) (by unfold Func.isWrapper; first | (rw [if_pos (by decide +kernel)]; kernel_rfl) | (rw [if_neg (by decide +kernel)]; exact ⟨rfl, rfl⟩))
  (fun os started H enc _ F => by rw [OpenClaim.pre_eq_preRow]; exact lifted os started H enc F)
theorem plain (f : FuncId) (fn : Func) (hf : Tryz.pinned.checked.prog.funcNamed "loop.example/g00663/laws.FnExactSessPair" = some f) (hfn : Tryz.pinned.checked.prog.funcs[f]? = some fn) :
  false = Tryz.pinned.checked.prog.looks [] ∧ ∀ (j : Nat) t, fn.params[j]? = some t → Tryz.pinned.checked.prog.wantsStandIn t = false := by
 (obtain rfl : f = 4 := Option.some.inj ((show Tryz.prog.funcNamed "loop.example/g00663/laws.FnExactSessPair" = some 4 by kernel_rfl).symm.trans hf) |>.symm); (obtain rfl : fn = Tryz.f4 := (Option.some.inj (Tryz.func4.symm.trans hfn)).symm)
 refine ⟨by kernel_rfl, fun j t ht => ?_⟩
 (rw [Tryz.params4] at ht); (have hm := Array.mem_of_getElem? ht); (simp only [List.mem_toArray, List.mem_cons, List.not_mem_nil, or_false] at hm)
 rcases hm with rfl | rfl | rfl | rfl
 ·exact (show Tryz.prog.wantsStandIn 23 = false by kernel_rfl)
 ·exact (show Tryz.prog.wantsStandIn 24 = false by kernel_rfl)
 ·exact (show Tryz.prog.wantsStandIn 24 = false by kernel_rfl)
 ·exact (show Tryz.prog.wantsStandIn 25 = false by kernel_rfl)
theorem card : Rows.FnExactSessPairCardSaid :=
 Claim7.holds_tied_plain_at .later [] _ _ _ _ said (fun _ h => by cases h) (by kernel_rfl) (fun _ h => by cases h) fnExactSessPair_row_tie rfl ⟨rfl, rfl⟩ (by kernel_rfl) rfl plain (by kernel_rfl)
end Go.Proofs.YtppopmajclmhjaaGreatDoor.fnExactSessPair
namespace Go.Proofs.YtppopmajclmhjaaGreatDoor
theorem fnExactSessPair_holds : Rows.FnExactSessPairCardSaid := fnExactSessPair.card
#print axioms fnExactSessPair_holds
end Go.Proofs.YtppopmajclmhjaaGreatDoor
