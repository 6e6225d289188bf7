/- The law FnExactReqText: for every input that can be read the call returns true, and each argument reads afterwards as it read before; the library's tables stand as the program's text lays them (the card). Out of the walk of the Go code and the statement over numbers, strings and lists. No condition. -/
import Derived.Test.YtbpffdhkeinmcaaDoorZFnExactReqTextx4
import Derived.Test.YtbpffdhkeinmcaaDoorRows
import Derived.Test.YtbpffdhkeinmcaaDoorCards
import Derived.Test.YtbpffdhkeinmcaaDoorTie
import Derived.WalkKit
import Derived.ProofKit
import Derived.OpenShut
import Derived.ShutString
import Derived.ChangeOld
import Derived.Below
import Derived.SizedLaws
import Derived.Deep.DeepHandedRow
import Derived.Lib.LaidTab
import Derived.SevenTiedAt
import Derived.OpenVars
import Derived.ChangeVars
import Derived.ChangeArms
import Derived.Lib.LaidU8
namespace Go.Proofs.YtbpffdhkeinmcaaDoor.fnExactReqText
open Go.ChangeShapes Go.WideShapes Go.ChangeAt Go.RowKit Go.Proofs.YtbpffdhkeinmcaaDoor.QG Go.Proofs.YtbpffdhkeinmcaaDoorW.PrintWords
open Go.ChangeMaps (open_string shut_string)
set_option linter.unusedVariables false
theorem own : ownKnob Tryd.prog.godebug = none := by kernel_rfl
theorem laidOut : laidOutB Tryd.prog = true := by kernel_rfl
theorem tabIs_of_laid {P : Program} {W : World} {name : String} {k : IntKind} {zs : List Int} {g : Nat} {t e : TypeId} {n : Nat}
  (hg : P.globalNamed name = some g) (hty : (P.globals[g]?).map (·.type) = some t) (ht : P.underlying t = some (.array n e)) (he : P.underlying e = some (.int k)) (hce : P.cellsOf e = 1) (hct : P.cellsOf t = n) :
  ∀ (l : List (String × DataW Unit)) (ps : List MemPlace), DataW.LaidVars P W l ps → (name, Lib.tabData k zs) ∈ l → Lib.TabIs P W name k zs := by
 intro l
 induction l with
 | nil => intro ps _ hm; cases hm
 | cons x xs ih =>
  intro ps h hm
  (obtain ⟨nm, d⟩ := x); (obtain ⟨g', t', cs, fuel, p, q, hg', ht', hvar, hd, hr, _⟩ := h)
  rcases List.mem_cons.1 hm with h1 | h1
  ·obtain ⟨rfl, rfl⟩ := Prod.mk.inj h1
   (obtain rfl := Option.some.inj (hg.symm.trans hg')); (obtain rfl := Option.some.inj (hty.symm.trans ht'))
   unfold Lib.TabIs
   rw [hvar, ← Lib.cells_of_tab ht he hce hct hd]
  ·exact ih q hr h1
theorem cells_of_strs {H : Type} {enc : TypeId × Value → H} {P : Program} {w : World} {base : Nat} {sp : Nat → Bool} {held : Bool} {fuel : Nat} {t e : TypeId} {n : Nat} {cs : List Value} {zs : List (List UInt8)} {p : List MemPlace}
  (ht : P.underlying t = some (.array n e)) (he : P.underlying e = some .string) (hce : P.cellsOf e = 1) (hct : P.cellsOf t = n)
  (h : DataW.trod enc P w base sp held fuel t cs = some (.agg (zs.map fun z => .lit (.string z)), p)) : cs = zs.map fun z => Value.string ⟨z.toArray⟩ := by
 cases fuel with
 | zero => simp [DataW.trod] at h
 | succ fuel =>
  simp only [DataW.trod, ht, hce, hct, Nat.mul_one] at h
  split at h
  ·rename_i hl
   obtain ⟨xs, hm, hx⟩ := Option.map_eq_some_iff.1 h
   have hxs : xs.map (·.1) = zs.map fun z => (DataW.lit (.string z) : DataW H) := by
    have := congrArg Prod.fst hx
    simpa using this
   have hxl : xs.length = n := by simpa using Lib.mapM_length hm
   have hzl : zs.length = n := by
    have := congrArg List.length hxs
    simp at this
    omega
   apply List.ext_getElem?
   intro i
   by_cases hi : i < n
   ·obtain ⟨b, hb, hf⟩ := Lib.mapM_at hm i i (by simp [hi])
    obtain ⟨z, hc, rfl, _⟩ := DataW.trod_string he hf
    have h1 : cs[i]? = some (.string z) := by
     have := congrArg (·[0]?) hc
     simpa [List.getElem?_take, List.getElem?_drop] using this
    (have h2 : (xs.map (·.1))[i]? = some (DataW.lit (.string z.data.toList) : DataW H) := by simp [hb]); (rw [hxs] at h2); (simp only [List.getElem?_map, Option.map_eq_some_iff, DataW.lit.injEq, Lit.string.injEq] at h2); (obtain ⟨z', hz', rfl⟩ := h2)
    simp [h1, hz']
   ·rw [List.getElem?_eq_none (by omega), List.getElem?_eq_none (by simp; omega)]
  ·cases h
theorem reqw_of_reads {P : Program} {W : World} {g : Nat} {t e : TypeId}
  (hg : P.globalNamed "loop.example/g00663/impl.reqWords" = some g) (hty : (P.globals[g]?).map (·.type) = some t) (ht : P.underlying t = some (.array 7 e)) (he : P.underlying e = some .string) (hce : P.cellsOf e = 1) (hct : P.cellsOf t = 7)
  (h : Lib.VarReads P W "loop.example/g00663/impl.reqWords" Rows.laid_loop_example_g00663_impl_reqWords) : ∀ (k : Nat) (s : ByteArray), reqWordsL[k]? = some s → W.cell? ⟨g, k, none⟩ = some (.string s) := by
 (obtain ⟨g', t', cs, fuel, p, hg', ht', hv, hr⟩ := h); (obtain rfl := Option.some.inj (hg.symm.trans hg')); (obtain rfl := Option.some.inj (hty.symm.trans ht')); (have hc : cs.toList = (reqWordsL.map fun s => s.data.toList).map fun z => Value.string ⟨z.toArray⟩ := cells_of_strs ht he hce hct hr)
 intro k s hk
 (have := World.var?_cell hg hv k); (rw [this, ← Array.getElem?_toList, hc, List.getElem?_map, List.getElem?_map, hk])
 simp
theorem table {W : World} (h : laidMetH Tryd.prog Rows.fnExactReqTextRow.laid W) : TabG W := by
 (have h2 : laidMet Tryd.prog Rows.fnExactReqTextRow.laid W := h); (obtain ⟨ps, hL, _⟩ := id h2)
 exact ⟨tabIs_of_laid (g := 4) (t := 185) (e := 163) (n := 20) (by kernel_rfl) (by kernel_rfl) (by kernel_rfl) (by kernel_rfl) (by kernel_rfl) (by kernel_rfl) _ ps hL (List.Mem.tail _ (List.Mem.tail _ (List.Mem.head _))), reqw_of_reads (g := 0) (t := 102) (e := 9) (by kernel_rfl) (by kernel_rfl) (by kernel_rfl) (by kernel_rfl) (by kernel_rfl) (by kernel_rfl) (Lib.laidMet.reads h2 (List.Mem.tail _ (List.Mem.tail _ (List.Mem.tail _ (List.Mem.head _)))))⟩
set_option maxRecDepth 100000 in
theorem contract (H : Type) (enc : TypeId × Value → H) (W : World) (base : Nat) (args : Array Value) (ds gs : List (DataW H)) (before : List MemPlace)
  (hval0 : ∀ (j : Nat) t v, Tryd.f4.params[j]? = some t → args[j]? = some v → Value.okWide Tryd.prog W .any base t v)
  (hW : DataW.Whole enc Tryd.prog Tryd.f4.params.toList Rows.fnExactReqTextSpec.vars false W args.toList ds gs before) (hL : laidMetH Tryd.prog Rows.fnExactReqTextRow.laid W) :
  Calls Tryd.prog 4 args W fun e W' => ∃ v, e = .returned v ∧ Rows.fnExactReqTextSpec.post enc Tryd.prog Tryd.f4 false true false false W args v W' := by
 (have hval : ∀ (j : Nat) t v, Tryd.f4.params[j]? = some t → args[j]? = some v → Value.okWide Tryd.prog W .any base t v := hval0); (have hW' := hW); (obtain ⟨p, q, hA0, hV, rfl, hfz, hnd⟩ := hW); (have hA : DataW.TrodAll enc Tryd.prog W 0 (fun _ => true) true Tryd.f4.params.toList args.toList ds p := hA0); (rw [Tryd.params4] at hA hval); (obtain ⟨v0, vs0, d0, ds0, p0, q0, hargs, rfl, rfl, h0, r0⟩ := trodAll_cons hA); (obtain ⟨rfl, rfl, rfl⟩ := trodAll_nil r0); (obtain rfl : args = #[v0] := by cases args; simp_all); (have hV2 : DataW.TrodVars enc Tryd.prog W (fun _ => true) ["loop.example/g00663/impl.reqWords"] gs q := hV); (obtain ⟨_, _, _, _, g1, _, rfl, _⟩ := trodVars_one hV2); (have k0 := h0); (have lt0 : ∀ x ∈ p0, x.block < W.heap.size := by obtain ⟨m, hm⟩ := k0; exact DataW.trod_lt m _ _ _ hm); (obtain ⟨cs0, rfl⟩ := Open.okWide_agg Tryd.underlying29 (hval 0 29 v0 rfl rfl)); (obtain ⟨y0, K0, w0⟩ := Open.open_arg opens29 h0); (obtain ⟨_, _, hcs0, rfl, ⟨_, _, rfl, rfl, ⟨_, _, rfl, rfl, ⟨_, _, rfl, rfl, ⟨_, _, rfl, rfl, ⟨_, _, rfl, rfl, rfl⟩⟩⟩⟩⟩⟩ := K0); (obtain rfl : cs0 = #[.int .i64 y0.f0, .string y0.f1, .int .i64 y0.f2, .int .i64 y0.f3, .int .i64 y0.f4, .int .i64 y0.f5, .string y0.f6] := Array.ext' hcs0); (obtain ⟨kk, hk⟩ := Pure.FnExactReqText y0 w0); clear hA0 hval0
 refine (laws_FnExactReqText.calls kk y0.f0 y0.f1 y0.f2 y0.f3 y0.f4 y0.f5 y0.f6 true W  hk (table hL)).mono fun e W' ⟨he, bel0⟩ => ?_
 (have bel : Below W.heap.size W W' := bel0); (subst he)
 exact ⟨_, rfl, _, _, _, [], _, _, hW', trodAll_mk1 (shut_bool Tryd.underlying4 _), (trodAll_cons_mk (Below.trod laidOut (by kernel_rfl) (of_decide_eq_true (by kernel_rfl)) k0 bel lt0) trodAll_mk0), Below.trodVars laidOut bel (by kernel_rfl) hV, bel.frame _, fun h => by cases h⟩
def setTab (cs : Array Value) : Obj → Obj
 | .cells _ t frozen => .cells cs t frozen
 | o => o
noncomputable def laidWorld (os : Os) : World :=
 { World.holding Tryd.prog os ⟨#[], #[], []⟩ with heap := (((((World.holding Tryd.prog os ⟨#[], #[], []⟩).heap.modify 0 (setTab (#[.string ⟨#[]⟩, .string ⟨#[99, 104, 101, 99, 107]⟩, .string ⟨#[116, 111, 112]⟩, .string ⟨#[97, 100, 100]⟩, .string ⟨#[100, 114, 111, 112]⟩, .string ⟨#[115, 101, 116]⟩, .string ⟨#[116, 101, 120, 116]⟩]))).modify 4 (setTab ((Lib.pow10Tab.map fun z => Value.int .u64 z).toArray))).modify 7 (setTab ((([0, 1, 28, 2, 29, 14, 24, 3, 30, 22, 20, 15, 25, 17, 4, 8, 31, 27, 13, 23, 21, 19, 16, 7, 26, 12, 18, 6, 11, 5, 10, 9] : List Int).map fun z => Value.int .u8 z).toArray))).modify 8 (setTab ((([0, 1, 56, 2, 57, 49, 28, 3, 61, 58, 42, 50, 38, 29, 17, 4, 62, 47, 59, 36, 45, 43, 51, 22, 53, 39, 33, 30, 24, 18, 12, 5, 63, 55, 48, 27, 60, 41, 37, 16, 46, 35, 44, 21, 52, 32, 23, 11, 54, 26, 40, 15, 34, 20, 31, 10, 25, 14, 19, 9, 13, 8, 7, 6] : List Int).map fun z => Value.int .u8 z).toArray))) }
theorem laid_met (os : Os) : laidMet Tryd.prog Rows.fnExactReqTextRow.laid ((laidWorld os).forCall (fun _ _ => 0) ⟨#[], #[.agg #[.int .i64 0, .string ByteArray.empty, .int .i64 0, .int .i64 0, .int .i64 0, .int .i64 0, .string ByteArray.empty]], []⟩).memory :=
 laidMet_of_run' 8 (by kernel_rfl) (by kernel_rfl)
theorem reads (os : Os) {H : Type} (enc : TypeId × Value → H) : ∃ places, DataW.whole enc Tryd.prog ((laidWorld os).forCall (fun _ _ => 0) ⟨#[], #[.agg #[.int .i64 0, .string ByteArray.empty, .int .i64 0, .int .i64 0, .int .i64 0, .int .i64 0, .string ByteArray.empty]], []⟩).memory Tryd.f4.params.toList Rows.fnExactReqTextSpec.vars false (#[.agg #[.int .i64 0, .string ByteArray.empty, .int .i64 0, .int .i64 0, .int .i64 0, .int .i64 0, .string ByteArray.empty]] : Array Value).toList 8 = some ([.agg [.lit (.int .i64 0), .lit (.string []), .lit (.int .i64 0), .lit (.int .i64 0), .lit (.int .i64 0), .lit (.int .i64 0), .lit (.string [])]], [.agg [.lit (.string []), .lit (.string [99, 104, 101, 99, 107]), .lit (.string [116, 111, 112]), .lit (.string [97, 100, 100]), .lit (.string [100, 114, 111, 112]), .lit (.string [115, 101, 116]), .lit (.string [116, 101, 120, 116])]], places) :=
 ⟨MemPlace.row ⟨0, 0, none⟩ 7, by kernel_rfl⟩
set_option maxRecDepth 100000 in
theorem lifted (os : Os) (started : os.Started) (H : Type) (enc : TypeId × Value → H) (F : Stop.Interp) :
  ReturnsInHanded {} Tryd.checked os 4 .any ((OpenSpec.ofChange Rows.fnExactReqTextSpec).preRow enc Tryd.prog Tryd.f4 Rows.fnExactReqTextRow.domain false Rows.fnExactReqTextRow.laid) (((OpenSpec.ofChange Rows.fnExactReqTextSpec).at F).post enc Tryd.prog Tryd.f4 false true false false) := by
 obtain ⟨places, hx⟩ := reads os enc
 refine returnsInHanded_of_row (C := Tryd.checked) (s := OpenSpec.ofChange Rows.fnExactReqTextSpec) own started (by kernel_rfl) Tryd.func4
  (witness_row_at (enc := enc) (C := Tryd.checked) false (laidWorld os) #[.agg #[.int .i64 0, .string ByteArray.empty, .int .i64 0, .int .i64 0, .int .i64 0, .int .i64 0, .string ByteArray.empty]] rfl (by kernel_rfl) (by kernel_rfl) (by kernel_rfl)
   (OpenSpec.preRow_of_cond 8 hx (by kernel_rfl) (fun k hk => by cases hk) (by kernel_rfl) (laid_met os))) ?_
 intro W base args ds gs before hval hW _ _ _ hL _ _
 exact contract H enc W base args ds gs before hval hW hL
theorem said : Rows.FnExactReqTextSaid :=
 OpenClaim.holds_of_cond 4 Tryd.f4 rfl rfl rfl rfl rfl rfl rfl ⟨rfl, rfl, rfl, rfl, rfl⟩ rfl rfl rfl rfl rfl (by kernel_rfl) Tryd.func4 (by kernel_rfl)
  (of_decide_eq_true (by kernel_rfl)) (by unfold Func.isWrapper; first | (rw [if_pos (by decide +kernel)]; kernel_rfl) | (rw [if_neg (by decide +kernel)]; exact ⟨rfl, rfl⟩))
  (fun os started H enc _ F => by rw [OpenClaim.pre_eq_preRow]; exact lifted os started H enc F)
theorem plain (f : FuncId) (fn : Func) (hf : Tryd.pinned.checked.prog.funcNamed "loop.example/g00663/laws.FnExactReqText" = some f) (hfn : Tryd.pinned.checked.prog.funcs[f]? = some fn) :
  true = Tryd.pinned.checked.prog.looks [] ∧ ∀ (j : Nat) t, fn.params[j]? = some t → Tryd.pinned.checked.prog.wantsStandIn t = false := by
 (obtain rfl : f = 4 := Option.some.inj ((show Tryd.prog.funcNamed "loop.example/g00663/laws.FnExactReqText" = some 4 by kernel_rfl).symm.trans hf) |>.symm); (obtain rfl : fn = Tryd.f4 := (Option.some.inj (Tryd.func4.symm.trans hfn)).symm)
 refine ⟨by kernel_rfl, fun j t ht => ?_⟩
 (rw [Tryd.params4] at ht); (obtain rfl : t = 29 := by simpa using Array.mem_of_getElem? ht)
 exact (show Tryd.prog.wantsStandIn 29 = false by kernel_rfl)
theorem card : Rows.FnExactReqTextCardSaid :=
 Claim7.holds_tied_plain_at .later [] _ _ _ _ said (fun _ h => by cases h) (by kernel_rfl) (fun _ h => by cases h) fnExactReqText_row_tie rfl ⟨rfl, rfl⟩ (by kernel_rfl) rfl plain (by kernel_rfl)
end Go.Proofs.YtbpffdhkeinmcaaDoor.fnExactReqText
namespace Go.Proofs.YtbpffdhkeinmcaaDoor
theorem fnExactReqText_holds : Rows.FnExactReqTextCardSaid := fnExactReqText.card
#print axioms fnExactReqText_holds
end Go.Proofs.YtbpffdhkeinmcaaDoor
