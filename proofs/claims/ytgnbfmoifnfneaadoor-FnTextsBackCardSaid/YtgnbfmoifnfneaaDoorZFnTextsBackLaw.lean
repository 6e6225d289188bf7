/- The law FnTextsBack: for every input that can be read the call returns true, and each argument reads afterwards as it read before; the library's tables stand as the program's text lays them (the card). Out of the walk of the Go code and the statement over numbers, strings and lists. No condition. -/
import Derived.Test.YtgnbfmoifnfneaaDoorZFnTextsBackx12
import Derived.Test.YtgnbfmoifnfneaaDoorRows
import Derived.Test.YtgnbfmoifnfneaaDoorCards
import Derived.Test.YtgnbfmoifnfneaaDoorTie
import Derived.WalkKit
import Derived.ProofKit
import Derived.OpenShut
import Derived.ShutString
import Derived.ChangeOld
import Derived.Below
import Derived.SizedLaws
import Derived.Deep.DeepHandedRow
import Derived.Lib.LaidTab
import Derived.SevenTiedAt
import Derived.OpenVars
import Derived.ChangeVars
import Derived.ChangeArms
import Derived.Lib.LaidU8
import Derived.Deep.DeepWitnessRowRef
namespace Go.Proofs.YtgnbfmoifnfneaaDoor.fnTextsBack
open Go.ChangeShapes Go.WideShapes Go.ChangeAt Go.RowKit Go.Proofs.YtgnbfmoifnfneaaDoor.QA Go.Proofs.YtgnbfmoifnfneaaDoorW.PrintWords
open Go.ChangeMaps (open_string shut_string)
set_option linter.unusedVariables false
theorem own : ownKnob Tryd.prog.godebug = none := by kernel_rfl
theorem laidOut : laidOutB Tryd.prog = true := by kernel_rfl
theorem tabIs_of_laid {P : Program} {W : World} {name : String} {k : IntKind} {zs : List Int} {g : Nat} {t e : TypeId} {n : Nat}
  (hg : P.globalNamed name = some g) (hty : (P.globals[g]?).map (·.type) = some t) (ht : P.underlying t = some (.array n e)) (he : P.underlying e = some (.int k)) (hce : P.cellsOf e = 1) (hct : P.cellsOf t = n) :
  ∀ (l : List (String × DataW Unit)) (ps : List MemPlace), DataW.LaidVars P W l ps → (name, Lib.tabData k zs) ∈ l → Lib.TabIs P W name k zs := by
 intro l
 induction l with
 | nil => intro ps _ hm; cases hm
 | cons x xs ih =>
  intro ps h hm
  (obtain ⟨nm, d⟩ := x); (obtain ⟨g', t', cs, fuel, p, q, hg', ht', hvar, hd, hr, _⟩ := h)
  rcases List.mem_cons.1 hm with h1 | h1
  ·obtain ⟨rfl, rfl⟩ := Prod.mk.inj h1
   (obtain rfl := Option.some.inj (hg.symm.trans hg')); (obtain rfl := Option.some.inj (hty.symm.trans ht'))
   unfold Lib.TabIs
   rw [hvar, ← Lib.cells_of_tab ht he hce hct hd]
  ·exact ih q hr h1
theorem int_of_shape {P : Program} {w : World} {g : Nat} {t : TypeId} {zero : Array Value} (h : w.ShapedOpen P) (hg : g < P.globals.size)
  (h0 : ((begin P (fun _ _ => 0) default).world.heap[g]?).bind Obj.row? = some (zero, t)) (hz : zero.size = 1)
  (hb : P.buildable t = true) (hc : P.cellTypes P.depth t = some [t]) (hu : P.underlying t = some (.int .i64)) : ∃ m : Int, w.cell? ⟨g, 0, none⟩ = some (.int .i64 m) := by
 (obtain ⟨cs, hh, hs, hr⟩ := h.1 g zero t hg h0); (obtain ⟨ts, hts, _, hall⟩ := hr hb); (rw [hc] at hts)
 cases hts
 (have h1 : 0 < cs.size := by omega); (obtain ⟨u, hu', hok⟩ := hall 0 cs[0] (by simp [h1])); (have : u = t := by simpa using hu'.symm); (subst this); (have hcell : w.cell? ⟨g, 0, none⟩ = some cs[0] := by simp [World.cell?, hh, h1]); (rw [hcell])
 unfold Cell.ok at hok
 rw [hu] at hok
 cases hv : cs[0] <;> rw [hv] at hok <;> simp at hok
 obtain ⟨rfl, _⟩ := hok
 exact ⟨_, rfl⟩
theorem iface_of_reads {P : Program} {W : World} {n : String} {g : Nat} {t : TypeId} {nm : String} {d : DataW Unit}
  (hg : P.globalNamed n = some g) (hty : (P.globals[g]?).map (·.type) = some t) (hi : (match P.underlying t with | some (.interface _) => true | _ => false) = true) (h : Lib.VarReads P W n (.iface nm d)) : ∃ (tp : TypeId) (p : Value), W.var? P n = some #[.iface tp p] := by
 (obtain ⟨g', t', cs, fuel, p, hg', ht', hv, hr⟩ := h); (obtain rfl := Option.some.inj (hg.symm.trans hg')); (obtain rfl := Option.some.inj (hty.symm.trans ht')); (obtain ⟨ms, hms⟩ : ∃ ms, P.underlying t = some (.interface ms) := by split at hi; (exact ⟨_, by assumption⟩); cases hi); (obtain ⟨_, u, v, hcs, _, _⟩ := iface_of_trod hms hr); (obtain rfl : cs = #[.iface u v] := Array.ext' hcs)
 exact ⟨u, v, hv⟩
theorem cells_of_strs {H : Type} {enc : TypeId × Value → H} {P : Program} {w : World} {base : Nat} {sp : Nat → Bool} {held : Bool} {fuel : Nat} {t e : TypeId} {n : Nat} {cs : List Value} {zs : List (List UInt8)} {p : List MemPlace}
  (ht : P.underlying t = some (.array n e)) (he : P.underlying e = some .string) (hce : P.cellsOf e = 1) (hct : P.cellsOf t = n)
  (h : DataW.trod enc P w base sp held fuel t cs = some (.agg (zs.map fun z => .lit (.string z)), p)) : cs = zs.map fun z => Value.string ⟨z.toArray⟩ := by
 cases fuel with
 | zero => simp [DataW.trod] at h
 | succ fuel =>
  simp only [DataW.trod, ht, hce, hct, Nat.mul_one] at h
  split at h
  ·rename_i hl
   obtain ⟨xs, hm, hx⟩ := Option.map_eq_some_iff.1 h
   have hxs : xs.map (·.1) = zs.map fun z => (DataW.lit (.string z) : DataW H) := by
    have := congrArg Prod.fst hx
    simpa using this
   have hxl : xs.length = n := by simpa using Lib.mapM_length hm
   have hzl : zs.length = n := by
    have := congrArg List.length hxs
    simp at this
    omega
   apply List.ext_getElem?
   intro i
   by_cases hi : i < n
   ·obtain ⟨b, hb, hf⟩ := Lib.mapM_at hm i i (by simp [hi])
    obtain ⟨z, hc, rfl, _⟩ := DataW.trod_string he hf
    have h1 : cs[i]? = some (.string z) := by
     have := congrArg (·[0]?) hc
     simpa [List.getElem?_take, List.getElem?_drop] using this
    (have h2 : (xs.map (·.1))[i]? = some (DataW.lit (.string z.data.toList) : DataW H) := by simp [hb]); (rw [hxs] at h2); (simp only [List.getElem?_map, Option.map_eq_some_iff, DataW.lit.injEq, Lit.string.injEq] at h2); (obtain ⟨z', hz', rfl⟩ := h2)
    simp [h1, hz']
   ·rw [List.getElem?_eq_none (by omega), List.getElem?_eq_none (by simp; omega)]
  ·cases h
theorem reqw_of_reads {P : Program} {W : World} {g : Nat} {t e : TypeId}
  (hg : P.globalNamed "loop.example/g00663/impl.reqWords" = some g) (hty : (P.globals[g]?).map (·.type) = some t) (ht : P.underlying t = some (.array 7 e)) (he : P.underlying e = some .string) (hce : P.cellsOf e = 1) (hct : P.cellsOf t = 7)
  (h : Lib.VarReads P W "loop.example/g00663/impl.reqWords" Rows.laid_loop_example_g00663_impl_reqWords) : ∀ (k : Nat) (s : ByteArray), reqWordsL[k]? = some s → W.cell? ⟨g, k, none⟩ = some (.string s) := by
 (obtain ⟨g', t', cs, fuel, p, hg', ht', hv, hr⟩ := h); (obtain rfl := Option.some.inj (hg.symm.trans hg')); (obtain rfl := Option.some.inj (hty.symm.trans ht')); (have hc : cs.toList = (reqWordsL.map fun s => s.data.toList).map fun z => Value.string ⟨z.toArray⟩ := cells_of_strs ht he hce hct hr)
 intro k s hk
 (have := World.var?_cell hg hv k); (rw [this, ← Array.getElem?_toList, hc, List.getElem?_map, List.getElem?_map, hk])
 simp
theorem table {W : World} (h : laidMetH Tryd.prog Rows.fnTextsBackRow.laid W) (hSh : W.ShapedOpen Tryd.prog) : TabG W := by
 (have h2 : laidMet Tryd.prog Rows.fnTextsBackRow.laid W := h); (obtain ⟨ps, hL, _⟩ := id h2)
 exact ⟨tabIs_of_laid (g := 4) (t := 109) (e := 92) (n := 20) (by kernel_rfl) (by kernel_rfl) (by kernel_rfl) (by kernel_rfl) (by kernel_rfl) (by kernel_rfl) _ ps hL (List.Mem.tail _ (List.Mem.tail _ (List.Mem.head _))), int_of_shape hSh (g := 1) (t := 3) (zero := #[.int .i64 0]) (of_decide_eq_true (by kernel_rfl)) (by kernel_rfl) (by kernel_rfl) (by kernel_rfl) (by kernel_rfl) (by kernel_rfl), iface_of_reads (g := 2) (t := 67) (by kernel_rfl) (by kernel_rfl) (by kernel_rfl) (Lib.laidMet.reads h2 (List.Mem.tail _ (List.Mem.tail _ (List.Mem.tail _ (List.Mem.tail _ (List.Mem.tail _ (List.Mem.head _))))))), iface_of_reads (g := 3) (t := 67) (by kernel_rfl) (by kernel_rfl) (by kernel_rfl) (Lib.laidMet.reads h2 (List.Mem.tail _ (List.Mem.tail _ (List.Mem.tail _ (List.Mem.tail _ (List.Mem.head _)))))), reqw_of_reads (g := 0) (t := 54) (e := 9) (by kernel_rfl) (by kernel_rfl) (by kernel_rfl) (by kernel_rfl) (by kernel_rfl) (by kernel_rfl) (Lib.laidMet.reads h2 (List.Mem.tail _ (List.Mem.tail _ (List.Mem.tail _ (List.Mem.tail _ (List.Mem.tail _ (List.Mem.tail _ (List.Mem.head _))))))))⟩
set_option maxRecDepth 100000 in
theorem contract (H : Type) (enc : TypeId × Value → H) (W : World) (base : Nat) (args : Array Value) (ds gs : List (DataW H)) (before : List MemPlace)
  (hval0 : ∀ (j : Nat) t v, Tryd.f4.params[j]? = some t → args[j]? = some v → Value.okWide Tryd.prog W .any base t v)
  (hW : DataW.Whole enc Tryd.prog Tryd.f4.params.toList Rows.fnTextsBackSpec.vars false W args.toList ds gs before) (hL : laidMetH Tryd.prog Rows.fnTextsBackRow.laid W) (hSh : W.ShapedOpen Tryd.prog) :
  Calls Tryd.prog 4 args W fun e W' => ∃ v, e = .returned v ∧ Rows.fnTextsBackSpec.post enc Tryd.prog Tryd.f4 false true false false W args v W' := by
 (have hval : ∀ (j : Nat) t v, Tryd.f4.params[j]? = some t → args[j]? = some v → Value.okWide Tryd.prog W .any base t v := hval0); (have hW' := hW); (obtain ⟨p, q, hA0, hV, rfl, hfz, hnd⟩ := hW); (have hA : DataW.TrodAll enc Tryd.prog W 0 (fun _ => true) true Tryd.f4.params.toList args.toList ds p := hA0); (rw [Tryd.params4] at hA hval); (obtain ⟨v0, vs0, d0, ds0, p0, q0, hargs, rfl, rfl, h0, r0⟩ := trodAll_cons hA); (obtain ⟨rfl, rfl, rfl⟩ := trodAll_nil r0); (obtain rfl : args = #[v0] := by cases args; simp_all); (have hV2 : DataW.TrodVars enc Tryd.prog W (fun _ => true) ["loop.example/g00663/impl.reqWords"] gs q := hV); (obtain ⟨_, _, _, _, g1, _, rfl, _⟩ := trodVars_one hV2); (have k0 := h0); (have lt0 : ∀ x ∈ p0, x.block < W.heap.size := by obtain ⟨m, hm⟩ := k0; exact DataW.trod_lt m _ _ _ hm); (obtain ⟨a0, len0, cap0, rfl⟩ := okWide_slice Tryd.underlying28 (hval 0 28 v0 rfl rfl)); (obtain ⟨y0, K0, w0⟩ := Open.open_arg (Open.opens_slice Tryd.underlying28 (by kernel_rfl) 0 (Open.opens_int (k := .u8) Tryd.underlying5 (by kernel_rfl))) h0); (obtain ⟨A0_0, C0_0, hcs0, hl0_0, hC0_0⟩ := K0); (simp only [Value.cells, List.cons.injEq, Value.slice.injEq, and_true] at hcs0); (obtain ⟨rfl, rfl, rfl⟩ := hcs0); (obtain ⟨kk, hk⟩ := Pure.FnTextsBack y0 w0); clear hA0 hval0
 refine (laws_FnTextsBack.calls kk a0 cap0 y0 true W hC0_0 hl0_0 hk (table hL hSh)).mono fun e W' ⟨he, bel0⟩ => ?_
 (have bel : Below W.heap.size W W' := bel0); (subst he)
 exact ⟨_, rfl, _, _, _, [], _, _, hW', trodAll_mk1 (shut_bool Tryd.underlying4 _), (trodAll_cons_mk (Below.trod laidOut (by kernel_rfl) (of_decide_eq_true (by kernel_rfl)) k0 bel lt0) trodAll_mk0), Below.trodVars laidOut bel (by kernel_rfl) hV, bel.frame _, fun h => by cases h⟩
def setTab (cs : Array Value) : Obj → Obj
 | .cells _ t frozen => .cells cs t frozen
 | o => o
noncomputable def laidWorld (os : Os) : World :=
 {World.holding Tryd.prog os ⟨#[.cells #[.string ⟨#[118, 97, 108, 117, 101, 32, 111, 117, 116, 32, 111, 102, 32, 114, 97, 110, 103, 101]⟩] 120, .cells #[.string ⟨#[105, 110, 118, 97, 108, 105, 100, 32, 115, 121, 110, 116, 97, 120]⟩] 120], #[], []⟩ with heap := (((((((((World.holding Tryd.prog os ⟨#[.cells #[.string ⟨#[118, 97, 108, 117, 101, 32, 111, 117, 116, 32, 111, 102, 32, 114, 97, 110, 103, 101]⟩] 120, .cells #[.string ⟨#[105, 110, 118, 97, 108, 105, 100, 32, 115, 121, 110, 116, 97, 120]⟩] 120], #[], []⟩).heap.modify 0 (setTab (#[.string ⟨#[]⟩, .string ⟨#[99, 104, 101, 99, 107]⟩, .string ⟨#[116, 111, 112]⟩, .string ⟨#[97, 100, 100]⟩, .string ⟨#[100, 114, 111, 112]⟩, .string ⟨#[115, 101, 116]⟩, .string ⟨#[116, 101, 120, 116]⟩]))).modify 2 (setTab (#[.iface 118 (.pointer (some ⟨(World.settled Tryd.prog os).heap.size + 1, 0, none⟩))]))).modify 3 (setTab (#[.iface 118 (.pointer (some ⟨(World.settled Tryd.prog os).heap.size + 0, 0, none⟩))]))).modify 4 (setTab ((Lib.pow10Tab.map fun z => Value.int .u64 z).toArray))).modify 5 (setTab ((Lib.firstTab.map fun z => Value.int .u8 z).toArray))).modify 6 (setTab (((List.range 16).flatMap fun i => [Value.int .u8 (Lib.accLo i : Int), Value.int .u8 (Lib.accHi i : Int)]).toArray))).modify 7 (setTab ((([0, 1, 28, 2, 29, 14, 24, 3, 30, 22, 20, 15, 25, 17, 4, 8, 31, 27, 13, 23, 21, 19, 16, 7, 26, 12, 18, 6, 11, 5, 10, 9] : List Int).map fun z => Value.int .u8 z).toArray))).modify 8 (setTab ((([0, 1, 56, 2, 57, 49, 28, 3, 61, 58, 42, 50, 38, 29, 17, 4, 62, 47, 59, 36, 45, 43, 51, 22, 53, 39, 33, 30, 24, 18, 12, 5, 63, 55, 48, 27, 60, 41, 37, 16, 46, 35, 44, 21, 52, 32, 23, 11, 54, 26, 40, 15, 34, 20, 31, 10, 25, 14, 19, 9, 13, 8, 7, 6] : List Int).map fun z => Value.int .u8 z).toArray))) }
theorem laid_met (os : Os) : laidMet Tryd.prog Rows.fnTextsBackRow.laid ((laidWorld os).forCall (fun _ _ => 0) ⟨#[], #[.slice none 0 0], []⟩).memory :=
 laidMet_of_run' 8 (by kernel_rfl) (by kernel_rfl)
theorem reads (os : Os) {H : Type} (enc : TypeId × Value → H) : ∃ places, DataW.whole enc Tryd.prog ((laidWorld os).forCall (fun _ _ => 0) ⟨#[], #[.slice none 0 0], []⟩).memory Tryd.f4.params.toList Rows.fnTextsBackSpec.vars false (#[.slice none 0 0] : Array Value).toList 8 = some ([.nil], [.agg [.lit (.string []), .lit (.string [99, 104, 101, 99, 107]), .lit (.string [116, 111, 112]), .lit (.string [97, 100, 100]), .lit (.string [100, 114, 111, 112]), .lit (.string [115, 101, 116]), .lit (.string [116, 101, 120, 116])]], places) :=
 ⟨MemPlace.row ⟨0, 0, none⟩ 7, by kernel_rfl⟩
set_option maxRecDepth 100000 in
theorem lifted (os : Os) (started : os.Started) (H : Type) (enc : TypeId × Value → H) (F : Stop.Interp) :
  ReturnsInHanded {} Tryd.checked os 4 .any ((OpenSpec.ofChange Rows.fnTextsBackSpec).preRow enc Tryd.prog Tryd.f4 Rows.fnTextsBackRow.domain false Rows.fnTextsBackRow.laid) (((OpenSpec.ofChange Rows.fnTextsBackSpec).at F).post enc Tryd.prog Tryd.f4 false true false false) := by
 obtain ⟨places, hx⟩ := reads os enc
 refine returnsInHanded_of_row (C := Tryd.checked) (s := OpenSpec.ofChange Rows.fnTextsBackSpec) own started (by kernel_rfl) Tryd.func4
  (witness_row_atRef (enc := enc) (C := Tryd.checked) false (laidWorld os) #[.slice none 0 0] rfl (by kernel_rfl) (by kernel_rfl) (by kernel_rfl)
   (OpenSpec.preRow_of_cond 8 hx (by kernel_rfl) (fun k hk => by cases hk) (by kernel_rfl) (laid_met os))) ?_
 intro W base args ds gs before hval hW _ _ _ hL hSh _
 exact contract H enc W base args ds gs before hval hW hL hSh
theorem said : Rows.FnTextsBackSaid :=
 OpenClaim.holds_of_cond 4 Tryd.f4 rfl rfl rfl rfl rfl rfl rfl ⟨rfl, rfl, rfl, rfl, rfl⟩ rfl rfl rfl rfl rfl (by kernel_rfl) Tryd.func4 (by kernel_rfl)
  (of_decide_eq_true (by kernel_rfl)) (by unfold Func.isWrapper; first | (rw [if_pos (by decide +kernel)]; kernel_rfl) | (rw [if_neg (by decide +kernel)]; exact ⟨rfl, rfl⟩))
  (fun os started H enc _ F => by rw [OpenClaim.pre_eq_preRow]; exact lifted os started H enc F)
theorem plain (f : FuncId) (fn : Func) (hf : Tryd.pinned.checked.prog.funcNamed "loop.example/g00663/laws.FnTextsBack" = some f) (hfn : Tryd.pinned.checked.prog.funcs[f]? = some fn) :
  true = Tryd.pinned.checked.prog.looks [] ∧ ∀ (j : Nat) t, fn.params[j]? = some t → Tryd.pinned.checked.prog.wantsStandIn t = false := by
 (obtain rfl : f = 4 := Option.some.inj ((show Tryd.prog.funcNamed "loop.example/g00663/laws.FnTextsBack" = some 4 by kernel_rfl).symm.trans hf) |>.symm); (obtain rfl : fn = Tryd.f4 := (Option.some.inj (Tryd.func4.symm.trans hfn)).symm)
 refine ⟨by kernel_rfl, fun j t ht => ?_⟩
 (rw [Tryd.params4] at ht); (obtain rfl : t = 28 := by simpa using Array.mem_of_getElem? ht)
 exact (show Tryd.prog.wantsStandIn 28 = false by kernel_rfl)
theorem card : Rows.FnTextsBackCardSaid :=
 Claim7.holds_tied_plain_at .later [] _ _ _ _ said (fun _ h => by cases h) (by kernel_rfl) (fun _ h => by cases h) fnTextsBack_row_tie rfl ⟨rfl, rfl⟩ (by kernel_rfl) rfl plain (by kernel_rfl)
end Go.Proofs.YtgnbfmoifnfneaaDoor.fnTextsBack
namespace Go.Proofs.YtgnbfmoifnfneaaDoor
theorem fnTextsBack_holds : Rows.FnTextsBackCardSaid := fnTextsBack.card
#print axioms fnTextsBack_holds
end Go.Proofs.YtgnbfmoifnfneaaDoor
