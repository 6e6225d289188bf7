/- Part of the proof of the law FnExactReqRead: what it uses of the texts that this session and the kit's print wrote. -/
import Derived.Test.YtgnbfmoifnfneaaDoorZFnExactReqReadx10
namespace Go.Proofs.YtgnbfmoifnfneaaDoor.V
open Go Go.RowKit Go.Proofs.YtgnbfmoifnfneaaDoor.QA
set_option linter.unusedVariables false
set_option linter.unusedSimpArgs false
theorem flat_string {L : Lay} {W : World} (s : ByteArray) : FlatArg L W (.v (.string s)) (.string s) := ⟨(fun cs e => by cases e), fun st V tm F _ => .c (.v _ rfl)⟩
theorem law_calls1 {kk : Nat} {y0 : ByteArray} {W : World} (hk : c3 kk [.v (.string y0)] = some true) (hG : TabG W) : Calls Tryd.prog 3 #[.string y0] W fun | .returned v, W' => v = .bool true ∧ Below W.heap.size W W' | _, _ => False := by
 refine law_calls (C := CD) (Tab := TabD W) (ctx_ok (tabD_kept W) (ext_ok hG)) (f := 3) (by kernel_rfl) (az := [.v (.string y0)]) (vals := [.string y0]) (tabW_here W) rfl ?_ (k := kk) (r := (true : Bool)) hk rfl
 intro p hp
 obtain rfl : p = 0 := by simp at hp; omega
 exact flat_string y0
end Go.Proofs.YtgnbfmoifnfneaaDoor.V
namespace Go.Proofs.YtgnbfmoifnfneaaDoor.QA
open Go Go.RowKit
set_option linter.unusedVariables false
noncomputable def laws_FnExactReqRead.f (k : Nat) (y0 : ByteArray) : Option Bool := open Classical in if V.c3 k [.v (.string y0)] = some true then some true else none
theorem laws_FnExactReqRead.calls (kk : Nat) (y0 : ByteArray) (r : Bool) (W : World) (hk : laws_FnExactReqRead.f kk y0 = some r) (hG : TabG W) : Calls Tryd.prog 3 #[.string y0] W fun e W' => e = .returned (.bool r) ∧ Below W.heap.size W W' := by
 unfold laws_FnExactReqRead.f at hk
 split at hk
 ·rename_i h
  obtain rfl := Option.some.inj hk
  refine (V.law_calls1 h hG).mono fun e W' he => ?_
  cases e with
  | returned v => exact ⟨by rw [he.1], he.2⟩
  | panicked chain => exact he.elim
  | outgrown => exact he.elim
 ·cases hk
end Go.Proofs.YtgnbfmoifnfneaaDoor.QA
namespace Go.Proofs.YtgnbfmoifnfneaaDoor.Pure
open Go Go.RowKit Go.Proofs.YtgnbfmoifnfneaaDoor.QA
theorem FnExactReqRead (y0 : ByteArray) (_ : Open.InS y0) : ∃ k, laws_FnExactReqRead.f k y0 = some true := by
 obtain ⟨k, hk⟩ := V.law_ev y0
 exact ⟨k, by unfold laws_FnExactReqRead.f; rw [if_pos (hk k (Nat.le_refl _))]⟩
end Go.Proofs.YtgnbfmoifnfneaaDoor.Pure
