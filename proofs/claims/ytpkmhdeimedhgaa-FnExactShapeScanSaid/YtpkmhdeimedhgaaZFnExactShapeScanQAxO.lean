/- Part of the proof of the law FnExactShapeScan: what it uses of the texts that this session and the kit's print wrote. -/
import Derived.Test.YtpkmhdeimedhgaaZFnExactShapeScanQAx0
import Derived.Test.YtpkmhdeimedhgaaZFnExactShapeScanOpen
import Derived.KernelRfl
namespace Go.Proofs.Ytpkmhdeimedhgaa.QA
open Go.RowKit Go.Proofs.YtpkmhdeimedhgaaW.PrintWords Go.Proofs.YtpkmhdeimedhgaaW.PrintLast Go.Proofs.Ytpkmhdeimedhgaa
def W29 (x : S29) : Prop := Open.InK .i64 x.f0 ∧ Open.InK .i64 x.f1 ∧ Open.InK .i64 x.f2 ∧ Open.InK .i64 x.f3
theorem opens29 : Open.Opens Try.prog 29 k29 W29 :=
  Open.opens_mono (Open.opens_iso (fun x => (⟨x.1, x.2.1, x.2.2.1, x.2.2.2⟩ : S29)) (fun _ => rfl) (Open.opens_struct Try.underlying29 (by kernel_rfl) (by exact (Open.fields_cons rfl (Open.opens_int (k := .i64) Try.underlying3 (by kernel_rfl)) (Open.fields_cons rfl (Open.opens_int (k := .i64) Try.underlying3 (by kernel_rfl)) (Open.fields_cons rfl (Open.opens_int (k := .i64) Try.underlying3 (by kernel_rfl)) (Open.fields_one rfl (Open.opens_int (k := .i64) Try.underlying3 (by kernel_rfl))))))))) (fun _ h => h)
def W78 (x : S78) : Prop := Open.InK .i64 x.f0 ∧ Open.InK .i64 x.f1
theorem opens78 : Open.Opens Try.prog 78 k78 W78 :=
  Open.opens_mono (Open.opens_iso (fun x => (⟨x.1, x.2⟩ : S78)) (fun _ => rfl) (Open.opens_struct Try.underlying78 (by kernel_rfl) (by exact (Open.fields_cons rfl (Open.opens_int (k := .i64) Try.underlying3 (by kernel_rfl)) (Open.fields_one rfl (Open.opens_int (k := .i64) Try.underlying3 (by kernel_rfl))))))) (fun _ h => h)
end Go.Proofs.Ytpkmhdeimedhgaa.QA
