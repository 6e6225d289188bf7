/- Part of the proof of the law FnExactShapesOf: what it uses of the texts that this session and the kit's print wrote. -/
import Derived.Test.YtpkmhdeimedhgaaZFnExactShapesOfQAx0
import Derived.Test.YtpkmhdeimedhgaaZFnExactShapesOfOpen
import Derived.KernelRfl
namespace Go.Proofs.Ytpkmhdeimedhgaa.QA
open Go.RowKit Go.Proofs.YtpkmhdeimedhgaaW.PrintWords Go.Proofs.YtpkmhdeimedhgaaW.PrintLast Go.Proofs.Ytpkmhdeimedhgaa
def W66 (x : S66) : Prop := Open.InK .i64 x.f0 ∧ Open.InS x.f1 ∧ Open.InK .i64 x.f2 ∧ Open.InK .i64 x.f3 ∧ Open.InK .i64 x.f4 ∧ Open.InK .i64 x.f5 ∧ Open.InS x.f6
theorem opens66 : Open.Opens Try.prog 66 k66 W66 :=
  Open.opens_mono (Open.opens_iso (fun x => (⟨x.1, x.2.1, x.2.2.1, x.2.2.2.1, x.2.2.2.2.1, x.2.2.2.2.2.1, x.2.2.2.2.2.2⟩ : S66)) (fun _ => rfl) (Open.opens_struct Try.underlying66 (by kernel_rfl) (by exact (Open.fields_cons rfl (Open.opens_int (k := .i64) Try.underlying3 (by kernel_rfl)) (Open.fields_cons rfl (Open.opens_string Try.underlying9 (by kernel_rfl)) (Open.fields_cons rfl (Open.opens_int (k := .i64) Try.underlying3 (by kernel_rfl)) (Open.fields_cons rfl (Open.opens_int (k := .i64) Try.underlying3 (by kernel_rfl)) (Open.fields_cons rfl (Open.opens_int (k := .i64) Try.underlying3 (by kernel_rfl)) (Open.fields_cons rfl (Open.opens_int (k := .i64) Try.underlying3 (by kernel_rfl)) (Open.fields_one rfl (Open.opens_string Try.underlying9 (by kernel_rfl)))))))))))) (fun _ h => h)
end Go.Proofs.Ytpkmhdeimedhgaa.QA
