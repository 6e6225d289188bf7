/- What the arguments of these laws read as, type by type. Written by this session's program (wip/drive.py). -/
import Derived.Test.YtlfplcfhkhihiaaQBx0
import Derived.Test.YtlfplcfhkhihiaaOpen
import Derived.KernelRfl
namespace Go.Proofs.Ytlfplcfhkhihiaa.QB
open Go.RowKit Go.Proofs.YtlfplcfhkhihiaaW.PrintWords Go.Proofs.YtlfplcfhkhihiaaW.PrintLast Go.Proofs.Ytlfplcfhkhihiaa
def W23 (x : S23) : Prop := Open.InK .i64 x.f0 ∧ Open.InK .i64 x.f1
theorem opens23 : Open.Opens Try.prog 23 k23 W23 :=
  Open.opens_mono (Open.opens_iso (fun x => (⟨x.1, x.2⟩ : S23)) (fun _ => rfl) (Open.opens_struct Try.underlying23 (by kernel_rfl) (by exact (Open.fields_cons rfl (Open.opens_int (k := .i64) Try.underlying3 (by kernel_rfl)) (Open.fields_one rfl (Open.opens_int (k := .i64) Try.underlying3 (by kernel_rfl))))))) (fun _ h => h)
def W37 (x : S37) : Prop := Open.InK .i64 x.f0 ∧ Open.InK .i64 x.f1 ∧ Open.InK .i64 x.f2 ∧ Open.InK .i64 x.f3
theorem opens37 : Open.Opens Try.prog 37 k37 W37 :=
  Open.opens_mono (Open.opens_iso (fun x => (⟨x.1, x.2.1, x.2.2.1, x.2.2.2⟩ : S37)) (fun _ => rfl) (Open.opens_struct Try.underlying37 (by kernel_rfl) (by exact (Open.fields_cons rfl (Open.opens_int (k := .i64) Try.underlying3 (by kernel_rfl)) (Open.fields_cons rfl (Open.opens_int (k := .i64) Try.underlying3 (by kernel_rfl)) (Open.fields_cons rfl (Open.opens_int (k := .i64) Try.underlying3 (by kernel_rfl)) (Open.fields_one rfl (Open.opens_int (k := .i64) Try.underlying3 (by kernel_rfl))))))))) (fun _ h => h)
end Go.Proofs.Ytlfplcfhkhihiaa.QB
