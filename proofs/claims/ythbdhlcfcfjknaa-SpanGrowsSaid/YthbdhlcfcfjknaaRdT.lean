/- The types of the laws' arguments open. -/
import Derived.Test.YthbdhlcfcfjknaaRd
set_option linter.unusedVariables false
namespace Go.Proofs.Ythbdhlcfcfjknaa.Rd
open Go.RowKit Go.Proofs.Ythbdhlcfcfjknaa.Fn Go.Proofs.YthbdhlcfcfjknaaW.PrintWords
def w23 (x : S23) : Prop := (Lit.int .i64 x.f0).wf = true ∧ (Lit.int .i64 x.f1).wf = true
theorem opens23 : Opens k23 w23 Try.prog 23 :=
  opens_iso (fun p => ⟨p.1, p.2⟩) (fun _ => rfl) (opens_struct Try.underlying23 (by kernel_rfl) (opensF_cons (off2 := 1) rfl (by kernel_rfl) rfl (opens_int Try.underlying3) (opensF_last rfl (by kernel_rfl) (opens_int Try.underlying3))))
end Go.Proofs.Ythbdhlcfcfjknaa.Rd
