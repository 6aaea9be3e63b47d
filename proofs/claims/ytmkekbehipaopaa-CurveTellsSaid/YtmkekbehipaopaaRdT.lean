/- The types of the laws' arguments open. -/
import Derived.Test.YtmkekbehipaopaaRd
set_option linter.unusedVariables false
namespace Go.Proofs.Ytmkekbehipaopaa.Rd
open Go.RowKit Go.Proofs.Ytmkekbehipaopaa.Fn Go.Proofs.YtmkekbehipaopaaW.PrintWords
def w37 (x : S37) : Prop := (Lit.int .i64 x.f0).wf = true ∧ (Lit.int .i64 x.f1).wf = true
theorem opens37 : Opens k37 w37 Try.prog 37 :=
  opens_iso (fun p => ⟨p.1, p.2⟩) (fun _ => rfl) (opens_struct Try.underlying37 (by kernel_rfl) (opensF_cons (off2 := 1) rfl (by kernel_rfl) rfl (opens_int Try.underlying3) (opensF_last rfl (by kernel_rfl) (opens_int Try.underlying3))))
end Go.Proofs.Ytmkekbehipaopaa.Rd
