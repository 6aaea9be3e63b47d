/- The printed functions of layer 9 (span) answer plainly. -/
import Derived.Test.YthbdhlcfcfjknaaExact
import Derived.Test.YthbdhlcfcfjknaaFn2
import Derived.Test.YthbdhlcfcfjknaaFn4
set_option maxRecDepth 100000
set_option linter.unusedVariables false
namespace Go.Proofs.Ythbdhlcfcfjknaa.Span
open Go.RowKit Go.Proofs.Ythbdhlcfcfjknaa.Fn Go.Proofs.Ythbdhlcfcfjknaa.Div Go.Proofs.Ythbdhlcfcfjknaa.Exact Go.Proofs.YthbdhlcfcfjknaaW.PrintWords Go.Proofs.YthbdhlcfcfjknaaW.PrintLast Go.Proofs.YthbdhlcfcfjknaaW.PrintMore

theorem right_spec (a b : Int) : span_Right.f a b = some (decide (a ≤ b)) := rfl
theorem of_spec (n : Int) : span_Of.f n = some (n, n) := rfl
theorem join_spec (a b c d : Int) : span_Join.f a b c d = some (mn a c, mx b d) := rfl
theorem within_spec (a b c d : Int) : span_Within.f a b c d = some (decide (c ≤ a ∧ b ≤ d)) := by
  unfold span_Within.f
  rw [join_spec, bs]
  congr 1
  unfold mn mx
  rw [Bool.eq_iff_iff]
  simp only [Bool.and_eq_true, beq_iff_eq, decide_eq_true_eq]
  constructor
  · rintro ⟨h1, h2⟩
    split at h1 <;> split at h2 <;> omega
  · rintro ⟨h1, h2⟩
    constructor
    · split <;> omega
    · split <;> omega
theorem has_spec (a b n : Int) : span_Has.f a b n = some (decide (a ≤ n ∧ n ≤ b)) := by
  unfold span_Has.f
  rw [of_spec, bs, within_spec, bs]
theorem add_span (a b c d : Int) (ha : ok a) (hb : ok b) (hc : ok c) (hd : ok d) : span_Add.f a b c d = some (sat (a + c), sat (b + d)) := by
  unfold span_Add.f
  rw [add_spec a c ha hc, add_spec b d hb hd]
  simp only [bs]

end Go.Proofs.Ythbdhlcfcfjknaa.Span
