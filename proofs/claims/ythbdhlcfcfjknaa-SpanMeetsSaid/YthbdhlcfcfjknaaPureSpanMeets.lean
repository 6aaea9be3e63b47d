import Derived.Test.YthbdhlcfcfjknaaSpanMore
import Derived.Test.YthbdhlcfcfjknaaRdT
import Derived.Test.YthbdhlcfcfjknaaFn10
set_option maxRecDepth 100000
set_option linter.unusedVariables false
namespace Go.Proofs.Ythbdhlcfcfjknaa.Pure
open Go.RowKit Go.Proofs.Ythbdhlcfcfjknaa.Fn Go.Proofs.Ythbdhlcfcfjknaa.Rd Go.Proofs.Ythbdhlcfcfjknaa.Div Go.Proofs.Ythbdhlcfcfjknaa.Exact Go.Proofs.Ythbdhlcfcfjknaa.Span Go.Proofs.YthbdhlcfcfjknaaW.PrintWords Go.Proofs.YthbdhlcfcfjknaaW.PrintLast Go.Proofs.YthbdhlcfcfjknaaW.PrintMore

theorem mee_j3 (k : Nat) (a b c d : Int) : bournelaw09_SpanMeets.j3 (k + 1) true false a b c d (mn a c) (mx b d) = some true := by
  simp only [bournelaw09_SpanMeets.j3]
  rw [if_neg (by decide), if_pos trivial]
  have h2 : ∀ P : Prop, P → (if mx b d = b then some true else some (mx b d == d)) = some true := by
    intro _ _
    by_cases h : mx b d = b
    · rw [if_pos h]
    · rw [if_neg h]
      have := (mx_le b d).2.2
      have e : mx b d = d := by omega
      rw [e]; simp
  by_cases h : mn a c = a
  · rw [if_pos h]; exact h2 True trivial
  · rw [if_neg h, if_pos (by have := (mn_le a c).2.2; omega)]; exact h2 True trivial

theorem mee_j2 (k : Nat) (x a b c d : Int) : bournelaw09_SpanMeets.j2 (k + 2) x true false a b c d (mn a c) (mx b d) = some true := by
  simp only [bournelaw09_SpanMeets.j2]
  have m1 := mn_le a c
  have m2 := mx_le b d
  rw [if_neg (by decide)]
  simp only [has_spec, within_spec, bs]
  rw [decide_eq_true (⟨m1.1, m2.1⟩ : mn a c ≤ a ∧ b ≤ mx b d), decide_eq_true (⟨m1.2.1, m2.2.1⟩ : mn a c ≤ c ∧ d ≤ mx b d)]
  have e := mee_j3 k a b c d
  by_cases h1 : a ≤ x ∧ x ≤ b
  · rw [decide_eq_true h1, if_pos rfl, decide_eq_true (show mn a c ≤ x ∧ x ≤ mx b d by omega), if_pos rfl, if_pos rfl]; exact e
  · rw [decide_eq_false h1, if_neg (by decide)]
    by_cases h2 : c ≤ x ∧ x ≤ d
    · rw [decide_eq_true h2, if_pos rfl, decide_eq_true (show mn a c ≤ x ∧ x ≤ mx b d by omega), if_pos rfl, if_pos rfl]; exact e
    · rw [decide_eq_false h2, if_neg (by decide), if_pos rfl]; exact e

theorem mee_j1 (k : Nat) (x a b c d : Int) (t : Bool) (ht : t = decide ((a ≤ x ∧ x ≤ b) ∧ (c ≤ x ∧ x ≤ d))) :
    bournelaw09_SpanMeets.j1 (k + 3) x true (meet a b c d).2.2 t a b c d (meet a b c d).1 (meet a b c d).2.1 (mn a c) (mx b d) = some true := by
  simp only [bournelaw09_SpanMeets.j1]
  have m1 := mx_le a c
  have m2 := mn_le b d
  have e := mee_j2 k x a b c d
  unfold meet
  by_cases h : mx a c ≤ mn b d
  · rw [if_pos h, if_pos rfl]
    simp only [has_spec, within_spec, right_spec, bs]
    rw [if_neg (bne_neg (ht.trans (by rw [decide_eq_decide]; constructor <;> intro _ <;> omega)))]
    rw [decide_eq_true (⟨m1.1, m2.1⟩ : a ≤ mx a c ∧ mn b d ≤ b), if_pos rfl, decide_eq_true (⟨m1.2.1, m2.2.1⟩ : c ≤ mx a c ∧ mn b d ≤ d), if_pos rfl, decide_eq_true h, if_pos rfl]
    exact e
  · rw [if_neg h, if_neg (by decide)]
    rw [if_neg (bne_neg (ht.trans (decide_eq_false (by omega))))]
    exact e

theorem SpanMeets : bournelaw09_SpanMeets.Pure := by
  intro a b c d x ha hb hc hd hx
  refine ⟨4, ?_⟩
  unfold bournelaw09_SpanMeets.f bournelaw09_small.f
  have bad : bournelaw09_SpanMeets.j0 4 x true true a b c d = some true := by
    simp only [bournelaw09_SpanMeets.j0]; rw [if_pos trivial]
  have good : bournelaw09_SpanMeets.j0 4 x true false a b c d = some true := by
    show bournelaw09_SpanMeets.j0 (0 + 3 + 1) x true false a b c d = some true
    simp only [bournelaw09_SpanMeets.j0]
    rw [if_neg (by decide), meet_spec, bs, join_spec, bs]
    simp only [has_spec, bs]
    by_cases h1 : a ≤ x ∧ x ≤ b
    · rw [decide_eq_true h1, if_pos rfl]
      by_cases h2 : c ≤ x ∧ x ≤ d
      · rw [decide_eq_true h2]; exact mee_j1 0 x a b c d _ (decide_eq_true ⟨h1, h2⟩).symm
      · rw [decide_eq_false h2]; exact mee_j1 0 x a b c d _ (decide_eq_false (fun h => h2 h.2)).symm
    · rw [decide_eq_false h1, if_neg (by decide)]; exact mee_j1 0 x a b c d _ (decide_eq_false (fun h => h1 h.1)).symm
  simp only [right_spec, bs]
  by_cases h1 : a ≤ b
  · rw [decide_eq_true h1, if_pos rfl]
    by_cases h2 : c ≤ d
    · rw [decide_eq_true h2]; exact good
    · rw [decide_eq_false h2]; exact bad
  · rw [decide_eq_false h1, if_neg (by decide)]; exact bad

end Go.Proofs.Ythbdhlcfcfjknaa.Pure
