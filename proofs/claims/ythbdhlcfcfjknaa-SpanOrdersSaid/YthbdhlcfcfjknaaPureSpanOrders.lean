import Derived.Test.YthbdhlcfcfjknaaSpanMore
import Derived.Test.YthbdhlcfcfjknaaRdT
import Derived.Test.YthbdhlcfcfjknaaFn12
set_option maxRecDepth 100000
set_option linter.unusedVariables false
namespace Go.Proofs.Ythbdhlcfcfjknaa.Pure
open Go.RowKit Go.Proofs.Ythbdhlcfcfjknaa.Fn Go.Proofs.Ythbdhlcfcfjknaa.Rd Go.Proofs.Ythbdhlcfcfjknaa.Div Go.Proofs.Ythbdhlcfcfjknaa.Exact Go.Proofs.Ythbdhlcfcfjknaa.Span Go.Proofs.YthbdhlcfcfjknaaW.PrintWords Go.Proofs.YthbdhlcfcfjknaaW.PrintLast Go.Proofs.YthbdhlcfcfjknaaW.PrintMore

theorem ord_j2 (k : Nat) (x a b c d : Int) : bournelaw09_SpanOrders.j2 (k + 1) x true false a b c d = some true := by
  simp only [bournelaw09_SpanOrders.j2]
  rw [if_neg (by decide), if_pos trivial]
  have o : (if (x == x && (x == x)) = true then some (decide (x ≤ x ∧ x ≤ x)) else some false) = some true := by
    rw [if_pos (by simp), decide_eq_true (⟨Int.le_refl x, Int.le_refl x⟩ : x ≤ x ∧ x ≤ x)]
  simp only [of_spec, has_spec, within_spec, bs]
  by_cases h1 : c ≤ a ∧ b ≤ d
  · rw [decide_eq_true h1, if_pos rfl]
    by_cases h2 : a ≤ x ∧ x ≤ b
    · rw [decide_eq_true h2, if_pos rfl, decide_eq_true (show c ≤ x ∧ x ≤ d by omega), if_pos rfl]; exact o
    · rw [decide_eq_false h2, if_neg (by decide)]; exact o
  · rw [decide_eq_false h1, if_neg (by decide)]; exact o

theorem ord_j1 (k : Nat) (x a b c d : Int) : bournelaw09_SpanOrders.j1 (k + 2) x true false a b c d = some true := by
  simp only [bournelaw09_SpanOrders.j1]
  rw [if_neg (by decide)]
  have E := ord_j2 k x a b c d
  simp only [right_spec, has_spec, within_spec, bs]
  by_cases h0 : a ≤ b
  · rw [decide_eq_true h0, if_pos rfl]
    by_cases h1 : c ≤ a ∧ a ≤ d
    · rw [decide_eq_true h1, if_pos rfl]
      by_cases h2 : c ≤ b ∧ b ≤ d
      · rw [decide_eq_true h2, decide_eq_true (show c ≤ a ∧ b ≤ d by omega)]; exact E
      · rw [decide_eq_false h2, decide_eq_false (show ¬ (c ≤ a ∧ b ≤ d) by omega)]; exact E
    · rw [decide_eq_false h1, if_neg (by decide), decide_eq_false (show ¬ (c ≤ a ∧ b ≤ d) by omega)]; exact E
  · rw [decide_eq_false h0, if_neg (by decide)]; exact E

theorem ord_mx (a b : Int) : mx a b = mx b a := by have := mx_le a b; have := mx_le b a; omega
theorem ord_mn (a b : Int) : mn a b = mn b a := by have := mn_le a b; have := mn_le b a; omega
theorem ord_ne {a b c d : Int} (h1 : a = c) (h2 : b = d) : (!(a == c) || (!(b == d))) = false := by subst h1; subst h2; simp

theorem ord_j0 (k : Nat) (x a b c d : Int) (ha : ok a) (hb : ok b) (hc : ok c) (hd : ok d) : bournelaw09_SpanOrders.j0 (k + 3) x true false a b c d = some true := by
  simp only [bournelaw09_SpanOrders.j0]
  rw [if_neg (by decide)]
  simp only [add_span a b c d ha hb hc hd, add_span c d a b hc hd ha hb, join_spec, bs]
  rw [ord_ne (congrArg sat (show a + c = c + a by omega)) (congrArg sat (show b + d = d + b by omega)), if_neg (by decide)]
  rw [ord_ne (ord_mn a c) (ord_mx b d), if_neg (by decide)]
  rw [ord_ne (show mn a a = a by have := mn_le a a; omega) (show mx b b = b by have := mx_le b b; omega)]
  exact ord_j1 k x a b c d

theorem SpanOrders : bournelaw09_SpanOrders.Pure := by
  intro a b c d e f x ha hb hc hd he hf hx
  refine ⟨0 + 3, ?_⟩
  unfold bournelaw09_SpanOrders.f bournelaw09_small.f
  have E := ord_j0 0 x a b c d (ok_of ha) (ok_of hb) (ok_of hc) (ok_of hd)
  simp only [within_spec, bs]
  rw [decide_eq_true (⟨Int.le_refl a, Int.le_refl b⟩ : a ≤ a ∧ b ≤ b), if_pos rfl]
  have T : (if decide (c ≤ a ∧ b ≤ d) = true then (if decide (a ≤ c ∧ d ≤ b) = true then bournelaw09_SpanOrders.j0 (0 + 3) x true (!(a == c) || (!(b == d))) a b c d else bournelaw09_SpanOrders.j0 (0 + 3) x true false a b c d) else bournelaw09_SpanOrders.j0 (0 + 3) x true false a b c d) = some true := by
    by_cases h1 : c ≤ a ∧ b ≤ d
    · rw [decide_eq_true h1, if_pos rfl]
      by_cases h2 : a ≤ c ∧ d ≤ b
      · rw [decide_eq_true h2, if_pos rfl, ord_ne (show a = c by omega) (show b = d by omega)]; exact E
      · rw [decide_eq_false h2, if_neg (by decide)]; exact E
    · rw [decide_eq_false h1, if_neg (by decide)]; exact E
  by_cases h1 : c ≤ a ∧ b ≤ d
  · rw [decide_eq_true h1] at T ⊢
    rw [if_pos rfl]
    by_cases h2 : e ≤ c ∧ d ≤ f
    · rw [decide_eq_true h2, decide_eq_true (show e ≤ a ∧ b ≤ f by omega), if_pos rfl, if_pos rfl]; exact T
    · rw [decide_eq_false h2, if_neg (by decide)]; exact T
  · rw [decide_eq_false h1] at T ⊢; exact T

end Go.Proofs.Ythbdhlcfcfjknaa.Pure
