import Derived.Test.YthbdhlcfcfjknaaSpanMore
import Derived.Test.YthbdhlcfcfjknaaRdT
import Derived.Test.YthbdhlcfcfjknaaFn9
set_option maxRecDepth 100000
set_option linter.unusedVariables false
namespace Go.Proofs.Ythbdhlcfcfjknaa.Pure
open Go.RowKit Go.Proofs.Ythbdhlcfcfjknaa.Fn Go.Proofs.Ythbdhlcfcfjknaa.Rd Go.Proofs.Ythbdhlcfcfjknaa.Div Go.Proofs.Ythbdhlcfcfjknaa.Exact Go.Proofs.Ythbdhlcfcfjknaa.Span Go.Proofs.YthbdhlcfcfjknaaW.PrintWords Go.Proofs.YthbdhlcfcfjknaaW.PrintLast Go.Proofs.YthbdhlcfcfjknaaW.PrintMore

theorem enc_j2 (k : Nat) (u v lo hi : Int) (h1 : lo ≤ u) (h2 : u ≤ hi) (h3 : lo ≤ v) (h4 : v ≤ hi) : bournelaw09_SpanEncloses.j2 (k + 1) true u true v lo hi = some true := by
  simp only [bournelaw09_SpanEncloses.j2, right_spec, has_spec, bs]
  rw [if_pos trivial, if_pos trivial, decide_eq_true (show lo ≤ hi by omega), decide_eq_true (⟨h1, h2⟩ : lo ≤ u ∧ u ≤ hi), decide_eq_true (⟨h3, h4⟩ : lo ≤ v ∧ v ≤ hi)]
  rw [if_pos rfl, if_pos rfl]

theorem enc_j1 (k : Nat) (hk : 100 ≤ k) (x num den a b : Int) (h1 : a ≤ x) (h2 : x ≤ b) : bournelaw09_SpanEncloses.j1 (k + 2) x num den true false a b = some true := by
  simp only [bournelaw09_SpanEncloses.j1]
  rw [if_neg (by decide), scl_spec _ (by omega), bs]
  by_cases h : sfits a b num den
  · have hf := enc_fits h h1 h2
    rw [scl_true h, if_pos rfl, scale_spec _ (by omega), bs, sc_true hf]
    have hd := hf.2.2.2.2.1
    have m1 := qup_mono hd hf.2.2.1 h1
    have m2 := qup_mono hd hf.2.2.1 h2
    have hu : qup b num den ≤ 1125899906842624 := h.2.2.2
    have h0 := Int.ediv_nonneg (Int.mul_nonneg hf.1 hf.2.2.1) (show 0 ≤ den by omega)
    have hq := hf.2.2.2.2.2.2
    have mx : x * num / den ≤ qup x num den := by unfold qup; split <;> omega
    show (if x * num % den > 0 then _ else _) = _
    by_cases hr : x * num % den > 0
    · have e : qup x num den = x * num / den + 1 := by unfold qup; rw [if_pos hr]
      rw [if_pos hr, wis _ (by omega)]
      exact enc_j2 k (x * num / den) _ (a * num / den) (qup b num den) (by omega) (by omega) (by omega) (by omega)
    · have e : qup x num den = x * num / den := by unfold qup; rw [if_neg hr]
      rw [if_neg hr]
      exact enc_j2 k (x * num / den) _ (a * num / den) (qup b num den) (by omega) (by omega) (by omega) (by omega)
  · rw [scl_false h, if_neg (by decide)]

theorem enc_j0 (k : Nat) (hk : 100 ≤ k) (x y num den a b c d : Int) (hx : ok x) (hy : ok y) (ha : ok a) (hb : ok b) (hc : ok c) (hd : ok d) (h1 : a ≤ x) (h2 : x ≤ b) (h3 : c ≤ y) (h4 : y ≤ d) : bournelaw09_SpanEncloses.j0 (k + 3) x y num den true false a b c d = some true := by
  simp only [bournelaw09_SpanEncloses.j0]
  rw [if_neg (by decide), add_span a b c d ha hb hc hd, bs, sub_span a b c d ha hb hc hd, bs]
  simp only [right_spec, has_spec, bs, add_spec x y hx hy, sub_spec x y hx hy]
  rw [decide_eq_true (sat_mono (show a + c ≤ b + d by omega)), if_pos rfl, decide_eq_true (sat_mono (show a - d ≤ b - c by omega)), if_pos rfl,
    decide_eq_true (⟨sat_mono (show a + c ≤ x + y by omega), sat_mono (show x + y ≤ b + d by omega)⟩ : _ ∧ _), if_pos rfl,
    decide_eq_true (⟨sat_mono (show a - d ≤ x - y by omega), sat_mono (show x - y ≤ b - c by omega)⟩ : _ ∧ _)]
  exact enc_j1 k hk x num den a b h1 h2

theorem SpanEncloses : bournelaw09_SpanEncloses.Pure := by
  intro a b c d x y num den ha hb hc hd hx hy hnum hden
  refine ⟨100 + 3, ?_⟩
  unfold bournelaw09_SpanEncloses.f bournelaw09_small.f
  have bad : bournelaw09_SpanEncloses.j0 (100 + 3) x y num den true true a b c d = some true := by
    simp only [bournelaw09_SpanEncloses.j0]; rw [if_pos trivial]
  simp only [has_spec, bs]
  by_cases h1 : a ≤ x ∧ x ≤ b
  · rw [decide_eq_true h1, if_pos rfl]
    by_cases h2 : c ≤ y ∧ y ≤ d
    · rw [decide_eq_true h2]
      exact enc_j0 100 (by omega) x y num den a b c d (ok_of hx) (ok_of hy) (ok_of ha) (ok_of hb) (ok_of hc) (ok_of hd) h1.1 h1.2 h2.1 h2.2
    · rw [decide_eq_false h2]; exact bad
  · rw [decide_eq_false h1, if_neg (by decide)]; exact bad

end Go.Proofs.Ythbdhlcfcfjknaa.Pure
