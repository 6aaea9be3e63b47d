import Derived.Test.YthbdhlcfcfjknaaSpanMore
import Derived.Test.YthbdhlcfcfjknaaRdT
import Derived.Test.YthbdhlcfcfjknaaFn11
set_option maxRecDepth 100000
set_option linter.unusedVariables false
namespace Go.Proofs.Ythbdhlcfcfjknaa.Pure
open Go.RowKit Go.Proofs.Ythbdhlcfcfjknaa.Fn Go.Proofs.Ythbdhlcfcfjknaa.Rd Go.Proofs.Ythbdhlcfcfjknaa.Div Go.Proofs.Ythbdhlcfcfjknaa.Exact Go.Proofs.Ythbdhlcfcfjknaa.Span Go.Proofs.YthbdhlcfcfjknaaW.PrintWords Go.Proofs.YthbdhlcfcfjknaaW.PrintLast Go.Proofs.YthbdhlcfcfjknaaW.PrintMore

theorem gro_j2 (k : Nat) (a b c d e f g h : Int) (h1 : e ≤ a) (h2 : b ≤ f) (h3 : g ≤ c) (h4 : d ≤ h) : bournelaw09_SpanGrows.j2 (k + 1) true false a b c d e f g h = some true := by
  simp only [bournelaw09_SpanGrows.j2]
  rw [if_neg (by decide), if_pos trivial]
  simp only [join_spec, within_spec, bs]
  have m1 := mn_le e g
  have m2 := mn_le a c
  have m3 := mx_le b d
  have m4 := mx_le f h
  rw [decide_eq_true (show mn e g ≤ mn a c ∧ mx b d ≤ mx f h by omega)]

theorem gro_sfits {a b e f num den : Int} (h : sfits e f num den) (h0 : a ≤ b) (h1 : e ≤ a) (h2 : b ≤ f) : sfits a b num den ∧ e * num / den ≤ a * num / den ∧ qup b num den ≤ qup f num den := by
  have f1 := enc_fits h h1 (by omega)
  have f2 := enc_fits h (show e ≤ b by omega) h2
  have m1 := qup_mono f1.2.2.2.2.1 f1.2.2.1 h1
  have m2 := qup_mono f1.2.2.2.2.1 f1.2.2.1 h2
  have h3 := h.2.2.2
  exact ⟨⟨h0, f1, f2, by omega⟩, m1.1, m2.2.1⟩

theorem gro_j1 (k : Nat) (hk : 100 ≤ k) (num den a b c d e f g h : Int) (h0 : a ≤ b) (h1 : e ≤ a) (h2 : b ≤ f) (h3 : g ≤ c) (h4 : d ≤ h) : bournelaw09_SpanGrows.j1 (k + 2) num den true false a b c d e f g h = some true := by
  simp only [bournelaw09_SpanGrows.j1]
  rw [if_neg (by decide)]
  simp only [meet_spec, within_spec, bs, scl_spec (k + 1) (by omega)]
  have E := gro_j2 k a b c d e f g h h1 h2 h3 h4
  have S : (if (scl e f num den).2.2 = true then (if (scl a b num den).2.2 = true then bournelaw09_SpanGrows.j2 (k + 1) true (!(decide ((scl e f num den).1 ≤ (scl a b num den).1 ∧ (scl a b num den).2.1 ≤ (scl e f num den).2.1))) a b c d e f g h else bournelaw09_SpanGrows.j2 (k + 1) true true a b c d e f g h) else bournelaw09_SpanGrows.j2 (k + 1) true false a b c d e f g h) = some true := by
    by_cases hs : sfits e f num den
    · obtain ⟨s1, s2, s3⟩ := gro_sfits hs h0 h1 h2
      rw [scl_true hs, scl_true s1, if_pos rfl, if_pos rfl, decide_eq_true ⟨s2, s3⟩]
      exact E
    · rw [scl_false hs, if_neg (by decide)]; exact E
  have m1 := mx_le a c
  have m2 := mx_le e g
  have m3 := mn_le b d
  have m4 := mn_le f h
  by_cases hm : mx a c ≤ mn b d
  · have e1 : meet a b c d = (mx a c, mn b d, true) := by unfold meet; rw [if_pos hm]
    have e2 : meet e f g h = (mx e g, mn f h, true) := by unfold meet; rw [if_pos (by omega)]
    rw [e1, e2, if_pos rfl, if_pos rfl]
    rw [decide_eq_true (show mx e g ≤ mx a c ∧ mn b d ≤ mn f h by omega), if_pos rfl]
    exact S
  · have e1 : meet a b c d = (0, 0, false) := by unfold meet; rw [if_neg hm]
    rw [e1, if_neg (by decide)]
    exact S

theorem gro_j0 (k : Nat) (hk : 100 ≤ k) (num den a b c d e f g h : Int) (oa : ok a) (ob : ok b) (oc : ok c) (od : ok d) (oe : ok e) (of : ok f) (og : ok g) (oh : ok h)
    (h0 : a ≤ b) (h1 : e ≤ a) (h2 : b ≤ f) (h3 : g ≤ c) (h4 : d ≤ h) : bournelaw09_SpanGrows.j0 (k + 3) num den true false a b c d e f g h = some true := by
  simp only [bournelaw09_SpanGrows.j0]
  rw [if_neg (by decide)]
  simp only [add_span a b c d oa ob oc od, add_span e f g h oe of og oh, sub_span a b c d oa ob oc od, sub_span e f g h oe of og oh, width_spec a b oa ob, width_spec e f oe of, within_spec, bs]
  rw [decide_eq_true (⟨sat_mono (show e + g ≤ a + c by omega), sat_mono (show b + d ≤ f + h by omega)⟩ : _ ∧ _), if_pos rfl]
  rw [decide_eq_true (⟨sat_mono (show e - h ≤ a - d by omega), sat_mono (show b - c ≤ f - g by omega)⟩ : _ ∧ _), if_pos rfl]
  have := sat_mono (show b - a ≤ f - e by omega)
  rw [decide_eq_false (show ¬ (sat (b - a) > sat (f - e)) by omega)]
  exact gro_j1 k hk num den a b c d e f g h h0 h1 h2 h3 h4

theorem SpanGrows : bournelaw09_SpanGrows.Pure := by
  intro a b c d e f g h num den ha hb hc hd he hf hg hh hnum hden
  refine ⟨100 + 3, ?_⟩
  unfold bournelaw09_SpanGrows.f bournelaw09_small.f
  have bad : bournelaw09_SpanGrows.j0 (100 + 3) num den true true a b c d e f g h = some true := by
    simp only [bournelaw09_SpanGrows.j0]; rw [if_pos trivial]
  simp only [right_spec, within_spec, bs]
  by_cases h1 : a ≤ b
  · rw [decide_eq_true h1, if_pos rfl]
    by_cases h2 : c ≤ d
    · rw [decide_eq_true h2, if_pos rfl]
      by_cases h3 : e ≤ a ∧ b ≤ f
      · rw [decide_eq_true h3, if_pos rfl]
        by_cases h4 : g ≤ c ∧ d ≤ h
        · rw [decide_eq_true h4]
          exact gro_j0 100 (by omega) num den a b c d e f g h (ok_of ha) (ok_of hb) (ok_of hc) (ok_of hd) (ok_of he) (ok_of hf) (ok_of hg) (ok_of hh) h1 h3.1 h3.2 h4.1 h4.2
        · rw [decide_eq_false h4]; exact bad
      · rw [decide_eq_false h3, if_neg (by decide)]; exact bad
    · rw [decide_eq_false h2, if_neg (by decide)]; exact bad
  · rw [decide_eq_false h1, if_neg (by decide)]; exact bad

end Go.Proofs.Ythbdhlcfcfjknaa.Pure
