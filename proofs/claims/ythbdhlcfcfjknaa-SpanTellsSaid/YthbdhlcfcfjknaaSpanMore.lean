/- The rest of layer 9: meetings, differences, widths and scaled spans. -/
import Derived.Test.YthbdhlcfcfjknaaSpan
import Derived.Test.YthbdhlcfcfjknaaFn4
import Derived.Test.YthbdhlcfcfjknaaFn5
set_option maxRecDepth 100000
set_option linter.unusedVariables false
namespace Go.Proofs.Ythbdhlcfcfjknaa.Span
open Go.RowKit Go.Proofs.Ythbdhlcfcfjknaa.Fn Go.Proofs.Ythbdhlcfcfjknaa.Div Go.Proofs.Ythbdhlcfcfjknaa.Exact Go.Proofs.YthbdhlcfcfjknaaW.PrintWords Go.Proofs.YthbdhlcfcfjknaaW.PrintLast Go.Proofs.YthbdhlcfcfjknaaW.PrintMore

theorem sub_span (a b c d : Int) (ha : ok a) (hb : ok b) (hc : ok c) (hd : ok d) : span_Sub.f a b c d = some (sat (a - d), sat (b - c)) := by
  unfold span_Sub.f
  rw [sub_spec a d ha hd, sub_spec b c hb hc]
  simp only [bs]
theorem width_spec (a b : Int) (ha : ok a) (hb : ok b) : span_Width.f a b = some (sat (b - a)) := by
  unfold span_Width.f
  rw [sub_spec b a hb ha, bs]
def meet (a b c d : Int) : Int × Int × Bool := if mx a c ≤ mn b d then (mx a c, mn b d, true) else (0, 0, false)
theorem meet_spec (a b c d : Int) : span_Meet.f a b c d = some (meet a b c d) := by
  unfold span_Meet.f meet
  rw [right_spec, bs]
  by_cases h : mx a c ≤ mn b d
  · rw [decide_eq_true h, if_pos rfl, if_pos h]
  · rw [decide_eq_false h, if_neg (by decide), if_neg h]

/-- A quotient, rounded qup. -/
def qup (a num den : Int) : Int := if a * num % den > 0 then a * num / den + 1 else a * num / den
def sfits (a b num den : Int) : Prop := a ≤ b ∧ fits a num den ∧ fits b num den ∧ qup b num den ≤ 1125899906842624
instance (a b num den : Int) : Decidable (sfits a b num den) := by unfold sfits; exact inferInstance
def scl (a b num den : Int) : Int × Int × Bool := if sfits a b num den then (a * num / den, qup b num den, true) else (0, 0, false)

theorem scl_spec (k : Nat) (hk : 60 ≤ k) (a b num den : Int) : span_Scale.f k a b num den = some (scl a b num den) := by
  obtain ⟨k, rfl⟩ : ∃ m, k = m + 2 := ⟨k - 2, by omega⟩
  unfold span_Scale.f
  rw [scale_spec _ (by omega), scale_spec _ (by omega)]
  simp only [bs]
  have step : ∀ hi : Int, ((sc b num den).2.2 = true → hi = qup b num den) → span_Scale.j0 (k + 2) (sc a num den).1 (sc a num den).2.2 hi (sc b num den).2.2 a b = some (scl a b num den) := by
    intro hi hh
    simp only [span_Scale.j0, right_spec, bs]
    have no : ¬ sfits a b num den → span_Scale.j1 (k + 1) (sc a num den).1 hi true = some (scl a b num den) := by
      intro h
      simp only [span_Scale.j1]
      rw [if_pos trivial]; unfold scl; rw [if_neg h]
    by_cases h1 : a ≤ b
    · rw [decide_eq_true h1, if_pos rfl]
      by_cases h2 : fits a num den
      · rw [sc_true h2] at *
        rw [if_pos rfl]
        by_cases h3 : fits b num den
        · rw [sc_true h3] at *
          rw [if_pos rfl, hh rfl]
          simp only [span_Scale.j1]
          by_cases h4 : qup b num den > 1125899906842624
          · rw [decide_eq_true h4, if_pos rfl]; unfold scl; rw [if_neg (fun h => by have := h.2.2.2; omega)]
          · rw [decide_eq_false h4, if_neg (by decide)]; unfold scl; rw [if_pos ⟨h1, h2, h3, by omega⟩]
        · rw [sc_false h3] at *
          rw [if_neg (by decide)]; exact no (fun h => h3 h.2.2.1)
      · rw [sc_false h2] at *
        rw [if_neg (by decide)]; exact no (fun h => h2 h.2.1)
    · rw [decide_eq_false h1, if_neg (by decide)]; exact no (fun h => h1 h.1)
  by_cases h3 : fits b num den
  · have hq0 : 0 ≤ b * num / den := Int.ediv_nonneg (Int.mul_nonneg h3.1 h3.2.2.1) (by have := h3.2.2.2.2.1; omega)
    have hq1 := h3.2.2.2.2.2.2
    have e1 : (sc b num den).1 = b * num / den := by rw [sc_true h3]
    have e2 : (sc b num den).2.1 = b * num % den := by rw [sc_true h3]
    rw [e1, e2]
    by_cases hr : b * num % den > 0
    · rw [if_pos hr, wis _ (by omega)]
      exact step _ (fun _ => by unfold qup; rw [if_pos hr])
    · rw [if_neg hr]
      exact step _ (fun _ => by unfold qup; rw [if_neg hr])
  · have e2 : (sc b num den).2.1 = 0 := by rw [sc_false h3]
    have e3 : (sc b num den).2.2 = false := by rw [sc_false h3]
    rw [e2, if_neg (by decide)]
    exact step _ (fun h => by rw [e3] at h; cases h)

theorem div_mono {x y d : Int} (hd : 0 < d) (h : x ≤ y) : x / d ≤ y / d := Int.ediv_le_ediv hd h
theorem qup_mono {a b num den : Int} (hd : 1 ≤ den) (hn : 0 ≤ num) (h : a ≤ b) : a * num / den ≤ b * num / den ∧ qup a num den ≤ qup b num den ∧ a * num / den ≤ qup a num den := by
  have hm : a * num ≤ b * num := Int.mul_le_mul_of_nonneg_right h hn
  have h1 := div_mono (show 0 < den by omega) hm
  refine ⟨h1, ?_, ?_⟩
  · unfold qup
    have ea := Int.mul_ediv_add_emod (a * num) den
    have eb := Int.mul_ediv_add_emod (b * num) den
    have rb := Int.emod_nonneg (b * num) (show den ≠ 0 by omega)
    by_cases hq : a * num / den = b * num / den
    · rw [hq] at ea ⊢
      split <;> split <;> omega
    · split <;> split <;> omega
  · unfold qup; split <;> omega
theorem enc_fits {a b x num den : Int} (h : sfits a b num den) (h1 : a ≤ x) (h2 : x ≤ b) : fits x num den := by
  obtain ⟨_, f1, f2, _⟩ := h
  obtain ⟨p1, p2, p3, p4, p5, p6, p7⟩ := f1
  obtain ⟨q1, q2, q3, q4, q5, q6, q7⟩ := f2
  have := (qup_mono p5 p3 h2).1
  exact ⟨by omega, by omega, p3, p4, p5, p6, by omega⟩
theorem scl_true {a b num den : Int} (h : sfits a b num den) : scl a b num den = (a * num / den, qup b num den, true) := by unfold scl; rw [if_pos h]
theorem scl_false {a b num den : Int} (h : ¬ sfits a b num den) : scl a b num den = (0, 0, false) := by unfold scl; rw [if_neg h]
theorem mx_le (a c : Int) : a ≤ mx a c ∧ c ≤ mx a c ∧ (mx a c = a ∨ mx a c = c) := by unfold mx; split <;> omega
theorem mn_le (a c : Int) : mn a c ≤ a ∧ mn a c ≤ c ∧ (mn a c = a ∨ mn a c = c) := by unfold mn; split <;> omega
theorem bne_neg {x y : Bool} (h : x = y) : ¬ ((x != y) = true) := by subst h; cases x <;> decide
end Go.Proofs.Ythbdhlcfcfjknaa.Span
