/- The printed functions of layer 1 (exact) answer plainly: the limited sum and difference, and the exact quotient and remainder of a product, where it fits. -/
import Derived.Test.YtacpiaiohcblfaaDiv
import Derived.Test.YtacpiaiohcblfaaFn4
import Derived.Test.YtacpiaiohcblfaaFn5
import Derived.Test.YtacpiaiohcblfaaFn6
set_option maxRecDepth 100000
set_option linter.unusedVariables false
namespace Go.Proofs.Ytacpiaiohcblfaa.Exact
open Go.RowKit Go.Proofs.Ytacpiaiohcblfaa.Fn Go.Proofs.Ytacpiaiohcblfaa.Div Go.Proofs.YtacpiaiohcblfaaW.PrintWords Go.Proofs.YtacpiaiohcblfaaW.PrintLast Go.Proofs.YtacpiaiohcblfaaW.PrintMore

/-- Not by 'rfl': the kernel must not compare what stands on both sides by unfolding it. -/
theorem bs {α β : Type} (a : α) (f : α → Option β) : (some a).bind f = f a := Eq.trans (Option.bind_some a f) (Eq.refl _)
def ok (a : Int) : Prop := -9223372036854775808 ≤ a ∧ a ≤ 9223372036854775807
theorem ok_of {a : Int} (h : (Lit.int .i64 a).wf = true) : ok a := by
  have h2 : (decide (IntKind.i64.min ≤ a) && decide (a ≤ IntKind.i64.max)) = true := h
  rw [Bool.and_eq_true, decide_eq_true_iff, decide_eq_true_iff] at h2
  exact h2

/-- A number, limited to the ends of int. -/
def sat (x : Int) : Int := if x < -9223372036854775808 then -9223372036854775808 else if x > 9223372036854775807 then 9223372036854775807 else x
theorem sat_ok (x : Int) : ok (sat x) := by unfold ok sat; split <;> (try split) <;> omega
theorem sat_id {x : Int} (h : ok x) : sat x = x := by unfold ok at h; unfold sat; rw [if_neg (by omega), if_neg (by omega)]
theorem sat_mono {x y : Int} (h : x ≤ y) : sat x ≤ sat y := by unfold sat; split <;> split <;> (try split) <;> (try split) <;> omega

theorem add_spec (a b : Int) (ha : ok a) (hb : ok b) : exact_Add.f a b = some (sat (a + b)) := by
  unfold ok at ha hb
  unfold exact_Add.f
  by_cases h1 : a < 0 <;> by_cases h2 : b < 0
  · rw [decide_eq_true h1, decide_eq_true h2, if_pos (by decide)]
    by_cases h3 : a + b < -9223372036854775808
    · have e : wrap64 (a + b) = a + b + 18446744073709551616 := by unfold wrap64; omega
      rw [e, decide_eq_false (show ¬ (a + b + 18446744073709551616 < 0) by omega), if_pos (by decide)]
      unfold sat; rw [if_pos h3]; rfl
    · have e : wrap64 (a + b) = a + b := wis _ (by omega)
      rw [e, decide_eq_true (show a + b < 0 by omega), if_neg (by decide), sat_id (by unfold ok; omega)]
  · rw [decide_eq_true h1, decide_eq_false h2, if_neg (by decide), wis _ (by omega), sat_id (by unfold ok; omega)]
  · rw [decide_eq_false h1, decide_eq_true h2, if_neg (by decide), wis _ (by omega), sat_id (by unfold ok; omega)]
  · rw [decide_eq_false h1, decide_eq_false h2, if_pos (by decide)]
    by_cases h3 : a + b > 9223372036854775807
    · have e : wrap64 (a + b) = a + b - 18446744073709551616 := by unfold wrap64; omega
      rw [e, decide_eq_true (show a + b - 18446744073709551616 < 0 by omega), if_pos (by decide)]
      unfold sat; rw [if_neg (by omega), if_pos h3]; rfl
    · have e : wrap64 (a + b) = a + b := wis _ (by omega)
      rw [e, decide_eq_false (show ¬ a + b < 0 by omega), if_neg (by decide), sat_id (by unfold ok; omega)]

theorem sub_spec (a b : Int) (ha : ok a) (hb : ok b) : exact_Sub.f a b = some (sat (a - b)) := by
  unfold ok at ha hb
  unfold exact_Sub.f
  by_cases h1 : a < 0 <;> by_cases h2 : b < 0
  · rw [decide_eq_true h1, decide_eq_true h2, if_neg (by decide), wis _ (by omega), sat_id (by unfold ok; omega)]
  · rw [decide_eq_true h1, decide_eq_false h2, if_pos (by decide)]
    by_cases h3 : a - b < -9223372036854775808
    · have e : wrap64 (a - b) = a - b + 18446744073709551616 := by unfold wrap64; omega
      rw [e, decide_eq_false (show ¬ (a - b + 18446744073709551616 < 0) by omega), if_pos (by decide)]
      unfold sat; rw [if_pos h3]; rfl
    · have e : wrap64 (a - b) = a - b := wis _ (by omega)
      rw [e, decide_eq_true (show a - b < 0 by omega), if_neg (by decide), sat_id (by unfold ok; omega)]
  · rw [decide_eq_false h1, decide_eq_true h2, if_pos (by decide)]
    by_cases h3 : a - b > 9223372036854775807
    · have e : wrap64 (a - b) = a - b - 18446744073709551616 := by unfold wrap64; omega
      rw [e, decide_eq_true (show a - b - 18446744073709551616 < 0 by omega), if_pos (by decide)]
      unfold sat; rw [if_neg (by omega), if_pos h3]; rfl
    · have e : wrap64 (a - b) = a - b := wis _ (by omega)
      rw [e, decide_eq_false (show ¬ a - b < 0 by omega), if_neg (by decide), sat_id (by unfold ok; omega)]
  · rw [decide_eq_false h1, decide_eq_false h2, if_neg (by decide), wis _ (by omega), sat_id (by unfold ok; omega)]

/-! ### Scale -/
/-- Where the operands are in range and the quotient fits. -/
def fits (a num den : Int) : Prop := 0 ≤ a ∧ a ≤ 1125899906842624 ∧ 0 ≤ num ∧ num ≤ 1125899906842624 ∧ 1 ≤ den ∧ den ≤ 1125899906842624 ∧ a * num / den ≤ 1125899906842624
instance (a num den : Int) : Decidable (fits a num den) := by unfold fits; exact inferInstance
def sc (a num den : Int) : Int × Int × Bool := if fits a num den then (a * num / den, a * num % den, true) else (0, 0, false)

theorem in_spec (a b : Int) : exact_in.f a b = some (decide (b ≤ a ∧ a ≤ 1125899906842624)) := by
  unfold exact_in.f
  by_cases h : b ≤ a
  · rw [if_pos h]; congr 1; simp [h]
  · rw [if_neg h]; congr 1; simp [h]

theorem scale_spec (k : Nat) (hk : 50 ≤ k) (a num den : Int) : exact_Scale.f k a num den = some (sc a num den) := by
  obtain ⟨k, rfl⟩ : ∃ m, k = m + 1 := ⟨k - 1, by omega⟩
  unfold exact_Scale.f
  have no : ¬ fits a num den → exact_Scale.j0 (k + 1) a num den true = some (sc a num den) := by
    intro h
    simp only [exact_Scale.j0]
    rw [if_pos trivial]; unfold sc; rw [if_neg h]
  simp only [in_spec, bs]
  by_cases h1 : 0 ≤ a ∧ a ≤ 1125899906842624
  · rw [decide_eq_true h1, if_pos rfl]
    by_cases h2 : 0 ≤ num ∧ num ≤ 1125899906842624
    · rw [decide_eq_true h2, if_pos rfl]
      by_cases h3 : 1 ≤ den ∧ den ≤ 1125899906842624
      · rw [decide_eq_true h3]
        simp only [exact_Scale.j0]
        have hp0 : 0 ≤ a * num := Int.mul_nonneg h1.1 h2.1
        have hp1 : a * num ≤ 1267650600228229401496703205376 := by
          have := Int.mul_le_mul h1.2 h2.2 h2.1 (by omega)
          simpa using this
        rw [if_neg (by decide), wus a (by omega) (by omega), wus num (by omega) (by omega), wus den (by omega) (by omega), mul_spec a num (by omega) (by omega) (by omega) (by omega)]
        simp only [bs]
        have hfit : fits a num den ↔ a * num / den ≤ 1125899906842624 := by unfold fits; constructor <;> (intro h; simp_all)
        unfold sc
        by_cases hq : a * num / den ≤ 1125899906842624
        · rw [if_pos (hfit.2 hq)]
          have hlt : a * num < den * 1125899906842625 := by
            have := Int.mul_ediv_add_emod (a * num) den
            have h4 := Int.emod_lt_of_pos (a * num) (show 0 < den by omega)
            have h5 : den * (a * num / den) ≤ den * 1125899906842624 := Int.mul_le_mul_of_nonneg_left hq (by omega)
            omega
          have hhi : a * num / 18446744073709551616 < den := by omega
          rw [if_neg (by omega), div_spec k (by omega) _ _ _ (by omega) hhi (by omega) (by omega) (by omega)]
          simp only [bs]
          rw [show a * num / 18446744073709551616 * 18446744073709551616 + a * num % 18446744073709551616 = a * num from by omega]
          have hq0 : 0 ≤ a * num / den := Int.ediv_nonneg hp0 (by omega)
          have hr0 := Int.emod_nonneg (a * num) (show den ≠ 0 by omega)
          have hr1 := Int.emod_lt_of_pos (a * num) (show 0 < den by omega)
          rw [if_neg (by omega), wis _ (by omega), wis _ (by omega)]
        · rw [if_neg (fun h => hq (hfit.1 h))]
          by_cases hhi : den ≤ a * num / 18446744073709551616
          · rw [if_pos (by omega)]
          · rw [if_neg (by omega), div_spec k (by omega) _ _ _ (by omega) (by omega) (by omega) (by omega) (by omega)]
            simp only [bs]
            rw [show a * num / 18446744073709551616 * 18446744073709551616 + a * num % 18446744073709551616 = a * num from by omega, if_pos (by omega)]
      · rw [decide_eq_false h3]
        exact no (fun h => h3 ⟨h.2.2.2.2.1, h.2.2.2.2.2.1⟩)
    · rw [decide_eq_false h2, if_neg (by decide)]
      exact no (fun h => h2 ⟨h.2.2.1, h.2.2.2.1⟩)
  · rw [decide_eq_false h1, if_neg (by decide)]
    exact no (fun h => h1 ⟨h.1, h.2.1⟩)

theorem sc_true {a num den : Int} (h : fits a num den) : sc a num den = (a * num / den, a * num % den, true) := by unfold sc; rw [if_pos h]
theorem sc_false {a num den : Int} (h : ¬ fits a num den) : sc a num den = (0, 0, false) := by unfold sc; rw [if_neg h]
end Go.Proofs.Ytacpiaiohcblfaa.Exact
