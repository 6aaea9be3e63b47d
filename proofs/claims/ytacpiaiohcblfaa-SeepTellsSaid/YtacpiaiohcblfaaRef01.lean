/- The reference's layer 1 answers as the program's does: limited sums and differences, and the quotient of a product bit by bit. -/
import Derived.Test.YtacpiaiohcblfaaExact
import Derived.Test.YtacpiaiohcblfaaFn7
set_option maxRecDepth 100000
set_option linter.unusedVariables false
namespace Go.Proofs.Ytacpiaiohcblfaa.Ref01
open Go.RowKit Go.Proofs.Ytacpiaiohcblfaa.Fn Go.Proofs.Ytacpiaiohcblfaa.Div Go.Proofs.Ytacpiaiohcblfaa.Exact Go.Proofs.YtacpiaiohcblfaaW.PrintWords Go.Proofs.YtacpiaiohcblfaaW.PrintLast Go.Proofs.YtacpiaiohcblfaaW.PrintMore

theorem and_bit (x j : Nat) (hx : x < 9223372036854775808) (hj : j ≤ 62) : (Go.bits .and .i64 (x : Int) ((2 ^ j : Nat) : Int) = 0) ↔ x / 2 ^ j % 2 = 0 := by
  have hw : ∀ n : Int, 0 ≤ n → n < 2 ^ 63 → IntKind.i64.wrap n = n := fun n h0 h1 => by rw [IntKind.wrap_i64]; omega
  have hp : 2 ^ j < 2 ^ 63 := Nat.pow_lt_pow_right (by decide) (by omega)
  rw [(bits_nat .i64 63 (by decide) hw x (2 ^ j) (by omega) hp).1]
  have h1 : (x &&& 2 ^ j = 0) ↔ x.testBit j = false := by
    constructor
    · intro h
      have := congrArg (fun n => Nat.testBit n j) h
      simpa [Nat.testBit_and, Nat.testBit_two_pow_self] using this
    · intro h
      refine Nat.eq_of_testBit_eq fun i => ?_
      rw [Nat.testBit_and, Nat.testBit_two_pow, Nat.zero_testBit]
      by_cases e : j = i
      · subst e; rw [h]; rfl
      · rw [decide_eq_false e, Bool.and_false]
  rw [Nat.testBit_eq_decide_div_mod_eq, decide_eq_false_iff_not] at h1
  generalize x &&& 2 ^ j = y at *
  constructor
  · intro h; have := h1.1 (by omega); omega
  · intro h; rw [h1.2 (by omega)]; rfl

theorem half (a num j : Nat) : a * (num / 2 ^ j) = 2 * (a * (num / 2 ^ (j + 1))) + a * (num / 2 ^ j % 2) := by
  have e : num / 2 ^ (j + 1) = num / 2 ^ j / 2 := by rw [Nat.div_div_eq_div_mul, ← Nat.pow_succ]
  rw [e]
  have := Nat.div_add_mod (num / 2 ^ j) 2
  generalize num / 2 ^ j = x at *
  have h2 : a * x = a * (2 * (x / 2) + x % 2) := by rw [this]
  rw [h2, Nat.mul_add, Nat.mul_left_comm]

/-- One more bit: the quotient and remainder go on. -/
theorem j2_step (a num : Nat) (den : Int) (ha : a ≤ 1125899906842624) (hn : num ≤ 1125899906842624) (hd : 1 ≤ den) (hd1 : den ≤ 1125899906842624) (j k : Nat) (q z : Int)
    (hq0 : 0 ≤ q) (hq1 : q ≤ 2251799813685248) (hz0 : 0 ≤ z) (hz1 : z ≤ 9000000000000000) (hinv : (a : Int) * ((num / 2 ^ j : Nat) : Int) = q * den + z) (bit : Int) (hb0 : 0 ≤ bit) (hb1 : bit ≤ 1125899906842624)
    (next : ∀ q r, 0 ≤ q → q ≤ 1125899906842624 → 0 ≤ r → r < den → (a : Int) * ((num / 2 ^ j : Nat) : Int) = q * den + r → bourneref01_Scale.l0 k (a : Int) (num : Int) den q r (bit / 2) = some (sc a num den)) :
    bourneref01_Scale.j2 (k + 1) (a : Int) (num : Int) den q z bit = some (sc a num den) := by
  simp only [bourneref01_Scale.j2]
  have e := Int.mul_ediv_add_emod z den
  have r0 := Int.emod_nonneg z (show den ≠ 0 by omega)
  have r1 := Int.emod_lt_of_pos z (show 0 < den by omega)
  have d0 : 0 ≤ z / den := Int.ediv_nonneg hz0 (by omega)
  have d1 : z / den ≤ z := Int.ediv_le_self _ hz0
  rw [if_neg (by omega), tdiv_pos z den hz0, tmod_pos z den hz0, tdiv_pos bit 2 hb0, wis (z / den) (by omega), wis (q + z / den) (by omega), wis (bit / 2) (by omega)]
  have hinv2 : (a : Int) * ((num / 2 ^ j : Nat) : Int) = (q + z / den) * den + z % den := by rw [hinv, Int.add_mul, Int.mul_comm (z / den) den]; omega
  by_cases h : q + z / den > 1125899906842624
  · rw [if_pos h, sc_false]
    rintro ⟨_, _, _, _, _, _, hf⟩
    have hle : num / 2 ^ j ≤ num := Nat.div_le_self _ _
    have h2 : (a : Int) * ((num / 2 ^ j : Nat) : Int) ≤ (a : Int) * (num : Int) := Int.mul_le_mul_of_nonneg_left (by omega) (by omega)
    have h3 : (q + z / den) * den ≤ (a : Int) * (num : Int) := by omega
    have := (Int.le_ediv_iff_mul_le (show 0 < den by omega)).2 h3
    omega
  · rw [if_neg h]
    exact next _ _ (by omega) (by omega) r0 r1 hinv2

/-- One round: the next bit. -/
theorem round (a num : Nat) (den : Int) (ha : a ≤ 1125899906842624) (hn : num ≤ 1125899906842624) (hd : 1 ≤ den) (hd1 : den ≤ 1125899906842624) (j k : Nat) (q r : Int) (hj : j ≤ 50)
    (hq0 : 0 ≤ q) (hq1 : q ≤ 1125899906842624) (hr0 : 0 ≤ r) (hr1 : r < den) (hinv : (a : Int) * ((num / 2 ^ (j + 1) : Nat) : Int) = q * den + r)
    (next : ∀ q r, 0 ≤ q → q ≤ 1125899906842624 → 0 ≤ r → r < den → (a : Int) * ((num / 2 ^ j : Nat) : Int) = q * den + r → bourneref01_Scale.l0 k (a : Int) (num : Int) den q r (((2 ^ j : Nat) : Int) / 2) = some (sc a num den)) :
    bourneref01_Scale.l0 (k + 2) (a : Int) (num : Int) den q r ((2 ^ j : Nat) : Int) = some (sc a num den) := by
  have hh := half a num j
  have hpow : 2 ^ j ≤ 2 ^ 50 := Nat.pow_le_pow_right (by decide) hj
  have hp0 := Nat.two_pow_pos j
  have hb := and_bit num j (by omega) (by omega)
  have hc : (a : Int) * ((num / 2 ^ j : Nat) : Int) = 2 * ((a : Int) * ((num / 2 ^ (j + 1) : Nat) : Int)) + (a : Int) * ((num / 2 ^ j % 2 : Nat) : Int) := by
    have := congrArg (fun n : Nat => (n : Int)) hh
    simp only [Int.natCast_add, Int.natCast_mul] at this
    exact this
  have hq2 : 2 * (q * den) = 2 * q * den := by rw [Int.mul_assoc]
  simp only [bourneref01_Scale.l0]
  rw [if_pos (by omega), wis (2 * q) (by omega), wis (2 * r) (by omega), wis (2 * r + a) (by omega)]
  by_cases h0 : num / 2 ^ j % 2 = 0
  · rw [if_pos (hb.2 h0)]
    refine j2_step a num den ha hn hd hd1 j k (2 * q) (2 * r) (by omega) (by omega) (by omega) (by omega) ?_ _ (by omega) (by omega) next
    rw [hc, hinv, h0]; simp only [Int.natCast_zero, Int.mul_zero]; omega
  · rw [if_neg (fun h => h0 (hb.1 h))]
    refine j2_step a num den ha hn hd hd1 j k (2 * q) (2 * r + a) (by omega) (by omega) (by omega) (by omega) ?_ _ (by omega) (by omega) next
    rw [hc, hinv, show num / 2 ^ j % 2 = 1 from by omega]; simp only [Int.natCast_one, Int.mul_one]; omega

theorem scale_l0 (a num : Nat) (den : Int) (ha : a ≤ 1125899906842624) (hn : num ≤ 1125899906842624) (hd : 1 ≤ den) (hd1 : den ≤ 1125899906842624) : ∀ (j k : Nat) (q r : Int), j ≤ 50 → 2 * j + 3 ≤ k →
    0 ≤ q → q ≤ 1125899906842624 → 0 ≤ r → r < den → (a : Int) * ((num / 2 ^ (j + 1) : Nat) : Int) = q * den + r →
    bourneref01_Scale.l0 k (a : Int) (num : Int) den q r ((2 ^ j : Nat) : Int) = some (sc a num den) := by
  intro j
  induction j with
  | zero =>
    intro k q r hj hk hq0 hq1 hr0 hr1 hinv
    obtain ⟨k, rfl⟩ : ∃ m, k = m + 3 := ⟨k - 3, by omega⟩
    refine round a num den ha hn hd hd1 0 (k + 1) q r hj hq0 hq1 hr0 hr1 hinv ?_
    intro q r hq0 hq1 hr0 hr1 hi
    simp only [bourneref01_Scale.l0]
    rw [if_neg (by decide)]
    rw [Nat.pow_zero, Nat.div_one] at hi
    have f1 : (a : Int) * (num : Int) / den = q := by rw [hi, Int.add_comm, Int.add_mul_ediv_right _ _ (by omega), Int.ediv_eq_zero_of_lt hr0 hr1, Int.zero_add]
    have f2 : (a : Int) * (num : Int) % den = r := by rw [hi, Int.add_comm, Int.add_mul_emod_self_right, Int.emod_eq_of_lt hr0 hr1]
    rw [sc_true ⟨by omega, by omega, by omega, by omega, hd, hd1, by rw [f1]; exact hq1⟩, f1, f2]
  | succ j ih =>
    intro k q r hj hk hq0 hq1 hr0 hr1 hinv
    obtain ⟨k, rfl⟩ : ∃ m, k = m + 2 := ⟨k - 2, by omega⟩
    refine round a num den ha hn hd hd1 (j + 1) k q r hj hq0 hq1 hr0 hr1 hinv ?_
    intro q r hq0 hq1 hr0 hr1 hi
    have hp : ((2 ^ (j + 1) : Nat) : Int) / 2 = ((2 ^ j : Nat) : Int) := by
      have : 2 ^ (j + 1) = 2 * 2 ^ j := by rw [Nat.pow_succ, Nat.mul_comm]
      omega
    rw [hp]
    exact ih k q r (by omega) (by omega) hq0 hq1 hr0 hr1 hi

theorem scale_spec (k : Nat) (hk : 120 ≤ k) (a num den : Int) : bourneref01_Scale.f k a num den = some (sc a num den) := by
  obtain ⟨k, rfl⟩ : ∃ m, k = m + 1 := ⟨k - 1, by omega⟩
  unfold bourneref01_Scale.f
  have no : ¬ fits a num den → bourneref01_Scale.j0 (k + 1) a num den true = some (sc a num den) := by
    intro h
    simp only [bourneref01_Scale.j0]
    rw [if_pos trivial, sc_false h]
  by_cases h1 : a < 0
  · rw [if_pos h1]; exact no (fun h => by have := h.1; omega)
  rw [if_neg h1]
  by_cases h2 : a > 1125899906842624
  · rw [if_pos h2]; exact no (fun h => by have := h.2.1; omega)
  rw [if_neg h2]
  by_cases h3 : num < 0
  · rw [if_pos h3]; exact no (fun h => by have := h.2.2.1; omega)
  rw [if_neg h3]
  by_cases h4 : num > 1125899906842624
  · rw [if_pos h4]; exact no (fun h => by have := h.2.2.2.1; omega)
  rw [if_neg h4]
  by_cases h5 : den < 1
  · rw [if_pos h5]; exact no (fun h => by have := h.2.2.2.2.1; omega)
  rw [if_neg h5]
  by_cases h6 : den > 1125899906842624
  · rw [decide_eq_true h6]; exact no (fun h => by have := h.2.2.2.2.2.1; omega)
  rw [decide_eq_false h6]
  simp only [bourneref01_Scale.j0]
  rw [if_neg (by decide)]
  obtain ⟨a, rfl⟩ := Int.eq_ofNat_of_zero_le (show 0 ≤ a by omega)
  obtain ⟨num, rfl⟩ := Int.eq_ofNat_of_zero_le (show 0 ≤ num by omega)
  refine scale_l0 a num den (by omega) (by omega) (by omega) (by omega) 50 k 0 0 (by omega) (by omega) (by omega) (by omega) (by omega) (by omega) ?_
  rw [Nat.div_eq_of_lt (show num < 2 ^ (50 + 1) by omega)]
  simp

end Go.Proofs.Ytacpiaiohcblfaa.Ref01
