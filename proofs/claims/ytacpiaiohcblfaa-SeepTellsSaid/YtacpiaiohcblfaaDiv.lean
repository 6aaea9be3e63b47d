/- The printed division of 128 bits by 64 bits (math/bits: Len64, LeadingZeros64, Mul64, Div64, Rem64) answers with the exact quotient and remainder, for every divisor greater than the high word. -/
import Derived.Test.YtacpiaiohcblfaaFn4
import Derived.Test.YtacpiaiohcblfaaDivMath
set_option maxRecDepth 100000
set_option linter.unusedVariables false
namespace Go.Proofs.Ytacpiaiohcblfaa.Div
open Go.RowKit Go.Proofs.Ytacpiaiohcblfaa.Fn Go.Proofs.YtacpiaiohcblfaaW.PrintWords Go.Proofs.YtacpiaiohcblfaaW.PrintLast Go.Proofs.YtacpiaiohcblfaaW.PrintMore

theorem wu (x : Int) : IntKind.u64.wrap x = x % 18446744073709551616 := by simp [IntKind.wrap, IntKind.bits, IntKind.signed]
theorem wus (x : Int) (h0 : 0 ≤ x) (h1 : x < 18446744073709551616) : IntKind.u64.wrap x = x := by rw [wu]; omega
theorem wis (x : Int) (h : -9223372036854775808 ≤ x ∧ x ≤ 9223372036854775807) : wrap64 x = x := by unfold wrap64; omega
theorem and32 (x : Int) (h0 : 0 ≤ x) (h1 : x < 18446744073709551616) : Go.bits .and .u64 x 4294967295 = x % 4294967296 :=
  bits_mask .u64 64 (by decide) (fun n h0 h1 => wus n h0 h1) 32 (by decide) x h0 h1

/-! ### Len64 -/
def tab : ByteArray := ⟨#[0, 1, 2, 2, 3, 3, 3, 3, 4, 4, 4, 4, 4, 4, 4, 4, 5, 5, 5, 5, 5, 5, 5, 5, 5, 5, 5, 5, 5, 5, 5, 5, 6, 6, 6, 6, 6, 6, 6, 6, 6, 6, 6, 6, 6, 6, 6, 6, 6, 6, 6, 6, 6, 6, 6, 6, 6, 6, 6, 6, 6, 6, 6, 6, 7, 7, 7, 7, 7, 7, 7, 7, 7, 7, 7, 7, 7, 7, 7, 7, 7, 7, 7, 7, 7, 7, 7, 7, 7, 7, 7, 7, 7, 7, 7, 7, 7, 7, 7, 7, 7, 7, 7, 7, 7, 7, 7, 7, 7, 7, 7, 7, 7, 7, 7, 7, 7, 7, 7, 7, 7, 7, 7, 7, 7, 7, 7, 7, 8, 8, 8, 8, 8, 8, 8, 8, 8, 8, 8, 8, 8, 8, 8, 8, 8, 8, 8, 8, 8, 8, 8, 8, 8, 8, 8, 8, 8, 8, 8, 8, 8, 8, 8, 8, 8, 8, 8, 8, 8, 8, 8, 8, 8, 8, 8, 8, 8, 8, 8, 8, 8, 8, 8, 8, 8, 8, 8, 8, 8, 8, 8, 8, 8, 8, 8, 8, 8, 8, 8, 8, 8, 8, 8, 8, 8, 8, 8, 8, 8, 8, 8, 8, 8, 8, 8, 8, 8, 8, 8, 8, 8, 8, 8, 8, 8, 8, 8, 8, 8, 8, 8, 8, 8, 8, 8, 8, 8, 8, 8, 8, 8, 8, 8, 8, 8, 8, 8, 8, 8, 8, 8, 8, 8, 8, 8, 8]⟩
theorem tab_all : ∀ i : Fin 256, 0 < i.val → 1 ≤ (bt tab (i.val : Int)) ∧ (bt tab (i.val : Int)) ≤ 8 ∧ 2 ^ ((bt tab (i.val : Int)).toNat - 1) ≤ i.val ∧ i.val < 2 ^ (bt tab (i.val : Int)).toNat := by
  decide +kernel
theorem tab_spec (i : Nat) (h0 : 0 < i) (h1 : i < 256) : ∃ v : Nat, bt tab (i : Int) = v ∧ 1 ≤ v ∧ v ≤ 8 ∧ 2 ^ (v - 1) ≤ i ∧ i < 2 ^ v := by
  have h := tab_all ⟨i, h1⟩ h0
  refine ⟨(bt tab (i : Int)).toNat, ?_, ?_, ?_, h.2.2.1, h.2.2.2⟩
  · have := h.1; simp only at this; omega
  · have := h.1; simp only at this; omega
  · have := h.2.1; simp only at this; omega

/-- From a cut number's length to the number's own. -/
theorem widen (a i n v : Nat) (hn : i = a / 2 ^ n) (h1 : 1 ≤ v) (h2 : 2 ^ (v - 1) ≤ i) (h3 : i < 2 ^ v) : 2 ^ (n + v - 1) ≤ a ∧ a < 2 ^ (n + v) := by
  have hp := Nat.two_pow_pos n
  have e1 := Nat.div_add_mod a (2 ^ n)
  have e2 := Nat.mod_lt a hp
  rw [← hn] at e1
  rw [show n + v - 1 = n + (v - 1) from by omega, Nat.pow_add, Nat.pow_add]
  have h4 : 2 ^ n * 2 ^ (v - 1) ≤ 2 ^ n * i := Nat.mul_le_mul_left _ h2
  have h5 : 2 ^ n * (i + 1) ≤ 2 ^ n * 2 ^ v := Nat.mul_le_mul_left _ h3
  rw [Nat.mul_add, Nat.mul_one] at h5
  omega

theorem len_j1 (k : Nat) (hk : 1 ≤ k) (a n x : Nat) (hx : x = a / 2 ^ n) (hn : n ≤ 48) (h0 : 0 < x) (h1 : x < 65536) :
    ∃ m : Nat, bits_Len64.j1 k (x : Int) (n : Int) = some (m : Int) ∧ 2 ^ (m - 1) ≤ a ∧ a < 2 ^ m ∧ 1 ≤ m ∧ m ≤ n + 16 := by
  obtain ⟨k, rfl⟩ : ∃ m, k = m + 1 := ⟨k - 1, by omega⟩
  by_cases h : 256 ≤ x
  · have hx2 : x / 256 = a / 2 ^ (n + 8) := by rw [hx, Nat.div_div_eq_div_mul, Nat.pow_add]
    obtain ⟨v, e, v1, v2, v3, v4⟩ := tab_spec (x / 256) (by omega) (by omega)
    obtain ⟨w1, w2⟩ := widen a (x / 256) (n + 8) v hx2 v1 v3 v4
    refine ⟨n + 8 + v, ?_, w1, w2, by omega, by omega⟩
    simp only [bits_Len64.j1]
    rw [if_pos (by omega), if_pos (by omega), if_pos (by omega), show ((x : Int) / 256) % 256 = ((x / 256 : Nat) : Int) from by omega]
    unfold tab at e
    rw [e, wis (n + 8) (by omega), wis v (by omega), wis _ (by omega)]
    congr 1
  · obtain ⟨v, e, v1, v2, v3, v4⟩ := tab_spec x (by omega) (by omega)
    obtain ⟨w1, w2⟩ := widen a x n v hx v1 v3 v4
    refine ⟨n + v, ?_, w1, w2, by omega, by omega⟩
    simp only [bits_Len64.j1]
    rw [if_neg (by omega), if_pos (by omega), if_pos (by omega), show (x : Int) % 256 = (x : Int) from by omega]
    unfold tab at e
    rw [e, wis v (by omega), wis _ (by omega)]
    congr 1

theorem len_j0 (k : Nat) (hk : 2 ≤ k) (a n x : Nat) (hx : x = a / 2 ^ n) (hn : n ≤ 32) (h0 : 0 < x) (h1 : x < 4294967296) :
    ∃ m : Nat, bits_Len64.j0 k (x : Int) (n : Int) = some (m : Int) ∧ 2 ^ (m - 1) ≤ a ∧ a < 2 ^ m ∧ 1 ≤ m ∧ m ≤ n + 32 := by
  obtain ⟨k, rfl⟩ : ∃ m, k = m + 1 := ⟨k - 1, by omega⟩
  simp only [bits_Len64.j0]
  by_cases h : 65536 ≤ x
  · have hx2 : x / 65536 = a / 2 ^ (n + 16) := by rw [hx, Nat.div_div_eq_div_mul, Nat.pow_add]
    obtain ⟨m, e, m1, m2, m3, m4⟩ := len_j1 k (by omega) a (n + 16) (x / 65536) hx2 (by omega) (by omega) (by omega)
    refine ⟨m, ?_, m1, m2, m3, by omega⟩
    rw [if_pos (by omega), wis _ (by omega), ← e]
    rfl
  · obtain ⟨m, e, m1, m2, m3, m4⟩ := len_j1 k (by omega) a n x hx (by omega) (by omega) (by omega)
    refine ⟨m, ?_, m1, m2, m3, by omega⟩
    rw [if_neg (by omega)]
    exact e

theorem len_spec (k : Nat) (hk : 2 ≤ k) (a : Nat) (h0 : 0 < a) (h1 : a < 18446744073709551616) :
    ∃ m : Nat, bits_Len64.f k (a : Int) = some (m : Int) ∧ 2 ^ (m - 1) ≤ a ∧ a < 2 ^ m ∧ 1 ≤ m ∧ m ≤ 64 := by
  unfold bits_Len64.f
  by_cases h : 4294967296 ≤ a
  · obtain ⟨m, e, m1, m2, m3, m4⟩ := len_j0 k hk a 32 (a / 4294967296) rfl (by omega) (by omega) (by omega)
    refine ⟨m, ?_, m1, m2, m3, by omega⟩
    rw [if_pos (by omega)]
    exact e
  · obtain ⟨m, e, m1, m2, m3, m4⟩ := len_j0 k hk a 0 a (by simp) (by omega) (by omega) (by omega)
    refine ⟨m, ?_, m1, m2, m3, by omega⟩
    rw [if_neg (by omega)]
    exact e

theorem lz_spec (k : Nat) (hk : 2 ≤ k) (a : Nat) (h0 : 0 < a) (h1 : a < 18446744073709551616) :
    ∃ s : Nat, bits_LeadingZeros64.f k (a : Int) = some (s : Int) ∧ s ≤ 63 ∧ 2 ^ 63 ≤ a * 2 ^ s ∧ a * 2 ^ s < 2 ^ 64 := by
  obtain ⟨m, e, m1, m2, m3, m4⟩ := len_spec k hk a h0 h1
  refine ⟨64 - m, ?_, by omega, ?_, ?_⟩
  · unfold bits_LeadingZeros64.f
    rw [e]
    simp only [Option.bind_some]
    rw [wis _ (by omega)]
    congr 1
    omega
  · have := Nat.mul_le_mul_right (2 ^ (64 - m)) m1
    rwa [← Nat.pow_add, show m - 1 + (64 - m) = 63 from by omega] at this
  · have := Nat.mul_lt_mul_of_pos_right m2 (Nat.two_pow_pos (64 - m))
    rwa [← Nat.pow_add, show m + (64 - m) = 64 from by omega] at this

/-! ### Mul64 -/
theorem mul_core (a b c d : Int) (ha : 0 ≤ a) (hb : 0 ≤ b) (hc : 0 ≤ c) (hd : 0 ≤ d) (ha1 : a < 4294967296) (hb1 : b < 4294967296) (hc1 : c < 4294967296) (hd1 : d < 4294967296) :
    0 ≤ a * c ∧ a * c ≤ 18446744065119617025 := by
  refine ⟨Int.mul_nonneg ha hc, ?_⟩
  have := Int.mul_le_mul (show a ≤ 4294967295 by omega) (show c ≤ 4294967295 by omega) hc (by omega)
  simpa using this

theorem mul_spec (x y : Int) (hx0 : 0 ≤ x) (hx1 : x < 18446744073709551616) (hy0 : 0 ≤ y) (hy1 : y < 18446744073709551616) :
    bits_Mul64.f x y = some (x * y / 18446744073709551616, x * y % 18446744073709551616) := by
  unfold bits_Mul64.f
  rw [and32 x hx0 hx1, and32 y hy0 hy1]
  have ex : x = x / 4294967296 * 4294967296 + x % 4294967296 := by omega
  have ey : y = y / 4294967296 * 4294967296 + y % 4294967296 := by omega
  have bx := And.intro (show 0 ≤ x / 4294967296 by omega) (show x / 4294967296 < 4294967296 by omega)
  have by_ := And.intro (show 0 ≤ y / 4294967296 by omega) (show y / 4294967296 < 4294967296 by omega)
  have cx := And.intro (show 0 ≤ x % 4294967296 by omega) (show x % 4294967296 < 4294967296 by omega)
  have cy := And.intro (show 0 ≤ y % 4294967296 by omega) (show y % 4294967296 < 4294967296 by omega)
  generalize x / 4294967296 = x1 at *
  generalize x % 4294967296 = x0 at *
  generalize y / 4294967296 = y1 at *
  generalize y % 4294967296 = y0 at *
  obtain ⟨p1, p2⟩ := mul_core x1 x0 y1 y0 bx.1 cx.1 by_.1 cy.1 bx.2 cx.2 by_.2 cy.2
  obtain ⟨p3, p4⟩ := mul_core x1 x0 y0 y1 bx.1 cx.1 cy.1 by_.1 bx.2 cx.2 cy.2 by_.2
  obtain ⟨p5, p6⟩ := mul_core x0 x1 y1 y0 cx.1 bx.1 by_.1 cy.1 cx.2 bx.2 by_.2 cy.2
  obtain ⟨p7, p8⟩ := mul_core x0 x1 y0 y1 cx.1 bx.1 cy.1 by_.1 cx.2 bx.2 cy.2 by_.2
  have e : x * y = x1 * y1 * 18446744073709551616 + (x1 * y0 + x0 * y1) * 4294967296 + x0 * y0 := by
    rw [ex, ey]
    generalize hA : x1 * y1 = A
    rw [Int.add_mul, Int.mul_add, Int.mul_add]
    have q1 : x1 * 4294967296 * (y1 * 4294967296) = A * 18446744073709551616 := by rw [← hA]; rw [Int.mul_assoc, Int.mul_left_comm 4294967296, ← Int.mul_assoc x1]; omega
    have q2 : x1 * 4294967296 * y0 = x1 * y0 * 4294967296 := by rw [Int.mul_right_comm]
    have q3 : x0 * (y1 * 4294967296) = x0 * y1 * 4294967296 := by rw [Int.mul_assoc]
    omega
  rw [e]
  generalize x1 * y1 = A at *
  generalize x1 * y0 = Bq at *
  generalize x0 * y1 = C at *
  generalize x0 * y0 = D at *
  have e1 : (D / 4294967296 + Bq) < 18446744073709551616 := by omega
  rw [wus A (by omega) (by omega), wus Bq (by omega) (by omega), wus D (by omega) (by omega), wus C (by omega) (by omega), wus (Bq + D / 4294967296) (by omega) (by omega)]
  rw [and32 _ (by omega) (by omega), wus ((Bq + D / 4294967296) % 4294967296 + C) (by omega) (by omega), wus (A + (Bq + D / 4294967296) / 4294967296) (by omega) (by omega)]
  rw [wus _ (by omega) (by omega), wu]
  congr 1
  rw [Prod.mk.injEq]
  omega

/-! ### Div64 -/
section
variable {y s yn1 yn0 u un un0 qt : Int}

theorem l0_run (hs : 0 ≤ s) (hy : y = yn1 * 4294967296 + yn0) (h1 : 2147483648 ≤ yn1) (h1' : yn1 < 4294967296) (h0 : 0 ≤ yn0) (h00 : yn0 < 4294967296) (hu0 : 0 ≤ u) (hu : u < y) (hun0 : 0 ≤ un) (hun : un < 4294967296)
    (hq0 : 0 ≤ qt) (hle : qt * y ≤ u * 4294967296 + un) (hlt : u * 4294967296 + un < (qt + 1) * y) : ∀ (n k : Nat) (q rhat : Int), 2 * n + 2 ≤ k → 4294967296 ≤ rhat + n * yn1 → q * yn1 + rhat = u → 0 ≤ rhat → rhat < 4294967296 → qt ≤ q → q ≤ 4294967297 →
    ∃ k', k ≤ k' + 2 * n + 2 ∧ bits_Div64.l0 k y s yn1 yn0 u un un0 q rhat = bits_Div64.j2 k' y s yn1 yn0 u un un0 qt := by
  intro n
  induction n with
  | zero => intro k q rhat _ hb; omega
  | succ n ih =>
    intro k q rhat hk hb hr hr0 hr1 hqq hq1
    obtain ⟨k, rfl⟩ : ∃ m, k = m + 2 := ⟨k - 2, by omega⟩
    have hyp : 0 < y := by omega
    have next : (4294967296 ≤ q ∨ 4294967296 * rhat + un < q * yn0) → ∃ k', k + 2 ≤ k' + 2 * (n + 1) + 2 ∧ bits_Div64.j1 (k + 1) y s yn1 yn0 u un un0 q rhat true = bits_Div64.j2 k' y s yn1 yn0 u un un0 qt := by
      intro ht
      have hlow := DivMath.lower hy hu hun hyp hle hr ht
      have hr' : (q - 1) * yn1 + (rhat + yn1) = u := by rw [Int.sub_mul]; omega
      simp only [bits_Div64.j1]
      rw [if_pos trivial, wus (rhat + yn1) (by omega) (by omega), wus (q - 1) (by omega) (by omega)]
      by_cases hbr : 4294967296 ≤ rhat + yn1
      · rw [if_pos hbr]
        have := DivMath.broke hy hyp h0 h00 hun0 hlt hr' hbr (by omega)
        obtain rfl : q - 1 = qt := by omega
        exact ⟨k, by omega, rfl⟩
      · rw [if_neg hbr]
        obtain ⟨k', h2, h3⟩ := ih k (q - 1) (rhat + yn1) (by omega) (by rw [show ((n + 1 : Nat) : Int) = (n : Int) + 1 from by omega, Int.add_mul] at hb; omega) hr' (by omega) (by omega) (by omega) (by omega)
        exact ⟨k', by omega, h3⟩
    have stop : ¬ (4294967296 ≤ q) → ¬ (4294967296 * rhat + un < q * yn0) → ∃ k', k + 2 ≤ k' + 2 * (n + 1) + 2 ∧ bits_Div64.j1 (k + 1) y s yn1 yn0 u un un0 q rhat false = bits_Div64.j2 k' y s yn1 yn0 u un un0 qt := by
      intro _ ht
      have hup := DivMath.upper hy hyp hlt hr (by omega)
      obtain rfl : q = qt := by omega
      simp only [bits_Div64.j1]
      exact ⟨k, by omega, by simp⟩
    simp only [bits_Div64.l0]
    by_cases hq : 4294967296 ≤ q
    · rw [if_pos hq]
      exact next (.inl hq)
    · rw [if_neg hq]
      have hm : 0 ≤ q * yn0 := Int.mul_nonneg (by omega) h0
      have hm2 : q * yn0 ≤ 18446744065119617025 := by
        have := Int.mul_le_mul (show q ≤ 4294967295 by omega) (show yn0 ≤ 4294967295 by omega) h0 (by omega)
        simpa using this
      rw [wus (q * yn0) hm (by omega), wus (4294967296 * rhat) (by omega) (by omega), wus (4294967296 * rhat + un) (by omega) (by omega)]
      by_cases ht : 4294967296 * rhat + un < q * yn0
      · rw [decide_eq_true ht]
        exact next (.inr ht)
      · rw [decide_eq_false ht]
        exact stop hq ht
end

/-- What stands behind both digits. -/
def fin (y s un0 q1 u q : Int) : Option (Int × Int) :=
  if 0 ≤ s then some (IntKind.u64.wrap ((IntKind.u64.wrap (q1 * 4294967296)) + q), shr .u64 (IntKind.u64.wrap ((IntKind.u64.wrap ((IntKind.u64.wrap (u * 4294967296)) + un0)) - (IntKind.u64.wrap (q * y)))) s) else none

section
variable {y s yn1 yn0 u un q1 qt : Int}

theorem l1_run (hs : 0 ≤ s) (hy : y = yn1 * 4294967296 + yn0) (h1 : 2147483648 ≤ yn1) (h1' : yn1 < 4294967296) (h0 : 0 ≤ yn0) (h00 : yn0 < 4294967296) (hu0 : 0 ≤ u) (hu : u < y) (hun0 : 0 ≤ un) (hun : un < 4294967296)
    (hq0 : 0 ≤ qt) (hle : qt * y ≤ u * 4294967296 + un) (hlt : u * 4294967296 + un < (qt + 1) * y) : ∀ (n k : Nat) (q rhat : Int), 2 * n + 2 ≤ k → 4294967296 ≤ rhat + n * yn1 → q * yn1 + rhat = u → 0 ≤ rhat → rhat < 4294967296 → qt ≤ q → q ≤ 4294967297 →
    bits_Div64.l1 k y s yn1 yn0 un q1 rhat u q = fin y s un q1 u qt := by
  intro n
  induction n with
  | zero => intro k q rhat _ hb; omega
  | succ n ih =>
    intro k q rhat hk hb hr hr0 hr1 hqq hq1
    obtain ⟨k, rfl⟩ : ∃ m, k = m + 2 := ⟨k - 2, by omega⟩
    have hyp : 0 < y := by omega
    have next : (4294967296 ≤ q ∨ 4294967296 * rhat + un < q * yn0) → bits_Div64.j4 (k + 1) y s yn1 yn0 un q1 rhat u q true = fin y s un q1 u qt := by
      intro ht
      have hlow := DivMath.lower hy hu hun hyp hle hr ht
      have hr' : (q - 1) * yn1 + (rhat + yn1) = u := by rw [Int.sub_mul]; omega
      simp only [bits_Div64.j4]
      rw [if_pos trivial, wus (rhat + yn1) (by omega) (by omega), wus (q - 1) (by omega) (by omega)]
      by_cases hbr : 4294967296 ≤ rhat + yn1
      · rw [if_pos hbr]
        have := DivMath.broke hy hyp h0 h00 hun0 hlt hr' hbr (by omega)
        obtain rfl : q - 1 = qt := by omega
        rfl
      · rw [if_neg hbr]
        exact ih k (q - 1) (rhat + yn1) (by omega) (by rw [show ((n + 1 : Nat) : Int) = (n : Int) + 1 from by omega, Int.add_mul] at hb; omega) hr' (by omega) (by omega) (by omega) (by omega)
    have stop : ¬ (4294967296 ≤ q) → ¬ (4294967296 * rhat + un < q * yn0) → bits_Div64.j4 (k + 1) y s yn1 yn0 un q1 rhat u q false = fin y s un q1 u qt := by
      intro _ ht
      have hup := DivMath.upper hy hyp hlt hr (by omega)
      obtain rfl : q = qt := by omega
      simp only [bits_Div64.j4]
      rw [if_neg (by decide)]
      rfl
    simp only [bits_Div64.l1]
    by_cases hq : 4294967296 ≤ q
    · rw [if_pos hq]
      exact next (.inl hq)
    · rw [if_neg hq]
      have hm : 0 ≤ q * yn0 := Int.mul_nonneg (by omega) h0
      have hm2 : q * yn0 ≤ 18446744065119617025 := by
        have := Int.mul_le_mul (show q ≤ 4294967295 by omega) (show yn0 ≤ 4294967295 by omega) h0 (by omega)
        simpa using this
      rw [wus (q * yn0) hm (by omega), wus (4294967296 * rhat) (by omega) (by omega), wus (4294967296 * rhat + un) (by omega) (by omega)]
      by_cases ht : 4294967296 * rhat + un < q * yn0
      · rw [decide_eq_true ht]
        exact next (.inr ht)
      · rw [decide_eq_false ht]
        exact stop hq ht
end

theorem tdiv_pos (a b : Int) (h : 0 ≤ a) : Int.tdiv a b = a / b := Int.tdiv_eq_ediv_of_nonneg h
theorem tmod_pos (a b : Int) (h : 0 ≤ a) : Int.tmod a b = a % b := Int.tmod_eq_emod_of_nonneg h

/-- An exact quotient's bounds. -/
theorem quo_bounds (a b : Int) (hb : 0 < b) : a / b * b ≤ a ∧ a < (a / b + 1) * b := by
  have := Int.mul_ediv_add_emod a b
  have h1 := Int.emod_nonneg a (show b ≠ 0 by omega)
  have h2 := Int.emod_lt_of_pos a hb
  rw [Int.add_mul, Int.mul_comm (a / b)]
  omega

theorem both (y s yn1 yn0 u un1 un0 : Int) (k : Nat) (hk : 30 ≤ k) (hs : 0 ≤ s) (hs1 : s ≤ 63) (hy : y = yn1 * 4294967296 + yn0) (h1 : 2147483648 ≤ yn1) (h1' : yn1 < 4294967296) (h0 : 0 ≤ yn0) (h00 : yn0 < 4294967296) (hu0 : 0 ≤ u) (hu : u < y)
    (hun0 : 0 ≤ un1) (hun : un1 < 4294967296) (hum0 : 0 ≤ un0) (hum : un0 < 4294967296) :
    bits_Div64.l0 k y s yn1 yn0 u un1 un0 (u / yn1) (u % yn1) = some ((u * 18446744073709551616 + un1 * 4294967296 + un0) / y, (u * 18446744073709551616 + un1 * 4294967296 + un0) % y / 2 ^ s.toNat) := by
  have hyp : 0 < y := by omega
  obtain ⟨b1, b2⟩ := quo_bounds (u * 4294967296 + un1) y hyp
  have bq : 0 ≤ (u * 4294967296 + un1) / y := Int.ediv_nonneg (by omega) (by omega)
  have bq1 : (u * 4294967296 + un1) / y < 4294967296 := Int.ediv_lt_of_lt_mul hyp (by omega)
  generalize hq1 : (u * 4294967296 + un1) / y = q1 at *
  obtain ⟨g1, g2, g3, g4, g5⟩ := DivMath.guess hy h1 h00 hu0 hu hun0 hun b1 h0
  obtain ⟨k', hk', e⟩ := l0_run (s := s) (un0 := un0) hs hy h1 h1' h0 h00 hu0 hu hun0 hun bq b1 b2 2 k (u / yn1) (u % yn1) (by omega) (by omega) g1 g2 (by omega) g5 g4
  rw [e]
  obtain ⟨k'', rfl⟩ : ∃ m, k' = m + 1 := ⟨k' - 1, by omega⟩
  simp only [bits_Div64.j2]
  rw [if_neg (by omega)]
  have hmul : (q1 + 1) * y = q1 * y + y := by rw [Int.add_mul, Int.one_mul]
  have hu21 : IntKind.u64.wrap ((IntKind.u64.wrap ((IntKind.u64.wrap (u * 4294967296)) + un1)) - (IntKind.u64.wrap (q1 * y))) = u * 4294967296 + un1 - q1 * y := by
    simp only [wu]
    omega
  rw [hu21]
  have hv0 : 0 ≤ u * 4294967296 + un1 - q1 * y := by omega
  have hv1 : u * 4294967296 + un1 - q1 * y < y := by omega
  have hN : u * 18446744073709551616 + un1 * 4294967296 + un0 = q1 * y * 4294967296 + ((u * 4294967296 + un1 - q1 * y) * 4294967296 + un0) := by omega
  generalize u * 4294967296 + un1 - q1 * y = v at *
  obtain ⟨c1, c2⟩ := quo_bounds (v * 4294967296 + un0) y hyp
  have cq : 0 ≤ (v * 4294967296 + un0) / y := Int.ediv_nonneg (by omega) (by omega)
  have cq1 : (v * 4294967296 + un0) / y < 4294967296 := Int.ediv_lt_of_lt_mul hyp (by omega)
  generalize hq0 : (v * 4294967296 + un0) / y = q0 at *
  obtain ⟨d1, d2, d3, d4, d5⟩ := DivMath.guess hy h1 h00 hv0 hv1 hum0 hum c1 h0
  have hqv : IntKind.u64.wrap (Int.tdiv v yn1) = v / yn1 := by
    rw [tdiv_pos v yn1 hv0]
    exact wus _ (Int.ediv_nonneg hv0 (by omega)) (by omega)
  have hmv : 0 ≤ v / yn1 * yn1 := Int.mul_nonneg (Int.ediv_nonneg hv0 (by omega)) (by omega)
  rw [hqv, wus (v / yn1 * yn1) hmv (by omega), wus (v - v / yn1 * yn1) (by omega) (by omega)]
  rw [l1_run (s := s) (q1 := q1) hs hy h1 h1' h0 h00 hv0 hv1 hum0 hum cq c1 c2 2 k'' (v / yn1) (v - v / yn1 * yn1) (by omega) (by omega) (by omega) (by omega) (by omega) d5 d4]
  unfold fin
  have hmul0 : (q0 + 1) * y = q0 * y + y := by rw [Int.add_mul, Int.one_mul]
  have hrem : IntKind.u64.wrap ((IntKind.u64.wrap ((IntKind.u64.wrap (v * 4294967296)) + un0)) - (IntKind.u64.wrap (q0 * y))) = v * 4294967296 + un0 - q0 * y := by
    simp only [wu]
    omega
  rw [if_pos hs, hrem, wus (q1 * 4294967296) (by omega) (by omega), wus (q1 * 4294967296 + q0) (by omega) (by omega)]
  have hQ : u * 18446744073709551616 + un1 * 4294967296 + un0 = (q1 * 4294967296 + q0) * y + (v * 4294967296 + un0 - q0 * y) := by
    rw [hN, Int.add_mul, Int.mul_right_comm q1 4294967296 y]
    omega
  have r0 : 0 ≤ v * 4294967296 + un0 - q0 * y := by omega
  have r1 : v * 4294967296 + un0 - q0 * y < y := by omega
  rw [hQ]
  generalize v * 4294967296 + un0 - q0 * y = r at *
  generalize q1 * 4294967296 + q0 = Q at *
  have f1 : (Q * y + r) / y = Q := by
    rw [Int.add_comm, Int.add_mul_ediv_right _ _ (by omega), Int.ediv_eq_zero_of_lt r0 r1, Int.zero_add]
  have f2 : (Q * y + r) % y = r := by
    rw [Int.add_comm, Int.add_mul_emod_self_right, Int.emod_eq_of_lt r0 r1]
  rw [f1, f2]
  unfold shr
  rw [Nat.min_eq_left (by simp [IntKind.bits]; omega)]

theorem shl_at (x : Nat) (s : Nat) (hs : s ≤ 64) : shl .u64 (x : Int) (s : Int) = ((x * 2 ^ s % 18446744073709551616 : Nat) : Int) := by
  unfold shl
  rw [Int.toNat_natCast, Nat.min_eq_left (by simpa [IntKind.bits] using hs), wu]
  simp
theorem shr_at (x : Nat) (s : Nat) (hs : s ≤ 64) : shr .u64 (x : Int) (s : Int) = ((x / 2 ^ s : Nat) : Int) := by
  unfold shr
  rw [Int.toNat_natCast, Nat.min_eq_left (by simpa [IntKind.bits] using hs)]
  simp

/-- **The division is exact.** -/
theorem div_nat (k : Nat) (hk : 40 ≤ k) (hi lo y : Nat) (h : hi < y) (hl : lo < 18446744073709551616) (hy : y < 18446744073709551616) :
    bits_Div64.f k (hi : Int) (lo : Int) (y : Int) = some ((((hi * 18446744073709551616 + lo) / y : Nat) : Int), (((hi * 18446744073709551616 + lo) % y : Nat) : Int)) := by
  unfold bits_Div64.f
  rw [if_neg (by omega), if_neg (by omega)]
  by_cases h0 : hi = 0
  · subst h0
    rw [if_pos (by simp), tdiv_pos _ _ (by omega), tmod_pos _ _ (by omega)]
    have hle : lo / y ≤ lo := Nat.div_le_self _ _
    have hw : IntKind.u64.wrap ((lo / y : Nat) : Int) = ((lo / y : Nat) : Int) := by
      generalize lo / y = q at *
      exact wus _ (by omega) (by omega)
    rw [show ((lo : Int) / (y : Int)) = ((lo / y : Nat) : Int) from by simp, hw]
    simp
  · rw [if_neg (by omega)]
    obtain ⟨s, e, s1, s2, s3⟩ := lz_spec k (by omega) y (by omega) hy
    rw [e]
    simp only [Option.bind_some]
    rw [wus (s : Int) (by omega) (by omega), if_pos (by omega), show (64 : Int) - (s : Int) = ((64 - s : Nat) : Int) from by omega, wus _ (by omega) (by omega), if_pos (by omega)]
    obtain ⟨t1, t2⟩ := DivMath.shifted lo s (by omega) hl
    have hp := Nat.two_pow_pos s
    have hhi : hi * 2 ^ s + lo / 2 ^ (64 - s) < y * 2 ^ s := by
      have h1 : (hi + 1) * 2 ^ s ≤ y * 2 ^ s := Nat.mul_le_mul_right _ h
      rw [Nat.add_mul, Nat.one_mul] at h1
      omega
    rw [shl_at y s (by omega), shl_at hi s (by omega), shl_at lo s (by omega), shr_at lo (64 - s) (by omega)]
    rw [Nat.mod_eq_of_lt (show y * 2 ^ s < 18446744073709551616 from s3), Nat.mod_eq_of_lt (show hi * 2 ^ s < 18446744073709551616 by omega)]
    have ho : Go.bits .or .u64 ((hi * 2 ^ s : Nat) : Int) ((lo / 2 ^ (64 - s) : Nat) : Int) = ((hi * 2 ^ s : Nat) : Int) + ((lo / 2 ^ (64 - s) : Nat) : Int) := by
      refine bits_join .u64 64 (by decide) (fun n h0 h1 => wus n h0 h1) s _ _ (by omega) ?_ (by omega) (by omega) ?_ (by omega)
      · rw [show ((2 : Int) ^ s) = ((2 ^ s : Nat) : Int) from by simp, ← Int.natCast_emod, Nat.mul_mod_left]; rfl
      · rw [show ((2 : Int) ^ s) = ((2 ^ s : Nat) : Int) from by simp]; omega
    rw [ho]
    have hN : ((hi : Int) * 18446744073709551616 + lo) * ((2 ^ s : Nat) : Int) = (((hi * 2 ^ s : Nat) : Int) + ((lo / 2 ^ (64 - s) : Nat) : Int)) * 18446744073709551616 + ((lo * 2 ^ s % 18446744073709551616 : Nat) : Int) := by
      rw [Int.add_mul, Int.mul_right_comm]
      have c1 : ((hi * 2 ^ s : Nat) : Int) = (hi : Int) * ((2 ^ s : Nat) : Int) := Int.natCast_mul _ _
      have c2 : ((lo * 2 ^ s : Nat) : Int) = (lo : Int) * ((2 ^ s : Nat) : Int) := Int.natCast_mul _ _
      rw [← c1, ← c2]
      generalize lo * 2 ^ s = L at *
      generalize hi * 2 ^ s = H at *
      generalize lo / 2 ^ (64 - s) = D at *
      omega
    have hy' : ((y : Int)) * ((2 ^ s : Nat) : Int) = ((y * 2 ^ s : Nat) : Int) := by simp
    have hpI : (0 : Int) < ((2 ^ s : Nat) : Int) := by omega
    have fq : (((hi : Int) * 18446744073709551616 + lo) * ((2 ^ s : Nat) : Int)) / ((y : Int) * ((2 ^ s : Nat) : Int)) = ((hi : Int) * 18446744073709551616 + lo) / y := Int.mul_ediv_mul_of_pos_left _ _ hpI
    have fr : (((hi : Int) * 18446744073709551616 + lo) * ((2 ^ s : Nat) : Int)) % ((y : Int) * ((2 ^ s : Nat) : Int)) = ((hi : Int) * 18446744073709551616 + lo) % y * ((2 ^ s : Nat) : Int) := by
      rw [Int.mul_comm _ ((2 ^ s : Nat) : Int), Int.mul_comm (y : Int), Int.mul_emod_mul_of_pos _ _ hpI, Int.mul_comm]
    rw [hy', hN] at fq fr
    generalize hu : ((hi * 2 ^ s : Nat) : Int) + ((lo / 2 ^ (64 - s) : Nat) : Int) = u at *
    generalize hw : lo * 2 ^ s % 18446744073709551616 = un10 at *
    have hun10 : un10 < 18446744073709551616 := by rw [← hw]; exact Nat.mod_lt _ (by decide)
    have hyI : ((y * 2 ^ s : Nat) : Int) = ((y * 2 ^ s : Nat) : Int) / 4294967296 * 4294967296 + ((y * 2 ^ s : Nat) : Int) % 4294967296 := by omega
    have hyb : (9223372036854775808 : Int) ≤ ((y * 2 ^ s : Nat) : Int) := by omega
    have hyc : ((y * 2 ^ s : Nat) : Int) < 18446744073709551616 := by omega
    have hu0 : 0 ≤ u := by omega
    have hu1 : u < ((y * 2 ^ s : Nat) : Int) := by omega
    generalize hY : ((y * 2 ^ s : Nat) : Int) = Y at *
    rw [and32 Y (by omega) hyc, and32 (un10 : Int) (by omega) (by omega), if_neg (by omega), tdiv_pos u _ hu0]
    have hyn1 : 2147483648 ≤ Y / 4294967296 := by omega
    have hg0 : u / (Y / 4294967296) * (Y / 4294967296) ≤ u := Int.ediv_mul_le _ (by omega)
    have hg1 : 0 ≤ u / (Y / 4294967296) := Int.ediv_nonneg hu0 (by omega)
    have hg2 : u / (Y / 4294967296) ≤ u := Int.ediv_le_self _ hu0
    have hg3 : 0 ≤ u / (Y / 4294967296) * (Y / 4294967296) := Int.mul_nonneg hg1 (by omega)
    have hg4 : u - u / (Y / 4294967296) * (Y / 4294967296) = u % (Y / 4294967296) := by
      have := Int.mul_ediv_add_emod u (Y / 4294967296)
      rw [Int.mul_comm] at this
      omega
    rw [wus (u / (Y / 4294967296)) hg1 (by omega), wus _ hg3 (by omega), wus _ (by omega) (by omega), hg4]
    rw [both Y (s : Int) (Y / 4294967296) (Y % 4294967296) u ((un10 : Int) / 4294967296) ((un10 : Int) % 4294967296) k (by omega) (by omega) (by omega) hyI hyn1 (by omega) (by omega) (by omega) hu0 hu1 (by omega) (by omega) (by omega) (by omega)]
    rw [show u * 18446744073709551616 + (un10 : Int) / 4294967296 * 4294967296 + (un10 : Int) % 4294967296 = u * 18446744073709551616 + un10 from by omega, fq, fr, Int.toNat_natCast]
    rw [show ((2 : Int) ^ s) = ((2 ^ s : Nat) : Int) from by simp, Int.mul_ediv_cancel _ (by omega)]
    simp

theorem div_spec (k : Nat) (hk : 40 ≤ k) (hi lo y : Int) (h0 : 0 ≤ hi) (h : hi < y) (hl0 : 0 ≤ lo) (hl : lo < 18446744073709551616) (hy : y < 18446744073709551616) :
    bits_Div64.f k hi lo y = some ((hi * 18446744073709551616 + lo) / y, (hi * 18446744073709551616 + lo) % y) := by
  obtain ⟨hi, rfl⟩ := Int.eq_ofNat_of_zero_le h0
  obtain ⟨lo, rfl⟩ := Int.eq_ofNat_of_zero_le hl0
  obtain ⟨y, rfl⟩ := Int.eq_ofNat_of_zero_le (show 0 ≤ y by omega)
  rw [div_nat k hk hi lo y (by omega) (by omega) (by omega)]
  simp
end Go.Proofs.Ytacpiaiohcblfaa.Div
