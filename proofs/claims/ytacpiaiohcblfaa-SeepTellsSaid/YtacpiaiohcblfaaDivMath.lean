/- Plain arithmetic for a division of 128 bits by 64 bits in two digits of 32 bits. -/
namespace DivMath

theorem expand (q yn1 yn0 y : Int) (hy : y = yn1 * 4294967296 + yn0) : q * y = q * yn1 * 4294967296 + q * yn0 := by
  rw [hy, Int.mul_add, Int.mul_assoc]

section
variable {y yn1 yn0 u un qt q rhat : Int}

theorem lower (hy : y = yn1 * 4294967296 + yn0) (hu : u < y) (hun : un < 4294967296) (hy0 : 0 < y) (hle : qt * y ≤ u * 4294967296 + un)
    (hr : q * yn1 + rhat = u) (ht : 4294967296 ≤ q ∨ 4294967296 * rhat + un < q * yn0) : qt < q := by
  rcases ht with ht | ht
  · have h1 : qt * y < 4294967296 * y := by omega
    have := Int.lt_of_mul_lt_mul_right h1 (by omega)
    omega
  · have e := expand q yn1 yn0 y hy
    have h1 : qt * y < q * y := by omega
    exact Int.lt_of_mul_lt_mul_right h1 (by omega)

theorem upper (hy : y = yn1 * 4294967296 + yn0) (hy0 : 0 < y) (hlt : u * 4294967296 + un < (qt + 1) * y)
    (hr : q * yn1 + rhat = u) (ht : q * yn0 ≤ 4294967296 * rhat + un) : q ≤ qt := by
  have e := expand q yn1 yn0 y hy
  have h1 : q * y < (qt + 1) * y := by omega
  have := Int.lt_of_mul_lt_mul_right h1 (by omega)
  omega

theorem broke (hy : y = yn1 * 4294967296 + yn0) (hy0 : 0 < y) (h0 : 0 ≤ yn0) (h00 : yn0 < 4294967296) (hun : 0 ≤ un) (hlt : u * 4294967296 + un < (qt + 1) * y)
    (hr : q * yn1 + rhat = u) (hb : 4294967296 ≤ rhat) (hq : q ≤ 4294967296) : q ≤ qt := by
  refine upper hy hy0 hlt hr ?_
  have h1 : q * yn0 ≤ 4294967296 * yn0 := Int.mul_le_mul_of_nonneg_right hq h0
  omega

end

/-- The first guess of a digit. -/
theorem guess {y yn1 yn0 u un qt : Int} (hy : y = yn1 * 4294967296 + yn0) (h1 : 2147483648 ≤ yn1) (h00 : yn0 < 4294967296) (hu0 : 0 ≤ u) (hu : u < y) (hun0 : 0 ≤ un) (hun : un < 4294967296)
    (hle : qt * y ≤ u * 4294967296 + un) (h0 : 0 ≤ yn0) : u / yn1 * yn1 + u % yn1 = u ∧ 0 ≤ u % yn1 ∧ u % yn1 < yn1 ∧ u / yn1 ≤ 4294967297 ∧ qt ≤ u / yn1 := by
  have hp : 0 < yn1 := by omega
  have e := Int.mul_ediv_add_emod u yn1
  rw [Int.mul_comm] at e
  have e1 := Int.emod_nonneg u (show yn1 ≠ 0 by omega)
  have e2 := Int.emod_lt_of_pos u hp
  refine ⟨e, e1, e2, ?_, ?_⟩
  · have h2 : u / yn1 * yn1 < 4294967298 * yn1 := by omega
    have := Int.lt_of_mul_lt_mul_right h2 (by omega)
    omega
  · have h3 := expand qt yn1 yn0 y hy
    have hnn : 0 ≤ qt ∨ qt < 0 := by omega
    rcases hnn with hq | hq
    · have h4 : 0 ≤ qt * yn0 := Int.mul_nonneg hq h0
      have h5 : qt * yn1 ≤ u := by omega
      have h6 : qt * yn1 < (u / yn1 + 1) * yn1 := by rw [Int.add_mul]; omega
      have := Int.lt_of_mul_lt_mul_right h6 (by omega)
      omega
    · have := Int.ediv_nonneg hu0 (show 0 ≤ yn1 by omega)
      omega

/-- A number that is cut at 64 bits after a shift. -/
theorem shifted (lo s : Nat) (hs : s ≤ 64) (hlo : lo < 2 ^ 64) : lo * 2 ^ s = lo / 2 ^ (64 - s) * 2 ^ 64 + lo * 2 ^ s % 2 ^ 64 ∧ lo / 2 ^ (64 - s) < 2 ^ s := by
  have e : 2 ^ (64 - s) * 2 ^ s = 2 ^ 64 := by rw [← Nat.pow_add]; congr 1; omega
  have hd : lo * 2 ^ s / 2 ^ 64 = lo / 2 ^ (64 - s) := by
    rw [← e, Nat.mul_div_mul_right _ _ (Nat.two_pow_pos s)]
  have := Nat.div_add_mod (lo * 2 ^ s) (2 ^ 64)
  rw [hd] at this
  refine ⟨by omega, ?_⟩
  rw [Nat.div_lt_iff_lt_mul (Nat.two_pow_pos _), Nat.mul_comm, e]
  exact hlo

end DivMath
