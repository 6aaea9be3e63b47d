/- Plain laws of residues modulo the primes P and Q = (P - 1) / 2: Euler's criterion, the group of order Q, orders of its members; no program. -/
import Derived.Test.YtlnkmbbmefbnpaaNum
set_option linter.unusedVariables false
set_option maxRecDepth 100000
namespace Go.Proofs.Ytlnkmbbmefbnpaa.Res
open Go.Proofs.Ytlnkmbbmefbnpaa.Num

/-- The powers' and products' residues. -/
def ex (x e : Nat) : Nat := x ^ e % 2305843009213691579
def ml (x y : Nat) : Nat := x * y % 2305843009213691579

theorem ex_lt (x e : Nat) : ex x e < 2305843009213691579 := Nat.mod_lt _ (by omega)
theorem ml_lt (x y : Nat) : ml x y < 2305843009213691579 := Nat.mod_lt _ (by omega)
theorem nd {x : Nat} (h0 : 0 < x) (h1 : x < 2305843009213691579) : ¬ 2305843009213691579 ∣ x := fun h => by
  have := Nat.le_of_dvd h0 h
  omega

theorem ml_comm (x y : Nat) : ml x y = ml y x := by unfold ml; rw [Nat.mul_comm]
theorem ml_assoc (x y z : Nat) : ml (ml x y) z = ml x (ml y z) := by
  unfold ml; rw [Nat.mod_mul_mod, Nat.mul_mod_mod, Nat.mul_assoc]
theorem ml_zero {x y : Nat} (hx : x < 2305843009213691579) (hy : y < 2305843009213691579) : ml x y = 0 ↔ x = 0 ∨ y = 0 := by
  constructor
  · intro h
    rcases euclid prP (Nat.dvd_of_mod_eq_zero h) with h1 | h1
    · left
      rcases Nat.eq_zero_or_pos x with h2 | h2
      · exact h2
      · exact absurd h1 (nd h2 hx)
    · right
      rcases Nat.eq_zero_or_pos y with h2 | h2
      · exact h2
      · exact absurd h1 (nd h2 hy)
  · rintro (rfl | rfl)
    · simp [ml]
    · simp [ml]
theorem ex_ml (x y e : Nat) : ex (ml x y) e = ml (ex x e) (ex y e) := by
  unfold ex ml
  rw [← Nat.pow_mod, Nat.mul_pow, ← Nat.mul_mod]
theorem ex_add (x d e : Nat) : ml (ex x d) (ex x e) = ex x (d + e) := by
  unfold ex ml
  rw [← Nat.mul_mod, ← Nat.pow_add]
theorem ex_ex (x d e : Nat) : ex (ex x d) e = ex x (d * e) := by
  unfold ex
  rw [← Nat.pow_mod, ← Nat.pow_mul]
theorem ex_pos {x e : Nat} (h0 : 0 < x) (h1 : x < 2305843009213691579) : 0 < ex x e := by
  rcases Nat.eq_zero_or_pos (ex x e) with h | h
  · exact absurd (dvd_pow prP e (Nat.dvd_of_mod_eq_zero h)) (nd h0 h1)
  · exact h
theorem ex_one (x : Nat) (h : x < 2305843009213691579) : ex x 1 = x := by unfold ex; rw [Nat.pow_one, Nat.mod_eq_of_lt h]
theorem ex_two (x : Nat) : ex x 2 = ml x x := by unfold ex ml; rw [Nat.pow_two]
theorem ex_zero (x : Nat) : ex x 0 = 1 := by unfold ex; rw [Nat.pow_zero]

theorem fermat2 {x : Nat} (h0 : 0 < x) (h1 : x < 2305843009213691579) : ex x 2305843009213691578 = 1 := by
  have h := fermat1 prP x (nd h0 h1)
  rw [show 2305843009213691579 - 1 = 2305843009213691578 from rfl] at h
  unfold ex
  exact h
theorem base_one (n : Nat) : ex 1 n = 1 := by unfold ex; rw [Nat.one_pow]
theorem ex_odd (y n : Nat) : ex y (2 * n + 1) = ml (ex (ml y y) n) y := by
  rw [← ex_two, ex_ex]
  unfold ex ml
  rw [Nat.mod_mul_mod, ← Nat.pow_succ]

/-- Fermat's inverse. -/
theorem inverse {x : Nat} (h0 : 0 < x) (h1 : x < 2305843009213691579) : ml (ex x 2305843009213691577) x = 1 := by
  have := ex_add x 2305843009213691577 1
  rw [ex_one x h1] at this
  rw [this]
  exact fermat2 h0 h1

/-- Euler's criterion: a square root of 1 is 1 or -1. -/
theorem root_one {c : Nat} (hc : c < 2305843009213691579) (h : ml c c = 1) : c = 1 ∨ c = 2305843009213691578 := by
  have h0 : 0 < c := by
    rcases Nat.eq_zero_or_pos c with rfl | h0
    · simp [ml] at h
    · exact h0
  obtain ⟨d, rfl⟩ : ∃ d, c = d + 1 := ⟨c - 1, by omega⟩
  have h2 : 2305843009213691579 ∣ d * (d + 2) := by
    have e : (d + 1) * (d + 1) = d * (d + 2) + 1 := by simp only [Nat.add_mul, Nat.mul_add, Nat.mul_one, Nat.one_mul]; omega
    unfold ml at h
    rw [e] at h
    have := Nat.div_add_mod (d * (d + 2) + 1) 2305843009213691579
    rw [h] at this
    exact ⟨(d * (d + 2) + 1) / 2305843009213691579, by omega⟩
  rcases euclid prP h2 with h3 | h3
  · left
    rcases Nat.eq_zero_or_pos d with rfl | h4
    · rfl
    · have := Nat.le_of_dvd h4 h3
      omega
  · right
    have := Nat.le_of_dvd (by omega) h3
    omega

theorem chi {x : Nat} (h0 : 0 < x) (h1 : x < 2305843009213691579) : ex x 1152921504606845789 = 1 ∨ ex x 1152921504606845789 = 2305843009213691578 := by
  refine root_one (ex_lt _ _) ?_
  rw [ex_add]
  exact fermat2 h0 h1

/-- The negative is in the group exactly if the number isn't. -/
theorem neg_sum {x : Nat} (h1 : x < 2305843009213691579) : (ex (2305843009213691579 - x) 1152921504606845789 + ex x 1152921504606845789) % 2305843009213691579 = 0 := by
  have hsq : (2305843009213691579 - x) * (2305843009213691579 - x) % 2305843009213691579 = x * x % 2305843009213691579 := by
    obtain ⟨y, hy⟩ : ∃ y, y + x = 2305843009213691579 := ⟨2305843009213691579 - x, by omega⟩
    rw [show 2305843009213691579 - x = y from by omega]
    have e : y * y + 2305843009213691579 * x = x * x + 2305843009213691579 * y := by
      rw [← hy, Nat.add_mul, Nat.add_mul, Nat.mul_comm x y]; omega
    have := congrArg (· % 2305843009213691579) e
    simp only [Nat.add_mul_mod_self_left] at this
    exact this
  have odd : ∀ y, ex y 1152921504606845789 = ml (ex (ml y y) 576460752303422894) y := by
    intro y
    have h := ex_odd y 576460752303422894
    rw [show 2 * 576460752303422894 + 1 = 1152921504606845789 from rfl] at h
    exact h
  rw [odd, odd]
  have e2 : ml (2305843009213691579 - x) (2305843009213691579 - x) = ml x x := hsq
  rw [e2]
  generalize ex (ml x x) 576460752303422894 = w
  unfold ml
  rw [← Nat.add_mod, ← Nat.mul_add, show 2305843009213691579 - x + x = 2305843009213691579 from by omega, Nat.mul_mod_left]

theorem neg_chi {x : Nat} (h0 : 0 < x) (h1 : x < 2305843009213691579) : (ex (2305843009213691579 - x) 1152921504606845789 = 1) ↔ ¬ (ex x 1152921504606845789 = 1) := by
  have h := neg_sum h1
  rcases chi h0 h1 with e | e <;> rcases chi (show 0 < 2305843009213691579 - x by omega) (by omega) with e' | e' <;> rw [e, e'] at h ⊢ <;> simp at h ⊢

/-- Powers of a member depend on the exponent's residue modulo Q alone. -/
theorem ex_mod {x : Nat} (h : ex x 1152921504606845789 = 1) (m : Nat) : ex x m = ex x (m % 1152921504606845789) := by
  have e := Nat.div_add_mod m 1152921504606845789
  have h2 : ex x (1152921504606845789 * (m / 1152921504606845789)) = 1 := by
    rw [← ex_ex, h, base_one]
  have h3 := ex_add x (1152921504606845789 * (m / 1152921504606845789)) (m % 1152921504606845789)
  rw [e, h2] at h3
  rw [← h3]
  unfold ml ex
  rw [Nat.one_mul, Nat.mod_mod]
theorem ex_congr {x m n : Nat} (h : ex x 1152921504606845789 = 1) (e : m % 1152921504606845789 = n % 1152921504606845789) : ex x m = ex x n := by
  rw [ex_mod h m, ex_mod h n, e]

theorem ex_gcd {x m n : Nat} (h : ex x m = 1) (h2 : ex x n = 1) : ex x (Nat.gcd m n) = 1 := by
  have o : (1 : Nat) % 2305843009213691579 = 1 := rfl
  have g := pow_gcd (p := 2305843009213691579) (b := x) m n
  rw [o] at g
  exact g h h2
/-- A member other than 1 has the order Q. -/
theorem order {x m : Nat} (h : ex x 1152921504606845789 = 1) (h1 : ¬ ex x 1 = 1) : ex x m = 1 ↔ m % 1152921504606845789 = 0 := by
  constructor
  · intro hm
    have g := ex_gcd h hm
    rcases prQ.2 _ (Nat.gcd_dvd_left 1152921504606845789 m) with e | e
    · rw [e] at g
      exact absurd g h1
    · have : 1152921504606845789 ∣ m := by
        have := Nat.gcd_dvd_right 1152921504606845789 m
        rwa [e] at this
      exact Nat.mod_eq_zero_of_dvd this
  · intro hm
    rw [ex_mod h, hm, ex_zero]

theorem order_le {x m n : Nat} (h0 : 0 < x) (hx : x < 2305843009213691579) (h : ex x 1152921504606845789 = 1) (h1 : ¬ ex x 1 = 1) (hmn : m ≤ n) : ex x m = ex x n ↔ m % 1152921504606845789 = n % 1152921504606845789 := by
  constructor
  · intro e
    obtain ⟨d, rfl⟩ : ∃ d, n = m + d := ⟨n - m, by omega⟩
    have e2 := ex_add x m d
    rw [← e] at e2
    have hd : ex x d = 1 := by
      have hp := ex_pos (e := m) h0 hx
      have hl := ex_lt x m
      have hdl := ex_lt x d
      generalize ex x m = a at *
      generalize ex x d = b at *
      have hb0 : 0 < b := by
        rcases Nat.eq_zero_or_pos b with rfl | hb
        · simp [ml] at e2; omega
        · exact hb
      have hdv : 2305843009213691579 ∣ a * (b - 1) := by
        have : a * b % 2305843009213691579 = a % 2305843009213691579 := by
          unfold ml at e2; rw [e2, Nat.mod_eq_of_lt hl]
        rw [Nat.mul_sub, Nat.mul_one]
        exact Nat.dvd_of_mod_eq_zero (Nat.sub_mod_eq_zero_of_mod_eq this)
      rcases euclid prP hdv with h2 | h2
      · exact absurd h2 (nd hp hl)
      · rcases Nat.eq_zero_or_pos (b - 1) with h3 | h3
        · omega
        · exact absurd h2 (nd h3 (by omega))
    have := (order h h1).1 hd
    omega
  · exact fun e => ex_congr h e
theorem order_eq {x m n : Nat} (h0 : 0 < x) (hx : x < 2305843009213691579) (h : ex x 1152921504606845789 = 1) (h1 : ¬ ex x 1 = 1) : ex x m = ex x n ↔ m % 1152921504606845789 = n % 1152921504606845789 := by
  rcases Nat.le_total m n with hl | hl
  · exact order_le h0 hx h h1 hl
  · constructor
    · intro e; exact ((order_le h0 hx h h1 hl).1 e.symm).symm
    · intro e; exact ((order_le h0 hx h h1 hl).2 e.symm).symm

theorem chi_sq {x : Nat} (h0 : 0 < x) (h1 : x < 2305843009213691579) : ex (ml x x) 1152921504606845789 = 1 := by
  rw [ex_ml, ex_add]
  exact fermat2 h0 h1

/-- The inverse of a member's power. -/
theorem inv_pow {x : Nat} (h0 : 0 < x) (h1 : x < 2305843009213691579) (h : ex x 1152921504606845789 = 1) (m n : Nat) (e : (m + n) % 1152921504606845789 = 0) : ex (ex x m) 2305843009213691577 = ex x n := by
  rw [ex_ex]
  refine ex_congr h ?_
  have : m * 2305843009213691577 = m * 1152921504606845788 + 1152921504606845789 * m := by omega
  rw [this, Nat.add_mul_mod_self_left]
  clear this
  have h2 : m * 1152921504606845788 + m = 1152921504606845789 * m := by
    rw [Nat.mul_comm 1152921504606845789 m]
    exact (Nat.mul_succ m 1152921504606845788).symm
  generalize m * 1152921504606845788 = z at *
  clear h h0 h1
  omega
end Go.Proofs.Ytlnkmbbmefbnpaa.Res
