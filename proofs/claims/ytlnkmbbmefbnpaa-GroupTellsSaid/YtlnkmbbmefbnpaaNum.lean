/- Plain number theory: primes, Fermat's little theorem, Pocklington's test, orders; no Go and no program in it. -/
namespace Go.Proofs.Ytlnkmbbmefbnpaa.Num

def Pr (p : Nat) : Prop := 2 ≤ p ∧ ∀ m, m ∣ p → m = 1 ∨ m = p

theorem euclid {p a b : Nat} (hp : Pr p) (h : p ∣ a * b) : p ∣ a ∨ p ∣ b := by
  rcases hp.2 (Nat.gcd p a) (Nat.gcd_dvd_left p a) with h1 | h1
  · right
    exact Nat.Coprime.dvd_of_dvd_mul_left h1 h
  · left
    rw [← h1]; exact Nat.gcd_dvd_right p a

theorem pos_of {p : Nat} (hp : Pr p) : 0 < p := by have := hp.1; omega

theorem dvd_pow {p a : Nat} (hp : Pr p) : ∀ n, p ∣ a ^ n → p ∣ a := by
  intro n
  induction n with
  | zero =>
    intro h
    have h1 : p ∣ 1 := by simpa using h
    have := Nat.le_of_dvd (by omega) h1
    have := hp.1
    omega
  | succ n ih =>
    intro h
    rw [Nat.pow_succ] at h
    rcases euclid hp h with h | h
    · exact ih h
    · exact h

/-- Pascal's numbers. -/
def ch : Nat → Nat → Nat
  | _, 0 => 1
  | 0, _ + 1 => 0
  | n + 1, k + 1 => ch n k + ch n (k + 1)

theorem ch_zero (n : Nat) : ch n 0 = 1 := by cases n <;> rfl
theorem ch_succ (n k : Nat) : ch (n + 1) (k + 1) = ch n k + ch n (k + 1) := rfl
theorem ch_mul (n k : Nat) : (k + 1) * ch (n + 1) (k + 1) = (n + 1) * ch n k := by
  induction n generalizing k with
  | zero =>
    cases k with
    | zero => rfl
    | succ k => simp [ch]
  | succ n ih =>
    cases k with
    | zero =>
      have h := ih 0
      rw [ch_zero, Nat.zero_add, Nat.one_mul, Nat.mul_one] at h
      rw [ch_succ (n + 1) 0, ch_zero, h, Nat.zero_add, Nat.one_mul, Nat.mul_one]; omega
    | succ k =>
      have h1 := ih k
      have h2 := ih (k + 1)
      have e := ch_succ n k
      have e2 := ch_succ (n + 1) (k + 1)
      rw [e2, Nat.mul_add, h2]
      have : (k + 1 + 1) * ch (n + 1) (k + 1) = ch (n + 1) (k + 1) + (k + 1) * ch (n + 1) (k + 1) := by
        rw [Nat.add_mul (k + 1) 1]; omega
      rw [this, h1]
      have : (n + 1 + 1) * ch (n + 1) (k + 1) = ch (n + 1) (k + 1) + (n + 1) * ch (n + 1) (k + 1) := by
        rw [Nat.add_mul (n + 1) 1]; omega
      rw [this, e, Nat.mul_add]
      omega

theorem ch_over (n k : Nat) (h : n < k) : ch n k = 0 := by
  induction n generalizing k with
  | zero =>
    cases k with
    | zero => omega
    | succ k => rfl
  | succ n ih =>
    cases k with
    | zero => omega
    | succ k => rw [ch_succ, ih k (by omega), ih (k + 1) (by omega)]

theorem ch_self (n : Nat) : ch n n = 1 := by
  induction n with
  | zero => rfl
  | succ n ih => rw [ch_succ, ih, ch_over n (n + 1) (by omega)]

/-- The sum of f 0 .. f (n - 1). -/
def sm (f : Nat → Nat) : Nat → Nat
  | 0 => 0
  | n + 1 => sm f n + f n

theorem sm_head (f : Nat → Nat) (n : Nat) : sm f (n + 1) = f 0 + sm (fun k => f (k + 1)) n := by
  induction n with
  | zero => simp [sm]
  | succ n ih => rw [sm, ih, sm]; omega
theorem sm_add (f g : Nat → Nat) (n : Nat) : sm (fun k => f k + g k) n = sm f n + sm g n := by
  induction n with
  | zero => rfl
  | succ n ih => simp only [sm]; rw [ih]; omega
theorem sm_mul (c : Nat) (f : Nat → Nat) (n : Nat) : sm (fun k => f k * c) n = sm f n * c := by
  induction n with
  | zero => simp [sm]
  | succ n ih => simp only [sm]; rw [ih, Nat.add_mul]
theorem sm_congr (f g : Nat → Nat) (n : Nat) (h : ∀ k, k < n → f k = g k) : sm f n = sm g n := by
  induction n with
  | zero => rfl
  | succ n ih => simp only [sm]; rw [ih fun k hk => h k (by omega), h n (by omega)]
theorem sm_dvd (p : Nat) (f : Nat → Nat) (n : Nat) (h : ∀ k, k < n → p ∣ f k) : p ∣ sm f n := by
  induction n with
  | zero => exact Nat.dvd_zero p
  | succ n ih => exact Nat.dvd_add (ih fun k hk => h k (by omega)) (h n (by omega))

theorem binom (x n : Nat) : (x + 1) ^ n = sm (fun k => ch n k * x ^ k) (n + 1) := by
  induction n with
  | zero => simp [sm, ch]
  | succ n ih =>
    rw [Nat.pow_succ, ih, Nat.mul_add, Nat.mul_one, sm_head (fun k => ch (n + 1) k * x ^ k)]
    have e1 : sm (fun k => ch (n + 1) (k + 1) * x ^ (k + 1)) (n + 1)
        = sm (fun k => ch n k * x ^ k * x) (n + 1) + sm (fun k => ch n (k + 1) * x ^ (k + 1)) (n + 1) := by
      rw [← sm_add]
      refine sm_congr _ _ _ fun k _ => ?_
      show ch (n + 1) (k + 1) * x ^ (k + 1) = ch n k * x ^ k * x + ch n (k + 1) * x ^ (k + 1)
      rw [ch_succ, Nat.add_mul, Nat.pow_succ, Nat.mul_assoc (ch n k)]
    rw [e1, sm_mul]
    have e2 : sm (fun k => ch n k * x ^ k) (n + 1) = ch n 0 * x ^ 0 + sm (fun k => ch n (k + 1) * x ^ (k + 1)) n := sm_head _ n
    have e3 : sm (fun k => ch n (k + 1) * x ^ (k + 1)) (n + 1) = sm (fun k => ch n (k + 1) * x ^ (k + 1)) n := by
      rw [sm, ch_over n (n + 1) (by omega), Nat.zero_mul, Nat.add_zero]
    rw [e3, ch_zero]
    rw [ch_zero] at e2
    generalize sm (fun k => ch n (k + 1) * x ^ (k + 1)) n = t at *
    rw [e2]
    omega

theorem ch_dvd {p : Nat} (hp : Pr p) (k : Nat) (h0 : 0 < k) (h1 : k < p) : p ∣ ch p k := by
  obtain ⟨k, rfl⟩ : ∃ m, k = m + 1 := ⟨k - 1, by omega⟩
  obtain ⟨n, rfl⟩ : ∃ m, p = m + 1 := ⟨p - 1, by omega⟩
  have h := ch_mul n k
  have hd : (n + 1) ∣ (k + 1) * ch (n + 1) (k + 1) := by rw [h]; exact Nat.dvd_mul_right _ _
  rcases euclid hp hd with h | h
  · have := Nat.le_of_dvd (by omega) h
    omega
  · exact h

theorem frob {p : Nat} (hp : Pr p) (x : Nat) : (x + 1) ^ p % p = (x ^ p + 1) % p := by
  have h2 := hp.1
  obtain ⟨n, rfl⟩ : ∃ m, p = m + 1 := ⟨p - 1, by omega⟩
  rw [binom, sm, ch_self, sm_head, ch_zero]
  have hd : (n + 1) ∣ sm (fun k => ch (n + 1) (k + 1) * x ^ (k + 1)) n :=
    sm_dvd _ _ _ fun k hk => Nat.dvd_trans (ch_dvd hp (k + 1) (by omega) (by omega)) (Nat.dvd_mul_right _ _)
  obtain ⟨t, ht⟩ := hd
  rw [ht]
  simp only [Nat.pow_zero, Nat.mul_one, Nat.one_mul]
  rw [show 1 + (n + 1) * t + x ^ (n + 1) = x ^ (n + 1) + 1 + (n + 1) * t from by omega, Nat.add_mul_mod_self_left]

theorem fermat {p : Nat} (hp : Pr p) (x : Nat) : x ^ p % p = x % p := by
  induction x with
  | zero =>
    have := pos_of hp
    rw [Nat.zero_pow this]
  | succ x ih => rw [frob hp, Nat.add_mod, ih, ← Nat.add_mod]

theorem fermat1 {p : Nat} (hp : Pr p) (x : Nat) (h : ¬ p ∣ x) : x ^ (p - 1) % p = 1 := by
  have h2 := hp.1
  have hx : 0 < x := by
    rcases Nat.eq_zero_or_pos x with h0 | h0
    · exact absurd (h0 ▸ Nat.dvd_zero p) h
    · exact h0
  have hge : 1 ≤ x ^ (p - 1) := Nat.pow_pos hx
  have hd : p ∣ x * (x ^ (p - 1) - 1) := by
    rw [Nat.mul_sub, Nat.mul_one, ← Nat.pow_succ', show (p - 1).succ = p from by omega]
    exact Nat.dvd_of_mod_eq_zero (Nat.sub_mod_eq_zero_of_mod_eq (fermat hp x))
  rcases euclid hp hd with h1 | h1
  · exact absurd h1 h
  · obtain ⟨t, ht⟩ := h1
    rw [show x ^ (p - 1) = 1 + p * t from by omega, Nat.add_mul_mod_self_left]
    exact Nat.mod_eq_of_lt (by omega)

/-- Powers that are 1 at two exponents are 1 at their greatest common divisor. -/
theorem pow_mod_one {p b n : Nat} (h : b ^ n % p = 1 % p) (q : Nat) : b ^ (n * q) % p = 1 % p := by
  rw [Nat.pow_mul, Nat.pow_mod, h, ← Nat.pow_mod, Nat.one_pow]

theorem pow_gcd {p b : Nat} (m n : Nat) : b ^ m % p = 1 % p → b ^ n % p = 1 % p → b ^ (Nat.gcd m n) % p = 1 % p := by
  induction m, n using Nat.gcd.induction with
  | H0 n => intro _ h; rwa [Nat.gcd_zero_left]
  | H1 m n hm ih =>
    intro h1 h2
    rw [Nat.gcd_rec]
    refine ih ?_ h1
    have e := Nat.div_add_mod n m
    rw [← e, Nat.pow_add, Nat.mul_mod, pow_mod_one h1, ← Nat.mul_mod, Nat.one_mul] at h2
    exact h2

theorem exists_factor (n : Nat) (h : 2 ≤ n) : ∃ p, Pr p ∧ p ∣ n := by
  induction n using Nat.strongRecOn with
  | ind n ih =>
    by_cases hn : Pr n
    · exact ⟨n, hn, Nat.dvd_refl n⟩
    · obtain ⟨m, hm, h1, h2⟩ : ∃ m, m ∣ n ∧ m ≠ 1 ∧ m ≠ n := by
        apply Classical.byContradiction
        intro hc
        refine hn ⟨h, fun m hm => ?_⟩
        by_cases h1 : m = 1
        · exact .inl h1
        · by_cases h2 : m = n
          · exact .inr h2
          · exact absurd ⟨m, hm, h1, h2⟩ hc
      have hle := Nat.le_of_dvd (by omega) hm
      have h0 : m ≠ 0 := by
        rintro rfl
        have := Nat.eq_zero_of_zero_dvd hm
        omega
      obtain ⟨p, hp, hd⟩ := ih m (by omega) (by omega)
      exact ⟨p, hp, Nat.dvd_trans hd hm⟩

/-- A composite number has a prime factor whose square is at most the number. -/
theorem small_factor (n : Nat) (h : 2 ≤ n) (hn : ¬ Pr n) : ∃ p, Pr p ∧ p ∣ n ∧ p * p ≤ n := by
  obtain ⟨m, ⟨k, hk⟩, h1, h2⟩ : ∃ m, m ∣ n ∧ m ≠ 1 ∧ m ≠ n := by
    apply Classical.byContradiction
    intro hc
    refine hn ⟨h, fun m hm => ?_⟩
    by_cases h1 : m = 1
    · exact .inl h1
    · by_cases h2 : m = n
      · exact .inr h2
      · exact absurd ⟨m, hm, h1, h2⟩ hc
  have hm0 : m ≠ 0 := by rintro rfl; simp at hk; omega
  have hk0 : k ≠ 0 := by rintro rfl; simp at hk; omega
  have hk1 : k ≠ 1 := by rintro rfl; simp at hk; omega
  have fin : ∀ a, 2 ≤ a → a ∣ n → a * a ≤ n → ∃ p, Pr p ∧ p ∣ n ∧ p * p ≤ n := by
    intro a ha hd hl
    obtain ⟨p, hp, hpd⟩ := exists_factor a ha
    have := Nat.le_of_dvd (by omega) hpd
    exact ⟨p, hp, Nat.dvd_trans hpd hd, Nat.le_trans (Nat.mul_le_mul this this) hl⟩
  by_cases hle : m ≤ k
  · exact fin m (by omega) ⟨k, hk⟩ (by rw [hk]; exact Nat.mul_le_mul_left m hle)
  · exact fin k (by omega) ⟨m, by rw [hk, Nat.mul_comm]⟩ (by rw [hk]; exact Nat.mul_le_mul_right k (by omega))

theorem one_mod {p : Nat} (hp : Pr p) : 1 % p = 1 := Nat.mod_eq_of_lt hp.1

theorem mod_down {n p a b : Nat} (hd : p ∣ n) (h : a % n = b % n) : a % p = b % p := by
  rw [← Nat.mod_mod_of_dvd a hd, h, Nat.mod_mod_of_dvd b hd]

/-- Pocklington's test. -/
theorem pock {n q a : Nat} (hq : Pr q) (hn : 2 ≤ n) (hd : q ∣ n - 1) (hs : n < (q + 1) * (q + 1))
    (h1 : a ^ (n - 1) % n = 1) (h2 : Nat.gcd (a ^ ((n - 1) / q) % n - 1) n = 1) (h3 : 1 ≤ a ^ ((n - 1) / q) % n) : Pr n := by
  apply Classical.byContradiction
  intro hc
  obtain ⟨p, hp, hpd, hpp⟩ := small_factor n hn hc
  obtain ⟨t, ht⟩ := hd
  have hq0 := pos_of hq
  have ht' : (n - 1) / q = t := by rw [ht]; exact Nat.mul_div_cancel_left t hq0
  rw [ht'] at h2 h3
  have e1 : (a ^ t) ^ q % p = 1 % p := by
    rw [← Nat.pow_mul, Nat.mul_comm t q, ← ht]
    refine mod_down hpd ?_
    rw [h1, Nat.mod_eq_of_lt hn]
  have hnd : ¬ p ∣ a ^ t := by
    intro h
    have h' := Nat.dvd_trans h (show a ^ t ∣ (a ^ t) ^ q from by
      obtain ⟨r, rfl⟩ : ∃ r, q = r + 1 := ⟨q - 1, by omega⟩
      rw [Nat.pow_succ']; exact Nat.dvd_mul_right _ _)
    rw [Nat.mod_eq_zero_of_dvd h', one_mod hp] at e1
    omega
  have e2 : (a ^ t) ^ (p - 1) % p = 1 % p := by rw [fermat1 hp _ hnd, one_mod hp]
  have e3 := pow_gcd q (p - 1) e1 e2
  rcases hq.2 _ (Nat.gcd_dvd_left q (p - 1)) with g | g
  · rw [g, Nat.pow_one] at e3
    have : p ∣ Nat.gcd (a ^ t % n - 1) n := by
      refine Nat.dvd_gcd ?_ hpd
      have e4 : (a ^ t % n) % p = 1 % p := by rw [Nat.mod_mod_of_dvd _ hpd, e3]
      rw [one_mod hp] at e4
      have := Nat.div_add_mod (a ^ t % n) p
      exact ⟨a ^ t % n / p, by omega⟩
    rw [h2] at this
    have := Nat.le_of_dvd (by omega) this
    have := hp.1
    omega
  · have hqd : q ∣ p - 1 := by rw [← g]; exact Nat.gcd_dvd_right _ _
    have h2p := hp.1
    have := Nat.le_of_dvd (by omega) hqd
    have := Nat.mul_le_mul (show q + 1 ≤ p from by omega) (show q + 1 ≤ p from by omega)
    omega

/-- A power's residue, reckoned by halving the exponent. -/
def pm (n : Nat) : Nat → Nat → Nat → Nat
  | 0, _, _ => 1 % n
  | f + 1, a, e => if e % 2 = 1 then pm n f (a * a % n) (e / 2) * a % n else pm n f (a * a % n) (e / 2)

theorem pm_eq (n : Nat) : ∀ f a e, e < 2 ^ f → pm n f a e = a ^ e % n := by
  intro f
  induction f with
  | zero => intro a e h; rw [show e = 0 from by simp at h; omega]; rfl
  | succ f ih =>
    intro a e h
    have h' : e / 2 < 2 ^ f := by rw [Nat.pow_succ] at h; omega
    have e1 : (a * a) ^ (e / 2) = a ^ (2 * (e / 2)) := by rw [Nat.pow_mul, Nat.pow_two]
    rw [pm, ih _ _ h', ← Nat.pow_mod, e1]
    by_cases ho : e % 2 = 1
    · rw [if_pos ho, Nat.mod_mul_mod, ← Nat.pow_succ, show (2 * (e / 2)).succ = e from by omega]
    · rw [if_neg ho, show 2 * (e / 2) = e from by omega]

/-- Trial division. -/
def tr (n : Nat) : Nat → Nat → Bool
  | 0, _ => true
  | f + 1, d => if n % d = 0 then false else tr n f (d + 1)

theorem tr_no (n : Nat) : ∀ f d, tr n f d = true → ∀ m, d ≤ m → m < d + f → ¬ m ∣ n := by
  intro f
  induction f with
  | zero => intro d _ m h1 h2; omega
  | succ f ih =>
    intro d h m h1 h2
    rw [tr] at h
    by_cases hz : n % d = 0
    · rw [if_pos hz] at h; cases h
    · rw [if_neg hz] at h
      rcases Nat.eq_or_lt_of_le h1 with rfl | h3
      · intro hd; exact hz (Nat.mod_eq_zero_of_dvd hd)
      · exact ih (d + 1) h m h3 (by omega)

theorem pr_tr {n f : Nat} (hn : 2 ≤ n) (h : tr n f 2 = true) (hs : n < (f + 2) * (f + 2)) : Pr n := by
  apply Classical.byContradiction
  intro hc
  obtain ⟨p, hp, hpd, hpp⟩ := small_factor n hn hc
  refine tr_no n f 2 h p hp.1 ?_ hpd
  apply Classical.byContradiction
  intro hlt
  have := Nat.mul_le_mul (show f + 2 ≤ p from by omega) (show f + 2 ≤ p from by omega)
  omega

theorem pock_pm {n q a : Nat} (f : Nat) (hq : Pr q) (hn : 2 ≤ n) (hd : (n - 1) % q = 0) (hs : n < (q + 1) * (q + 1)) (hf : n < 2 ^ f)
    (h1 : pm n f a (n - 1) = 1) (h2 : Nat.gcd (pm n f a ((n - 1) / q) - 1) n = 1) (h3 : 1 ≤ pm n f a ((n - 1) / q)) : Pr n := by
  have b1 : n - 1 < 2 ^ f := by omega
  have b2 : (n - 1) / q < 2 ^ f := Nat.lt_of_le_of_lt (Nat.div_le_self _ _) b1
  rw [pm_eq n f a _ b1] at h1
  rw [pm_eq n f a _ b2] at h2 h3
  exact pock hq hn (Nat.dvd_of_mod_eq_zero hd) hs h1 h2 h3

theorem pr1 : Pr 95189 := pr_tr (f := 310) (by decide) (by decide +kernel) (by decide)
theorem pr2 : Pr 2835870689 := pock_pm (q := 95189) (a := 2) 62 pr1 (by decide) (by decide +kernel) (by decide) (by decide) (by decide +kernel) (by decide +kernel) (by decide +kernel)
theorem pr3 : Pr 5671741379 := pock_pm (q := 2835870689) (a := 2) 62 pr2 (by decide) (by decide +kernel) (by decide) (by decide) (by decide +kernel) (by decide +kernel) (by decide +kernel)
theorem pr4 : Pr 288230376151711447 := pock_pm (q := 5671741379) (a := 2) 62 pr3 (by decide) (by decide +kernel) (by decide) (by decide) (by decide +kernel) (by decide +kernel) (by decide +kernel)
theorem prQ : Pr 1152921504606845789 := pock_pm (q := 288230376151711447) (a := 2) 62 pr4 (by decide) (by decide +kernel) (by decide) (by decide) (by decide +kernel) (by decide +kernel) (by decide +kernel)
theorem prP : Pr 2305843009213691579 := pock_pm (q := 1152921504606845789) (a := 2) 62 prQ (by decide) (by decide +kernel) (by decide) (by decide) (by decide +kernel) (by decide +kernel) (by decide +kernel)

end Go.Proofs.Ytlnkmbbmefbnpaa.Num

