/- The printed functions of chapter 4 (group) and of its reference answer with plain residues: products and powers modulo P and Q. -/
import Derived.Test.YtlnkmbbmefbnpaaDiv
import Derived.Test.YtlnkmbbmefbnpaaRes
import Derived.Test.YtlnkmbbmefbnpaaFn5
import Derived.Test.YtlnkmbbmefbnpaaFn6
import Derived.Test.YtlnkmbbmefbnpaaFn7
import Derived.Test.YtlnkmbbmefbnpaaFn4
set_option maxRecDepth 100000
set_option linter.unusedVariables false
namespace Go.Proofs.Ytlnkmbbmefbnpaa.Grp
open Go.RowKit Go.Proofs.Ytlnkmbbmefbnpaa.Fn Go.Proofs.Ytlnkmbbmefbnpaa.Div Go.Proofs.Ytlnkmbbmefbnpaa.Res Go.Proofs.YtlnkmbbmefbnpaaW.PrintWords Go.Proofs.YtlnkmbbmefbnpaaW.PrintLast Go.Proofs.YtlnkmbbmefbnpaaW.PrintMore

/-- Not by 'rfl': the kernel must not compare what stands on both sides by unfolding it. -/
theorem bs {α β : Type} (a : α) (f : α → Option β) : (some a).bind f = f a := Eq.trans (Option.bind_some a f) (Eq.refl _)
/-- The residues of an integer modulo P and Q. -/
def r (a : Int) : Nat := (a % 2305843009213691579).toNat
def rq (a : Int) : Nat := (a % 1152921504606845789).toNat
/-- The exponent that Exp takes. -/
def en (e : Int) : Nat := if e < 0 then rq e else e.toNat
theorem r_lt (a : Int) : r a < 2305843009213691579 := by unfold r; omega
theorem rq_lt (a : Int) : rq a < 1152921504606845789 := by unfold rq; omega
theorem r_cast (a : Int) : ((r a : Nat) : Int) = a % 2305843009213691579 := by unfold r; omega
theorem rq_cast (a : Int) : ((rq a : Nat) : Int) = a % 1152921504606845789 := by unfold rq; omega
theorem r_nat (n : Nat) (h : n < 2305843009213691579) : r (n : Int) = n := by unfold r; omega

def ok (a : Int) : Prop := -9223372036854775808 ≤ a ∧ a ≤ 9223372036854775807
theorem ok_of {a : Int} (h : (Lit.int .i64 a).wf = true) : ok a := by
  have h2 : (decide (IntKind.i64.min ≤ a) && decide (a ≤ IntKind.i64.max)) = true := h
  rw [Bool.and_eq_true, decide_eq_true_iff, decide_eq_true_iff] at h2
  exact h2

theorem tmod_neg (a m : Int) (hm : 0 < m) (h : a < 0) : Int.tmod a m = if a % m = 0 then 0 else a % m - m := by
  have h1 := Int.tmod_eq_emod (a := a) (b := m)
  rw [h1]
  by_cases hd : m ∣ a
  · rw [if_pos (.inr hd), if_pos (Int.emod_eq_zero_of_dvd hd), Int.emod_eq_zero_of_dvd hd]; simp
  · rw [if_neg (by rintro (h2 | h2); · omega
                   · exact hd h2), if_neg (fun h2 => hd (Int.dvd_of_emod_eq_zero h2))]
    rw [show ((m.natAbs : Nat) : Int) = m from by omega]

theorem mod_core (a m : Int) (ha : ok a) (hm : 0 < m) (hm1 : m ≤ 4611686018427387904) :
    (if m = 0 then (none) else (if (Int.tmod a m) < 0 then (some (wrap64 ((Int.tmod a m) + m))) else (some (Int.tmod a m)))) = some (a % m) := by
  rw [if_neg (by omega)]
  have e1 := Int.emod_nonneg a (show m ≠ 0 by omega)
  have e2 := Int.emod_lt_of_pos a hm
  by_cases h : a < 0
  · rw [tmod_neg a m hm h]
    by_cases h0 : a % m = 0
    · rw [if_pos h0, if_neg (by omega), h0]
    · rw [if_neg h0, if_pos (by omega), wis _ (by omega)]
      congr 1
      omega
  · rw [tmod_pos a m (by omega), if_neg (by omega)]

theorem resP (a : Int) (ha : ok a) : group_residue.f a 2305843009213691579 = some ((r a : Nat) : Int) := by
  rw [r_cast]; exact mod_core a _ ha (by omega) (by omega)
theorem resQ (a : Int) (ha : ok a) : group_residue.f a 1152921504606845789 = some ((rq a : Nat) : Int) := by
  rw [rq_cast]; exact mod_core a _ ha (by omega) (by omega)
theorem modP (a : Int) (ha : ok a) : bourneref04_Mod.f a 2305843009213691579 = some ((r a : Nat) : Int) := by
  rw [r_cast]; exact mod_core a _ ha (by omega) (by omega)
theorem modQ (a : Int) (ha : ok a) : bourneref04_Mod.f a 1152921504606845789 = some ((rq a : Nat) : Int) := by
  rw [rq_cast]; exact mod_core a _ ha (by omega) (by omega)

theorem product_nat (k : Nat) (hk : 40 ≤ k) (a b m : Nat) (ha : a < m) (hb : b < m) (hm : m ≤ 4611686018427387904) :
    group_product.f k (a : Int) (b : Int) (m : Int) = some ((a * b % m : Nat) : Int) := by
  have hab : a * b < m * 18446744073709551616 := by
    have : a * b ≤ m * b := Nat.mul_le_mul_right _ (by omega)
    have h2 : m * b < m * 18446744073709551616 := Nat.mul_lt_mul_of_pos_left (by omega) (by omega)
    omega
  have hcast : ((a : Int) * (b : Int)) = ((a * b : Nat) : Int) := by simp
  unfold group_product.f
  rw [wus a (by omega) (by omega), wus b (by omega) (by omega), wus m (by omega) (by omega), mul_spec a b (by omega) (by omega) (by omega) (by omega)]
  simp only [bs]
  rw [hcast]
  generalize a * b = p at *
  have hq : p / 18446744073709551616 < m := Nat.div_lt_of_lt_mul (by rw [Nat.mul_comm]; exact hab)
  unfold bits_Rem64.f
  rw [if_neg (by omega), tmod_pos _ _ (by omega), Int.emod_eq_of_lt (by omega) (by omega)]
  rw [div_spec k hk _ _ _ (by omega) (by omega) (by omega) (by omega) (by omega)]
  simp only [bs]
  rw [show ((p : Int) / 18446744073709551616 * 18446744073709551616 + (p : Int) % 18446744073709551616) = (p : Int) from by omega]
  rw [show ((p : Int) % (m : Int)) = ((p % m : Nat) : Int) from by simp]
  have := Nat.mod_lt p (show 0 < m by omega)
  rw [wis _ (by omega)]

/-! ### Exp -/

theorem bit_at (e : Nat) (i : Nat) (hi : i < 63) (he : e < 9223372036854775808) :
    Go.bits .and .i64 (shr .i64 (e : Int) (wrap64 (62 - (i : Int)))) 1 = ((e / 2 ^ (62 - i) % 2 : Nat) : Int) := by
  rw [wis _ (by omega), show (62 : Int) - (i : Int) = ((62 - i : Nat) : Int) from by omega]
  have e1 : shr .i64 (e : Int) ((62 - i : Nat) : Int) = ((e / 2 ^ (62 - i) : Nat) : Int) := by
    unfold shr
    rw [Int.toNat_natCast, Nat.min_eq_left (by simp [IntKind.bits]; omega)]
    simp
  rw [e1]
  have hle : e / 2 ^ (62 - i) ≤ e := Nat.div_le_self _ _
  generalize e / 2 ^ (62 - i) = x at *
  have hw : ∀ n : Int, 0 ≤ n → n < 2 ^ 63 → IntKind.i64.wrap n = n := fun n h0 h1 => by rw [IntKind.wrap_i64]; omega
  have := bits_mask .i64 63 (by decide) hw 1 (by decide) (x : Int) (by omega) (by omega)
  rw [show ((2 : Int) ^ 1 - 1) = 1 from rfl] at this
  rw [this]
  omega

theorem exp_l0 (x e : Nat) (hx : x < 2305843009213691579) (he : e < 9223372036854775808) : ∀ (n k i v : Nat), i + n = 63 → n + 60 ≤ k → v = ex x (e / 2 ^ (63 - i)) →
    group_Exp.l0 k (x : Int) (e : Int) (v : Int) (i : Int) = some ((ex x e : Nat) : Int) := by
  intro n
  induction n with
  | zero =>
    intro k i v hi hk hv
    obtain ⟨k, rfl⟩ : ∃ m, k = m + 1 := ⟨k - 1, by omega⟩
    simp only [group_Exp.l0]
    rw [if_neg (by omega), hv, show 63 - i = 0 from by omega]
    simp
  | succ n ih =>
    intro k i v hi hk hv
    obtain ⟨k, rfl⟩ : ∃ m, k = m + 1 := ⟨k - 1, by omega⟩
    have hvl : v < 2305843009213691579 := by rw [hv]; exact ex_lt _ _
    have hhalf : e / 2 ^ (63 - i) = e / 2 ^ (62 - i) / 2 := by
      rw [Nat.div_div_eq_div_mul, ← Nat.pow_succ, show (62 - i).succ = 63 - i from by omega]
    simp only [group_Exp.l0]
    rw [if_pos (by omega), show ((2305843009213691579 : Int)) = ((2305843009213691579 : Nat) : Int) from rfl, product_nat k (by omega) v v _ hvl hvl (by omega)]
    simp only [bs]
    rw [if_pos (by rw [wis _ (by omega)]; omega), bit_at e i (by omega) he, wis ((i : Int) + 1) (by omega)]
    have hsq : v * v % 2305843009213691579 = ex x (2 * (e / 2 ^ (63 - i))) := by
      rw [hv]; unfold ex
      rw [← Nat.mul_mod, ← Nat.pow_add, show e / 2 ^ (63 - i) + e / 2 ^ (63 - i) = 2 * (e / 2 ^ (63 - i)) from by omega]
    have hsl : v * v % 2305843009213691579 < 2305843009213691579 := Nat.mod_lt _ (by omega)
    by_cases hb : e / 2 ^ (62 - i) % 2 = 1
    · rw [if_pos (by omega), product_nat k (by omega) _ x _ hsl hx (by omega)]
      simp only [bs]
      rw [show ((i : Int) + 1) = ((i + 1 : Nat) : Int) from by omega]
      refine ih k (i + 1) _ (by omega) (by omega) ?_
      rw [hsq, show 63 - (i + 1) = 62 - i from by omega]
      unfold ex
      rw [Nat.mod_mul_mod, ← Nat.pow_succ, show (2 * (e / 2 ^ (63 - i))).succ = e / 2 ^ (62 - i) from by omega]
    · rw [if_neg (by omega), show ((i : Int) + 1) = ((i + 1 : Nat) : Int) from by omega]
      refine ih k (i + 1) _ (by omega) (by omega) ?_
      rw [hsq, show 63 - (i + 1) = 62 - i from by omega, show 2 * (e / 2 ^ (63 - i)) = e / 2 ^ (62 - i) from by omega]

theorem exp_j0 (k : Nat) (hk : 130 ≤ k) (a : Int) (ha : ok a) (e : Nat) (he : e < 9223372036854775808) :
    group_Exp.j0 k a (e : Int) = some ((ex (r a) e : Nat) : Int) := by
  obtain ⟨k, rfl⟩ : ∃ m, k = m + 1 := ⟨k - 1, by omega⟩
  simp only [group_Exp.j0]
  rw [resP a ha]
  simp only [bs]
  refine exp_l0 (r a) e (r_lt a) he 63 k 0 1 (by omega) (by omega) ?_
  rw [Nat.div_eq_of_lt (by simpa using he)]
  rfl

theorem en_lt (e : Int) (he : ok e) : en e < 9223372036854775808 := by
  unfold en; split
  · have := rq_lt e; omega
  · have := he.2; omega

theorem exp_spec (k : Nat) (hk : 130 ≤ k) (a e : Int) (ha : ok a) (he : ok e) : group_Exp.f k a e = some ((ex (r a) (en e) : Nat) : Int) := by
  unfold group_Exp.f en
  by_cases h : e < 0
  · rw [if_pos h, if_pos h, resQ e he]
    simp only [bs]
    exact exp_j0 k hk a ha _ (by have := rq_lt e; omega)
  · rw [if_neg h, if_neg h]
    have := exp_j0 k hk a ha e.toNat (by have := he.2; omega)
    rwa [Int.toNat_of_nonneg (by omega)] at this

theorem ok_nat (n : Nat) (h : n < 2305843009213691579) : ok (n : Int) := by unfold ok; omega
theorem okc (n : Int) (h : -9223372036854775808 ≤ n ∧ n ≤ 9223372036854775807) : ok n := h

theorem inv_spec (k : Nat) (hk : 130 ≤ k) (a : Int) (ha : ok a) : group_Inv.f k a = some (if r a = 0 then (0, false) else (((ex (r a) 2305843009213691577 : Nat) : Int), true)) := by
  unfold group_Inv.f
  rw [resP a ha]
  simp only [bs]
  by_cases h : r a = 0
  · rw [if_pos (by omega), if_pos h]
  · rw [if_neg (by omega), if_neg h, exp_spec k hk a _ ha (by unfold ok; omega)]
    rfl

theorem mul_ok (k : Nat) (hk : 40 ≤ k) (a b : Int) (ha : ok a) (hb : ok b) : group_Mul.f k a b = some ((ml (r a) (r b) : Nat) : Int) := by
  unfold group_Mul.f
  rw [resP a ha, resP b hb]
  simp only [bs]
  rw [show ((2305843009213691579 : Int)) = ((2305843009213691579 : Nat) : Int) from rfl, product_nat k hk _ _ _ (r_lt a) (r_lt b) (by omega)]
  rfl

def inB (y : Int) : Bool := decide (0 < y) && decide (y < 2305843009213691579) && decide (ex (r y) 1152921504606845789 = 1)
theorem in_spec (k : Nat) (hk : 130 ≤ k) (y : Int) (hy : ok y) : group_In.f k y = some (inB y) := by
  unfold group_In.f inB
  by_cases h : 0 < y
  · by_cases h1 : y < 2305843009213691579
    · rw [if_pos (by omega), if_pos h1, exp_spec k hk y _ hy (by unfold ok; omega)]
      simp only [bs]
      rw [decide_eq_true h, decide_eq_true h1]
      rw [show en 1152921504606845789 = 1152921504606845789 from rfl]
      congr 1
      by_cases h2 : ex (r y) 1152921504606845789 = 1
      · rw [h2]; rfl
      · rw [decide_eq_false h2]
        simp only [Bool.and_false]
        exact beq_eq_false_iff_ne.2 (by omega)
    · rw [if_pos (by omega), if_neg h1, decide_eq_false h1]; simp
  · rw [if_neg (by omega), decide_eq_false h]; simp

theorem addQ_spec (a b : Int) (ha : ok a) (hb : ok b) : group_AddQ.f a b = some ((a + b) % 1152921504606845789) := by
  unfold group_AddQ.f
  rw [resQ a ha, resQ b hb]
  simp only [bs]
  have h1 := rq_lt a
  have h2 := rq_lt b
  rw [wis _ (by omega), resQ _ (by unfold ok; omega), rq_cast, rq_cast, rq_cast]
  simp only [bs]
  congr 1
  exact (Int.add_emod a b _).symm
theorem subQ_spec (a b : Int) (ha : ok a) (hb : ok b) : group_SubQ.f a b = some ((a - b) % 1152921504606845789) := by
  unfold group_SubQ.f
  rw [resQ a ha, resQ b hb]
  simp only [bs]
  have h1 := rq_lt a
  have h2 := rq_lt b
  rw [wis _ (by omega), resQ _ (by unfold ok; omega), rq_cast, rq_cast, rq_cast]
  simp only [bs]
  congr 1
  exact (Int.sub_emod a b _).symm
theorem mulQ_spec (k : Nat) (hk : 40 ≤ k) (a b : Int) (ha : ok a) (hb : ok b) : group_MulQ.f k a b = some ((a * b) % 1152921504606845789) := by
  unfold group_MulQ.f
  rw [resQ a ha, resQ b hb]
  simp only [bs]
  rw [show ((1152921504606845789 : Int)) = ((1152921504606845789 : Nat) : Int) from rfl, product_nat k hk _ _ _ (rq_lt a) (rq_lt b) (by omega)]
  simp only [bs]
  congr 1
  rw [Int.natCast_emod, Int.natCast_mul, rq_cast, rq_cast]
  exact (Int.mul_emod a b _).symm

/-! ### the examples of the document -/
theorem pmr (f : Nat) (a e : Nat) (he : e < 2 ^ f) (v : Nat) (h : Num.pm 2305843009213691579 f a e = v) : ex a e = v := by
  rw [← h, Num.pm_eq _ f a e he]; rfl

theorem e43 : ex 4 3 = 64 := pmr 62 _ _ (by decide) _ (by decide +kernel)
theorem e00 : ex 0 0 = 1 := pmr 62 _ _ (by decide) _ (by decide +kernel)
theorem e2Q : ex 2 1152921504606845789 = 2305843009213691578 := pmr 62 _ _ (by decide) _ (by decide +kernel)
theorem e4Q : ex 4 1152921504606845789 = 1 := pmr 62 _ _ (by decide) _ (by decide +kernel)
theorem e1Q : ex 1 1152921504606845789 = 1 := pmr 62 _ _ (by decide) _ (by decide +kernel)
theorem emQ : ex 2305843009213691578 1152921504606845789 = 2305843009213691578 := pmr 62 _ _ (by decide) _ (by decide +kernel)
theorem i2 : ex 2 2305843009213691577 = 1152921504606845790 := pmr 62 _ _ (by decide) _ (by decide +kernel)
theorem i4 : ex 4 2305843009213691577 = ex 4 1152921504606845788 := by
  rw [pmr 62 4 1152921504606845788 (by decide) _ rfl, pmr 62 4 2305843009213691577 (by decide) _ rfl]
  decide +kernel

theorem small_spec (k : Nat) (hk : 200 ≤ k) : bournelaw04_small.f k = some true := by
  unfold bournelaw04_small.f
  rw [inv_spec k (by omega) 2 (by unfold ok; omega), inv_spec k (by omega) 2305843009213691579 (by unfold ok; omega), inv_spec k (by omega) 4 (by unfold ok; omega)]
  simp only [bs]
  rw [exp_spec k (by omega) 4 3 (by unfold ok; omega) (by unfold ok; omega), exp_spec k (by omega) 0 0 (by unfold ok; omega) (by unfold ok; omega), exp_spec k (by omega) 0 (-1152921504606845789) (by unfold ok; omega) (by unfold ok; omega), exp_spec k (by omega) 4 (-1) (by unfold ok; omega) (by unfold ok; omega), exp_spec k (by omega) 2 1152921504606845789 (by unfold ok; omega) (by unfold ok; omega)]
  simp only [bs]
  rw [show r 2 = 2 from rfl, show r 4 = 4 from rfl, show r 0 = 0 from rfl, show r 2305843009213691579 = 0 from rfl, show en 3 = 3 from rfl, show en 0 = 0 from rfl, show en (-1152921504606845789) = 0 from rfl, show en (-1) = 1152921504606845788 from rfl, show en 1152921504606845789 = 1152921504606845789 from rfl]
  rw [e43, e00, e2Q, i2, i4]
  generalize ex 4 1152921504606845788 = z
  rw [if_pos (by decide), if_pos (by decide), if_pos (by decide), if_neg (by decide : ¬ (4 : Nat) = 0), if_neg (by decide : ¬ (2 : Nat) = 0), if_pos (rfl : (0 : Nat) = 0)]
  dsimp only
  rw [if_pos rfl, if_pos rfl]
  obtain ⟨k, rfl⟩ : ∃ m, k = m + 1 := ⟨k - 1, by omega⟩
  simp only [bournelaw04_small.j0]
  rw [in_spec k (by omega) 4 (by unfold ok; omega), in_spec k (by omega) 1 (by unfold ok; omega), in_spec k (by omega) 2305843009213691578 (by unfold ok; omega), in_spec k (by omega) 0 (by unfold ok; omega), in_spec k (by omega) 2305843009213691583 (by unfold ok; omega)]
  simp only [bs]
  have f1 : inB 4 = true := by unfold inB; rw [show r 4 = 4 from rfl, e4Q]; decide
  have f2 : inB 1 = true := by unfold inB; rw [show r 1 = 1 from rfl, e1Q]; decide
  have f3 : inB 2305843009213691578 = false := by unfold inB; rw [show r 2305843009213691578 = 2305843009213691578 from rfl, emQ]; decide
  have f4 : inB 0 = false := by unfold inB; simp
  have f5 : inB 2305843009213691583 = false := by unfold inB; rw [decide_eq_false (show ¬ ((2305843009213691583 : Int) < 2305843009213691579) by decide)]; simp
  rw [f1, f2, f3, f4, f5, if_pos rfl, if_pos rfl, if_neg (by decide), if_neg (by decide)]
  obtain ⟨k, rfl⟩ : ∃ m, k = m + 1 := ⟨k - 1, by omega⟩
  simp only [bournelaw04_small.j1]
  rw [mul_ok k (by omega) 2305843009213691578 2305843009213691578 (by unfold ok; omega) (by unfold ok; omega), mul_ok k (by omega) (-1) 3 (by unfold ok; omega) (by unfold ok; omega), addQ_spec _ _ (by unfold ok; omega) (by unfold ok; omega), subQ_spec _ _ (by unfold ok; omega) (by unfold ok; omega), mulQ_spec k (by omega) _ _ (by unfold ok; omega) (by unfold ok; omega)]
  simp only [bs]
  rw [show ml (r 2305843009213691578) (r 2305843009213691578) = 1 from rfl, show ml (r (-1)) (r 3) = 2305843009213691576 from rfl]
  rfl

theorem r_r (n : Nat) (h : n < 2305843009213691579) : r (n : Int) = n := r_nat n h
theorem one_r : r 1 = 1 := rfl
theorem ml_one (x : Nat) (h : x < 2305843009213691579) : ml x (r 1) = x := by rw [one_r]; unfold ml; rw [Nat.mul_one, Nat.mod_eq_of_lt h]
/-- Is a residue other than 0 in the group? -/
def bB (n : Nat) : Bool := decide (ex n 1152921504606845789 = 1)
theorem inB_nat (n : Nat) (h0 : 0 < n) (h1 : n < 2305843009213691579) : inB (n : Int) = bB n := by
  unfold inB bB
  rw [r_nat n h1, decide_eq_true (show (0 : Int) < n by omega), decide_eq_true (show (n : Int) < 2305843009213691579 by omega), Bool.true_and, Bool.true_and]
theorem inB_zero : inB 0 = false := by unfold inB; simp
theorem ok_small (n : Nat) (h : n < 2305843009213691579) : ok (n : Int) := by unfold ok; omega
theorem en_nat (n : Nat) : en (n : Int) = n := by unfold en; rw [if_neg (by omega)]; rfl
theorem en_mod (e : Int) : ((en e : Nat) : Int) % 1152921504606845789 = e % 1152921504606845789 := by
  by_cases h : e < 0
  · have h2 : en e = rq e := by unfold en; rw [if_pos h]
    rw [h2, rq_cast]
    exact Int.emod_emod _ _
  · have h2 : en e = e.toNat := by unfold en; rw [if_neg h]
    rw [h2, Int.toNat_of_nonneg (by omega)]
end Go.Proofs.Ytlnkmbbmefbnpaa.Grp
