/- The pure statement of GroupTells: the reference's doubling, its powers and Euclid's inverse answer as the program does. -/
import Derived.Test.YtlnkmbbmefbnpaaGrp
set_option linter.unusedVariables false
set_option maxRecDepth 100000
namespace Go.Proofs.Ytlnkmbbmefbnpaa.Pure
open Go.RowKit Go.Proofs.Ytlnkmbbmefbnpaa.Fn Go.Proofs.Ytlnkmbbmefbnpaa.Grp Go.Proofs.Ytlnkmbbmefbnpaa.Div Go.Proofs.Ytlnkmbbmefbnpaa.Res Go.Proofs.YtlnkmbbmefbnpaaW.PrintWords Go.Proofs.YtlnkmbbmefbnpaaW.PrintLast

theorem and1 (b : Nat) (hb : b < 4611686018427387904) : Go.bits .and .i64 (b : Int) 1 = ((b % 2 : Nat) : Int) := by
  have hw : ∀ n : Int, 0 ≤ n → n < 2 ^ 63 → IntKind.i64.wrap n = n := fun n h0 h1 => by rw [IntKind.wrap_i64]; omega
  have := bits_mask .i64 63 (by decide) hw 1 (by decide) (b : Int) (by omega) (by omega)
  rw [show ((2 : Int) ^ 1 - 1) = 1 from rfl] at this
  rw [this]
  omega

theorem step_eq (x a b m : Nat) (hx : x < m) : ((if b % 2 = 1 then (x + a) % m else x) + (a + a) % m * (b / 2)) % m = (x + a * b) % m := by
  have e : a * b = (a + a) * (b / 2) + a * (b % 2) := by
    have := Nat.div_add_mod b 2
    have h2 : a * b = a * (2 * (b / 2) + b % 2) := by rw [this]
    rw [h2, Nat.mul_add, Nat.add_mul]
    have : a * (2 * (b / 2)) = a * (b / 2) + a * (b / 2) := by rw [Nat.mul_left_comm]; omega
    omega
  have e1 : (a + a) % m * (b / 2) % m = (a + a) * (b / 2) % m := Nat.mod_mul_mod _ _ _
  by_cases h : b % 2 = 1
  · rw [if_pos h, Nat.add_mod, Nat.mod_mod, e1, ← Nat.add_mod, e, h, Nat.mul_one]
    congr 1
    omega
  · rw [if_neg h, Nat.add_mod, e1, ← Nat.add_mod, e, show b % 2 = 0 from by omega, Nat.mul_zero]
    congr 1

theorem times_l0 (m : Nat) (hm : m ≤ 2305843009213691579) : ∀ (n k a b x : Nat), b < 2 ^ n → 2 * n + 2 ≤ k → b < 4611686018427387904 → x < m → a < m →
    bourneref04_times.l0 k (a : Int) (b : Int) (m : Int) (x : Int) = some (((x + a * b) % m : Nat) : Int) := by
  intro n
  induction n with
  | zero =>
    intro k a b x hb hk _ hx ha
    obtain ⟨k, rfl⟩ : ∃ m, k = m + 1 := ⟨k - 1, by omega⟩
    obtain rfl : b = 0 := by simp at hb; exact hb
    simp only [bourneref04_times.l0]
    rw [if_neg (by decide), Nat.mul_zero, Nat.add_zero, Nat.mod_eq_of_lt hx]
  | succ n ih =>
    intro k a b x hb hk hb2 hx ha
    obtain ⟨k, rfl⟩ : ∃ m, k = m + 2 := ⟨k - 2, by omega⟩
    by_cases hb0 : b = 0
    · subst hb0
      simp only [bourneref04_times.l0]
      rw [if_neg (by decide), Nat.mul_zero, Nat.add_zero, Nat.mod_eq_of_lt hx]
    · have hj : ∀ x' : Nat, x' < m → bourneref04_times.j1 (k + 1) (a : Int) (b : Int) (m : Int) (x' : Int) = some (((x' + (a + a) % m * (b / 2)) % m : Nat) : Int) := by
        intro x' hx'
        simp only [bourneref04_times.j1]
        rw [wis _ (by omega)]
        have hlt : b / 2 < 2 ^ n := by rw [Nat.pow_succ] at hb; omega
        by_cases h : m ≤ a + a
        · rw [if_pos (by omega), wis _ (by omega)]
          have := ih k (a + a - m) (b / 2) x' hlt (by omega) (by omega) hx' (by omega)
          rw [show ((a : Int) + a - m) = ((a + a - m : Nat) : Int) from by omega, show ((b : Int) / 2) = ((b / 2 : Nat) : Int) from by omega, this]
          rw [show (a + a) % m = a + a - m from by rw [Nat.mod_eq_sub_mod h, Nat.mod_eq_of_lt (by omega)]]
        · rw [if_neg (by omega)]
          have := ih k (a + a) (b / 2) x' hlt (by omega) (by omega) hx' (by omega)
          rw [show ((a : Int) + a) = ((a + a : Nat) : Int) from by omega, show ((b : Int) / 2) = ((b / 2 : Nat) : Int) from by omega, this]
          rw [Nat.mod_eq_of_lt (show a + a < m by omega)]
      have hs := step_eq x a b m hx
      simp only [bourneref04_times.l0]
      rw [if_pos (by omega), and1 b hb2]
      by_cases ho : b % 2 = 1
      · rw [if_pos (by omega)]
        rw [if_pos ho] at hs
        by_cases h : m ≤ x + a
        · rw [if_pos (by rw [wis _ (by omega)]; omega), wis ((x : Int) + a) (by omega), wis _ (by omega), show ((x : Int) + a - m) = ((x + a - m : Nat) : Int) from by omega, hj _ (by omega)]
          rw [← hs, show (x + a) % m = x + a - m from by rw [Nat.mod_eq_sub_mod h, Nat.mod_eq_of_lt (by omega)]]
        · rw [if_neg (by rw [wis _ (by omega)]; omega), wis ((x : Int) + a) (by omega), show ((x : Int) + a) = ((x + a : Nat) : Int) from by omega, hj _ (by omega)]
          rw [← hs, Nat.mod_eq_of_lt (show x + a < m by omega)]
      · rw [if_neg (by omega), hj x hx]
        rw [if_neg ho] at hs
        rw [← hs]

theorem times_spec (k : Nat) (hk : 200 ≤ k) (m a b : Nat) (hm : m ≤ 2305843009213691579) (ha : a < m) (hb : b < m) : bourneref04_times.f k (a : Int) (b : Int) (m : Int) = some ((a * b % m : Nat) : Int) := by
  unfold bourneref04_times.f
  have := times_l0 m hm 62 k a b 0 (by omega) (by omega) (by omega) (by omega) ha
  rw [Nat.zero_add] at this
  exact this
theorem timesP (k : Nat) (hk : 200 ≤ k) (a b : Nat) (ha : a < 2305843009213691579) (hb : b < 2305843009213691579) : bourneref04_times.f k (a : Int) (b : Int) 2305843009213691579 = some ((ml a b : Nat) : Int) := times_spec k hk 2305843009213691579 a b (by omega) ha hb

theorem refmul (k : Nat) (hk : 200 ≤ k) (a b : Int) (ha : ok a) (hb : ok b) : bourneref04_Mul.f k a b = some ((ml (r a) (r b) : Nat) : Int) := by
  unfold bourneref04_Mul.f
  rw [modP a ha, modP b hb]
  simp only [bs]
  rw [timesP k hk _ _ (r_lt a) (r_lt b)]
  rfl

theorem exp_l0r : ∀ (n k e x b : Nat), e < 2 ^ n → n + 220 ≤ k → e < 9223372036854775808 → x < 2305843009213691579 → b < 2305843009213691579 →
    bourneref04_Exp.l0 k (e : Int) (x : Int) (b : Int) = some ((ml x (ex b e) : Nat) : Int) := by
  intro n
  induction n with
  | zero =>
    intro k e x b he hk _ hx hb
    obtain ⟨k, rfl⟩ : ∃ m, k = m + 1 := ⟨k - 1, by omega⟩
    obtain rfl : e = 0 := by simp at he; exact he
    simp only [bourneref04_Exp.l0]
    rw [if_neg (by decide), ex_zero]
    unfold ml
    rw [Nat.mul_one, Nat.mod_eq_of_lt hx]
  | succ n ih =>
    intro k e x b he hk he2 hx hb
    obtain ⟨k, rfl⟩ : ∃ m, k = m + 1 := ⟨k - 1, by omega⟩
    by_cases h0 : e = 0
    · subst h0
      simp only [bourneref04_Exp.l0]
      rw [if_neg (by decide), ex_zero]
      unfold ml
      rw [Nat.mul_one, Nat.mod_eq_of_lt hx]
    · have hlt : e / 2 < 2 ^ n := by rw [Nat.pow_succ] at he; omega
      have hsq : ex (ml b b) (e / 2) = ex b (2 * (e / 2)) := by rw [← ex_two, ex_ex]
      simp only [bourneref04_Exp.l0]
      rw [if_pos (by omega), tmod_pos _ _ (by omega), tdiv_pos _ _ (by omega), wis _ (by omega), timesP k (by omega) x b hx hb, timesP k (by omega) b b hb hb]
      simp only [bs]
      rw [show ((e : Int) / 2) = ((e / 2 : Nat) : Int) from by omega]
      by_cases ho : e % 2 = 1
      · rw [if_pos (by omega), ih k (e / 2) _ _ hlt (by omega) (by omega) (ml_lt _ _) (ml_lt _ _), ml_assoc, hsq]
        have e1 : ml b (ex b (2 * (e / 2))) = ex b e := by
          have := ex_add b 1 (2 * (e / 2))
          rw [ex_one b hb] at this
          rw [this]
          congr 1
          omega
        rw [e1]
      · rw [if_neg (by omega), ih k (e / 2) _ _ hlt (by omega) (by omega) hx (ml_lt _ _), hsq, show 2 * (e / 2) = e from by omega]

theorem refexp_j0 (k : Nat) (hk : 400 ≤ k) (a : Int) (ha : ok a) (e : Nat) (he : e < 9223372036854775808) : bourneref04_Exp.j0 k a (e : Int) = some ((ex (r a) e : Nat) : Int) := by
  obtain ⟨k, rfl⟩ : ∃ m, k = m + 1 := ⟨k - 1, by omega⟩
  simp only [bourneref04_Exp.j0]
  rw [modP a ha]
  simp only [bs]
  have := exp_l0r 63 k e 1 (r a) (by omega) (by omega) he (by omega) (r_lt a)
  rw [show ml 1 (ex (r a) e) = ex (r a) e from by unfold ml; rw [Nat.one_mul, Nat.mod_eq_of_lt (ex_lt _ _)]] at this
  exact this
theorem refexp (k : Nat) (hk : 400 ≤ k) (a e : Int) (ha : ok a) (he : ok e) : bourneref04_Exp.f k a e = some ((ex (r a) (en e) : Nat) : Int) := by
  unfold bourneref04_Exp.f en
  by_cases h : e < 0
  · rw [if_pos h, if_pos h, modQ e he]
    simp only [bs]
    exact refexp_j0 k hk a ha _ (by have := rq_lt e; omega)
  · rw [if_neg h, if_neg h]
    have := refexp_j0 k hk a ha e.toNat (by have := he.2; omega)
    rwa [Int.toNat_of_nonneg (by omega)] at this
theorem refin (k : Nat) (hk : 400 ≤ k) (y : Int) (hy : ok y) : bourneref04_In.f k y = some (inB y) := by
  unfold bourneref04_In.f inB
  by_cases h : 0 < y
  · by_cases h1 : y < 2305843009213691579
    · rw [if_pos (by omega), if_pos h1, refexp k hk y _ hy (by unfold ok; omega)]
      simp only [bs]
      rw [decide_eq_true h, decide_eq_true h1, Bool.true_and, Bool.true_and]
      rw [show en 1152921504606845789 = 1152921504606845789 from rfl]
      congr 1
      by_cases h2 : ex (r y) 1152921504606845789 = 1
      · rw [h2]; rfl
      · rw [decide_eq_false h2]
        exact beq_eq_false_iff_ne.2 (by omega)
    · rw [if_pos (by omega), if_neg h1, decide_eq_false h1]; simp
  · rw [if_neg (by omega), decide_eq_false h]; simp

/-! ### Euclid -/
/-- One sign or the other. -/
def Sg (x y : Int) (a b : Nat) : Prop := (x = a ∧ y = -b) ∨ (x = -a ∧ y = b)

theorem inv_run (A : Nat) : ∀ (s k rr a b : Nat) (x y t u : Int), s + 1 ≤ k → s < rr → rr ≤ 2305843009213691579 → a ≤ 2305843009213691579 → Nat.gcd rr s = 1 → Sg x y a b → b * rr + a * s = 2305843009213691579 → x * A = rr + 2305843009213691579 * t → y * A = s + 2305843009213691579 * u →
    ∃ z v : Int, bourneref04_Inv.l0 k (rr : Int) (s : Int) x y = some (((r z : Nat) : Int), true) ∧ z * A = 1 + 2305843009213691579 * v := by
  intro s
  induction s using Nat.strongRecOn with
  | ind s ih =>
    intro k rr a b x y t u hk hlt hrr ha hg hs hP h1 h2
    obtain ⟨k, rfl⟩ : ∃ m, k = m + 1 := ⟨k - 1, by omega⟩
    have hks : s ≤ k := by omega
    rcases Nat.eq_zero_or_pos s with rfl | hs0
    · have hr1 : rr = 1 := by rwa [Nat.gcd_zero_right] at hg
      subst hr1
      simp only [bourneref04_Inv.l0]
      have hx : ok x := by unfold ok; rcases hs with ⟨e, _⟩ | ⟨e, _⟩ <;> omega
      rw [if_neg (by decide), modP x hx]
      exact ⟨x, t, rfl, by rw [h1]; rfl⟩
    · have q0 := Nat.div_add_mod rr s
      have q1 := Nat.mod_lt rr hs0
      have hq : (a + rr / s * b) * s + b * (rr % s) = 2305843009213691579 := by
        rw [← hP]
        have e1 : b * rr = b * (s * (rr / s)) + b * (rr % s) := by rw [← Nat.mul_add, q0]
        have e2 : rr / s * b * s = b * (s * (rr / s)) := by rw [Nat.mul_comm (rr / s) b, Nat.mul_assoc, Nat.mul_comm (rr / s) s]
        rw [Nat.add_mul, e1, e2]
        omega
      have hle : a + rr / s * b ≤ (a + rr / s * b) * s := Nat.le_mul_of_pos_right _ hs0
      have hd : rr / s ≤ rr := Nat.div_le_self _ _
      have hbs : b ≤ b * rr := Nat.le_mul_of_pos_right _ (by omega)
      have hqs : rr / s * s ≤ rr := Nat.div_mul_le_self _ _
      have ep : ((rr / s : Nat) : Int) * (s : Int) = ((rr / s * s : Nat) : Int) := by rw [Int.natCast_mul]
      have eb : ((rr / s : Nat) : Int) * (b : Int) = ((rr / s * b : Nat) : Int) := by rw [Int.natCast_mul]
      have hy : ((rr / s : Nat) : Int) * y = ((rr / s * b : Nat) : Int) ∨ ((rr / s : Nat) : Int) * y = -((rr / s * b : Nat) : Int) := by
        rcases hs with ⟨_, e⟩ | ⟨_, e⟩
        · right; rw [e, Int.mul_neg, eb]
        · left; rw [e, eb]
      have hnew : Sg y (x - ((rr / s : Nat) : Int) * y) b (a + rr / s * b) := by
        rcases hs with ⟨e, e'⟩ | ⟨e, e'⟩
        · right; refine ⟨e', ?_⟩; rw [e', e, Int.mul_neg, eb]; omega
        · left; refine ⟨e', ?_⟩; rw [e', e, eb]; omega
      have hmod : (rr : Int) - ((rr / s : Nat) : Int) * (s : Int) = ((rr % s : Nat) : Int) := by
        rw [ep]
        have : s * (rr / s) = rr / s * s := Nat.mul_comm _ _
        omega
      have hA : (x - ((rr / s : Nat) : Int) * y) * A = ((rr % s : Nat) : Int) + 2305843009213691579 * (t - ((rr / s : Nat) : Int) * u) := by
        rw [← hmod, Int.sub_mul, h1, Int.mul_assoc, h2, Int.mul_add, Int.mul_sub, Int.mul_left_comm ((rr / s : Nat) : Int) 2305843009213691579 u]
        omega
      have hxb : -2305843009213691579 ≤ x ∧ x ≤ 2305843009213691579 := by rcases hs with ⟨e, _⟩ | ⟨e, _⟩ <;> omega
      simp only [bourneref04_Inv.l0]
      rw [if_pos (by omega), if_neg (by omega), tdiv_pos _ _ (by omega), show ((rr : Int) / (s : Int)) = ((rr / s : Nat) : Int) from by simp]
      have w1 : wrap64 ((rr / s : Nat) : Int) = ((rr / s : Nat) : Int) := by generalize rr / s = q at *; exact wis _ (by omega)
      have w2 : wrap64 (((rr / s : Nat) : Int) * (s : Int)) = ((rr / s : Nat) : Int) * (s : Int) := by rw [ep]; generalize rr / s * s = q at *; exact wis _ (by omega)
      have w3 : wrap64 ((rr : Int) - ((rr / s : Nat) : Int) * (s : Int)) = ((rr % s : Nat) : Int) := by rw [hmod]; generalize rr % s = q at *; exact wis _ (by omega)
      have w4 : wrap64 (((rr / s : Nat) : Int) * y) = ((rr / s : Nat) : Int) * y := by
        generalize rr / s * b = q at *
        generalize ((rr / s : Nat) : Int) * y = p at *
        refine wis _ ?_
        rcases hy with e | e <;> omega
      have w5 : wrap64 (x - ((rr / s : Nat) : Int) * y) = x - ((rr / s : Nat) : Int) * y := by
        generalize rr / s * b = q at *
        generalize ((rr / s : Nat) : Int) * y = p at *
        refine wis _ ?_
        rcases hy with e | e <;> omega
      rw [w1, w2, w3, w4, w5]
      refine ih (rr % s) q1 k s b (a + rr / s * b) y _ u _ (Nat.le_trans q1 hks) q1 (Nat.le_trans (Nat.le_of_lt hlt) hrr) (Nat.le_trans hbs (Nat.le_trans (Nat.le_add_right _ _) (Nat.le_of_eq hP))) ?_ hnew hq h2 hA
      rw [← hg, Nat.gcd_comm rr s, Nat.gcd_rec s rr, Nat.gcd_comm]

theorem refinv (k : Nat) (hk : 2305843009213692000 ≤ k) (a : Int) (ha : ok a) : bourneref04_Inv.f k a = some (if r a = 0 then (0, false) else (((ex (r a) 2305843009213691577 : Nat) : Int), true)) := by
  unfold bourneref04_Inv.f
  rw [modP a ha]
  simp only [bs]
  have hl := r_lt a
  by_cases h : r a = 0
  · rw [if_pos (by omega), if_pos h]
  · rw [if_neg (by omega), if_neg h]
    have hg : Nat.gcd 2305843009213691579 (r a) = 1 := by
      rcases Num.prP.2 _ (Nat.gcd_dvd_left 2305843009213691579 (r a)) with e | e
      · exact e
      · have h2 := Nat.gcd_dvd_right 2305843009213691579 (r a)
        rw [e] at h2
        have := Nat.le_of_dvd (by omega) h2
        omega
    obtain ⟨z, v, e, hz⟩ := inv_run (r a) (r a) k 2305843009213691579 0 1 0 1 (-1) 0 (by omega) hl (by omega) (by omega) hg (.inr ⟨rfl, rfl⟩) (by omega) (by omega) (by omega)
    refine Eq.trans e ?_
    have h1 : ml (r z) (r a) = 1 := by
      have : (((r z * r a : Nat) : Int)) % 2305843009213691579 = 1 := by
        rw [Int.natCast_mul, r_cast z, Int.mul_emod, Int.emod_emod, ← Int.mul_emod, hz, Int.add_mul_emod_self_left]
        rfl
      unfold ml
      generalize r z * r a = q at *
      omega
    have h2 := inverse (show 0 < r a by omega) hl
    have h3 : r z = ex (r a) 2305843009213691577 := by
      have e1 : ml (r z) (ml (ex (r a) 2305843009213691577) (r a)) = r z := by rw [h2]; unfold ml; rw [Nat.mul_one, Nat.mod_eq_of_lt (r_lt z)]
      rw [← e1, ml_comm (ex (r a) 2305843009213691577), ← ml_assoc, h1]
      unfold ml
      rw [Nat.one_mul, Nat.mod_eq_of_lt (ex_lt _ _)]
    rw [h3]

theorem GroupTells : bournelaw04_GroupTells.Pure := by
  intro a b ha hb
  have A := ok_of ha
  have B := ok_of hb
  suffices h : ∀ k, 2305843009213692000 ≤ k → bournelaw04_GroupTells.f (k + 3) a b = some true from ⟨2305843009213692003, h 2305843009213692000 (Nat.le_refl _)⟩
  intro k hk
  unfold bournelaw04_GroupTells.f
  rw [small_spec _ (by omega), inv_spec _ (by omega) a A, refinv _ (by omega) a A, mul_ok _ (by omega) a b A B, refmul _ (by omega) a b A B, exp_spec _ (by omega) a b A B, refexp _ (by omega) a b A B, in_spec _ (by omega) a A, refin _ (by omega) a A]
  simp only [bs]
  rw [if_pos trivial, bne_self_eq_false, if_neg (by decide), if_pos trivial, if_pos trivial, bne_self_eq_false]
  simp only [bournelaw04_GroupTells.j0]
  have e1 : bourneref04_AddQ.f a b = some ((a + b) % 1152921504606845789) := by
    unfold bourneref04_AddQ.f
    rw [modQ a A, modQ b B]
    simp only [bs]
    have h1 := rq_lt a
    have h2 := rq_lt b
    rw [wis _ (by omega), modQ _ (by unfold ok; omega), rq_cast, rq_cast, rq_cast]
    simp only [bs]
    congr 1
    exact (Int.add_emod a b _).symm
  have e2 : bourneref04_SubQ.f a b = some ((a - b) % 1152921504606845789) := by
    unfold bourneref04_SubQ.f
    rw [modQ a A, modQ b B]
    simp only [bs]
    have h1 := rq_lt a
    have h2 := rq_lt b
    rw [wis _ (by omega), modQ _ (by unfold ok; omega), rq_cast, rq_cast, rq_cast]
    simp only [bs]
    congr 1
    exact (Int.sub_emod a b _).symm
  have e3 : bourneref04_MulQ.f (k + 2) a b = some ((a * b) % 1152921504606845789) := by
    unfold bourneref04_MulQ.f
    rw [modQ a A, modQ b B]
    simp only [bs]
    have := times_spec (k + 2) (by omega) 1152921504606845789 (rq a) (rq b) (by omega) (rq_lt a) (rq_lt b)
    rw [show ((1152921504606845789 : Int)) = ((1152921504606845789 : Nat) : Int) from rfl, this]
    simp only [bs]
    congr 1
    rw [Int.natCast_emod, Int.natCast_mul, rq_cast, rq_cast]
    exact (Int.mul_emod a b _).symm
  rw [if_neg (by decide), if_pos trivial, e1, e2, e3, addQ_spec a b A B, subQ_spec a b A B, mulQ_spec _ (by omega) a b A B]
  simp only [bs]
  rw [if_pos trivial, if_pos trivial, beq_self_eq_true]
end Go.Proofs.Ytlnkmbbmefbnpaa.Pure
