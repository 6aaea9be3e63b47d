/- The pure statement of GroupMembers: exactly one of a residue and its negative is in the group of order Q; squares, powers of 4, products and inverses of members are in it. -/
import Derived.Test.YtlnkmbbmefbnpaaGrp
set_option linter.unusedVariables false
set_option maxRecDepth 100000
namespace Go.Proofs.Ytlnkmbbmefbnpaa.Pure
open Go.RowKit Go.Proofs.Ytlnkmbbmefbnpaa.Fn Go.Proofs.Ytlnkmbbmefbnpaa.Grp Go.Proofs.Ytlnkmbbmefbnpaa.Div Go.Proofs.Ytlnkmbbmefbnpaa.Res Go.Proofs.YtlnkmbbmefbnpaaW.PrintWords Go.Proofs.YtlnkmbbmefbnpaaW.PrintLast

theorem bB_neg {x : Nat} (h0 : 0 < x) (h1 : x < 2305843009213691579) : bB (2305843009213691579 - x) = !bB x := by
  unfold bB
  have := neg_chi h0 h1
  by_cases h : ex x 1152921504606845789 = 1
  · rw [decide_eq_true h, decide_eq_false (fun h2 => this.1 h2 h)]; rfl
  · rw [decide_eq_false h, decide_eq_true (this.2 h)]; rfl
theorem bB_true {x : Nat} (h : ex x 1152921504606845789 = 1) : bB x = true := decide_eq_true h
theorem ml_pos {x y : Nat} (hx : 0 < x) (hx1 : x < 2305843009213691579) (hy : 0 < y) (hy1 : y < 2305843009213691579) : 0 < ml x y := by
  rcases Nat.eq_zero_or_pos (ml x y) with h | h
  · rcases (ml_zero hx1 hy1).1 h with h | h <;> omega
  · exact h
theorem bB_ml {x y : Nat} (hx : 0 < x) (hx1 : x < 2305843009213691579) (hy : 0 < y) (hy1 : y < 2305843009213691579) : bB (ml x y) = (bB x == bB y) := by
  unfold bB
  rw [ex_ml]
  rcases chi hx hx1 with e | e <;> rcases chi hy hy1 with e' | e' <;> rw [e, e'] <;> decide
theorem bB_inv {x : Nat} (hx : 0 < x) (hx1 : x < 2305843009213691579) : bB (ex x 2305843009213691577) = bB x := by
  have hp := ex_pos (e := 2305843009213691577) hx hx1
  have h := bB_ml hp (ex_lt _ _) hx hx1
  rw [inverse hx hx1] at h
  have h1 : bB 1 = true := bB_true (base_one _)
  rw [h1] at h
  cases hb : bB (ex x 2305843009213691577) <;> cases hc : bB x <;> rw [hb, hc] at h <;> first | rfl | (exact absurd h (by decide))
theorem bB_four (m : Nat) : bB (ex 4 m) = true := by
  refine bB_true ?_
  rw [ex_ex, Nat.mul_comm, ← ex_ex, e4Q, base_one]

theorem inB_self (a : Int) (ha : ok a) (h0 : r a ≠ 0) : inB a = (bB (r a) && (a == ((r a : Nat) : Int))) := by
  have hl := r_lt a
  have hc := r_cast a
  by_cases h : a = ((r a : Nat) : Int)
  · rw [beq_iff_eq.2 h, Bool.and_true]
    have h2 := inB_nat (r a) (by omega) hl
    rw [← h] at h2
    exact h2
  · rw [beq_eq_false_iff_ne.2 h, Bool.and_false]
    unfold inB
    by_cases h1 : 0 < a
    · by_cases h2 : a < 2305843009213691579
      · exact absurd (show a = ((r a : Nat) : Int) by rw [hc]; omega) h
      · rw [decide_eq_false h2]; simp
    · rw [decide_eq_false h1]; simp

theorem GroupMembers : bournelaw04_GroupMembers.Pure := by
  intro a b e ha hb he
  have A := ok_of ha
  have B := ok_of hb
  have E := ok_of he
  suffices h : ∀ k, 500 ≤ k → bournelaw04_GroupMembers.f (k + 3) a b e = some true from ⟨503, h 500 (by omega)⟩
  intro k hk
  unfold bournelaw04_GroupMembers.f
  rw [small_spec _ (by omega), mul_ok _ (by omega) a 1 A (by unfold ok; omega), mul_ok _ (by omega) b 1 B (by unfold ok; omega)]
  simp only [bs]
  rw [ml_one _ (r_lt a), ml_one _ (r_lt b)]
  have hs := inB_self a A
  have hxl := r_lt a
  have hyl := r_lt b
  generalize r a = x at *
  generalize r b = y at *
  have zero : bournelaw04_GroupMembers.j0 (k + 3) a e true (x : Int) (y : Int) true = some true := by
    simp only [bournelaw04_GroupMembers.j0]
    rw [in_spec _ (by omega) 0 (by unfold ok; omega), inB_zero]
    rfl
  by_cases hx0 : x = 0
  · rw [if_pos (by omega)]; exact zero
  · rw [if_neg (by omega)]
    by_cases hy0 : y = 0
    · rw [beq_iff_eq.2 (show (y : Int) = 0 by omega)]; exact zero
    · rw [beq_eq_false_iff_ne.2 (show (y : Int) ≠ 0 by omega)]
      have X0 : 0 < x := by omega
      have Y0 : 0 < y := by omega
      have hs := hs hx0
      have hpos := ex_pos (e := 2305843009213691577) X0 hxl
      simp only [bournelaw04_GroupMembers.j0]
      rw [if_neg (by decide), inv_spec _ (by omega) x (ok_small x hxl), in_spec _ (by omega) x (ok_small x hxl), wis _ (by omega), show (2305843009213691579 : Int) - (x : Int) = ((2305843009213691579 - x : Nat) : Int) from by omega]
      rw [in_spec _ (by omega) _ (ok_small _ (by omega)), mul_ok _ (by omega) x x (ok_small x hxl) (ok_small x hxl), exp_spec _ (by omega) 4 e (by unfold ok; omega) E, r_nat x hxl, if_neg hx0]
      simp only [bs]
      rw [in_spec _ (by omega) _ (ok_small _ (ml_lt _ _)), in_spec _ (by omega) _ (ok_small _ (ex_lt _ _))]
      simp only [bs]
      rw [inB_nat _ (by omega) (by omega), inB_nat x X0 hxl, bB_neg X0 hxl, inB_nat _ (ml_pos X0 hxl X0 hxl) (ml_lt _ _), inB_nat _ (ex_pos (by decide) (by decide)) (ex_lt _ _), show r 4 = 4 from rfl, bB_four, bB_ml X0 hxl X0 hxl, beq_self_eq_true]
      rw [if_pos (by cases bB x <;> rfl), if_pos rfl]
      simp only [bournelaw04_GroupMembers.j1]
      rw [mul_ok _ (by omega) x y (ok_small x hxl) (ok_small y hyl), in_spec _ (by omega) y (ok_small y hyl), in_spec _ (by omega) _ (ok_small _ (ex_lt _ _)), mul_ok _ (by omega) _ x (ok_small _ (ex_lt _ _)) (ok_small x hxl), r_nat x hxl, r_nat y hyl, r_nat _ (ex_lt _ _)]
      simp only [bs]
      rw [in_spec _ (by omega) _ (ok_small _ (ml_lt _ _))]
      simp only [bs]
      rw [inB_nat _ (ml_pos X0 hxl Y0 hyl) (ml_lt _ _), bB_ml X0 hxl Y0 hyl, inB_nat y Y0 hyl, inB_nat _ hpos (ex_lt _ _), bB_inv X0 hxl, inverse X0 hxl, beq_self_eq_true, if_pos rfl, beq_self_eq_true, if_pos rfl]
      simp only [bournelaw04_GroupMembers.j2]
      rw [exp_spec _ (by omega) x _ (ok_small x hxl) (by unfold ok; omega), r_nat x hxl, in_spec _ (by omega) a A, hs, show en 1152921504606845789 = 1152921504606845789 from rfl]
      simp only [bs]
      rw [if_pos trivial, if_pos trivial, if_pos trivial, if_pos (by decide)]
      unfold bB
      rcases chi X0 hxl with e1 | e1
      · rw [e1, decide_eq_true rfl, if_pos rfl, if_pos (by decide), Bool.true_and, beq_self_eq_true]
      · rw [e1, decide_eq_false (by decide), if_neg (by decide), if_pos (by decide), Bool.false_and]
        rfl
end Go.Proofs.Ytlnkmbbmefbnpaa.Pure
