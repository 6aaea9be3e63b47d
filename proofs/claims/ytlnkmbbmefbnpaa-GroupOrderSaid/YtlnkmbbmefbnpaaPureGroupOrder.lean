/- The pure statement of GroupOrder: powers of 4 are equal exactly for exponents of one residue modulo Q; a member other than 1 has the order Q. -/
import Derived.Test.YtlnkmbbmefbnpaaGrp
set_option linter.unusedVariables false
set_option maxRecDepth 100000
namespace Go.Proofs.Ytlnkmbbmefbnpaa.Pure
open Go.RowKit Go.Proofs.Ytlnkmbbmefbnpaa.Fn Go.Proofs.Ytlnkmbbmefbnpaa.Grp Go.Proofs.Ytlnkmbbmefbnpaa.Div Go.Proofs.Ytlnkmbbmefbnpaa.Res Go.Proofs.YtlnkmbbmefbnpaaW.PrintWords Go.Proofs.YtlnkmbbmefbnpaaW.PrintLast

theorem en_same (d e : Int) : en d % 1152921504606845789 = en e % 1152921504606845789 ↔ (d - e) % 1152921504606845789 = 0 := by
  have h1 := en_mod d
  have h2 := en_mod e
  have h3 : (en d % 1152921504606845789 = en e % 1152921504606845789) ↔ (((en d : Nat) : Int) % 1152921504606845789 = ((en e : Nat) : Int) % 1152921504606845789) := by
    generalize en d = m
    generalize en e = n
    omega
  rw [h3, h1, h2]
  exact Int.emod_eq_emod_iff_emod_sub_eq_zero
theorem beq_iff {a b : Bool} (h : a = true ↔ b = true) : (a == b) = true := by
  cases a <;> cases b <;> simp at h ⊢

theorem GroupOrder : bournelaw04_GroupOrder.Pure := by
  intro d e y hd he hy
  have D := ok_of hd
  have E := ok_of he
  have Y := ok_of hy
  suffices h : ∀ k, 500 ≤ k → bournelaw04_GroupOrder.f (k + 3) d e y = some true from ⟨503, h 500 (by omega)⟩
  intro k hk
  unfold bournelaw04_GroupOrder.f
  rw [small_spec _ (by omega), subQ_spec d e D E, exp_spec _ (by omega) 4 d (by unfold ok; omega) D, exp_spec _ (by omega) 4 e (by unfold ok; omega) E, mul_ok _ (by omega) y y Y Y]
  simp only [bs]
  rw [show r 4 = 4 from rfl]
  have h41 : ¬ ex 4 1 = 1 := by rw [ex_one 4 (by omega)]; omega
  have ho := order_eq (m := en d) (n := en e) (show 0 < 4 by omega) (by omega) e4Q h41
  rw [en_same] at ho
  have hb : ((((ex 4 (en d) : Nat) : Int) == ((ex 4 (en e) : Nat) : Int)) == ((d - e) % 1152921504606845789 == 0)) = true := by
    refine beq_iff ?_
    rw [beq_iff_eq, beq_iff_eq, ← ho]
    omega
  rw [if_neg (by rw [bne, hb]; decide)]
  have hxl := ml_lt (r y) (r y)
  have zero : ∀ z : Int, bournelaw04_GroupOrder.j0 (k + 3) d true z true = some true := by
    intro z
    simp only [bournelaw04_GroupOrder.j0]
    rw [if_pos trivial]
  by_cases h0 : ml (r y) (r y) = 0
  · rw [if_pos (by omega)]; exact zero _
  · rw [if_neg (by omega)]
    by_cases h1 : ml (r y) (r y) = 1
    · rw [beq_iff_eq.2 (show ((ml (r y) (r y) : Nat) : Int) = 1 by omega)]; exact zero _
    · rw [beq_eq_false_iff_ne.2 (show ((ml (r y) (r y) : Nat) : Int) ≠ 1 by omega)]
      have hr0 : 0 < r y := by
        rcases Nat.eq_zero_or_pos (r y) with h | h
        · rw [h] at h0; exact absurd rfl h0
        · exact h
      have hc := chi_sq hr0 (r_lt y)
      simp only [bournelaw04_GroupOrder.j0]
      rw [if_neg (by decide), if_pos trivial, exp_spec _ (by omega) _ d (ok_small _ hxl) D, addQ_spec d 0 D (by unfold ok; omega), r_nat _ hxl]
      simp only [bs]
      generalize ml (r y) (r y) = x at *
      have o := order (m := en d) hc (by rw [ex_one x hxl]; exact h1)
      have o2 := en_same d 0
      rw [show en 0 = 0 from rfl, Nat.zero_mod, Int.sub_zero] at o2
      rw [o2] at o
      congr 1
      refine beq_iff ?_
      rw [beq_iff_eq, beq_iff_eq, Int.add_zero, ← o]
      omega
end Go.Proofs.Ytlnkmbbmefbnpaa.Pure
