/- The pure statement of GroupPowers: powers of a member add and multiply in the exponents modulo Q; a negative exponent inverts. -/
import Derived.Test.YtlnkmbbmefbnpaaGrp
set_option linter.unusedVariables false
set_option maxRecDepth 100000
namespace Go.Proofs.Ytlnkmbbmefbnpaa.Pure
open Go.RowKit Go.Proofs.Ytlnkmbbmefbnpaa.Fn Go.Proofs.Ytlnkmbbmefbnpaa.Grp Go.Proofs.Ytlnkmbbmefbnpaa.Div Go.Proofs.Ytlnkmbbmefbnpaa.Res Go.Proofs.YtlnkmbbmefbnpaaW.PrintWords Go.Proofs.YtlnkmbbmefbnpaaW.PrintLast

/-- Exponents of one residue modulo Q. -/
theorem pow_of {x m : Nat} {t : Int} (h : ex x 1152921504606845789 = 1) (e : ((m : Nat) : Int) % 1152921504606845789 = t % 1152921504606845789) : ex x m = ex x (en t) := by
  refine ex_congr h ?_
  have h2 := en_mod t
  rw [← h2] at e
  exact Int.ofNat.inj (by rw [Int.ofNat_eq_natCast, Int.ofNat_eq_natCast, Int.natCast_emod, Int.natCast_emod]; exact e)

theorem okQ (t : Int) : ok (t % 1152921504606845789) := by unfold ok; omega

theorem GroupPowers : bournelaw04_GroupPowers.Pure := by
  intro y d e hy hd he
  have Y := ok_of hy
  have D := ok_of hd
  have E := ok_of he
  suffices h : ∀ k, 500 ≤ k → bournelaw04_GroupPowers.f (k + 3) y d e = some true from ⟨503, h 500 (by omega)⟩
  intro k hk
  unfold bournelaw04_GroupPowers.f
  rw [small_spec _ (by omega), mul_ok _ (by omega) y 1 Y (by unfold ok; omega), mul_ok _ (by omega) y y Y Y, exp_spec _ (by omega) y 2 Y (by unfold ok; omega), exp_spec _ (by omega) y 1 Y (by unfold ok; omega), exp_spec _ (by omega) y 0 Y (by unfold ok; omega)]
  simp only [bs]
  rw [ml_one _ (r_lt y), show en 2 = 2 from rfl, show en 1 = 1 from rfl, show en 0 = 0 from rfl, ex_two, ex_one _ (r_lt y), ex_zero, if_pos rfl, if_pos rfl]
  rw [show ((((1 : Nat) : Int)) != 1) = false from rfl]
  have hxl := r_lt y
  simp only [bournelaw04_GroupPowers.j0]
  rw [if_neg (by decide), in_spec _ (by omega) _ (ok_small _ hxl)]
  simp only [bs]
  by_cases hin : inB ((r y : Nat) : Int) = true
  · rw [if_pos hin]
    have hx0 : 0 < r y := by
      rcases Nat.eq_zero_or_pos (r y) with h | h
      · rw [h] at hin; rw [show ((0 : Nat) : Int) = 0 from rfl, inB_zero] at hin; cases hin
      · exact h
    rw [inB_nat _ hx0 hxl] at hin
    have hc : ex (r y) 1152921504606845789 = 1 := of_decide_eq_true hin
    rw [exp_spec _ (by omega) y d Y D, exp_spec _ (by omega) y e Y E, addQ_spec d e D E, mulQ_spec _ (by omega) d e D E, subQ_spec 0 d (by unfold ok; omega) D, addQ_spec d 0 D (by unfold ok; omega)]
    simp only [bs]
    rw [mul_ok _ (by omega) _ _ (ok_small _ (ex_lt _ _)) (ok_small _ (ex_lt _ _)), exp_spec _ (by omega) y _ Y (okQ (d + e)), exp_spec _ (by omega) _ e (ok_small _ (ex_lt _ _)) E, exp_spec _ (by omega) y _ Y (okQ (d * e)), inv_spec _ (by omega) _ (ok_small _ (ex_lt _ _)), exp_spec _ (by omega) y _ Y (okQ (0 - d)), exp_spec _ (by omega) y _ Y (okQ (d + 0))]
    simp only [bs]
    rw [r_nat _ (ex_lt _ _), r_nat _ (ex_lt _ _)]
    have p := ex_pos (e := en d) hx0 hxl
    rw [if_neg (show ¬ ex (r y) (en d) = 0 by omega)]
    have em := en_mod d
    have em' := en_mod e
    have e1 : ml (ex (r y) (en d)) (ex (r y) (en e)) = ex (r y) (en ((d + e) % 1152921504606845789)) := by
      rw [ex_add]
      refine pow_of hc ?_
      rw [Int.natCast_add, Int.add_emod, em, em', ← Int.add_emod, Int.emod_emod]
    have e2 : ex (ex (r y) (en d)) (en e) = ex (r y) (en ((d * e) % 1152921504606845789)) := by
      rw [ex_ex]
      refine pow_of hc ?_
      rw [Int.natCast_mul, Int.mul_emod, em, em', ← Int.mul_emod, Int.emod_emod]
    have e3 : ex (ex (r y) (en d)) 2305843009213691577 = ex (r y) (en ((0 - d) % 1152921504606845789)) := by
      refine inv_pow hx0 hxl hc _ _ ?_
      have f := en_mod ((0 - d) % 1152921504606845789)
      rw [Int.emod_emod] at f
      have : ((en d + en ((0 - d) % 1152921504606845789) : Nat) : Int) % 1152921504606845789 = 0 := by
        rw [Int.natCast_add, Int.add_emod, em, f, ← Int.add_emod, show d + (0 - d) = 0 from by omega]
        rfl
      omega
    have e4 : ex (r y) (en d) = ex (r y) (en ((d + 0) % 1152921504606845789)) := by
      refine pow_of hc ?_
      rw [em, Int.emod_emod, Int.add_zero]
    rw [e1, if_pos trivial, if_pos rfl, e2, if_pos rfl, if_pos rfl, e3, if_pos rfl, ← e4, beq_self_eq_true]
  · rw [if_neg hin]
end Go.Proofs.Ytlnkmbbmefbnpaa.Pure
