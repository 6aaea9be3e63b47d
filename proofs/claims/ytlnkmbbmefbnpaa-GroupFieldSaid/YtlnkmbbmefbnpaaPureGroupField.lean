/- The pure statement of GroupField: multiplication modulo P is commutative and associative, the residues modulo Q are a commutative ring, and only multiples of P have no inverse. -/
import Derived.Test.YtlnkmbbmefbnpaaGrp
set_option linter.unusedVariables false
set_option maxRecDepth 100000
namespace Go.Proofs.Ytlnkmbbmefbnpaa.Pure
open Go.RowKit Go.Proofs.Ytlnkmbbmefbnpaa.Fn Go.Proofs.Ytlnkmbbmefbnpaa.Grp Go.Proofs.Ytlnkmbbmefbnpaa.Div Go.Proofs.Ytlnkmbbmefbnpaa.Res Go.Proofs.YtlnkmbbmefbnpaaW.PrintWords Go.Proofs.YtlnkmbbmefbnpaaW.PrintLast

theorem okQ2 (t : Int) : ok (t % 1152921504606845789) := by unfold ok; omega
theorem mm1 (a c n : Int) : a % n * c % n = a * c % n := by rw [Int.mul_emod, Int.emod_emod, ← Int.mul_emod]
theorem mm2 (a c n : Int) : a * (c % n) % n = a * c % n := by rw [Int.mul_emod, Int.emod_emod, ← Int.mul_emod]
theorem beq_iff2 {a b : Bool} (h : a = true ↔ b = true) : (a == b) = true := by
  cases a <;> cases b <;> simp at h ⊢

theorem GroupField : bournelaw04_GroupField.Pure := by
  intro a b c ha hb hc
  have A := ok_of ha
  have B := ok_of hb
  have C := ok_of hc
  have Z : ok 0 := by unfold ok; omega
  have O : ok 1 := by unfold ok; omega
  suffices h : ∀ k, 500 ≤ k → bournelaw04_GroupField.f (k + 3) a b c = some true from ⟨503, h 500 (by omega)⟩
  intro k hk
  have fin : ∀ k, 500 ≤ k → bournelaw04_GroupField.j2 (k + 1) a b c true (a % 1152921504606845789) true true true = some true := by
    intro k hk
    simp only [bournelaw04_GroupField.j2]
    rw [mulQ_spec _ (by omega) a b A B, mulQ_spec _ (by omega) b a B A, mulQ_spec _ (by omega) b c B C, mulQ_spec _ (by omega) a c A C, mulQ_spec _ (by omega) a 1 A O, addQ_spec b c B C]
    simp only [bs]
    rw [Int.mul_comm b a, if_pos rfl, mulQ_spec _ (by omega) _ c (okQ2 _) C, mulQ_spec _ (by omega) a _ A (okQ2 _), mulQ_spec _ (by omega) a _ A (okQ2 _), addQ_spec _ _ (okQ2 _) (okQ2 _)]
    simp only [bs]
    have e1 : a * b % 1152921504606845789 * c % 1152921504606845789 = a * (b * c % 1152921504606845789) % 1152921504606845789 := by
      rw [mm1, mm2, Int.mul_assoc]
    have e2 : a * ((b + c) % 1152921504606845789) % 1152921504606845789 = (a * b % 1152921504606845789 + a * c % 1152921504606845789) % 1152921504606845789 := by
      rw [mm2, ← Int.add_emod, Int.mul_add]
    rw [e1, if_pos rfl, e2, if_pos rfl, if_pos trivial, if_pos trivial, if_pos trivial, if_pos trivial, Int.mul_one, beq_self_eq_true]
  have mid : ∀ k, 500 ≤ k → bournelaw04_GroupField.j1 (k + 2) a b c true (a % 1152921504606845789) true true = some true := by
    intro k hk
    simp only [bournelaw04_GroupField.j1]
    rw [addQ_spec a b A B, addQ_spec b a B A, addQ_spec b c B C]
    simp only [bs]
    rw [Int.add_comm b a, if_pos rfl, addQ_spec _ c (okQ2 _) C, addQ_spec a _ A (okQ2 _), subQ_spec _ b (okQ2 _) B]
    simp only [bs]
    have e1 : ((a + b) % 1152921504606845789 + c) % 1152921504606845789 = (a + (b + c) % 1152921504606845789) % 1152921504606845789 := by
      rw [Int.emod_add_emod, Int.add_emod_emod, Int.add_assoc]
    have e2 : ((a + b) % 1152921504606845789 - b) % 1152921504606845789 = a % 1152921504606845789 := by
      rw [Int.emod_sub_emod, Int.add_sub_cancel]
    rw [e1, if_pos rfl, e2, beq_self_eq_true]
    exact fin k hk
  have first : bournelaw04_GroupField.j0 (k + 3) a b c true ((r a : Nat) : Int) (a % 1152921504606845789) true = some true := by
    simp only [bournelaw04_GroupField.j0]
    rw [mul_ok _ (by omega) a b A B, mul_ok _ (by omega) b a B A, mul_ok _ (by omega) b c B C, mul_ok _ (by omega) b 1 B O]
    simp only [bs]
    rw [ml_comm (r b) (r a), if_pos rfl, mul_ok _ (by omega) _ c (ok_small _ (ml_lt _ _)) C, mul_ok _ (by omega) a _ A (ok_small _ (ml_lt _ _)), r_nat _ (ml_lt _ _), r_nat _ (ml_lt _ _)]
    simp only [bs]
    rw [ml_assoc, if_pos rfl, ml_one _ (r_lt b)]
    have hz := ml_zero (r_lt a) (r_lt b)
    by_cases h0 : r a = 0
    · rw [if_pos (by omega), beq_iff_eq.2 (show ((ml (r a) (r b) : Nat) : Int) = 0 by rw [hz.2 (.inl h0)]; rfl)]
      exact mid k hk
    · rw [if_neg (by omega)]
      have : ((((ml (r a) (r b) : Nat) : Int) == 0) == (((r b : Nat) : Int) == 0)) = true := by
        refine beq_iff2 ?_
        rw [beq_iff_eq, beq_iff_eq]
        constructor
        · intro h; have := hz.1 (by omega); omega
        · intro h; rw [hz.2 (.inr (by omega))]; rfl
      rw [this]
      exact mid k hk
  unfold bournelaw04_GroupField.f
  rw [small_spec _ (by omega), mul_ok _ (by omega) a 1 A O, addQ_spec a 0 A Z, inv_spec _ (by omega) a A]
  simp only [bs]
  rw [ml_one _ (r_lt a), Int.add_zero]
  have hl := r_lt a
  rw [if_pos (by omega), if_pos (by omega), if_pos (by omega), if_pos (by omega)]
  by_cases h0 : r a = 0
  · rw [if_pos h0, if_pos (by rw [h0]; rfl), if_neg (by decide)]
    exact first
  · rw [if_neg h0]
    have hp := ex_pos (e := 2305843009213691577) (show 0 < r a by omega) hl
    have hpl := ex_lt (r a) 2305843009213691577
    rw [if_pos (by rw [bne_iff_ne.2 (show ((r a : Nat) : Int) ≠ 0 by omega)]; rfl), if_pos rfl, if_pos (by omega), if_pos (by omega), mul_ok _ (by omega) a _ A (ok_small _ hpl), r_nat _ hpl]
    simp only [bs]
    rw [ml_comm, inverse (by omega) hl]
    exact first
end Go.Proofs.Ytlnkmbbmefbnpaa.Pure
