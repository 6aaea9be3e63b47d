import Derived.Test.YtacpiaiohcblfaaSeep
import Derived.Test.YtacpiaiohcblfaaRdT
import Derived.Test.YtacpiaiohcblfaaFn12
set_option maxRecDepth 100000
set_option linter.unusedVariables false
namespace Go.Proofs.Ytacpiaiohcblfaa.Pure
open Go.RowKit Go.Proofs.Ytacpiaiohcblfaa.Fn Go.Proofs.Ytacpiaiohcblfaa.Rd Go.Proofs.Ytacpiaiohcblfaa.Div Go.Proofs.Ytacpiaiohcblfaa.Exact Go.Proofs.Ytacpiaiohcblfaa.Seep Go.Proofs.YtacpiaiohcblfaaW.PrintWords Go.Proofs.YtacpiaiohcblfaaW.PrintLast Go.Proofs.YtacpiaiohcblfaaW.PrintMore

theorem holds_l0 (vs : List Int) (a0_0 : ByteArray) (a0_1 a0_2 a0_3 : Int) (l0_4 l0_5 l0_6 : List (S90)) (a0_7 a0_8 a0_9 a0_10 a0_11 a0_12 a0_13 a0_14 a0_15 a0_16 a0_17 : Int) (hp : a0_14 < a0_13) (hl : (vs.length : Int) ≤ 9223372036854775807) : ∀ (d k i : Nat) (o : Bool), vs.length - i = d → i ≤ vs.length → 4 * d + 4 ≤ k →
    bournelaw20_SeepHolds.l0 k vs true o (i : Int) a0_0 3 a0_2 a0_3 l0_4 l0_5 l0_6 a0_7 a0_8 a0_9 a0_10 a0_11 a0_12 a0_13 a0_14 a0_15 a0_16 a0_17 1 2 false o = some true := by
  intro d
  induction d with
  | zero =>
    intro k i o hd hi hk
    obtain ⟨k, rfl⟩ : ∃ m, k = m + 1 := ⟨k - 1, by omega⟩
    simp only [bournelaw20_SeepHolds.l0]
    rw [if_neg (by omega)]
  | succ d ih =>
    intro k i o hd hi hk
    obtain ⟨k, rfl⟩ : ∃ m, k = m + 4 := ⟨k - 4, by omega⟩
    have hlt : i < vs.length := by omega
    have nx : ∀ u : Bool, bournelaw20_SeepHolds.j2 (k + 2) vs true u (i : Int) a0_0 3 a0_2 a0_3 l0_4 l0_5 l0_6 a0_7 a0_8 a0_9 a0_10 a0_11 a0_12 a0_13 a0_14 a0_15 a0_16 a0_17 1 2 false u = some true := by
      intro u
      simp only [bournelaw20_SeepHolds.j2]
      rw [if_neg (by simp), if_pos trivial, if_pos trivial]
      simp only [bournelaw20_SeepHolds.j3]
      rw [if_neg (by decide), wis _ (by omega), show (i : Int) + 1 = ((i + 1 : Nat) : Int) from rfl]
      exact ih k (i + 1) u (by omega) (by omega) (by omega)
    simp only [bournelaw20_SeepHolds.l0]
    rw [if_pos (by omega), if_pos (by omega), siphon_spec, bs]
    dsimp only
    rw [if_pos rfl]
    have j1 : ∀ (u u' : Bool), (if rd vs (i : Int) ≤ a0_14 then false else u) = u' → bournelaw20_SeepHolds.j1 (k + 3) vs true u (i : Int) a0_0 3 a0_2 a0_3 l0_4 l0_5 l0_6 a0_7 a0_8 a0_9 a0_10 a0_11 a0_12 a0_13 a0_14 a0_15 a0_16 a0_17 1 2 false u' = some true := by
      intro u u' e
      simp only [bournelaw20_SeepHolds.j1]
      rw [if_pos (by omega), if_pos (by omega)]
      by_cases g : rd vs (i : Int) ≤ a0_14
      · rw [if_pos g]; rw [if_pos g] at e; subst e; exact nx false
      · rw [if_neg g]; rw [if_neg g] at e; subst e; exact nx u
    by_cases g : rd vs (i : Int) ≥ a0_13
    · rw [if_pos g]
      refine j1 true _ ?_
      rw [if_neg (by omega)]
      unfold siph; simp [show a0_13 ≤ rd vs (i : Int) from g]
    · rw [if_neg g]
      refine j1 o _ ?_
      have g' : ¬ a0_13 ≤ rd vs (i : Int) := g
      unfold siph
      by_cases g2 : rd vs (i : Int) ≤ a0_14
      · rw [if_pos g2]; simp [g', show ¬ a0_14 < rd vs (i : Int) by omega]
      · rw [if_neg g2]; simp [g', show a0_14 < rd vs (i : Int) by omega]
theorem holds (vs : List Int) (a0_0 : ByteArray) (a0_1 a0_2 a0_3 : Int) (l0_4 l0_5 l0_6 : List (S90)) (a0_7 a0_8 a0_9 a0_10 a0_11 a0_12 a0_13 a0_14 a0_15 a0_16 a0_17 : Int) (o : Bool) (hl : (vs.length : Int) ≤ 9223372036854775807) : bournelaw20_SeepHolds.f (4 * vs.length + 10) a0_0 a0_1 a0_2 a0_3 l0_4 l0_5 l0_6 a0_7 a0_8 a0_9 a0_10 a0_11 a0_12 a0_13 a0_14 a0_15 a0_16 a0_17 o vs = some true := by
  unfold bournelaw20_SeepHolds.f bournelaw20_small.f
  rw [bs]
  by_cases g : a0_13 ≤ a0_14
  · rw [if_pos g]
  · rw [if_neg g]
    exact holds_l0 vs a0_0 3 a0_2 a0_3 l0_4 l0_5 l0_6 a0_7 a0_8 a0_9 a0_10 a0_11 a0_12 a0_13 a0_14 a0_15 a0_16 a0_17 (by omega) hl vs.length _ 0 o (by omega) (by omega) (by omega)
theorem SeepHolds : bournelaw20_SeepHolds.Pure := by
  intro a0_0 a0_1 a0_2 a0_3 l0_4 l0_5 l0_6 a0_7 a0_8 a0_9 a0_10 a0_11 a0_12 a0_13 a0_14 a0_15 a0_16 a0_17 o vs
  intro _ _ _ _ _ _ _ _ _ _ _ _ _ _ _ _ _ _ _ _ _ hl _
  have hm : maxLen ≤ 9223372036854775807 := by decide
  exact ⟨_, holds vs a0_0 a0_1 a0_2 a0_3 l0_4 l0_5 l0_6 a0_7 a0_8 a0_9 a0_10 a0_11 a0_12 a0_13 a0_14 a0_15 a0_16 a0_17 o (by omega)⟩
end Go.Proofs.Ytacpiaiohcblfaa.Pure
