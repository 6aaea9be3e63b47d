import Derived.Test.YtacpiaiohcblfaaSeep
import Derived.Test.YtacpiaiohcblfaaRdT
import Derived.Test.YtacpiaiohcblfaaFn11
set_option maxRecDepth 100000
set_option linter.unusedVariables false
namespace Go.Proofs.Ytacpiaiohcblfaa.Pure
open Go.RowKit Go.Proofs.Ytacpiaiohcblfaa.Fn Go.Proofs.Ytacpiaiohcblfaa.Rd Go.Proofs.Ytacpiaiohcblfaa.Div Go.Proofs.Ytacpiaiohcblfaa.Exact Go.Proofs.Ytacpiaiohcblfaa.Seep Go.Proofs.YtacpiaiohcblfaaW.PrintWords Go.Proofs.YtacpiaiohcblfaaW.PrintLast Go.Proofs.YtacpiaiohcblfaaW.PrintMore

theorem turns (k : Nat) (hk : 100 ≤ k) (a0_0 : ByteArray) (a0_1 a0_2 a0_3 : Int) (l0_4 l0_5 l0_6 : List (S90)) (a0_7 a0_8 a0_9 a0_10 a0_11 a0_12 a0_13 a0_14 a0_15 a0_16 a0_17 : Int) (f t : Int) : bournelaw20_SeepTurns.f k a0_0 a0_1 a0_2 a0_3 l0_4 l0_5 l0_6 a0_7 a0_8 a0_9 a0_10 a0_11 a0_12 a0_13 a0_14 a0_15 a0_16 a0_17 f t = some true := by
  obtain ⟨k, rfl⟩ : ∃ m, k = m + 1 := ⟨k - 1, by omega⟩
  unfold bournelaw20_SeepTurns.f bournelaw20_small.f
  rw [bs, ask_spec _ (by omega), bs, ask_spec _ (by omega), bs]
  have e : sask a0_1 a0_15 a0_16 a0_11 a0_12 t f = -sask a0_1 a0_11 a0_12 a0_15 a0_16 f t := by unfold sask; split <;> omega
  have hb := ask_bound a0_1 a0_11 a0_12 a0_15 a0_16 f t
  have h1 : f < 0 ∨ 0 ≤ f := by omega
  have key : ¬ a0_11 > a0_12 → ¬ a0_15 > a0_16 → ¬ f < 0 → ¬ t < 0 → sask a0_1 a0_11 a0_12 a0_15 a0_16 f t ≤ f ∧ -sask a0_1 a0_11 a0_12 a0_15 a0_16 f t ≤ t := by
    intro g1 g2 g3 g4
    have p1 := part_bound f a0_11 a0_12
    have p2 := part_bound t a0_15 a0_16
    have p3 := part_self (v := f) (by omega) (show a0_11 ≤ a0_12 by omega)
    have p4 := part_self (v := t) (by omega) (show a0_15 ≤ a0_16 by omega)
    unfold sask; split <;> omega
  rw [e]
  generalize sask a0_1 a0_11 a0_12 a0_15 a0_16 f t = d at *
  rw [wis (-d) (by omega), if_pos rfl]
  have bad : bournelaw20_SeepTurns.j0 (k + 1) f t true d true = some true := by
    simp only [bournelaw20_SeepTurns.j0]; rw [if_pos trivial]
  by_cases g1 : a0_11 > a0_12
  · rw [if_pos g1]; exact bad
  rw [if_neg g1]
  by_cases g2 : a0_15 > a0_16
  · rw [if_pos g2]; exact bad
  rw [if_neg g2]
  by_cases g3 : f < 0
  · rw [if_pos g3]; exact bad
  rw [if_neg g3]
  by_cases g4 : t < 0
  · rw [decide_eq_true g4]; exact bad
  rw [decide_eq_false g4]
  have q := key g1 g2 g3 g4
  simp only [bournelaw20_SeepTurns.j0]
  rw [if_neg (by decide), if_pos trivial, if_pos q.1, wis (-d) (by omega), decide_eq_true q.2]
theorem SeepTurns : bournelaw20_SeepTurns.Pure := by
  intro a0_0 a0_1 a0_2 a0_3 l0_4 l0_5 l0_6 a0_7 a0_8 a0_9 a0_10 a0_11 a0_12 a0_13 a0_14 a0_15 a0_16 a0_17 f t
  intros
  exact ⟨100, turns 100 (Nat.le_refl _) a0_0 a0_1 a0_2 a0_3 l0_4 l0_5 l0_6 a0_7 a0_8 a0_9 a0_10 a0_11 a0_12 a0_13 a0_14 a0_15 a0_16 a0_17 f t⟩
end Go.Proofs.Ytacpiaiohcblfaa.Pure
