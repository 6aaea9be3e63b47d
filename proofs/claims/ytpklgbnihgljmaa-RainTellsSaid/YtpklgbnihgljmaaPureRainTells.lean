import Derived.Test.YtpklgbnihgljmaaRain
import Derived.Test.YtpklgbnihgljmaaFn13
set_option maxRecDepth 100000
set_option linter.unusedVariables false
namespace Go.Proofs.Ytpklgbnihgljmaa.Pure
open Go.RowKit Go.Proofs.Ytpklgbnihgljmaa.Fn Go.Proofs.Ytpklgbnihgljmaa.Rd Go.Proofs.Ytpklgbnihgljmaa.Div Go.Proofs.Ytpklgbnihgljmaa.Exact Go.Proofs.Ytpklgbnihgljmaa.Rain Go.Proofs.YtpklgbnihgljmaaW.PrintWords Go.Proofs.YtpklgbnihgljmaaW.PrintLast Go.Proofs.YtpklgbnihgljmaaW.PrintMore

theorem RainTells : bournelaw26_RainTells.Pure := by
  intro a0_0 l0_1 a0_2 l0_3 l0_4 l0_5 l0_6 l0_7 l0_8 l0_9 a0_10 l1 a2 l3 l4
  intros
  rename_i hw
  have hok : ∀ x, x ∈ l4 → ok x.f0 ∧ ok x.f1 := fun x hx => ⟨ok_of (hw x hx).1, ok_of (hw x hx).2⟩
  refine ⟨20000, ?_⟩
  unfold bournelaw26_RainTells.f bournelaw26_small.f
  rw [bs]
  obtain ⟨t, e1, e2⟩ := few_spec 20000 (by omega) a0_0 l0_1 a0_2 l0_3 l0_4 l0_5 l0_6 l0_7 l0_8 l0_9 a0_10 l3 l4
  rw [e1, bs]
  cases t with
  | false => rw [if_neg (by decide)]
  | true =>
    obtain ⟨hp, hr, hc⟩ := e2 rfl
    have hp1 := hp.1
    have lc : (cells l0_6 (ncell a0_2) l1 a2 l3).length ≤ 1000 := by
      have := ncell_le a0_2
      unfold cells; rw [List.length_map, List.length_range]; omega
    have lm : (l0_3.map (place l4)).length ≤ 1000 := by rw [List.length_map]; omega
    rw [if_pos rfl, prog_cells _ a0_0 l0_1 a0_2 l0_3 l0_4 l0_5 l0_6 l0_7 l0_8 l0_9 a0_10 l1 a2 l3 (by omega) (by omega), bs, ref_cells _ a0_0 l0_1 a0_2 l0_3 l0_4 l0_5 l0_6 l0_7 l0_8 l0_9 a0_10 l1 a2 l3 (by omega) (by omega), bs, same_self _ _ lc (by omega), bs, prog_mesh _ (by omega) a0_0 l0_1 a0_2 l0_3 l0_4 l0_5 l0_6 l0_7 l0_8 l0_9 a0_10 l4 hp, bs, ref_mesh _ (by omega) a0_0 l0_1 a0_2 l0_3 l0_4 l0_5 l0_6 l0_7 l0_8 l0_9 a0_10 l4 hp, bs, same_self _ _ lm (by omega), bs]
    rw [if_pos rfl, if_pos rfl, if_pos rfl, prog_sum _ (by omega) l4 (by omega) hok, bs, ref_sum _ (by omega) l4 (by omega) hok, bs]
    simp
end Go.Proofs.Ytpklgbnihgljmaa.Pure
