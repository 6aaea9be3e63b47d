import Derived.Test.YtmkekbehipaopaaCurveRef
import Derived.Test.YtmkekbehipaopaaRdT
import Derived.Test.YtmkekbehipaopaaFn14
set_option maxRecDepth 100000
set_option linter.unusedVariables false
namespace Go.Proofs.Ytmkekbehipaopaa.Pure
open Go.RowKit Go.Proofs.Ytmkekbehipaopaa.Fn Go.Proofs.Ytmkekbehipaopaa.Rd Go.Proofs.Ytmkekbehipaopaa.Div Go.Proofs.Ytmkekbehipaopaa.Exact Go.Proofs.Ytmkekbehipaopaa.Curve Go.Proofs.YtmkekbehipaopaaW.PrintWords Go.Proofs.YtmkekbehipaopaaW.PrintLast Go.Proofs.YtmkekbehipaopaaW.PrintMore

theorem tells (k : Nat) (hk : 500 ≤ k) (l0 l1 : List S37) (a2 a3 a4 a5 : Int) : bournelaw10_CurveTells.f k l0 l1 a2 a3 a4 a5 = some true := by
  obtain ⟨k, rfl⟩ : ∃ m, k = m + 2 := ⟨k - 2, by omega⟩
  unfold bournelaw10_CurveTells.f bournelaw10_small.f
  rw [bs]
  have bad : bournelaw10_CurveTells.j0 (k + 2) l0 l1 a2 a3 a4 a5 true true = some true := by
    simp only [bournelaw10_CurveTells.j0]; rw [if_pos trivial]
  by_cases h0 : (l0.length : Int) > 40
  · rw [if_pos h0]; exact bad
  · rw [if_neg h0]
    by_cases h1 : (l1.length : Int) > 40
    · rw [decide_eq_true h1]; exact bad
    · rw [decide_eq_false h1]
      simp only [bournelaw10_CurveTells.j0]
      rw [if_neg (by decide), Least_spec l0 a3 _ (by omega) (by omega), bs, ref_least l0 a3 _ (by omega) (by omega), bs, if_pos rfl]
      rw [if_neg (by simp), right_spec l0 _ (by omega) (by omega), bs, ref_right l0 _ (by omega) (by omega), bs, if_neg (by simp)]
      rw [At_spec l0 a2 _ (by omega) (by omega), bs, ref_At l0 a2 _ (by omega) (by omega), bs, bne_self_eq_false]
      simp only [bournelaw10_CurveTells.j1]
      rw [if_neg (by decide), if_pos trivial]
      obtain ⟨s, hs, hsi⟩ := Slope_spec l0 a4 a5 k (by omega) (by omega)
      obtain ⟨s', hs', hsi'⟩ := ref_slope l0 a4 a5 k (by omega) (by omega)
      have e : s' = s := by rw [Bool.eq_iff_iff, hsi', hsi]
      subst e
      rw [hs, bs, hs', bs, if_pos (by simp)]
      obtain ⟨u, hu, hui⟩ := Under_spec l0 l1 k (by omega) (by omega) (by omega)
      obtain ⟨u', hu', hui'⟩ := ref_under l0 l1 k (by omega) (by omega) (by omega)
      have e : u' = u := by rw [Bool.eq_iff_iff, hui', hui]
      subst e
      rw [hu, bs, hu', bs, if_pos (by simp), Band_spec l0 l1 a2 k (by omega) (by omega) (by omega), bs, ref_band l0 l1 a2 k (by omega) (by omega) (by omega), bs]
      simp
theorem CurveTells : bournelaw10_CurveTells.Pure :=
  fun l0 l1 a2 a3 a4 a5 _ _ _ _ _ _ _ _ => ⟨500, tells 500 (Nat.le_refl _) l0 l1 a2 a3 a4 a5⟩
end Go.Proofs.Ytmkekbehipaopaa.Pure
