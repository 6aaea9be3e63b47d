import Derived.Test.YtmkekbehipaopaaCurveMore
import Derived.Test.YtmkekbehipaopaaRdT
import Derived.Test.YtmkekbehipaopaaFn15
set_option maxRecDepth 100000
set_option linter.unusedVariables false
namespace Go.Proofs.Ytmkekbehipaopaa.Pure
open Go.RowKit Go.Proofs.Ytmkekbehipaopaa.Fn Go.Proofs.Ytmkekbehipaopaa.Rd Go.Proofs.Ytmkekbehipaopaa.Div Go.Proofs.Ytmkekbehipaopaa.Exact Go.Proofs.Ytmkekbehipaopaa.Curve Go.Proofs.YtmkekbehipaopaaW.PrintWords Go.Proofs.YtmkekbehipaopaaW.PrintLast Go.Proofs.YtmkekbehipaopaaW.PrintMore

theorem inv_end (k : Nat) (hk : 300 ≤ k) {l : List S37} (h : R l) (x y : Int) : bournelaw10_CurveInverse.l0 (k + 2) l x y true (V l x) (l.length : Int) (l.length : Int) = some true := by
  have hn := h.2.1
  have hn2 := h.2.2
  simp only [bournelaw10_CurveInverse.l0]
  rw [if_neg (by omega), Least_spec l y _ (by omega) (by omega), bs, rb_true h, if_pos rfl, wis _ (by omega), show (l.length : Int) - 1 = ((l.length - 1 : Nat) : Int) by omega, if_pos (by omega), if_pos (by omega), rd1]
  have hf := idy_full h y
  by_cases h1 : idy l y = l.length
  · have := hf.1 h1
    rw [if_pos h1]
    dsimp only
    rw [decide_eq_false (by omega), if_neg (by decide), if_neg (by decide)]
    simp only [bournelaw10_CurveInverse.j4]
    rw [if_neg (by decide), if_pos trivial]
    have hv := (V_high h x).1
    rw [decide_eq_false (show ¬ V l x ≥ y by omega)]
    by_cases hx : x < 0
    · rw [if_pos hx]
    · rw [if_neg hx, if_neg (by decide)]; rfl
  · have h2 : ¬ py l (l.length - 1) < y := fun e => h1 (hf.2 e)
    have hL := L_nn h y h1
    rw [if_neg h1]
    dsimp only
    rw [decide_eq_true (show y ≤ py l (l.length - 1) by omega), if_neg (by decide), if_pos rfl, if_neg (by omega), At_spec l _ _ (by omega) (by omega), bs, rb_true h, if_pos rfl]
    have g1 := (galois h y (L l y) hL h1).2 (Int.le_refl _)
    rw [if_neg (by omega)]
    have fin : bournelaw10_CurveInverse.j4 (k + 1) x y true (V l x) (L l y) true false = some true := by
      simp only [bournelaw10_CurveInverse.j4]
      rw [if_neg (by decide), if_pos trivial]
      by_cases hx : x < 0
      · rw [if_pos hx]
      · rw [if_neg hx, if_pos trivial]
        have g := galois h y x (by omega) h1
        have e : decide (V l x ≥ y) = decide (L l y ≤ x) := by rw [decide_eq_decide]; exact g
        rw [e]; simp
    by_cases h3 : L l y > 0
    · have hLm : L l y ≤ px l (l.length - 1) := (galois h y _ (by have := (h.1 (l.length - 1) (by omega)).1; omega) h1).1 (by rw [(val_point h _ (by omega)).1]; omega)
      have p := (h.1 (l.length - 1) (by omega)).1
      have g2 := galois h y (L l y - 1) (by omega) h1
      rw [if_pos h3, wis (L l y - 1) (by omega), At_spec l _ _ (by omega) (by omega), bs, rb_true h, if_pos rfl, decide_eq_false (show ¬ V l (L l y - 1) ≥ y by omega)]
      exact fin
    · rw [if_neg h3]; exact fin
theorem inv_l0 {l : List S37} (h : R l) (x y : Int) : ∀ (d k i : Nat), l.length - i = d → i ≤ l.length → 2 * d + 302 ≤ k → bournelaw10_CurveInverse.l0 k l x y true (V l x) (l.length : Int) (i : Int) = some true := by
  intro d
  have hn2 := h.2.2
  induction d with
  | zero =>
    intro k i hd hi hk
    obtain ⟨k, rfl⟩ : ∃ m, k = m + 2 := ⟨k - 2, by omega⟩
    have e : i = l.length := by omega
    subst e
    exact inv_end k (by omega) h x y
  | succ d ih =>
    intro k i hd hi hk
    obtain ⟨k, rfl⟩ : ∃ m, k = m + 2 := ⟨k - 2, by omega⟩
    have hlt : i < l.length := by omega
    have hp := (val_point h i hlt).1
    simp only [bournelaw10_CurveInverse.l0]
    rw [if_pos (by omega), if_pos (by omega), if_pos (by omega), rd0, rd1, At_spec l _ _ (by omega) (by omega), bs, rb_true h, if_pos rfl, if_pos hp]
    have fin : bournelaw10_CurveInverse.j3 (k + 1) l x y true (V l x) (l.length : Int) (i : Int) false = some true := by
      simp only [bournelaw10_CurveInverse.j3]
      rw [if_neg (by decide), wis _ (by omega), show (i : Int) + 1 = ((i + 1 : Nat) : Int) from rfl]
      exact ih k (i + 1) (by omega) (by omega) (by omega)
    by_cases h1 : x ≤ px l i
    · have := V_mono h x _ h1
      rw [if_pos h1, if_neg (by omega)]
      by_cases h2 : x ≥ px l i
      · have := V_mono h _ x h2
        rw [if_pos h2, decide_eq_false (by omega)]; exact fin
      · rw [if_neg h2]; exact fin
    · have h2 : x ≥ px l i := by omega
      have := V_mono h _ x h2
      rw [if_neg h1, if_pos h2, decide_eq_false (by omega)]; exact fin
theorem inverse (k : Nat) (hk : 500 ≤ k) (l : List S37) (x z y : Int) : bournelaw10_CurveInverse.f k l x z y = some true := by
  obtain ⟨k, rfl⟩ : ∃ m, k = m + 2 := ⟨k - 2, by omega⟩
  unfold bournelaw10_CurveInverse.f bournelaw10_small.f
  rw [bs]
  have bad : bournelaw10_CurveInverse.j0 (k + 2) l x z y true true = some true := by
    simp only [bournelaw10_CurveInverse.j0]; rw [if_pos trivial]
  by_cases h0 : (l.length : Int) > 40
  · rw [if_pos h0]; exact bad
  · rw [if_neg h0, right_spec l _ (by omega) (by omega), bs]
    by_cases h : R l
    · rw [rb_true h, if_pos rfl]
      by_cases hx : x > z
      · rw [decide_eq_true hx]; exact bad
      · rw [decide_eq_false hx]
        have hn := h.2.1
        have hm := V_mono h x z (by omega)
        have hlo := (V_low h x).1
        have hhi := (V_high h x).1
        simp only [bournelaw10_CurveInverse.j0]
        rw [if_neg (by decide), At_spec l x _ (by omega) (by omega), bs, At_spec l z _ (by omega) (by omega), bs, rb_true h, if_pos rfl, if_pos rfl, if_neg (by omega), if_pos (by omega), show (0 : Int) = ((0 : Nat) : Int) from rfl, rd1, if_neg (by omega), wis _ (by omega), show (l.length : Int) - 1 = ((l.length - 1 : Nat) : Int) by omega, if_pos (by omega), if_pos (by omega), rd1, decide_eq_false (by omega)]
        simp only [bournelaw10_CurveInverse.j1]
        rw [if_neg (by decide)]
        exact inv_l0 h x y l.length k 0 (by omega) (by omega) (by omega)
    · rw [rb_false h, if_neg (by decide)]; exact bad
theorem CurveInverse : bournelaw10_CurveInverse.Pure :=
  fun l0 a1 a2 a3 _ _ _ _ _ => ⟨500, inverse 500 (Nat.le_refl _) l0 a1 a2 a3⟩
end Go.Proofs.Ytmkekbehipaopaa.Pure
