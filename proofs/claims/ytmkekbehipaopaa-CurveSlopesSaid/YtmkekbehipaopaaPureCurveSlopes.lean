import Derived.Test.YtmkekbehipaopaaCurveMore
import Derived.Test.YtmkekbehipaopaaRdT
import Derived.Test.YtmkekbehipaopaaFn16
set_option maxRecDepth 100000
set_option linter.unusedVariables false
namespace Go.Proofs.Ytmkekbehipaopaa.Pure
open Go.RowKit Go.Proofs.Ytmkekbehipaopaa.Fn Go.Proofs.Ytmkekbehipaopaa.Rd Go.Proofs.Ytmkekbehipaopaa.Div Go.Proofs.Ytmkekbehipaopaa.Exact Go.Proofs.Ytmkekbehipaopaa.Curve Go.Proofs.YtmkekbehipaopaaW.PrintWords Go.Proofs.YtmkekbehipaopaaW.PrintLast Go.Proofs.YtmkekbehipaopaaW.PrintMore

theorem Sl_more {l : List S37} {nu de : Int} (h : Sl l nu de) (hn : nu < 1125899906842624) : Sl l (nu + 1) de := by
  refine ⟨h.1, by have := h.2.1; omega, by omega, h.2.2.2.1, h.2.2.2.2.1, fun j h1 h2 => ?_⟩
  have a := h.2.2.2.2.2 j h1 h2
  have b := ((h.1.1 j h2).2 h1).1
  have c : 0 ≤ len l j := by unfold len; omega
  rw [Int.add_mul]; omega
theorem Sl_less {l : List S37} {nu de : Int} (h : Sl l nu de) (hn : de > 1) : Sl l nu (de - 1) := by
  refine ⟨h.1, h.2.1, h.2.2.1, by omega, by have := h.2.2.2.2.1; omega, fun j h1 h2 => ?_⟩
  have a := h.2.2.2.2.2 j h1 h2
  have b := ((h.1.1 j h2).2 h1).2
  have c : 0 ≤ dy l j := by unfold dy; omega
  rw [Int.mul_sub]; omega
theorem part_get (l : List S37) (i : Nat) (h0 : 0 < i) (hi : i < l.length) : ((l.take (i + 1)).drop (i - 1)).length = 2 ∧ ((l.take (i + 1)).drop (i - 1)).getD 0 z37 = l.getD (i - 1) z37 ∧ ((l.take (i + 1)).drop (i - 1)).getD 1 z37 = l.getD i z37 := by
  refine ⟨by rw [List.length_drop, List.length_take]; omega, ?_, ?_⟩
  · rw [List.getD_eq_getElem?_getD, List.getElem?_drop, List.getElem?_take, if_pos (by omega), List.getD_eq_getElem?_getD, Nat.add_zero]
  · rw [List.getD_eq_getElem?_getD, List.getElem?_drop, List.getElem?_take, if_pos (by omega), List.getD_eq_getElem?_getD, show i - 1 + 1 = i by omega]
theorem Sl_part {l : List S37} {nu de : Int} (h : Sl l nu de) (i : Nat) (h0 : 0 < i) (hi : i < l.length) : Sl ((l.take (i + 1)).drop (i - 1)) nu de := by
  obtain ⟨e1, e2, e3⟩ := part_get l i h0 hi
  have p1 := (h.1.1 i hi)
  have p2 := (h.1.1 (i - 1) (by omega)).1
  have c := p1.2 h0
  have d := h.2.2.2.2.2 i h0 hi
  generalize (l.take (i + 1)).drop (i - 1) = m at *
  have x0 : px m 0 = px l (i - 1) := by unfold px; rw [e2]
  have y0 : py m 0 = py l (i - 1) := by unfold py; rw [e2]
  have x1 : px m 1 = px l i := by unfold px; rw [e3]
  have y1 : py m 1 = py l i := by unfold py; rw [e3]
  refine ⟨⟨fun j hj => ?_, by omega, by omega⟩, h.2.1, h.2.2.1, h.2.2.2.1, h.2.2.2.2.1, fun j h1 h2 => ?_⟩
  · have : j = 0 ∨ j = 1 := by omega
    rcases this with rfl | rfl
    · exact ⟨by rw [x0, y0]; exact p2, fun e => by omega⟩
    · exact ⟨by rw [x1, y1]; exact p1.1, fun _ => by rw [show 1 - 1 = 0 from rfl, x0, y0, x1, y1]; exact c⟩
  · have : j = 1 := by omega
    subst this
    unfold dy len at *
    rw [show 1 - 1 = 0 from rfl, x0, y0, x1, y1]; exact d
theorem slopes_j4 (k : Nat) (hk : 300 ≤ k) {l : List S37} {nu de : Int} (h : Sl l nu de) (x d q : Int) (b : Bool) (hx : 0 ≤ x) (hx2 : x ≤ 1125899906842624) (hd : 0 ≤ d) (hd2 : d ≤ 1125899906842624) (hq : b = true → d * nu ≤ q * de) : bournelaw10_CurveSlopes.j4 (k + 1) l x d true q b = some true := by
  have hn := h.1.2.1
  have hn2 := h.1.2.2
  simp only [bournelaw10_CurveSlopes.j4]
  rw [if_pos trivial]
  cases b with
  | false => rw [if_neg (by decide)]
  | true =>
    rw [if_pos rfl, wis (x + d) (by omega), At_spec l _ _ (by omega) (by omega), bs, At_spec l _ _ (by omega) (by omega), bs, rb_true h.1, if_pos rfl, if_pos rfl]
    have r := rise h x (x + d) (by omega)
    have v1 := (V_low h.1 x).1
    have v2 := (V_high h.1 x).1
    have v3 := (V_low h.1 (x + d)).1
    have v4 := (V_high h.1 (x + d)).1
    have p1 := (h.1.1 0 hn).1
    have p2 := (h.1.1 (l.length - 1) (by omega)).1
    rw [wis (V l (x + d) - V l x) (by omega)]
    have hde : 0 ≤ de := by have := h.2.2.2.1; omega
    have e : (V l (x + d) - V l x - 1) * de < q * de := by
      have := hq rfl
      rw [show x + d - x = d by omega, Int.mul_comm] at r
      rw [Int.mul_comm nu d] at r
      rw [Int.mul_comm]
      omega
    have := Int.lt_of_mul_lt_mul_right e hde
    rw [decide_eq_true (by omega)]
theorem slopes_l0 (l : List S37) (nu de x d : Int) (s : Bool) (hs : s = true ↔ Sl l nu de) (hl : l.length ≤ 40) (hx : 0 ≤ x) (hx2 : x ≤ 1125899906842624) (hd : 0 ≤ d) (hd2 : d ≤ 1125899906842624) : ∀ (n k i : Nat), l.length - i = n → 1 ≤ i → 2 * n + 400 ≤ k → i ≤ l.length ∨ l.length = 0 →
    bournelaw10_CurveSlopes.l0 k l nu de x d true s (i : Int) = some true := by
  have fin : ∀ (k : Nat) (i : Int), 350 ≤ k → bournelaw10_CurveSlopes.j3 (k + 1) l nu de x d true s i false = some true := by
    intro k i hk
    simp only [bournelaw10_CurveSlopes.j3]
    rw [if_neg (by decide)]
    cases s with
    | false => rw [if_neg (by decide)]
    | true =>
      have h := hs.1 rfl
      obtain ⟨k, rfl⟩ : ∃ m, k = m + 1 := ⟨k - 1, by omega⟩
      rw [if_pos rfl, scale_spec _ (by omega), bs]
      by_cases hf : fits d nu de
      · rw [sc_true hf]
        have hde := h.2.2.2.1
        have e := Int.mul_ediv_add_emod (d * nu) de
        have r0 := Int.emod_nonneg (d * nu) (show de ≠ 0 by omega)
        have r1 := Int.emod_lt_of_pos (d * nu) (show 0 < de by omega)
        have q1 := hf.2.2.2.2.2.2
        have q0 := Int.ediv_nonneg (Int.mul_nonneg hd h.2.1) (show 0 ≤ de by omega)
        rw [Int.mul_comm] at e
        dsimp only
        by_cases hr : d * nu % de > 0
        · rw [if_pos hr, wis _ (by omega)]
          exact slopes_j4 k (by omega) h x d _ _ hx hx2 hd hd2 (fun _ => by rw [Int.add_mul]; omega)
        · rw [if_neg hr]
          exact slopes_j4 k (by omega) h x d _ _ hx hx2 hd hd2 (fun _ => by omega)
      · rw [sc_false hf]
        dsimp only
        rw [if_neg (by decide)]
        exact slopes_j4 k (by omega) h x d _ _ hx hx2 hd hd2 (fun e => (by cases e))
  intro n
  induction n with
  | zero =>
    intro k i hn hi hk hle
    obtain ⟨k, rfl⟩ : ∃ m, k = m + 2 := ⟨k - 2, by omega⟩
    simp only [bournelaw10_CurveSlopes.l0]
    rw [if_neg (by omega)]
    exact fin k _ (by omega)
  | succ n ih =>
    intro k i hn hi hk hle
    obtain ⟨k, rfl⟩ : ∃ m, k = m + 2 := ⟨k - 2, by omega⟩
    have hlt : i < l.length := by omega
    simp only [bournelaw10_CurveSlopes.l0]
    rw [if_pos (by omega), right_spec l _ (by omega) (by omega), bs]
    by_cases hR : R l
    · rw [rb_true hR]
      simp only [bournelaw10_CurveSlopes.j3]
      rw [if_pos trivial, wis ((i : Int) - 1) (by omega), wis ((i : Int) + 1) (by omega), if_pos (by omega), if_pos (by omega), if_pos (by omega)]
      rw [show ((i : Int) + 1).toNat = i + 1 by omega, show ((i : Int) - 1).toNat = i - 1 by omega]
      obtain ⟨r, hr, hri⟩ := Slope_spec ((l.take (i + 1)).drop (i - 1)) nu de k (by rw [(part_get l i (by omega) hlt).1]; omega) (by omega)
      have nx := ih k (i + 1) (by omega) (by omega) (by omega) (by omega)
      rw [hr, bs, show (i : Int) + 1 = ((i + 1 : Nat) : Int) from rfl]
      cases s with
      | false => rw [if_neg (by decide)]; exact nx
      | true =>
        have hr1 := hri.2 (Sl_part (hs.1 rfl) i (by omega) hlt)
        subst hr1
        rw [if_pos rfl, if_pos rfl]; exact nx
    · rw [rb_false hR]; exact fin k _ (by omega)
theorem slopes (k : Nat) (hk : 700 ≤ k) (l : List S37) (nu de x d : Int) (h1 : ok nu) (h2 : ok de) : bournelaw10_CurveSlopes.f k l nu de x d = some true := by
  obtain ⟨k, rfl⟩ : ∃ m, k = m + 2 := ⟨k - 2, by omega⟩
  unfold bournelaw10_CurveSlopes.f bournelaw10_small.f
  unfold ok at h1 h2
  rw [bs]
  have bad : bournelaw10_CurveSlopes.j0 (k + 2) l nu de x d true true = some true := by
    simp only [bournelaw10_CurveSlopes.j0]; rw [if_pos trivial]
  by_cases h0 : (l.length : Int) > 40
  · rw [if_pos h0]; exact bad
  rw [if_neg h0]
  by_cases x0 : x < 0
  · rw [if_pos x0]; exact bad
  rw [if_neg x0]
  by_cases x1 : x > 1125899906842624
  · rw [if_pos x1]; exact bad
  rw [if_neg x1]
  by_cases d0 : d < 0
  · rw [if_pos d0]; exact bad
  rw [if_neg d0]
  by_cases d1 : d > 1125899906842624
  · rw [decide_eq_true d1]; exact bad
  rw [decide_eq_false d1]
  simp only [bournelaw10_CurveSlopes.j0]
  obtain ⟨s, hs, hsi⟩ := Slope_spec l nu de (k + 1) (by omega) (by omega)
  rw [if_neg (by decide), hs, bs]
  have fin : bournelaw10_CurveSlopes.j1 (k + 1) l nu de x d true s false = some true := by
    simp only [bournelaw10_CurveSlopes.j1]
    rw [if_neg (by decide)]
    exact slopes_l0 l nu de x d s hsi (by omega) (by omega) (by omega) (by omega) (by omega) (l.length - 1) k 1 rfl (Nat.le_refl 1) (by omega) (by omega)
  cases s with
  | false => rw [if_neg (by decide)]; exact fin
  | true =>
    have h := hsi.1 rfl
    have second : (if de > 1 then (curve_Slope.f (k + 1) l nu (wrap64 (de - 1))).bind fun t287 => bournelaw10_CurveSlopes.j1 (k + 1) l nu de x d true true (!t287) else bournelaw10_CurveSlopes.j1 (k + 1) l nu de x d true true false) = some true := by
      by_cases g : de > 1
      · obtain ⟨r, hr, hri⟩ := Slope_spec l nu (de - 1) (k + 1) (by omega) (by omega)
        have hr1 := hri.2 (Sl_less h g)
        subst hr1
        rw [if_pos g, wis _ (by omega), hr, bs]; exact fin
      · rw [if_neg g]; exact fin
    rw [if_pos rfl]
    by_cases g : nu < 1125899906842624
    · obtain ⟨r, hr, hri⟩ := Slope_spec l (nu + 1) de (k + 1) (by omega) (by omega)
      have hr1 := hri.2 (Sl_more h g)
      subst hr1
      rw [if_pos g, wis _ (by omega), hr, bs, if_pos rfl]; exact second
    · rw [if_neg g]; exact second
theorem CurveSlopes : bournelaw10_CurveSlopes.Pure :=
  fun l0 a1 a2 a3 a4 _ _ h1 h2 _ _ => ⟨700, slopes 700 (Nat.le_refl _) l0 a1 a2 a3 a4 (ok_of h1) (ok_of h2)⟩
end Go.Proofs.Ytmkekbehipaopaa.Pure
