import Derived.Test.YtmkekbehipaopaaCurveMore
import Derived.Test.YtmkekbehipaopaaRdT
import Derived.Test.YtmkekbehipaopaaFn17
set_option maxRecDepth 100000
set_option linter.unusedVariables false
namespace Go.Proofs.Ytmkekbehipaopaa.Pure
open Go.RowKit Go.Proofs.Ytmkekbehipaopaa.Fn Go.Proofs.Ytmkekbehipaopaa.Rd Go.Proofs.Ytmkekbehipaopaa.Div Go.Proofs.Ytmkekbehipaopaa.Exact Go.Proofs.Ytmkekbehipaopaa.Curve Go.Proofs.YtmkekbehipaopaaW.PrintWords Go.Proofs.YtmkekbehipaopaaW.PrintLast Go.Proofs.YtmkekbehipaopaaW.PrintMore

theorem ord_j3 (k : Nat) (hk : 300 ≤ k) {a b : List S37} (ha : R a) (hb : R b) (x : Int) (u : Bool) (hu : u = true → Un a b) : bournelaw10_CurveOrders.j3 (k + 1) a b x true u (V a x) (V b x) false = some true := by
  have h1 := ha.2.2
  have h2 := hb.2.2
  simp only [bournelaw10_CurveOrders.j3]
  rw [if_neg (by decide), Band_spec a b x k (by omega) (by omega) (by omega), bs, rb_true ha, rb_true hb, if_pos rfl, if_pos rfl, if_pos trivial]
  dsimp only
  rw [if_pos rfl, if_pos rfl]
  cases u with
  | false => rw [if_neg (by decide)]
  | true =>
    have g := (under_all (hu rfl) x).1
    have e1 : mn (V a x) (V b x) = V a x := by unfold mn; rw [if_neg (by omega)]
    have e2 : mx (V a x) (V b x) = V b x := by unfold mx; split <;> omega
    rw [if_pos rfl, e1, e2]; simp
theorem least_le {a b : List S37} (h : Un a b) (y : Int) (h1 : idy a y ≠ a.length) : idy b y ≠ b.length ∧ L b y ≤ L a y := by
  have ha := h.1
  have hb := h.2.1
  have hL := L_nn ha y h1
  have g := (galois ha y (L a y) hL h1).2 (Int.le_refl _)
  have v := (under_all h (L a y)).1
  have w := (V_high hb (L a y)).1
  have e : idy b y ≠ b.length := fun e => by have := (idy_full hb y).1 e; omega
  exact ⟨e, (galois hb y _ hL e).1 (by omega)⟩
theorem ord_j2 (k : Nat) (hk : 300 ≤ k) {a b : List S37} (ha : R a) (hb : R b) (x y : Int) (u : Bool) (hu : u = true → Un a b) (l : Int) (one : Bool) (m : Int) (two : Bool)
    (e1 : (l, one) = (if idy a y = a.length then (0, false) else (L a y, true))) (e2 : (m, two) = (if idy b y = b.length then (0, false) else (L b y, true))) :
    bournelaw10_CurveOrders.j2 (k + 2) a b x true u (V a x) (V b x) l one m two false = some true := by
  have h1 := ha.2.2
  have h2 := hb.2.2
  simp only [bournelaw10_CurveOrders.j2]
  rw [if_neg (by decide)]
  have fin := ord_j3 k hk ha hb x u hu
  cases u with
  | false => rw [if_neg (by decide)]; exact fin
  | true =>
    rw [if_pos rfl]
    obtain ⟨r, hr, hri⟩ := Under_spec b a (k + 1) (by omega) (by omega) (by omega)
    rw [hr, bs]
    cases r with
    | false => rw [if_neg (by decide)]; exact fin
    | true =>
      have hba := hri.1 rfl
      have hab := hu rfl
      have v1 := (under_all hab x).1
      have v2 := (under_all hba x).1
      rw [if_pos rfl, if_pos (by omega)]
      have e : (l, one) = (m, two) := by
        rw [e1, e2]
        by_cases g1 : idy a y = a.length
        · by_cases g2 : idy b y = b.length
          · rw [if_pos g1, if_pos g2]
          · exact absurd g1 (least_le hba y g2).1
        · by_cases g2 : idy b y = b.length
          · exact absurd g2 (least_le hab y g1).1
          · rw [if_neg g1, if_neg g2]
            have q1 := (least_le hba y g2).2
            have q2 := (least_le hab y g1).2
            congr 1; omega
      injection e with e3 e4
      subst e3 e4
      rw [if_neg (by simp), bne_self_eq_false]
      exact fin
theorem orders (k : Nat) (hk : 600 ≤ k) (a b c : List S37) (x y : Int) : bournelaw10_CurveOrders.f k a b c x y = some true := by
  obtain ⟨k, rfl⟩ : ∃ m, k = m + 4 := ⟨k - 4, by omega⟩
  unfold bournelaw10_CurveOrders.f bournelaw10_small.f
  rw [bs]
  have bad : bournelaw10_CurveOrders.j0 (k + 4) a b c x y true true = some true := by
    simp only [bournelaw10_CurveOrders.j0]; rw [if_pos trivial]
  by_cases h0 : (a.length : Int) > 40
  · rw [if_pos h0]; exact bad
  rw [if_neg h0]
  by_cases h1 : (b.length : Int) > 40
  · rw [if_pos h1]; exact bad
  rw [if_neg h1]
  by_cases h2 : (c.length : Int) > 40
  · rw [if_pos h2]; exact bad
  rw [if_neg h2, right_spec a _ (by omega) (by omega), bs]
  by_cases na : ¬ R a
  · rw [rb_false na, if_neg (by decide)]; exact bad
  have ha := Classical.not_not.1 na
  rw [rb_true ha, if_pos rfl, right_spec b _ (by omega) (by omega), bs]
  by_cases nb : ¬ R b
  · rw [rb_false nb, if_neg (by decide)]; exact bad
  have hb := Classical.not_not.1 nb
  rw [rb_true hb, if_pos rfl, right_spec c _ (by omega) (by omega), bs]
  by_cases nc : ¬ R c
  · rw [rb_false nc]; exact bad
  have hc := Classical.not_not.1 nc
  rw [rb_true hc]
  simp only [bournelaw10_CurveOrders.j0]
  rw [if_neg (by decide)]
  obtain ⟨u, hu, hui⟩ := Under_spec a b (k + 3) (by omega) (by omega) (by omega)
  obtain ⟨v, hv, hvi⟩ := Under_spec b c (k + 3) (by omega) (by omega) (by omega)
  obtain ⟨r, hr, hri⟩ := Under_spec a a (k + 3) (by omega) (by omega) (by omega)
  obtain ⟨w, hw, hwi⟩ := Under_spec a c (k + 3) (by omega) (by omega) (by omega)
  have hr1 := hri.2 (under_refl ha)
  subst hr1
  rw [hu, bs, hv, bs, hr, bs, if_pos rfl]
  have fin : bournelaw10_CurveOrders.j1 (k + 3) a b x y true u false = some true := by
    simp only [bournelaw10_CurveOrders.j1]
    rw [if_neg (by decide), At_spec a x _ (by omega) (by omega), bs, At_spec b x _ (by omega) (by omega), bs, rb_true ha, rb_true hb, if_pos rfl, if_pos rfl]
    rw [Least_spec a y _ (by omega) (by omega), bs, Least_spec b y _ (by omega) (by omega), bs, rb_true ha, rb_true hb, if_pos rfl, if_pos rfl]
    generalize hp : (if idy a y = a.length then ((0 : Int), false) else (L a y, true)) = p
    generalize hq : (if idy b y = b.length then ((0 : Int), false) else (L b y, true)) = q
    have fin2 := ord_j2 k (by omega) ha hb x y u (fun e => hui.1 e) p.1 p.2 q.1 q.2 hp.symm hq.symm
    cases u with
    | false => rw [if_neg (by decide)]; exact fin2
    | true =>
      have hab := hui.1 rfl
      have v1 := (under_all hab x).1
      rw [if_pos rfl, if_neg (by omega)]
      by_cases g1 : idy a y = a.length
      · rw [if_pos g1] at hp
        subst hp
        rw [if_neg (by decide)]
        exact fin2
      · have qq := least_le hab y g1
        rw [if_neg g1] at hp
        rw [if_neg qq.1] at hq
        subst hp hq
        rw [if_pos rfl, if_pos rfl, decide_eq_false (show ¬ L b y > L a y by omega)]
        exact fin2
  cases u with
  | false => rw [if_neg (by decide)]; exact fin
  | true =>
    rw [if_pos rfl]
    cases v with
    | false => rw [if_neg (by decide)]; exact fin
    | true =>
      have hw1 := hwi.2 (under_trans (hui.1 rfl) (hvi.1 rfl))
      subst hw1
      rw [if_pos rfl, hw, bs]; exact fin
theorem CurveOrders : bournelaw10_CurveOrders.Pure :=
  fun l0 l1 l2 a3 a4 _ _ _ _ _ _ _ _ => ⟨600, orders 600 (Nat.le_refl _) l0 l1 l2 a3 a4⟩
end Go.Proofs.Ytmkekbehipaopaa.Pure
