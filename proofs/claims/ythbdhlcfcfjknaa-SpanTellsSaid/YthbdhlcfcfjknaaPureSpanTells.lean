import Derived.Test.YthbdhlcfcfjknaaSpanMore
import Derived.Test.YthbdhlcfcfjknaaRef01
import Derived.Test.YthbdhlcfcfjknaaRdT
import Derived.Test.YthbdhlcfcfjknaaFn8
set_option maxRecDepth 100000
set_option linter.unusedVariables false
namespace Go.Proofs.Ythbdhlcfcfjknaa.Pure
open Go.RowKit Go.Proofs.Ythbdhlcfcfjknaa.Fn Go.Proofs.Ythbdhlcfcfjknaa.Rd Go.Proofs.Ythbdhlcfcfjknaa.Div Go.Proofs.Ythbdhlcfcfjknaa.Exact Go.Proofs.Ythbdhlcfcfjknaa.Span Go.Proofs.YthbdhlcfcfjknaaW.PrintWords Go.Proofs.YthbdhlcfcfjknaaW.PrintLast Go.Proofs.YthbdhlcfcfjknaaW.PrintMore

theorem ref_right (a b : Int) : bourneref09_Right.f a b = some (decide (a ≤ b)) := rfl
theorem ref_of (a : Int) : bourneref09_Of.f a = some (a, a) := rfl
theorem ref_has (a b x : Int) : bourneref09_Has.f a b x = some (decide (a ≤ x ∧ x ≤ b)) := by
  unfold bourneref09_Has.f
  by_cases h : a ≤ x
  · rw [if_pos h]; congr 1; rw [decide_eq_decide]; exact ⟨fun h2 => ⟨h, h2⟩, fun h2 => h2.2⟩
  · rw [if_neg h]; congr 1; exact (decide_eq_false (fun h2 => h h2.1)).symm
theorem ref_within (a b c d : Int) : bourneref09_Within.f a b c d = some (decide (c ≤ a ∧ b ≤ d)) := by
  unfold bourneref09_Within.f
  by_cases h : c ≤ a
  · rw [if_pos h]; congr 1; rw [decide_eq_decide]; exact ⟨fun h2 => ⟨h, h2⟩, fun h2 => h2.2⟩
  · rw [if_neg h]; congr 1; exact (decide_eq_false (fun h2 => h h2.1)).symm
theorem ref_add (k : Nat) (hk : 1 ≤ k) (a b c d : Int) (ha : ok a) (hb : ok b) (hc : ok c) (hd : ok d) : bourneref09_Add.f k a b c d = some (sat (a + c), sat (b + d)) := by
  unfold bourneref09_Add.f
  rw [Ref01.add_spec k hk a c ha hc, bs, Ref01.add_spec k hk b d hb hd, bs]
theorem ref_sub (k : Nat) (hk : 1 ≤ k) (a b c d : Int) (ha : ok a) (hb : ok b) (hc : ok c) (hd : ok d) : bourneref09_Sub.f k a b c d = some (sat (a - d), sat (b - c)) := by
  unfold bourneref09_Sub.f
  rw [Ref01.sub_spec k hk a d ha hd, bs, Ref01.sub_spec k hk b c hb hc, bs]
theorem ref_width (k : Nat) (hk : 1 ≤ k) (a b : Int) (ha : ok a) (hb : ok b) : bourneref09_Width.f k a b = some (sat (b - a)) := by
  unfold bourneref09_Width.f
  rw [Ref01.sub_spec k hk b a hb ha, bs]
theorem ref_join (k : Nat) (a b c d : Int) : bourneref09_Join.f (k + 1) a b c d = some (mn a c, mx b d) := by
  unfold bourneref09_Join.f
  simp only [bourneref09_Join.j0]
  have m1 := mn_le a c
  have m2 := mx_le b d
  by_cases h1 : c < a
  · rw [if_pos h1, show mn a c = c by omega]
    by_cases h2 : d > b
    · rw [if_pos h2, show mx b d = d by omega]
    · rw [if_neg h2, show mx b d = b by omega]
  · rw [if_neg h1, show mn a c = a by omega]
    by_cases h2 : d > b
    · rw [if_pos h2, show mx b d = d by omega]
    · rw [if_neg h2, show mx b d = b by omega]
theorem ref_meet (k : Nat) (a b c d : Int) : bourneref09_Meet.f (k + 2) a b c d = some (meet a b c d) := by
  unfold bourneref09_Meet.f
  have m1 := mx_le a c
  have m2 := mn_le b d
  have j1 : ∀ x y : Int, x = mx a c → y = mn b d → bourneref09_Meet.j1 (k + 1) x y = some (meet a b c d) := by
    intro x y hx hy
    subst hx hy
    simp only [bourneref09_Meet.j1]
    unfold meet
    by_cases h : mx a c ≤ mn b d
    · rw [if_neg (by omega), if_pos h]
    · rw [if_pos (by omega), if_neg h]
  simp only [bourneref09_Meet.j0]
  by_cases h1 : c > a
  · rw [if_pos h1]
    by_cases h2 : d < b
    · rw [if_pos h2]; exact j1 _ _ (by omega) (by omega)
    · rw [if_neg h2]; exact j1 _ _ (by omega) (by omega)
  · rw [if_neg h1]
    by_cases h2 : d < b
    · rw [if_pos h2]; exact j1 _ _ (by omega) (by omega)
    · rw [if_neg h2]; exact j1 _ _ (by omega) (by omega)
theorem ref_scale (k : Nat) (hk : 120 ≤ k) (a b num den : Int) : bourneref09_Scale.f (k + 2) a b num den = some (scl a b num den) := by
  unfold bourneref09_Scale.f
  rw [Ref01.scale_spec _ (by omega), bs, Ref01.scale_spec _ (by omega), bs]
  have no : ∀ x y z : Int, ¬ sfits a b num den → bourneref09_Scale.j0 (k + 2) x y z true = some (scl a b num den) := by
    intro x y z h
    simp only [bourneref09_Scale.j0]
    rw [if_pos trivial, scl_false h]
  by_cases h1 : a > b
  · rw [if_pos h1]; exact no _ _ _ (fun h => by have := h.1; omega)
  · rw [if_neg h1]
    by_cases h2 : fits a num den
    · rw [sc_true h2, if_pos rfl]
      by_cases h3 : fits b num den
      · rw [sc_true h3]
        have hq0 : 0 ≤ b * num / den := Int.ediv_nonneg (Int.mul_nonneg h3.1 h3.2.2.1) (by have := h3.2.2.2.2.1; omega)
        have hq1 := h3.2.2.2.2.2.2
        have hr0 := Int.emod_nonneg (b * num) (show den ≠ 0 by have := h3.2.2.2.2.1; omega)
        have last : bourneref09_Scale.j1 (k + 1) (a * num / den) (qup b num den) = some (scl a b num den) := by
          simp only [bourneref09_Scale.j1]
          by_cases h4 : qup b num den > 1125899906842624
          · rw [if_pos h4, scl_false (fun h => by have := h.2.2.2; omega)]
          · rw [if_neg h4, scl_true ⟨by omega, h2, h3, by omega⟩]
        show bourneref09_Scale.j0 (k + 2) (a * num / den) (b * num / den) (b * num % den) false = _
        simp only [bourneref09_Scale.j0]
        rw [if_neg (by decide)]
        by_cases hr : b * num % den = 0
        · rw [if_pos hr]
          rw [show qup b num den = b * num / den by unfold qup; rw [if_neg (by omega)]] at last
          exact last
        · rw [if_neg hr, wis _ (by omega)]
          rw [show qup b num den = b * num / den + 1 by unfold qup; rw [if_pos (by omega)]] at last
          exact last
      · rw [sc_false h3]; exact no _ _ _ (fun h => h3 h.2.2.1)
    · rw [sc_false h2, if_neg (by decide)]; exact no _ _ _ (fun h => h2 h.2.1)

theorem eq2 {a b c d : Int} (h1 : a = c) (h2 : b = d) : (a == c && (b == d)) = true := by subst h1; subst h2; simp
theorem ne2 {a b c d : Int} (h1 : a = c) (h2 : b = d) : ¬ ((!(a == c) || (!(b == d))) = true) := by subst h1; subst h2; simp
theorem eqb {a b : Bool} (h : a = b) : (a == b) = true := by subst h; cases a <;> rfl
theorem neb {a b : Bool} (h : a = b) : (a != b) = false := by subst h; cases a <;> rfl

theorem SpanTells : bournelaw09_SpanTells.Pure := by
  intro a b c d x num den ha hb hc hd hx hnum hden
  have ha := ok_of ha
  have hb := ok_of hb
  have hc := ok_of hc
  have hd := ok_of hd
  refine ⟨150 + 3, ?_⟩
  have J2 : bournelaw09_SpanTells.j2 (150 + 1) true true true a b c d = some true := by
    simp only [bournelaw09_SpanTells.j2]
    rw [if_pos trivial, if_pos trivial, if_pos trivial]
    simp only [within_spec, ref_within, width_spec a b ha hb, ref_width 150 (by omega) a b ha hb, bs]
    rw [if_pos (by simp)]
    simp
  have J1 : bournelaw09_SpanTells.j1 (150 + 2) true true a b c d = some true := by
    simp only [bournelaw09_SpanTells.j1]
    simp only [add_span a b c d ha hb hc hd, sub_span a b c d ha hb hc hd, ref_add (150 + 1) (by omega) a b c d ha hb hc hd, ref_sub (150 + 1) (by omega) a b c d ha hb hc hd, join_spec, ref_join, bs]
    rw [if_pos (eq2 rfl rfl), if_pos (eq2 rfl rfl), eq2 rfl rfl]
    exact J2
  have J0 : bournelaw09_SpanTells.j0 (150 + 3) x true false a b c d = some true := by
    simp only [bournelaw09_SpanTells.j0]
    rw [if_neg (by decide)]
    simp only [right_spec, ref_right, of_spec, ref_of, has_spec, ref_has, bs]
    rw [if_pos (eqb rfl), if_pos (eq2 rfl rfl), eqb rfl]
    exact J1
  unfold bournelaw09_SpanTells.f bournelaw09_small.f
  rw [bs, scl_spec (150 + 3) (by omega), bs, ref_scale (150 + 1) (by omega), bs, meet_spec, bs, ref_meet, bs]
  rw [if_neg (ne2 rfl rfl), neb rfl, if_neg (by decide), if_neg (ne2 rfl rfl), neb rfl]
  exact J0

end Go.Proofs.Ythbdhlcfcfjknaa.Pure
