/- The reference of layer 10 answers as the program does. -/
import Derived.Test.YtmkekbehipaopaaCurveMore
import Derived.Test.YtmkekbehipaopaaRef01
import Derived.Test.YtmkekbehipaopaaFn11
import Derived.Test.YtmkekbehipaopaaFn12
import Derived.Test.YtmkekbehipaopaaFn13
import Derived.Test.YtmkekbehipaopaaFn8
import Derived.Test.YtmkekbehipaopaaFn9
set_option maxRecDepth 100000
set_option linter.unusedVariables false
namespace Go.Proofs.Ytmkekbehipaopaa.Curve
open Go.RowKit Go.Proofs.Ytmkekbehipaopaa.Fn Go.Proofs.Ytmkekbehipaopaa.Div Go.Proofs.Ytmkekbehipaopaa.Exact Go.Proofs.YtmkekbehipaopaaW.PrintWords Go.Proofs.YtmkekbehipaopaaW.PrintLast Go.Proofs.YtmkekbehipaopaaW.PrintMore

theorem ref_vol (a : Int) : bourneref10_vol.f a = some (decide (0 ≤ a ∧ a ≤ 1125899906842624)) := by
  unfold bourneref10_vol.f
  by_cases h : 0 ≤ a
  · rw [if_pos h]; congr 1; rw [decide_eq_decide]; exact ⟨fun h2 => ⟨h, h2⟩, fun h2 => h2.2⟩
  · rw [if_neg h]; congr 1; exact (decide_eq_false (fun h2 => h h2.1)).symm

theorem ref_right_l0 (l : List S37) (hl : l.length ≤ 1000000) : ∀ (d k i : Nat), l.length - i = d → i ≤ l.length → 2 * d + 1 ≤ k →
    ∃ b, bourneref10_Right.l0 k l (i : Int) = some b ∧ (b = true ↔ ((∀ j, i ≤ j → j < l.length → okj l j) ∧ 0 < l.length ∧ l.length ≤ 32)) := by
  intro d
  induction d with
  | zero =>
    intro k i hd hi hk
    obtain ⟨k, rfl⟩ : ∃ m, k = m + 1 := ⟨k - 1, by omega⟩
    simp only [bourneref10_Right.l0]
    rw [if_neg (by omega)]
    by_cases h0 : (l.length : Int) ≥ 1
    · rw [if_pos h0]
      refine ⟨_, rfl, ?_⟩
      rw [decide_eq_true_iff]
      exact ⟨fun h => ⟨fun j h1 h2 => by omega, by omega, by omega⟩, fun h => by omega⟩
    · rw [if_neg h0]
      exact ⟨_, rfl, fun h => (by cases h), fun h => (by omega)⟩
  | succ d ih =>
    intro k i hd hi hk
    obtain ⟨k, rfl⟩ : ∃ m, k = m + 2 := ⟨k - 2, by omega⟩
    have hlt : i < l.length := by omega
    have go : ∀ c : Bool, ∃ b, bourneref10_Right.j1 (k + 1) l (i : Int) c = some b ∧ (b = true ↔ (c = false ∧ (∀ j, i + 1 ≤ j → j < l.length → okj l j) ∧ 0 < l.length ∧ l.length ≤ 32)) := by
      intro c
      simp only [bourneref10_Right.j1]
      cases c with
      | true => rw [if_pos rfl]; exact ⟨_, rfl, fun h => (by cases h), fun h => (by cases h.1)⟩
      | false =>
        rw [if_neg (by decide), wis _ (by omega), show (i : Int) + 1 = ((i + 1 : Nat) : Int) from rfl]
        obtain ⟨b, hb, hiff⟩ := ih k (i + 1) (by omega) (by omega) (by omega)
        exact ⟨b, hb, hiff.trans ⟨fun h => ⟨rfl, h⟩, fun h => h.2⟩⟩
    have fin : ∀ (c : Bool), (c = false ↔ okj l i) → ∃ b, bourneref10_Right.j1 (k + 1) l (i : Int) c = some b ∧ (b = true ↔ ((∀ j, i ≤ j → j < l.length → okj l j) ∧ 0 < l.length ∧ l.length ≤ 32)) := by
      intro c hc
      obtain ⟨b, hb, hiff⟩ := go c
      refine ⟨b, hb, hiff.trans ?_⟩
      constructor
      · rintro ⟨h1, h3, h4⟩
        refine ⟨fun j hj hj2 => ?_, h4⟩
        rcases Nat.lt_or_ge i j with h | h
        · exact h3 j (by omega) hj2
        · have : j = i := by omega
          subst this; exact hc.1 h1
      · rintro ⟨h1, h2⟩
        exact ⟨hc.2 (h1 i (Nat.le_refl i) hlt), fun j hj => h1 j (by omega), h2⟩
    simp only [bourneref10_Right.l0]
    rw [if_pos (by omega), if_pos (by omega), rd0, rd1, ref_vol, bs]
    have bad : ¬ okj l i → ∃ b, bourneref10_Right.j1 (k + 1) l (i : Int) true = some b ∧ (b = true ↔ ((∀ j, i ≤ j → j < l.length → okj l j) ∧ 0 < l.length ∧ l.length ≤ 32)) :=
      fun h => fin true ⟨fun e => (by cases e), fun e => absurd e h⟩
    by_cases h1 : 0 ≤ px l i ∧ px l i ≤ 1125899906842624
    · rw [decide_eq_true h1, if_pos rfl, ref_vol, bs]
      by_cases h2 : 0 ≤ py l i ∧ py l i ≤ 1125899906842624
      · rw [decide_eq_true h2, if_pos rfl]
        by_cases hi0 : (i : Int) > 0
        · rw [if_pos hi0, wis _ (by omega), show (i : Int) - 1 = ((i - 1 : Nat) : Int) by omega, if_pos (by omega), if_pos (by omega)]
          rw [rd0, rd1]
          by_cases h3 : px l i ≤ px l (i - 1)
          · rw [if_pos h3]; exact bad (fun e => by have := (e.2 (by omega)).1; omega)
          · rw [if_neg h3]
            refine fin _ ?_
            rw [decide_eq_false_iff_not]
            exact ⟨fun e => ⟨⟨by omega, by omega, by omega, by omega⟩, fun _ => ⟨by omega, by omega⟩⟩, fun e => by have := (e.2 (by omega)).2; omega⟩
        · rw [if_neg hi0]
          exact fin false ⟨fun _ => ⟨⟨by omega, by omega, by omega, by omega⟩, fun h => by omega⟩, fun _ => rfl⟩
      · rw [decide_eq_false h2, if_neg (by decide)]; exact bad (fun e => by have := e.1; omega)
    · rw [decide_eq_false h1, if_neg (by decide)]; exact bad (fun e => by have := e.1; omega)
theorem ref_right (l : List S37) (k : Nat) (hl : l.length ≤ 1000000) (hk : 2 * l.length + 1 ≤ k) : bourneref10_Right.f k l = some (rb l) := by
  unfold bourneref10_Right.f
  obtain ⟨b, hb, hiff⟩ := ref_right_l0 l hl l.length k 0 (by omega) (by omega) hk
  rw [show (0 : Int) = ((0 : Nat) : Int) from rfl, hb]
  congr 1
  rw [Bool.eq_iff_iff, rb_iff, hiff]
  exact ⟨fun h => ⟨fun j hj => h.1 j (by omega) hj, h.2⟩, fun h => ⟨fun j _ hj => h.1 j hj, h.2⟩⟩

/-- The reference's value: rounded down, and whether it is not whole. -/
theorem ref_value_l0 {l : List S37} (h : R l) (x : Int) : ∀ (d k i : Nat), l.length - i = d → 1 ≤ i → i ≤ l.length → px l (i - 1) < x → d + 122 ≤ k →
    bourneref10_value.l0 k l x (i : Int) = some (V l x, decide (W l x > 0)) := by
  have hn := h.2.1
  have hn2 := h.2.2
  intro d
  induction d with
  | zero =>
    intro k i hd hi1 hi hx hk
    obtain ⟨k, rfl⟩ : ∃ m, k = m + 1 := ⟨k - 1, by omega⟩
    have e : i = l.length := by omega
    subst e
    have hr := val_right h x (by omega)
    simp only [bourneref10_value.l0]
    rw [if_neg (by omega), wis _ (by omega), show (l.length : Int) - 1 = ((l.length - 1 : Nat) : Int) by omega, if_pos (by omega), if_pos (by omega), rd1, hr.1, hr.2]
    rfl
  | succ d ih =>
    intro k i hd hi1 hi hx hk
    obtain ⟨k, rfl⟩ : ∃ m, k = m + 1 := ⟨k - 1, by omega⟩
    have hlt : i < l.length := by omega
    simp only [bourneref10_value.l0]
    rw [if_pos (by omega), if_pos (by omega), rd0]
    by_cases hx2 : x ≤ px l i
    · have hs := val_seg h i (by omega) hlt x (by omega) hx2
      have p1 := (h.1 i hlt).1
      have p2 := (h.1 (i - 1) (by omega)).1
      have c := (h.1 i hlt).2 (by omega)
      rw [if_pos hx2, wis ((i : Int) - 1) (by omega), show (i : Int) - 1 = ((i - 1 : Nat) : Int) by omega, if_pos (by omega), if_pos (by omega)]
      rw [rd0, rd1, rd1, hs.1, hs.2]
      unfold num len
      generalize px l i = qx at *
      generalize py l i = qy at *
      generalize px l (i - 1) = px' at *
      generalize py l (i - 1) = py' at *
      have q := quot (show 0 ≤ qy - py' by omega) (show 0 ≤ x - px' by omega) (show x - px' ≤ qx - px' by omega) (show 0 < qx - px' by omega)
      rw [Int.mul_comm] at q
      rw [wis (qy - py') (by omega), wis (x - px') (by omega), wis (qx - px') (by omega), Ref01.scale_spec k (by omega), bs]
      have hf : fits (x - px') (qy - py') (qx - px') := ⟨by omega, by omega, by omega, by omega, by omega, by omega, by omega⟩
      rw [sc_true hf]
      dsimp only
      rw [Int.mul_comm (qy - py')]
      generalize (x - px') * (qy - py') / (qx - px') = z at *
      generalize (x - px') * (qy - py') % (qx - px') = r at *
      rw [wis (py' + z) (by omega)]
    · rw [if_neg hx2, wis _ (by omega), show (i : Int) + 1 = ((i + 1 : Nat) : Int) from rfl]
      exact ih k (i + 1) (by omega) (by omega) (by omega) (by rw [show i + 1 - 1 = i by omega]; omega) (by omega)
theorem ref_value {l : List S37} (h : R l) (x : Int) (k : Nat) (hk : 160 ≤ k) : bourneref10_value.f k l x = some (V l x, decide (W l x > 0)) := by
  have hn := h.2.1
  have hn2 := h.2.2
  unfold bourneref10_value.f
  rw [if_pos (by omega), show (0 : Int) = ((0 : Nat) : Int) from rfl, rd0, rd1]
  by_cases hx : x ≤ px l 0
  · have hv := val_left h x hx
    rw [if_pos hx, hv.1, hv.2]; rfl
  · rw [if_neg hx, show (1 : Int) = ((1 : Nat) : Int) from rfl]
    exact ref_value_l0 h x (l.length - 1) k 1 rfl (by omega) (by omega) (by rw [show 1 - 1 = 0 from rfl]; omega) (by omega)
theorem ref_At (l : List S37) (x : Int) (k : Nat) (hl : l.length ≤ 40) (hk : 160 ≤ k) : bourneref10_At.f k l x = some (if rb l = true then V l x else 0) := by
  unfold bourneref10_At.f
  rw [ref_right l k (by omega) (by omega), bs]
  by_cases h : R l
  · rw [rb_true h, if_pos rfl, if_pos rfl, ref_value h x k (by omega), bs]
  · rw [rb_false h, if_neg (by decide), if_neg (by decide)]
theorem At_R {l : List S37} (h : R l) (x : Int) (k : Nat) (hk : 160 ≤ k) : bourneref10_At.f k l x = some (V l x) := by
  rw [ref_At l x k (by have := h.2.2; omega) hk, rb_true h, if_pos rfl]

/-- Halving finds the least place. -/
theorem ref_least_l0 {l : List S37} (h : R l) (y : Int) (hy : idy l y ≠ l.length) : ∀ (n k : Nat) (a b : Int), 0 ≤ a → a ≤ L l y → L l y ≤ b → b ≤ 1125899906842624 → b - a < 2 ^ n → n + 170 ≤ k →
    bourneref10_Least.l0 k l y a b = some (L l y, true) := by
  intro n
  induction n with
  | zero =>
    intro k a b ha h1 h2 hb hd hk
    obtain ⟨k, rfl⟩ : ∃ m, k = m + 1 := ⟨k - 1, by omega⟩
    simp only [bourneref10_Least.l0]
    rw [if_neg (by omega)]
    congr 2; omega
  | succ n ih =>
    intro k a b ha h1 h2 hb hd hk
    obtain ⟨k, rfl⟩ : ∃ m, k = m + 1 := ⟨k - 1, by omega⟩
    simp only [bourneref10_Least.l0]
    by_cases hab : a < b
    · have hp : (2 : Int) ^ (n + 1) = 2 * 2 ^ n := by rw [Int.pow_succ, Int.mul_comm]
      have hm : Int.tdiv (a + b) 2 = (a + b) / 2 := Int.tdiv_eq_ediv_of_nonneg (by omega)
      rw [if_pos hab, wis (a + b) (by omega), hm, wis ((a + b) / 2) (by omega)]
      have g := galois h y ((a + b) / 2) (by omega) hy
      rw [At_R h _ k (by omega), bs]
      by_cases hv : V l ((a + b) / 2) ≥ y
      · rw [if_pos hv]
        exact ih k a _ ha h1 (g.1 hv) (by omega) (by omega) (by omega)
      · rw [if_neg hv, wis _ (by omega)]
        have : ¬ L l y ≤ (a + b) / 2 := fun e => hv (g.2 e)
        exact ih k _ b (by omega) (by omega) h2 hb (by omega) (by omega)
    · rw [if_neg hab]; congr 2; omega
theorem ref_least (l : List S37) (y : Int) (k : Nat) (hl : l.length ≤ 40) (hk : 240 ≤ k) :
    bourneref10_Least.f k l y = some (if rb l = true then (if idy l y = l.length then (0, false) else (L l y, true)) else (0, false)) := by
  obtain ⟨k, rfl⟩ : ∃ m, k = m + 1 := ⟨k - 1, by omega⟩
  unfold bourneref10_Least.f
  rw [ref_right l _ (by omega) (by omega), bs]
  by_cases h : R l
  · have hn := h.2.1
    rw [rb_true h, if_pos rfl, if_pos rfl, wis _ (by omega), show (l.length : Int) - 1 = ((l.length - 1 : Nat) : Int) by omega, if_pos (by omega), if_pos (by omega), rd1]
    have hf := idy_full h y
    by_cases h1 : idy l y = l.length
    · have := hf.1 h1
      rw [if_pos h1, decide_eq_true (by omega)]
      simp only [bourneref10_Least.j0]
      rw [if_pos trivial]
    · have h2 : ¬ py l (l.length - 1) < y := fun e => h1 (hf.2 e)
      rw [if_neg h1, decide_eq_false (by omega)]
      simp only [bourneref10_Least.j0]
      have p := (h.1 (l.length - 1) (by omega)).1
      rw [if_neg (by decide), wis _ (by omega), show (l.length : Int) - 1 = ((l.length - 1 : Nat) : Int) by omega, if_pos (by omega), if_pos (by omega), rd0]
      refine ref_least_l0 h y h1 51 k 0 _ (by omega) (L_nn h y h1) ?_ (by omega) (by omega) (by omega)
      refine (galois h y _ (by omega) h1).1 ?_
      rw [(val_point h _ (by omega)).1]; omega
  · rw [rb_false h, if_neg (by decide), if_neg (by decide)]
    simp only [bourneref10_Least.j0]
    rw [if_pos trivial]

theorem ref_slope_l0 {l : List S37} (h : R l) (nu de : Int) (hn0 : 0 ≤ nu) (hn1 : nu ≤ 1125899906842624) (hd0 : 1 ≤ de) (hd1 : de ≤ 1125899906842624) : ∀ (d k i : Nat), l.length - i = d → 1 ≤ i → i ≤ l.length → d + 122 ≤ k →
    ∃ b, bourneref10_Slope.l0 k l nu de (i : Int) = some b ∧ (b = true ↔ ∀ j, i ≤ j → j < l.length → dy l j * de ≤ nu * len l j) := by
  have hlen := h.2.2
  intro d
  induction d with
  | zero =>
    intro k i hd hi1 hi hk
    obtain ⟨k, rfl⟩ : ∃ m, k = m + 1 := ⟨k - 1, by omega⟩
    simp only [bourneref10_Slope.l0]
    rw [if_neg (by omega)]
    exact ⟨_, rfl, fun _ j h1 h2 => by omega, fun _ => rfl⟩
  | succ d ih =>
    intro k i hd hi1 hi hk
    obtain ⟨k, rfl⟩ : ∃ m, k = m + 1 := ⟨k - 1, by omega⟩
    have hlt : i < l.length := by omega
    obtain ⟨b, hb, hiff⟩ := ih k (i + 1) (by omega) (by omega) (by omega) (by omega)
    have p1 := (h.1 i hlt).1
    have p2 := (h.1 (i - 1) (by omega)).1
    have c := (h.1 i hlt).2 (by omega)
    simp only [bourneref10_Slope.l0]
    rw [if_pos (by omega), if_pos (by omega), wis ((i : Int) - 1) (by omega), show (i : Int) - 1 = ((i - 1 : Nat) : Int) by omega, if_pos (by omega), if_pos (by omega), rd0, rd0, rd1, rd1]
    rw [wis (px l i - px l (i - 1)) (by omega), wis (py l i - py l (i - 1)) (by omega), Ref01.scale_spec k (by omega), bs, wis ((i : Int) + 1) (by omega), show (i : Int) + 1 = ((i + 1 : Nat) : Int) from rfl, hb]
    have hl0 : 0 < len l i := by unfold len; omega
    have key : dy l i ≤ len l i * nu / de ↔ dy l i * de ≤ nu * len l i := by rw [Int.mul_comm (len l i)]; exact Int.le_ediv_iff_mul_le (by omega)
    have glue : ∀ P : Prop, (P ↔ dy l i * de ≤ nu * len l i) → ((∀ j, i ≤ j → j < l.length → dy l j * de ≤ nu * len l j) ↔ (P ∧ ∀ j, i + 1 ≤ j → j < l.length → dy l j * de ≤ nu * len l j)) := by
      intro P hP
      constructor
      · intro hh; exact ⟨hP.2 (hh i (Nat.le_refl i) hlt), fun j h1 h2 => hh j (by omega) h2⟩
      · rintro ⟨h1, h2⟩ j h3 h4
        rcases Nat.lt_or_ge i j with e | e
        · exact h2 j (by omega) h4
        · have : j = i := by omega
          subst this; exact hP.1 h1
    by_cases hf : fits (px l i - px l (i - 1)) nu de
    · rw [sc_true hf, if_pos rfl]
      dsimp only
      by_cases hg : py l i - py l (i - 1) > (px l i - px l (i - 1)) * nu / de
      · rw [if_pos hg]
        refine ⟨_, rfl, fun e => (by cases e), fun e => ?_⟩
        have := key.2 (e i (Nat.le_refl i) hlt)
        unfold dy len at this; omega
      · rw [if_neg hg]
        have hP : dy l i ≤ len l i * nu / de := by unfold dy len; omega
        exact ⟨b, rfl, hiff.trans ⟨fun e => (glue _ key).2 ⟨hP, e⟩, fun e => ((glue _ key).1 e).2⟩⟩
    · rw [sc_false hf, if_neg (by decide)]
      have hbig : ¬ len l i * nu / de ≤ 1125899906842624 := fun e => hf ⟨by omega, by omega, hn0, hn1, hd0, hd1, e⟩
      have hP : dy l i ≤ len l i * nu / de := by unfold dy; omega
      exact ⟨b, rfl, hiff.trans ⟨fun e => (glue _ key).2 ⟨hP, e⟩, fun e => ((glue _ key).1 e).2⟩⟩
theorem ref_slope (l : List S37) (nu de : Int) (k : Nat) (hl : l.length ≤ 40) (hk : 240 ≤ k) : ∃ b, bourneref10_Slope.f k l nu de = some b ∧ (b = true ↔ Sl l nu de) := by
  obtain ⟨k, rfl⟩ : ∃ m, k = m + 1 := ⟨k - 1, by omega⟩
  unfold bourneref10_Slope.f
  rw [ref_right l _ (by omega) (by omega), bs]
  have bad : ¬ Sl l nu de → ∃ b, bourneref10_Slope.j0 (k + 1) l nu de true = some b ∧ (b = true ↔ Sl l nu de) := by
    intro h
    simp only [bourneref10_Slope.j0]
    rw [if_pos trivial]
    exact ⟨_, rfl, fun e => (by cases e), fun e => absurd e h⟩
  by_cases h : R l
  · rw [rb_true h, if_pos rfl, ref_vol, bs]
    by_cases h1 : 0 ≤ nu ∧ nu ≤ 1125899906842624
    · rw [decide_eq_true h1, if_pos rfl, ref_vol, bs]
      by_cases h2 : 0 ≤ de ∧ de ≤ 1125899906842624
      · rw [decide_eq_true h2, if_pos rfl]
        by_cases h3 : de = 0
        · rw [show (de == 0) = true by simp [h3]]; exact bad (fun e => by have := e.2.2.2.1; omega)
        · rw [show (de == 0) = false by simp [h3]]
          simp only [bourneref10_Slope.j0]
          rw [if_neg (by decide)]
          have hn := h.2.1
          obtain ⟨b, hb, hiff⟩ := ref_slope_l0 h nu de (by omega) (by omega) (by omega) (by omega) (l.length - 1) k 1 rfl (by omega) (by omega) (by omega)
          exact ⟨b, hb, hiff.trans ⟨fun e => ⟨h, by omega, by omega, by omega, by omega, fun j h1 h2 => e j (by omega) h2⟩, fun e j h1 h2 => e.2.2.2.2.2 j (by omega) h2⟩⟩
      · rw [decide_eq_false h2, if_neg (by decide)]; exact bad (fun e => by have := e.2.2.2; omega)
    · rw [decide_eq_false h1, if_neg (by decide)]; exact bad (fun e => by have := e.2; omega)
  · rw [rb_false h, if_neg (by decide)]; exact bad (fun e => h e.1)

theorem U_le {l : List S37} (x y : Int) : U l x ≤ y ↔ ¬ (V l x > y ∨ (V l x = y ∧ W l x > 0)) := by
  unfold U; split <;> omega
theorem ref_under_l1 {a : List S37} (h : R a) (b : List S37) (hb : b.length ≤ 40) : ∀ (d k i : Nat), b.length - i = d → i ≤ b.length → 2 * d + 162 ≤ k →
    ∃ r, bourneref10_Under.l1 k a b (i : Int) = some r ∧ (r = true ↔ ∀ j, i ≤ j → j < b.length → U a (px b j) ≤ py b j) := by
  intro d
  induction d with
  | zero =>
    intro k i hd hi hk
    obtain ⟨k, rfl⟩ : ∃ m, k = m + 1 := ⟨k - 1, by omega⟩
    simp only [bourneref10_Under.l1]
    rw [if_neg (by omega)]
    exact ⟨_, rfl, fun _ j h1 h2 => by omega, fun _ => rfl⟩
  | succ d ih =>
    intro k i hd hi hk
    obtain ⟨k, rfl⟩ : ∃ m, k = m + 2 := ⟨k - 2, by omega⟩
    obtain ⟨r, hr, hiff⟩ := ih k (i + 1) (by omega) (by omega) (by omega)
    have fin : ∀ c : Bool, (c = false ↔ U a (px b i) ≤ py b i) → ∃ r, bourneref10_Under.j3 (k + 1) a b (i : Int) c = some r ∧ (r = true ↔ ∀ j, i ≤ j → j < b.length → U a (px b j) ≤ py b j) := by
      intro c hc
      simp only [bourneref10_Under.j3]
      cases c with
      | true => rw [if_pos rfl]; exact ⟨_, rfl, fun e => (by cases e), fun e => by have := hc.2 (e i (Nat.le_refl i) (by omega)); cases this⟩
      | false =>
        rw [if_neg (by decide), wis _ (by omega), show (i : Int) + 1 = ((i + 1 : Nat) : Int) from rfl]
        refine ⟨r, hr, hiff.trans ⟨fun e j h1 h2 => ?_, fun e j h1 h2 => e j (by omega) h2⟩⟩
        rcases Nat.lt_or_ge i j with q | q
        · exact e j (by omega) h2
        · have : j = i := by omega
          subst this; exact hc.1 rfl
    simp only [bourneref10_Under.l1]
    rw [if_pos (by omega), if_pos (by omega), rd0, rd1, ref_value h _ _ (by omega), bs]
    dsimp only
    have u := U_le (l := a) (px b i) (py b i)
    by_cases h1 : V a (px b i) > py b i
    · rw [if_pos h1]; exact fin true ⟨fun e => (by cases e), fun e => absurd (Or.inl h1) (u.1 e)⟩
    · rw [if_neg h1]
      by_cases h2 : V a (px b i) = py b i
      · rw [if_pos h2]
        refine fin _ ?_
        rw [decide_eq_false_iff_not, u]
        omega
      · rw [if_neg h2]; exact fin false ⟨fun _ => u.2 (by omega), fun _ => rfl⟩
theorem ref_under_l0 {a b : List S37} (ha : R a) (hb : R b) : ∀ (d k i : Nat), a.length - i = d → i ≤ a.length → d + 280 ≤ k →
    ∃ r, bourneref10_Under.l0 k a b (i : Int) = some r ∧ (r = true ↔ ((∀ j, i ≤ j → j < a.length → py a j ≤ V b (px a j)) ∧ ∀ j, j < b.length → U a (px b j) ≤ py b j)) := by
  have hla := ha.2.2
  have hlb := hb.2.2
  intro d
  induction d with
  | zero =>
    intro k i hd hi hk
    obtain ⟨k, rfl⟩ : ∃ m, k = m + 1 := ⟨k - 1, by omega⟩
    simp only [bourneref10_Under.l0]
    rw [if_neg (by omega)]
    obtain ⟨r, hr, hiff⟩ := ref_under_l1 ha b (by omega) b.length k 0 (by omega) (by omega) (by omega)
    exact ⟨r, hr, hiff.trans ⟨fun e => ⟨fun j h1 h2 => by omega, fun j h1 => e j (by omega) h1⟩, fun e j h1 h2 => e.2 j h2⟩⟩
  | succ d ih =>
    intro k i hd hi hk
    obtain ⟨k, rfl⟩ : ∃ m, k = m + 1 := ⟨k - 1, by omega⟩
    obtain ⟨r, hr, hiff⟩ := ih k (i + 1) (by omega) (by omega) (by omega)
    simp only [bourneref10_Under.l0]
    rw [if_pos (by omega), if_pos (by omega), rd0, rd1, ref_value hb _ k (by omega), bs, wis ((i : Int) + 1) (by omega), show (i : Int) + 1 = ((i + 1 : Nat) : Int) from rfl, hr]
    dsimp only
    by_cases hg : py a i > V b (px a i)
    · rw [if_pos hg]
      exact ⟨_, rfl, fun e => (by cases e), fun e => by have := e.1 i (Nat.le_refl i) (by omega); omega⟩
    · rw [if_neg hg]
      refine ⟨r, rfl, hiff.trans ⟨fun e => ⟨fun j h1 h2 => ?_, e.2⟩, fun e => ⟨fun j h1 h2 => e.1 j (by omega) h2, e.2⟩⟩⟩
      rcases Nat.lt_or_ge i j with q | q
      · exact e.1 j (by omega) h2
      · have : j = i := by omega
        subst this; omega
theorem ref_under (a b : List S37) (k : Nat) (hla : a.length ≤ 40) (hlb : b.length ≤ 40) (hk : 400 ≤ k) : ∃ r, bourneref10_Under.f k a b = some r ∧ (r = true ↔ Un a b) := by
  obtain ⟨k, rfl⟩ : ∃ m, k = m + 1 := ⟨k - 1, by omega⟩
  unfold bourneref10_Under.f
  rw [ref_right a _ (by omega) (by omega), bs]
  have bad : ¬ Un a b → ∃ r, bourneref10_Under.j0 (k + 1) a b true = some r ∧ (r = true ↔ Un a b) := by
    intro h
    simp only [bourneref10_Under.j0]
    rw [if_pos trivial]
    exact ⟨_, rfl, fun e => (by cases e), fun e => absurd e h⟩
  by_cases ha : R a
  · rw [rb_true ha, if_pos rfl, ref_right b _ (by omega) (by omega), bs]
    by_cases hb : R b
    · rw [rb_true hb]
      simp only [bourneref10_Under.j0]
      rw [if_neg (by decide)]
      obtain ⟨r, hr, hiff⟩ := ref_under_l0 ha hb a.length k 0 (by omega) (by omega) (by omega)
      exact ⟨r, hr, hiff.trans ⟨fun e => ⟨ha, hb, fun j h => e.1 j (by omega) h, e.2⟩, fun e => ⟨fun j _ h => e.2.2.1 j h, e.2.2.2⟩⟩⟩
    · rw [rb_false hb]; exact bad (fun e => hb e.2.1)
  · rw [rb_false ha, if_neg (by decide)]; exact bad (fun e => ha e.1)
theorem ref_band (a b : List S37) (x : Int) (k : Nat) (hla : a.length ≤ 40) (hlb : b.length ≤ 40) (hk : 160 ≤ k) : bourneref10_Band.f k a b x = some (mn (if rb a = true then V a x else 0) (if rb b = true then V b x else 0), mx (if rb a = true then V a x else 0) (if rb b = true then V b x else 0)) := by
  unfold bourneref10_Band.f
  rw [ref_At a x k hla hk, bs, ref_At b x k hlb hk, bs]
end Go.Proofs.Ytmkekbehipaopaa.Curve
