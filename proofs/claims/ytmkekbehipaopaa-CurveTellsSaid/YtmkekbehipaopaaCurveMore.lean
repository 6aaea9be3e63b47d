/- Comparing two curves everywhere, and how fast one rises. -/
import Derived.Test.YtmkekbehipaopaaCurve
import Derived.Test.YtmkekbehipaopaaFn8
set_option maxRecDepth 100000
set_option linter.unusedVariables false
namespace Go.Proofs.Ytmkekbehipaopaa.Curve
open Go.RowKit Go.Proofs.Ytmkekbehipaopaa.Fn Go.Proofs.Ytmkekbehipaopaa.Div Go.Proofs.Ytmkekbehipaopaa.Exact Go.Proofs.YtmkekbehipaopaaW.PrintWords Go.Proofs.YtmkekbehipaopaaW.PrintLast Go.Proofs.YtmkekbehipaopaaW.PrintMore

def up (v w : Int) : Int := if w > 0 then v + 1 else v
theorem U_eq (l : List S37) (t : Int) : U l t = up (V l t) (W l t) := rfl
theorem up_mono_of {v w v' w' d d' : Int} (hd : 0 < d) (hd' : 0 < d') (hw : 0 ≤ w) (hw2 : w < d) (hw' : 0 ≤ w') (hw2' : w' < d') (h : (v * d + w) * d' ≤ (v' * d' + w') * d) : v ≤ v' ∧ up v w ≤ up v' w' := by
  have a := U_mono_of hd hd' hw hw2 hw' hw2' h
  refine ⟨a, ?_⟩
  unfold up
  rcases Int.lt_or_eq_of_le a with b | b
  · split <;> split <;> omega
  · subst b
    by_cases h1 : w > 0
    · rw [if_pos h1]
      by_cases h2 : w' > 0
      · rw [if_pos h2]; omega
      · have h3 : w' = 0 := by omega
        subst h3
        have e : v * d' * d = v * d * d' := by rw [Int.mul_assoc, Int.mul_comm d' d, ← Int.mul_assoc]
        rw [Int.add_mul, Int.add_zero, e] at h
        have := Int.mul_pos h1 hd'
        omega
    · rw [if_neg h1]; split <;> omega
/-- Between two places at which a line is not below 0 it isn't, either. -/
theorem affine {P Q l t r : Int} (h1 : 0 ≤ P + Q * l) (h2 : 0 ≤ P + Q * r) (hl : l ≤ t) (hr : t ≤ r) : 0 ≤ P + Q * t := by
  rcases Int.lt_or_le Q 0 with a | a
  · have : Q * r ≤ Q * t := Int.mul_le_mul_of_nonpos_left (by omega) hr
    omega
  · have : Q * l ≤ Q * t := Int.mul_le_mul_of_nonneg_left hl a
    omega
theorem W_nn {l : List S37} (h : R l) (t : Int) : 0 ≤ W l t := by
  rcases where_ h t with a | a | ⟨i, h0, hi, h1, h2⟩
  · rw [(val_left h t a).2]; omega
  · rw [(val_right h t a).2]; omega
  · rw [(val_seg h i h0 hi t (by omega) h2).2]
    have := ((h.1 i hi).2 h0).1
    exact Int.emod_nonneg _ (by unfold len; omega)
theorem VU {l : List S37} (t : Int) : V l t ≤ U l t := by unfold U; split <;> omega
/-- Twice len times the value on a segment, without division. -/
theorem seg_eq {l : List S37} (h : R l) (i : Nat) (h0 : 0 < i) (hi : i < l.length) (t : Int) (h1 : px l (i - 1) ≤ t) (h2 : t ≤ px l i) :
    0 < len l i ∧ 0 ≤ W l t ∧ W l t < len l i ∧ V l t * len l i + W l t = py l (i - 1) * len l i + num l i t := by
  have hs := val_seg h i h0 hi t h1 h2
  have := ((h.1 i hi).2 h0).1
  have hl : 0 < len l i := by unfold len; omega
  rw [hs.1, hs.2]
  refine ⟨hl, Int.emod_nonneg _ (by omega), Int.emod_lt_of_pos _ hl, ?_⟩
  have e := Int.mul_ediv_add_emod (num l i t) (len l i)
  rw [Int.add_mul, Int.mul_comm (num l i t / len l i)]
  omega
theorem V_mono2 {l : List S37} (h : R l) (x z : Int) (hxz : x ≤ z) : V l x ≤ V l z := V_mono h x z hxz
theorem U_mono {l : List S37} (h : R l) (x z : Int) (hxz : x ≤ z) : U l x ≤ U l z := by
  have hv := V_mono h x z hxz
  have hn := h.2.1
  have whole : W l x = 0 → U l x ≤ U l z := by
    intro e
    have : U l x = V l x := by unfold U; rw [e, if_neg (by decide)]
    have := VU (l := l) z
    omega
  have at_pt : ∀ i, i < l.length → x ≤ px l i → px l i ≤ z → (∀ t, t ≤ px l i → U l t ≤ py l i) → U l x ≤ U l z := by
    intro i hi h1 h2 h3
    have a := h3 x h1
    have b := V_mono h (px l i) z h2
    rw [(val_point h i hi).1] at b
    have := VU (l := l) z
    omega
  rcases where_ h x with a | a | ⟨i, h0, hi, h1, h2⟩
  · exact whole (val_left h x a).2
  · exact whole (val_right h x a).2
  · rcases Int.lt_or_le (px l i) z with b | b
    · have hs := seg_eq h i h0 hi x (by omega) h2
      have e2 := V_mono h x (px l i) h2
      rw [(val_point h i hi).1] at e2
      have bz := V_mono h (px l i) z (by omega)
      rw [(val_point h i hi).1] at bz
      have c := ((h.1 i hi).2 h0)
      have hu := VU (l := l) z
      have key : U l x ≤ py l i := by
        unfold U
        by_cases hw : W l x > 0
        · rw [if_pos hw]
          have hle : num l i x ≤ (py l i - py l (i - 1)) * len l i := Int.mul_le_mul_of_nonneg_left (by unfold len; omega) (by omega)
          rw [Int.sub_mul] at hle
          have : V l x * len l i < py l i * len l i := by omega
          have := Int.lt_of_mul_lt_mul_right this (by omega)
          omega
        · rw [if_neg hw]; exact e2
      omega
    · have hs := seg_eq h i h0 hi x (by omega) h2
      have hs2 := seg_eq h i h0 hi z (by omega) b
      have c := ((h.1 i hi).2 h0)
      have hle : num l i x ≤ num l i z := Int.mul_le_mul_of_nonneg_left (by omega) (by omega)
      rw [U_eq, U_eq]
      refine (up_mono_of hs.1 hs.1 hs.2.1 hs.2.2.1 hs2.2.1 hs2.2.2.1 ?_).2
      rw [hs.2.2.2, hs2.2.2.2]
      exact Int.mul_le_mul_of_nonneg_right (by omega) (by omega)
theorem V_high {l : List S37} (h : R l) (t : Int) : V l t ≤ py l (l.length - 1) ∧ U l t ≤ py l (l.length - 1) := by
  have hn := h.2.1
  rcases Int.lt_or_le t (px l (l.length - 1)) with a | a
  · have b := V_mono h t _ (Int.le_of_lt a)
    have c := U_mono h t _ (Int.le_of_lt a)
    have e := val_point h (l.length - 1) (by omega)
    have f : U l (px l (l.length - 1)) = V l (px l (l.length - 1)) := by unfold U; rw [e.2, if_neg (by decide)]
    omega
  · have e := val_right h t a
    have f : U l t = V l t := by unfold U; rw [e.2, if_neg (by decide)]
    omega
theorem U_whole {l : List S37} {t : Int} (h : W l t = 0) : U l t = V l t := by unfold U; rw [h, if_neg (by decide)]
/-- V and U at a place where the value is compared with a whole number. -/
theorem le_num {l : List S37} (h : R l) (i : Nat) (h0 : 0 < i) (hi : i < l.length) (t : Int) (h1 : px l (i - 1) ≤ t) (h2 : t ≤ px l i) (y : Int) :
    (y ≤ V l t → y * len l i ≤ py l (i - 1) * len l i + num l i t) ∧ (U l t ≤ y → py l (i - 1) * len l i + num l i t ≤ y * len l i) := by
  obtain ⟨a, b, c, d⟩ := seg_eq h i h0 hi t h1 h2
  constructor
  · intro e
    have := Int.mul_le_mul_of_nonneg_right e (show 0 ≤ len l i by omega)
    omega
  · intro e
    unfold U at e
    by_cases hw : W l t > 0
    · rw [if_pos hw] at e
      have := Int.mul_le_mul_of_nonneg_right e (show 0 ≤ len l i by omega)
      rw [Int.add_mul] at this
      omega
    · rw [if_neg hw] at e
      have := Int.mul_le_mul_of_nonneg_right e (show 0 ≤ len l i by omega)
      omega
/-- The two lines, cross-multiplied: a line in t. -/
theorem lines (ya la dya xa yb lb dyb xb t : Int) : (yb * lb + dyb * (t - xb)) * la - (ya * la + dya * (t - xa)) * lb = ((yb * lb - dyb * xb) * la - (ya * la - dya * xa) * lb) + (dyb * la - dya * lb) * t := by
  grind
theorem under_all {a b : List S37} (h : Un a b) (t : Int) : V a t ≤ V b t ∧ U a t ≤ U b t := by
  obtain ⟨ha, hb, h1, h2⟩ := h
  have na := ha.2.1
  have nb := hb.2.1
  have hva := VU (l := a) t
  have hvb := VU (l := b) t
  have lowb := (V_low hb t).1
  rcases where_ ha t with w | w | ⟨i, i0, il, w1, w2⟩
  · have e := val_left ha t w
    have := U_whole e.2
    have c := h2 0 nb
    have d := (V_low ha (px b 0)).1
    have := VU (l := a) (px b 0)
    omega
  · have e := val_right ha t w
    have := U_whole e.2
    have c := h1 (a.length - 1) (by omega)
    have d := V_mono hb _ t w
    omega
  · rcases where_ hb t with v | v | ⟨j, j0, jl, v1, v2⟩
    · have e := val_left hb t v
      have := U_whole e.2
      have c := h2 0 nb
      have d := U_mono ha t _ v
      omega
    · have e := val_right hb t v
      have := U_whole e.2
      have c := h1 (a.length - 1) (by omega)
      have d := (V_high hb (px a (a.length - 1))).1
      have f := (V_high ha t).2
      omega
    · obtain ⟨a1, a2, a3, a4⟩ := seg_eq ha i i0 il t (by omega) w2
      obtain ⟨b1, b2, b3, b4⟩ := seg_eq hb j j0 jl t (by omega) v2
      rw [U_eq, U_eq]
      refine up_mono_of a1 b1 a2 a3 b2 b3 ?_
      rw [a4, b4]
      have cross : ∀ s : Int, (py b (j - 1) * len b j + num b j s) * len a i - (py a (i - 1) * len a i + num a i s) * len b j = ((py b (j - 1) * len b j - (py b j - py b (j - 1)) * px b (j - 1)) * len a i - (py a (i - 1) * len a i - (py a i - py a (i - 1)) * px a (i - 1)) * len b j) + ((py b j - py b (j - 1)) * len a i - (py a i - py a (i - 1)) * len b j) * s :=
        fun s => lines _ _ _ _ _ _ _ _ s
      -- at a bend of a inside b's segment, and at a bend of b inside a's
      have atA : ∀ m, m < a.length → (m = i - 1 ∨ m = i) → px b (j - 1) ≤ px a m → px a m ≤ px b j → 0 ≤ (py b (j - 1) * len b j + num b j (px a m)) * len a i - (py a (i - 1) * len a i + num a i (px a m)) * len b j := by
        intro m hm hmi g1 g2
        have e1 := (le_num hb j j0 jl (px a m) g1 g2 (py a m)).1 (h1 m hm)
        have e2 : py a (i - 1) * len a i + num a i (px a m) = py a m * len a i := by
          rcases hmi with rfl | rfl
          · unfold num; rw [Int.sub_self, Int.mul_zero]; omega
          · unfold num len; rw [← Int.add_mul]; congr 1; omega
        rw [e2]
        have e3 := Int.mul_le_mul_of_nonneg_right e1 (show 0 ≤ len a i by omega)
        have e4 : py a m * len a i * len b j = py a m * len b j * len a i := by rw [Int.mul_assoc, Int.mul_comm (len a i), ← Int.mul_assoc]
        omega
      have atB : ∀ m, m < b.length → (m = j - 1 ∨ m = j) → px a (i - 1) ≤ px b m → px b m ≤ px a i → 0 ≤ (py b (j - 1) * len b j + num b j (px b m)) * len a i - (py a (i - 1) * len a i + num a i (px b m)) * len b j := by
        intro m hm hmi g1 g2
        have e1 := (le_num ha i i0 il (px b m) g1 g2 (py b m)).2 (h2 m hm)
        have e2 : py b (j - 1) * len b j + num b j (px b m) = py b m * len b j := by
          rcases hmi with rfl | rfl
          · unfold num; rw [Int.sub_self, Int.mul_zero]; omega
          · unfold num len; rw [← Int.add_mul]; congr 1; omega
        rw [e2]
        have e3 := Int.mul_le_mul_of_nonneg_right e1 (show 0 ≤ len b j by omega)
        have e4 : py b m * len a i * len b j = py b m * len b j * len a i := by rw [Int.mul_assoc, Int.mul_comm (len a i), ← Int.mul_assoc]
        omega
      have left : ∃ s, s ≤ t ∧ 0 ≤ (py b (j - 1) * len b j + num b j s) * len a i - (py a (i - 1) * len a i + num a i s) * len b j := by
        rcases Int.lt_or_le (px a (i - 1)) (px b (j - 1)) with g | g
        · exact ⟨_, by omega, atB (j - 1) (by omega) (Or.inl rfl) (by omega) (by omega)⟩
        · exact ⟨_, by omega, atA (i - 1) (by omega) (Or.inl rfl) (by omega) (by omega)⟩
      have right : ∃ s, t ≤ s ∧ 0 ≤ (py b (j - 1) * len b j + num b j s) * len a i - (py a (i - 1) * len a i + num a i s) * len b j := by
        rcases Int.lt_or_le (px a i) (px b j) with g | g
        · exact ⟨_, w2, atA i (by omega) (Or.inr rfl) (by omega) (by omega)⟩
        · exact ⟨_, v2, atB j (by omega) (Or.inr rfl) (by omega) (by omega)⟩
      obtain ⟨s, s1, s2⟩ := left
      obtain ⟨r, r1, r2⟩ := right
      rw [cross] at s2 r2
      have := affine s2 r2 s1 r1
      rw [← cross] at this
      omega
theorem under_refl {a : List S37} (h : R a) : Un a a :=
  ⟨h, h, fun j hj => by rw [(val_point h j hj).1]; omega, fun j hj => by rw [U_whole (val_point h j hj).2, (val_point h j hj).1]; omega⟩
theorem under_trans {a b c : List S37} (h : Un a b) (g : Un b c) : Un a c :=
  ⟨h.1, g.2.1, fun j hj => Int.le_trans (h.2.2.1 j hj) (under_all g _).1, fun j hj => Int.le_trans (under_all h _).2 (g.2.2.2 j hj)⟩

/-! ### How fast a curve rises -/
theorem bends {l : List S37} {nu de : Int} (h : Sl l nu de) (i j : Nat) (hij : i ≤ j) (hj : j < l.length) : py l j * de - nu * px l j ≤ py l i * de - nu * px l i := by
  induction j with
  | zero => have : i = 0 := by omega
            subst this; omega
  | succ j ih =>
    rcases Nat.lt_or_ge i (j + 1) with g | g
    · have a := ih (by omega) (by omega)
      have b := h.2.2.2.2.2 (j + 1) (by omega) hj
      unfold dy len at b
      rw [show j + 1 - 1 = j by omega, Int.sub_mul, Int.mul_sub] at b
      omega
    · have : i = j + 1 := by omega
      subst this; omega
theorem seg_rise {l : List S37} {nu de : Int} (h : Sl l nu de) (i : Nat) (h0 : 0 < i) (hi : i < l.length) (s : Int) (hs : 0 ≤ s) : dy l i * s * de ≤ nu * s * len l i := by
  have a := h.2.2.2.2.2 i h0 hi
  have b := Int.mul_le_mul_of_nonneg_right a hs
  have e1 : dy l i * de * s = dy l i * s * de := by rw [Int.mul_assoc, Int.mul_comm de, ← Int.mul_assoc]
  have e2 : nu * len l i * s = nu * s * len l i := by rw [Int.mul_assoc, Int.mul_comm (len l i), ← Int.mul_assoc]
  omega
/-- Behind a bend. -/
theorem behind {l : List S37} {nu de : Int} (h : Sl l nu de) (i : Nat) (hi : i < l.length) (z : Int) (hz : px l i ≤ z) : V l z * de ≤ py l i * de + nu * (z - px l i) := by
  have hR := h.1
  have hn := hR.2.1
  have hmul := Int.mul_sub nu z (px l i)
  rcases Int.lt_or_eq_of_le hz with hz | hz
  · rcases where_ hR z with w | w | ⟨m, m0, ml, w1, w2⟩
    · have := (incr hR 0 i (by omega) hi).1
      omega
    · rw [(val_right hR z w).1]
      have a := bends h i (l.length - 1) (by omega) (by omega)
      have b := Int.mul_le_mul_of_nonneg_left w h.2.1
      omega
    · have him : i ≤ m - 1 := by
        rcases Nat.lt_or_ge i m with e | e
        · omega
        · have := (incr hR m i e hi).1
          omega
      obtain ⟨a1, a2, a3, a4⟩ := seg_eq hR m m0 ml z (by omega) w2
      have a := bends h i (m - 1) him (by omega)
      have b := seg_rise h m m0 ml (z - px l (m - 1)) (by omega)
      have c : V l z * len l m ≤ py l (m - 1) * len l m + dy l m * (z - px l (m - 1)) := by unfold dy; unfold num at a4; omega
      have hde : 0 ≤ de := by have := h.2.2.2.1; omega
      have d := Int.mul_le_mul_of_nonneg_right c hde
      have e : (V l z * de) * len l m ≤ (py l (m - 1) * de + nu * (z - px l (m - 1))) * len l m := by
        have e1 : V l z * len l m * de = V l z * de * len l m := by rw [Int.mul_assoc, Int.mul_comm (len l m), ← Int.mul_assoc]
        have e2 : py l (m - 1) * len l m * de = py l (m - 1) * de * len l m := by rw [Int.mul_assoc, Int.mul_comm (len l m), ← Int.mul_assoc]
        rw [Int.add_mul] at d
        rw [Int.add_mul]
        omega
      have f := Int.le_of_mul_le_mul_right e a1
      have g := Int.mul_sub nu z (px l (m - 1))
      omega
  · rw [← hz, (val_point hR i hi).1, Int.sub_self, Int.mul_zero]; omega
/-- Before a bend. -/
theorem before {l : List S37} {nu de : Int} (h : Sl l nu de) (i : Nat) (hi : i < l.length) (x : Int) (hx : x ≤ px l i) : py l i * de - nu * (px l i - x) < (V l x + 1) * de := by
  have hR := h.1
  have hn := hR.2.1
  have hmul := Int.mul_sub nu (px l i) x
  have hde : 0 < de := by have := h.2.2.2.1; omega
  have hadd := Int.add_mul (V l x) 1 de
  rcases where_ hR x with w | w | ⟨m, m0, ml, w1, w2⟩
  · rw [(val_left hR x w).1] at *
    have a := bends h 0 i (by omega) hi
    have b := Int.mul_le_mul_of_nonneg_left w h.2.1
    omega
  · obtain rfl : x = px l i := by
      have := (incr hR i (l.length - 1) (by omega) (by omega)).1
      omega
    rw [(val_point hR i hi).1] at hadd ⊢
    rw [Int.sub_self, Int.mul_zero]
    omega
  · have him : m ≤ i := by
      rcases Nat.lt_or_ge i m with e | e
      · have := (incr hR i (m - 1) (by omega) (by omega)).1
        omega
      · exact e
    obtain ⟨a1, a2, a3, a4⟩ := seg_eq hR m m0 ml x (by omega) w2
    have a := bends h m i him hi
    have b := seg_rise h m m0 ml (px l m - x) (by omega)
    have c : py l m * len l m - dy l m * (px l m - x) < (V l x + 1) * len l m := by
      unfold dy
      unfold num at a4
      have q : (py l m - py l (m - 1)) * (px l m - x) + (py l m - py l (m - 1)) * (x - px l (m - 1)) = (py l m - py l (m - 1)) * len l m := by
        rw [← Int.mul_add]; congr 1; unfold len; omega
      rw [Int.sub_mul (py l m) (py l (m - 1)) (len l m)] at q
      rw [Int.add_mul]
      omega
    have d := Int.mul_lt_mul_of_pos_right c hde
    have e : (py l m * de - nu * (px l m - x)) * len l m < ((V l x + 1) * de) * len l m := by
      have e1 : (V l x + 1) * len l m * de = (V l x + 1) * de * len l m := by rw [Int.mul_assoc, Int.mul_comm (len l m), ← Int.mul_assoc]
      have e2 : py l m * len l m * de = py l m * de * len l m := by rw [Int.mul_assoc, Int.mul_comm (len l m), ← Int.mul_assoc]
      rw [Int.sub_mul] at d
      rw [Int.sub_mul]
      omega
    have f := Int.lt_of_mul_lt_mul_right e (Int.le_of_lt a1)
    have g := Int.mul_sub nu (px l m) x
    omega
theorem rise {l : List S37} {nu de : Int} (h : Sl l nu de) (x z : Int) (hxz : x ≤ z) : (V l z - V l x - 1) * de < nu * (z - x) := by
  have hR := h.1
  have hn := hR.2.1
  have hde : 0 < de := by have := h.2.2.2.1; omega
  have hsub : (V l z - V l x - 1) * de = V l z * de - (V l x + 1) * de := by rw [← Int.sub_mul]; congr 1; omega
  have hmul := Int.mul_sub nu z x
  have via : ∀ i, i < l.length → x ≤ px l i → px l i ≤ z → (V l z - V l x - 1) * de < nu * (z - x) := by
    intro i hi h1 h2
    have a := behind h i hi z h2
    have b := before h i hi x h1
    have c := Int.mul_sub nu z (px l i)
    have d := Int.mul_sub nu (px l i) x
    omega
  have same : V l z = V l x → (V l z - V l x - 1) * de < nu * (z - x) := by
    intro e
    have := Int.mul_nonneg h.2.1 (show 0 ≤ z - x by omega)
    rw [e, Int.sub_self, Int.zero_sub, Int.neg_mul, Int.one_mul]
    omega
  rcases where_ hR x with w | w | ⟨m, m0, ml, w1, w2⟩
  · rcases Int.lt_or_le z (px l 0) with g | g
    · exact same (by rw [(val_left hR x w).1, (val_left hR z (by omega)).1])
    · exact via 0 hn w g
  · exact same (by rw [(val_right hR x w).1, (val_right hR z (by omega)).1])
  · rcases Int.lt_or_le z (px l m) with g | g
    · obtain ⟨a1, a2, a3, a4⟩ := seg_eq hR m m0 ml x (by omega) w2
      obtain ⟨b1, b2, b3, b4⟩ := seg_eq hR m m0 ml z (by omega) (by omega)
      have b := seg_rise h m m0 ml (z - x) (by omega)
      have c : (V l z - V l x - 1) * len l m < dy l m * (z - x) := by
        unfold dy
        unfold num at a4 b4
        have q : (py l m - py l (m - 1)) * (z - px l (m - 1)) - (py l m - py l (m - 1)) * (x - px l (m - 1)) = (py l m - py l (m - 1)) * (z - x) := by
          rw [← Int.mul_sub]; congr 1; omega
        rw [Int.sub_mul, Int.sub_mul]
        omega
      have d := Int.mul_lt_mul_of_pos_right c hde
      have e : ((V l z - V l x - 1) * de) * len l m < (nu * (z - x)) * len l m := by
        have e1 : (V l z - V l x - 1) * len l m * de = (V l z - V l x - 1) * de * len l m := by rw [Int.mul_assoc, Int.mul_comm (len l m), ← Int.mul_assoc]
        omega
      exact Int.lt_of_mul_lt_mul_right e (Int.le_of_lt a1)
    · exact via m ml w2 g
theorem L_nn {l : List S37} (h : R l) (y : Int) (hy : idy l y ≠ l.length) : 0 ≤ L l y := by
  have hle := idy_le l y
  unfold L
  by_cases h0 : idy l y = 0
  · rw [if_pos h0]; omega
  · rw [if_neg h0]
    obtain ⟨i, hi⟩ : ∃ i, idy l y = i := ⟨_, rfl⟩
    rw [hi]
    have a := (idy_iff h y (i - 1) (by omega)).2 (by omega)
    have b : ¬ py l i < y := fun hh => by have := (idy_iff h y i (by omega)).1 hh; omega
    have c := (h.1 i (by omega)).2 (by omega)
    have p := (h.1 (i - 1) (by omega)).1
    have hlen : 0 < len l i := by unfold len; omega
    have hc : ¬ ceil ((y - py l (i - 1)) * len l i) (py l i - py l (i - 1)) ≤ 0 := by
      rw [ceil_le (by omega), Int.zero_mul]
      have := Int.mul_pos (show 0 < y - py l (i - 1) by omega) hlen; omega
    omega
theorem Band_spec (a b : List S37) (x : Int) (k : Nat) (hla : a.length ≤ 40) (hlb : b.length ≤ 40) (hk : 130 ≤ k) : curve_Band.f k a b x = some (mn (if rb a = true then V a x else 0) (if rb b = true then V b x else 0), mx (if rb a = true then V a x else 0) (if rb b = true then V b x else 0)) := by
  unfold curve_Band.f
  rw [At_spec a x k hla hk, bs, At_spec b x k hlb hk, bs]
end Go.Proofs.Ytmkekbehipaopaa.Curve
