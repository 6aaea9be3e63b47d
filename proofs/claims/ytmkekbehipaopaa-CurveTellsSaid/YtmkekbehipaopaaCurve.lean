/- The printed functions of layer 10 (curve) answer plainly. -/
import Derived.Test.YtmkekbehipaopaaExact
import Derived.Test.YtmkekbehipaopaaSearch
import Derived.Test.YtmkekbehipaopaaFn2
import Derived.Test.YtmkekbehipaopaaFn4
import Derived.Test.YtmkekbehipaopaaFn6
import Derived.Test.YtmkekbehipaopaaFn7
set_option maxRecDepth 100000
set_option linter.unusedVariables false
namespace Go.Proofs.Ytmkekbehipaopaa.Curve
open Go.RowKit Go.Proofs.Ytmkekbehipaopaa.Fn Go.Proofs.Ytmkekbehipaopaa.Div Go.Proofs.Ytmkekbehipaopaa.Exact Go.Proofs.YtmkekbehipaopaaW.PrintWords Go.Proofs.YtmkekbehipaopaaW.PrintLast Go.Proofs.YtmkekbehipaopaaW.PrintMore

def px (l : List S37) (i : Nat) : Int := (l.getD i z37).f0
def py (l : List S37) (i : Nat) : Int := (l.getD i z37).f1
theorem rd0 (l : List S37) (i : Nat) : (rd_T37 l (i : Int)).f0 = px l i := rfl
theorem rd1 (l : List S37) (i : Nat) : (rd_T37 l (i : Int)).f1 = py l i := rfl
/-- A point that may stand at its place. -/
def okj (l : List S37) (j : Nat) : Prop := (0 ≤ px l j ∧ 0 ≤ py l j ∧ px l j ≤ 1125899906842624 ∧ py l j ≤ 1125899906842624) ∧ (0 < j → px l (j - 1) < px l j ∧ py l (j - 1) ≤ py l j)
def R (l : List S37) : Prop := (∀ j, j < l.length → okj l j) ∧ 0 < l.length ∧ l.length ≤ 32
noncomputable def rb (l : List S37) : Bool := @decide (R l) (Classical.propDecidable _)
theorem rb_iff (l : List S37) : rb l = true ↔ R l := by unfold rb; exact @decide_eq_true_iff _ (Classical.propDecidable _)
theorem rb_true {l : List S37} (h : R l) : rb l = true := (rb_iff l).2 h
theorem rb_false {l : List S37} (h : ¬ R l) : rb l = false := by cases e : rb l; rfl; exact absurd ((rb_iff l).1 e) h

theorem right_l0 (l : List S37) (hl : l.length ≤ 1000000) : ∀ (d k i : Nat), l.length - i = d → i ≤ l.length → 3 * d + 1 ≤ k →
    ∃ b, curve_Right.l0 k l l (l.length : Int) (i : Int) = some b ∧ (b = true ↔ ((∀ j, i ≤ j → j < l.length → okj l j) ∧ 0 < l.length ∧ l.length ≤ 32)) := by
  intro d
  induction d with
  | zero =>
    intro k i hd hi hk
    obtain ⟨k, rfl⟩ : ∃ m, k = m + 1 := ⟨k - 1, by omega⟩
    simp only [curve_Right.l0]
    rw [if_neg (by omega)]
    by_cases h0 : (l.length : Int) > 0
    · rw [if_pos h0]
      refine ⟨_, rfl, ?_⟩
      rw [decide_eq_true_iff]
      exact ⟨fun h => ⟨fun j h1 h2 => by omega, by omega, by omega⟩, fun h => by omega⟩
    · rw [if_neg h0]
      exact ⟨_, rfl, fun h => (by cases h), fun h => (by omega)⟩
  | succ d ih =>
    intro k i hd hi hk
    obtain ⟨k, rfl⟩ : ∃ m, k = m + 3 := ⟨k - 3, by omega⟩
    have hlt : i < l.length := by omega
    have go : ∀ c : Bool, ∃ b, curve_Right.j2 (k + 1) l l (l.length : Int) (i : Int) c = some b ∧ (b = true ↔ (c = false ∧ (∀ j, i + 1 ≤ j → j < l.length → okj l j) ∧ 0 < l.length ∧ l.length ≤ 32)) := by
      intro c
      simp only [curve_Right.j2]
      cases c with
      | true => rw [if_pos rfl]; exact ⟨_, rfl, fun h => (by cases h), fun h => (by cases h.1)⟩
      | false =>
        rw [if_neg (by decide), wis _ (by omega), show (i : Int) + 1 = ((i + 1 : Nat) : Int) from rfl]
        obtain ⟨b, hb, hiff⟩ := ih k (i + 1) (by omega) (by omega) (by omega)
        exact ⟨b, hb, hiff.trans ⟨fun h => ⟨rfl, h⟩, fun h => h.2⟩⟩
    have step : ∀ c : Bool, ∃ b, curve_Right.j1 (k + 2) l (i : Int) l (l.length : Int) (i : Int) c (px l i) (py l i) = some b ∧
        (b = true ↔ (c = false ∧ (0 < i → px l (i - 1) < px l i ∧ py l (i - 1) ≤ py l i) ∧ (∀ j, i + 1 ≤ j → j < l.length → okj l j) ∧ 0 < l.length ∧ l.length ≤ 32)) := by
      intro c
      simp only [curve_Right.j1]
      cases c with
      | true => rw [if_pos rfl]; exact ⟨_, rfl, fun h => (by cases h), fun h => (by cases h.1)⟩
      | false =>
        rw [if_neg (by decide)]
        by_cases hi0 : (i : Int) > 0
        · rw [if_pos hi0, wis _ (by omega), show (i : Int) - 1 = ((i - 1 : Nat) : Int) by omega, if_pos (by omega), if_pos (by omega)]
          rw [rd0, rd1]
          by_cases h1 : px l i ≤ px l (i - 1)
          · rw [if_pos h1]
            obtain ⟨b, hb, hiff⟩ := go true
            exact ⟨b, hb, hiff.trans ⟨fun h => (by cases h.1), fun h => (by have := (h.2.1 (by omega)).1; omega)⟩⟩
          · rw [if_neg h1]
            obtain ⟨b, hb, hiff⟩ := go (decide (py l i < py l (i - 1)))
            refine ⟨b, hb, hiff.trans ?_⟩
            rw [decide_eq_false_iff_not]
            exact ⟨fun h => ⟨rfl, fun _ => ⟨by omega, by omega⟩, h.2⟩, fun h => ⟨by have := (h.2.1 (by omega)).2; omega, h.2.2⟩⟩
        · rw [if_neg hi0]
          obtain ⟨b, hb, hiff⟩ := go false
          exact ⟨b, hb, hiff.trans ⟨fun h => ⟨rfl, fun _ => by omega, h.2⟩, fun h => ⟨rfl, h.2.2⟩⟩⟩
    simp only [curve_Right.l0]
    rw [if_pos (by omega), if_pos (by omega), if_pos (by omega), rd0, rd1]
    have fin : ∀ (c : Bool), (c = false ↔ (0 ≤ px l i ∧ 0 ≤ py l i ∧ px l i ≤ 1125899906842624 ∧ py l i ≤ 1125899906842624)) → ∃ b, curve_Right.j1 (k + 2) l (i : Int) l (l.length : Int) (i : Int) c (px l i) (py l i) = some b ∧ (b = true ↔ ((∀ j, i ≤ j → j < l.length → okj l j) ∧ 0 < l.length ∧ l.length ≤ 32)) := by
      intro c hc
      obtain ⟨b, hb, hiff⟩ := step c
      refine ⟨b, hb, hiff.trans ?_⟩
      constructor
      · rintro ⟨h1, h2, h3, h4⟩
        refine ⟨fun j hj hj2 => ?_, h4⟩
        rcases Nat.lt_or_ge i j with h | h
        · exact h3 j (by omega) hj2
        · have : j = i := by omega
          subst this; exact ⟨hc.1 h1, h2⟩
      · rintro ⟨h1, h2⟩
        have := h1 i (Nat.le_refl i) hlt
        exact ⟨hc.2 this.1, this.2, fun j hj => h1 j (by omega), h2⟩
    by_cases h1 : px l i < 0
    · rw [if_pos h1]; exact fin true ⟨fun h => (by cases h), fun h => by omega⟩
    · rw [if_neg h1]
      by_cases h2 : py l i < 0
      · rw [if_pos h2]; exact fin true ⟨fun h => (by cases h), fun h => by omega⟩
      · rw [if_neg h2]
        by_cases h3 : px l i > 1125899906842624
        · rw [if_pos h3]; exact fin true ⟨fun h => (by cases h), fun h => by omega⟩
        · rw [if_neg h3]
          exact fin _ (by rw [decide_eq_false_iff_not]; omega)

theorem right_spec (l : List S37) (k : Nat) (hl : l.length ≤ 1000000) (hk : 3 * l.length + 1 ≤ k) : curve_Right.f k l = some (rb l) := by
  unfold curve_Right.f
  obtain ⟨b, hb, hiff⟩ := right_l0 l hl l.length k 0 (by omega) (by omega) hk
  rw [show (0 : Int) = ((0 : Nat) : Int) from rfl, hb]
  congr 1
  rw [Bool.eq_iff_iff, rb_iff, hiff]
  exact ⟨fun h => ⟨fun j hj => h.1 j (by omega) hj, h.2⟩, fun h => ⟨fun j _ hj => h.1 j hj, h.2⟩⟩

/-! ### The value at a place -/
theorem cnt_spec (x : Int) : ∀ (l : List Int), l.Pairwise (· ≤ ·) → ∀ j, j < l.length → (l.getD j 0 < x ↔ j < l.countP (fun y => !decide (x ≤ y)))
  | [], _, j, hj => by simp at hj
  | a :: t, h, j, hj => by
    rw [List.pairwise_cons] at h
    have ih := cnt_spec x t h.2
    by_cases ha : x ≤ a
    · have h0 : (a :: t).countP (fun y => !decide (x ≤ y)) = 0 := by
        rw [List.countP_eq_zero]
        intro b hb
        have : a ≤ b := by
          rcases List.mem_cons.1 hb with rfl | hb
          · exact Int.le_refl _
          · exact h.1 b hb
        simp only [Bool.not_eq_true', decide_eq_false_iff_not, Int.not_le, Int.not_lt]
        omega
      rw [h0]
      cases j with
      | zero => simp only [List.getD_cons_zero]; omega
      | succ j =>
        rw [List.length_cons] at hj
        have hm : t.getD j 0 ∈ t := by rw [List.getD_eq_getElem?_getD, List.getElem?_eq_getElem (by omega), Option.getD_some]; exact List.getElem_mem _
        have := h.1 _ hm
        simp only [List.getD_cons_succ]; omega
    · rw [List.countP_cons_of_pos (by simp only [Bool.not_eq_true', decide_eq_false_iff_not]; exact ha)]
      cases j with
      | zero => simp only [List.getD_cons_zero]; omega
      | succ j =>
        rw [List.length_cons] at hj
        have := ih j (by omega)
        simp only [List.getD_cons_succ]; omega

theorem mapX (l : List S37) (i : Nat) : (l.map S37.f0).getD i 0 = px l i := (rd_f0 l i).symm
theorem mapY (l : List S37) (i : Nat) : (l.map S37.f1).getD i 0 = py l i := (rd_f1 l i).symm
theorem incr {l : List S37} (h : R l) (i j : Nat) (hij : i ≤ j) (hj : j < l.length) : px l i ≤ px l j ∧ py l i ≤ py l j := by
  induction j with
  | zero => have : i = 0 := by omega
            subst this; exact ⟨Int.le_refl _, Int.le_refl _⟩
  | succ j ih =>
    rcases Nat.lt_or_ge i (j + 1) with h1 | h1
    · have h2 := ih (by omega) (by omega)
      have h3 := (h.1 (j + 1) hj).2 (by omega)
      rw [show j + 1 - 1 = j by omega] at h3
      omega
    · have : i = j + 1 := by omega
      subst this; exact ⟨Int.le_refl _, Int.le_refl _⟩
theorem sortedX {l : List S37} (h : R l) : (l.map S37.f0).Pairwise (· ≤ ·) := by
  rw [List.pairwise_iff_getElem]
  intro i j hi hj hij
  rw [List.length_map] at hi hj
  have := (incr h i j (by omega) hj).1
  rw [← mapX, ← mapX] at this
  simpa [List.getD_eq_getElem?_getD, hi, hj] using this
theorem sortedY {l : List S37} (h : R l) : (l.map S37.f1).Pairwise (· ≤ ·) := by
  rw [List.pairwise_iff_getElem]
  intro i j hi hj hij
  rw [List.length_map] at hi hj
  have := (incr h i j (by omega) hj).2
  rw [← mapY, ← mapY] at this
  simpa [List.getD_eq_getElem?_getD, hi, hj] using this
/-- How many points lie left of x. -/
def idx (l : List S37) (x : Int) : Nat := (l.map S37.f0).countP (fun y => !decide (x ≤ y))
def idy (l : List S37) (y : Int) : Nat := (l.map S37.f1).countP (fun z => !decide (y ≤ z))
theorem idx_le (l : List S37) (x : Int) : idx l x ≤ l.length := by unfold idx; have := List.countP_le_length (p := fun y => !decide (x ≤ y)) (l := l.map S37.f0); rwa [List.length_map] at this
theorem idy_le (l : List S37) (x : Int) : idy l x ≤ l.length := by unfold idy; have := List.countP_le_length (p := fun y => !decide (x ≤ y)) (l := l.map S37.f1); rwa [List.length_map] at this
theorem idx_iff {l : List S37} (h : R l) (x : Int) (j : Nat) (hj : j < l.length) : px l j < x ↔ j < idx l x := by
  have := cnt_spec x _ (sortedX h) j (by rw [List.length_map]; exact hj)
  rwa [mapX] at this
theorem idy_iff {l : List S37} (h : R l) (y : Int) (j : Nat) (hj : j < l.length) : py l j < y ↔ j < idy l y := by
  have := cnt_spec y _ (sortedY h) j (by rw [List.length_map]; exact hj)
  rwa [mapY] at this
theorem searchX {l : List S37} (h : R l) (x : Int) : search_x.f l x = some (idx l x : Int) := by
  unfold search_x.f
  rw [if_pos]; rfl
  unfold asc
  rw [Bool.and_eq_true, decide_eq_true_iff, decide_eq_true_iff, List.length_map]
  exact ⟨sortedX h, by have := h.2.2; omega⟩
theorem searchY {l : List S37} (h : R l) (y : Int) : search_y.f l y = some (idy l y : Int) := by
  unfold search_y.f
  rw [if_pos]; rfl
  unfold asc
  rw [Bool.and_eq_true, decide_eq_true_iff, decide_eq_true_iff, List.length_map]
  exact ⟨sortedY h, by have := h.2.2; omega⟩

/-- The rise behind point i - 1, as a product over a length. -/
def num (l : List S37) (i : Nat) (x : Int) : Int := (py l i - py l (i - 1)) * (x - px l (i - 1))
def len (l : List S37) (i : Nat) : Int := px l i - px l (i - 1)
def V (l : List S37) (x : Int) : Int := if idx l x = 0 then py l 0 else if idx l x = l.length then py l (l.length - 1) else py l (idx l x - 1) + num l (idx l x) x / len l (idx l x)
def W (l : List S37) (x : Int) : Int := if idx l x = 0 then 0 else if idx l x = l.length then 0 else num l (idx l x) x % len l (idx l x)
def U (l : List S37) (x : Int) : Int := if W l x > 0 then V l x + 1 else V l x

/-- Between two points: the facts of the place. -/
theorem place {l : List S37} (h : R l) (x : Int) (h0 : idx l x ≠ 0) (h1 : idx l x ≠ l.length) :
    idx l x < l.length ∧ px l (idx l x - 1) < x ∧ x ≤ px l (idx l x) ∧ 0 < len l (idx l x) ∧ 0 ≤ py l (idx l x) - py l (idx l x - 1) := by
  have hle := idx_le l x
  have hi : idx l x < l.length := by omega
  have a := (idx_iff h x (idx l x - 1) (by omega)).2 (by omega)
  have b : ¬ px l (idx l x) < x := fun hh => by have := (idx_iff h x (idx l x) hi).1 hh; omega
  have c := (h.1 (idx l x) hi).2 (by omega)
  unfold len
  exact ⟨hi, a, by omega, by omega, by omega⟩
theorem quot {a n d : Int} (ha : 0 ≤ a) (hn : 0 ≤ n) (hnd : n ≤ d) (hd : 0 < d) : 0 ≤ a * n / d ∧ a * n / d ≤ a ∧ 0 ≤ a * n % d ∧ a * n % d < d := by
  refine ⟨Int.ediv_nonneg (Int.mul_nonneg ha hn) (by omega), ?_, Int.emod_nonneg _ (by omega), Int.emod_lt_of_pos _ hd⟩
  have h1 : a * n ≤ a * d := Int.mul_le_mul_of_nonneg_left hnd ha
  have h2 := Int.ediv_le_ediv hd h1
  rwa [Int.mul_ediv_cancel _ (by omega)] at h2

theorem at_spec {l : List S37} (h : R l) (x : Int) (k : Nat) (hk : 60 ≤ k) : curve_at.f k l x = some (V l x, U l x) := by
  unfold curve_at.f
  rw [searchX h, bs]
  unfold U V W
  have hn := h.2.1
  have hn2 := h.2.2
  by_cases h0 : idx l x = 0
  · rw [if_pos (by omega), if_pos (by omega), if_pos h0, if_pos h0, if_neg (by decide)]
    rw [show (0 : Int) = ((0 : Nat) : Int) from rfl, rd1]
  · rw [if_neg (by omega), if_neg h0, if_neg h0]
    by_cases h1 : idx l x = l.length
    · rw [if_pos (by omega), if_pos h1, if_pos h1, h1, wis _ (by omega), show (l.length : Int) - 1 = ((l.length - 1 : Nat) : Int) by omega, if_pos (by omega), if_pos (by omega), rd1]
      rfl
    · obtain ⟨hi, ha, hb, hc, hd⟩ := place h x h0 h1
      rw [if_neg (by omega), if_neg h1, if_neg h1]
      have p1 := (h.1 (idx l x) hi).1
      have p2 := (h.1 (idx l x - 1) (by omega)).1
      rw [wis ((idx l x : Int) - 1) (by omega), show (idx l x : Int) - 1 = ((idx l x - 1 : Nat) : Int) by omega, if_pos (by omega), if_pos (by omega), if_pos (by omega), if_pos (by omega)]
      rw [rd0, rd0, rd1, rd1]
      unfold num len at *
      generalize px l (idx l x) = qx at *
      generalize py l (idx l x) = qy at *
      generalize px l (idx l x - 1) = px' at *
      generalize py l (idx l x - 1) = py' at *
      have q := quot hd (show 0 ≤ x - px' by omega) (show x - px' ≤ qx - px' by omega) hc
      rw [wis (qy - py') (by omega), wis (x - px') (by omega), wis (qx - px') (by omega), scale_spec k (by omega), bs]
      have hf : fits (qy - py') (x - px') (qx - px') := ⟨hd, by omega, by omega, by omega, by omega, by omega, by omega⟩
      rw [sc_true hf]
      dsimp only
      generalize (qy - py') * (x - px') / (qx - px') = z at *
      generalize (qy - py') * (x - px') % (qx - px') = r at *
      rw [wis (py' + z) (by omega)]
      by_cases hr : r > 0
      · rw [if_pos hr, if_pos hr, wis _ (by omega)]
      · rw [if_neg hr, if_neg hr]

theorem At_spec (l : List S37) (x : Int) (k : Nat) (hl : l.length ≤ 40) (hk : 130 ≤ k) : curve_At.f k l x = some (if rb l = true then V l x else 0) := by
  unfold curve_At.f
  rw [right_spec l k (by omega) (by omega), bs]
  by_cases h : R l
  · rw [rb_true h, if_pos rfl, if_pos rfl, at_spec h x k (by omega), bs]
  · rw [rb_false h, if_neg (by decide), if_neg (by decide)]

/-! ### The value on a whole segment -/
theorem idx_eq {l : List S37} (h : R l) (t : Int) (i : Nat) (hi : i ≤ l.length) (h1 : ∀ j, j < i → px l j < t) (h2 : ∀ j, i ≤ j → j < l.length → t ≤ px l j) : idx l t = i := by
  have hle := idx_le l t
  rcases Nat.lt_trichotomy (idx l t) i with a | a | a
  · have := (idx_iff h t (idx l t) (by omega)).1 (h1 _ a); omega
  · exact a
  · have := (idx_iff h t i (by omega)).2 a
    have := h2 i (Nat.le_refl i) (by omega); omega
theorem val_left {l : List S37} (h : R l) (t : Int) (ht : t ≤ px l 0) : V l t = py l 0 ∧ W l t = 0 := by
  have e := idx_eq h t 0 (by omega) (fun j hj => by omega) (fun j _ hj => by have := (incr h 0 j (by omega) hj).1; omega)
  unfold V W; rw [if_pos e, if_pos e]; exact ⟨rfl, rfl⟩
theorem val_point {l : List S37} (h : R l) (i : Nat) (hi : i < l.length) : V l (px l i) = py l i ∧ W l (px l i) = 0 := by
  rcases Nat.eq_zero_or_pos i with h0 | h0
  · subst h0; exact val_left h _ (Int.le_refl _)
  · have e := idx_eq h (px l i) i (by omega) (fun j hj => by
        have a := (incr h j (i - 1) (by omega) (by omega)).1
        have b := ((h.1 i hi).2 h0).1
        omega) (fun j h1 h2 => (incr h i j h1 h2).1)
    have b := ((h.1 i hi).2 h0).1
    unfold V W
    rw [e, if_neg (by omega), if_neg (by omega), if_neg (by omega), if_neg (by omega)]
    unfold num len
    rw [Int.mul_ediv_cancel _ (by omega), Int.mul_emod_left]
    omega
theorem val_right {l : List S37} (h : R l) (t : Int) (ht : px l (l.length - 1) ≤ t) : V l t = py l (l.length - 1) ∧ W l t = 0 := by
  have hn := h.2.1
  rcases Int.lt_or_eq_of_le ht with a | a
  · have e := idx_eq h t l.length (by omega) (fun j hj => by have := (incr h j (l.length - 1) (by omega) (by omega)).1; omega) (fun j h1 h2 => by omega)
    unfold V W
    rw [e, if_neg (by omega), if_pos rfl, if_neg (by omega), if_pos rfl]
    exact ⟨rfl, rfl⟩
  · rw [← a]; exact val_point h _ (by omega)
theorem val_seg {l : List S37} (h : R l) (i : Nat) (h0 : 0 < i) (hi : i < l.length) (t : Int) (h1 : px l (i - 1) ≤ t) (h2 : t ≤ px l i) :
    V l t = py l (i - 1) + num l i t / len l i ∧ W l t = num l i t % len l i := by
  rcases Int.lt_or_eq_of_le h1 with a | a
  · have e := idx_eq h t i (by omega) (fun j hj => by have := (incr h j (i - 1) (by omega) (by omega)).1; omega) (fun j h3 h4 => by have := (incr h i j h3 h4).1; omega)
    unfold V W
    rw [e, if_neg (by omega), if_neg (by omega), if_neg (by omega), if_neg (by omega)]
    exact ⟨rfl, rfl⟩
  · have := val_point h (i - 1) (by omega)
    rw [← a]
    rw [this.1, this.2]
    unfold num
    rw [Int.sub_self, Int.mul_zero, Int.zero_ediv, Int.zero_emod]
    omega
/-- Every place lies left of all points, on a segment, or right of all points. -/
theorem where_ {l : List S37} (h : R l) (t : Int) : t ≤ px l 0 ∨ px l (l.length - 1) ≤ t ∨ ∃ i, 0 < i ∧ i < l.length ∧ px l (i - 1) < t ∧ t ≤ px l i := by
  by_cases h0 : idx l t = 0
  · exact Or.inl (by
      have := h.2.1
      have a : ¬ px l 0 < t := fun hh => by have := (idx_iff h t 0 (by omega)).1 hh; omega
      omega)
  · by_cases h1 : idx l t = l.length
    · exact Or.inr (Or.inl (by have := (idx_iff h t (l.length - 1) (by have := h.2.1; omega)).2 (by have := h.2.1; omega); omega))
    · obtain ⟨a, b, c, _⟩ := place h t h0 h1
      exact Or.inr (Or.inr ⟨idx l t, by omega, a, b, c⟩)

theorem seg_bounds {l : List S37} (h : R l) (i : Nat) (h0 : 0 < i) (hi : i < l.length) (t : Int) (h1 : px l (i - 1) ≤ t) (h2 : t ≤ px l i) :
    py l (i - 1) ≤ V l t ∧ V l t ≤ py l i ∧ 0 < len l i ∧ 0 ≤ W l t ∧ W l t < len l i := by
  have e := val_seg h i h0 hi t h1 h2
  have a := (h.1 i hi).2 h0
  have q := quot (show 0 ≤ py l i - py l (i - 1) by omega) (show 0 ≤ t - px l (i - 1) by omega) (show t - px l (i - 1) ≤ len l i by unfold len; omega) (show 0 < len l i by unfold len; omega)
  rw [e.1, e.2]
  unfold num
  omega
theorem V_low {l : List S37} (h : R l) (t : Int) : py l 0 ≤ V l t ∧ V l t ≤ py l (l.length - 1) := by
  have hn := h.2.1
  have all := (incr h 0 (l.length - 1) (by omega) (by omega)).2
  rcases where_ h t with a | a | ⟨i, h0, hi, a, b⟩
  · rw [(val_left h t a).1]; omega
  · rw [(val_right h t a).1]; omega
  · have s := seg_bounds h i h0 hi t (by omega) b
    have u := (incr h 0 (i - 1) (by omega) (by omega)).2
    have v := (incr h i (l.length - 1) (by omega) (by omega)).2
    omega
theorem V_mono {l : List S37} (h : R l) (s t : Int) (hst : s ≤ t) : V l s ≤ V l t := by
  have hn := h.2.1
  rcases where_ h s with a | a | ⟨i, h0, hi, a, b⟩
  · rw [(val_left h s a).1]; exact (V_low h t).1
  · rw [(val_right h s a).1, (val_right h t (by omega)).1]; exact Int.le_refl _
  · rcases where_ h t with c | c | ⟨j, g0, gj, c, d⟩
    · have := (incr h 0 (i - 1) (by omega) (by omega)).1; omega
    · rw [(val_right h t c).1]; exact (V_low h s).2
    · have si := seg_bounds h i h0 hi s (by omega) b
      have sj := seg_bounds h j g0 gj t (by omega) d
      rcases Nat.lt_trichotomy i j with e | e | e
      · have := (incr h i (j - 1) (by omega) (by omega)).2; omega
      · subst e
        rw [(val_seg h i h0 hi s (by omega) b).1, (val_seg h i h0 hi t (by omega) d).1]
        have hd := (h.1 i hi).2 h0
        have : num l i s ≤ num l i t := Int.mul_le_mul_of_nonneg_left (by omega) (by omega)
        have := Int.ediv_le_ediv si.2.2.1 this
        omega
      · have := (incr h j (i - 1) (by omega) (by omega)).1; omega

/-! ### The least place -/
def ceil (n d : Int) : Int := if n % d > 0 then n / d + 1 else n / d
theorem ceil_le {n d m : Int} (hd : 0 < d) : ceil n d ≤ m ↔ n ≤ m * d := by
  have e := Int.mul_ediv_add_emod n d
  have r0 := Int.emod_nonneg n (show d ≠ 0 by omega)
  have r1 := Int.emod_lt_of_pos n hd
  have key : n / d ≤ m - 1 → d * (n / d) ≤ m * d - d := fun h => by
    have := Int.mul_le_mul_of_nonneg_left h (show 0 ≤ d by omega)
    rw [Int.mul_sub, Int.mul_one, Int.mul_comm d m] at this; omega
  have key2 : m ≤ n / d → m * d ≤ d * (n / d) := fun h => by
    have := Int.mul_le_mul_of_nonneg_left h (show 0 ≤ d by omega)
    rw [Int.mul_comm d m] at this; exact this
  unfold ceil
  constructor
  · intro h
    rcases Int.lt_or_le (n / d) m with a | a
    · have := key (by omega); omega
    · have hm : m = n / d := by split at h <;> omega
      split at h
      · omega
      · rw [hm, Int.mul_comm]; omega
  · intro h
    rcases Int.lt_or_le (n / d) m with a | a
    · split <;> omega
    · have := key2 a
      have : n / d = m := by
        rcases Int.lt_or_eq_of_le a with b | b
        · have := Int.mul_le_mul_of_nonneg_left (show m + 1 ≤ n / d by omega) (show 0 ≤ d by omega)
          rw [Int.mul_add, Int.mul_one, Int.mul_comm d m] at this; omega
        · omega
      split <;> omega
def L (l : List S37) (y : Int) : Int := if idy l y = 0 then 0 else px l (idy l y - 1) + ceil ((y - py l (idy l y - 1)) * len l (idy l y)) (py l (idy l y) - py l (idy l y - 1))
theorem idy_full {l : List S37} (h : R l) (y : Int) : idy l y = l.length ↔ py l (l.length - 1) < y := by
  have hn := h.2.1
  have hle := idy_le l y
  rw [idy_iff h y (l.length - 1) (by omega)]
  omega
/-- Where the value is y at least: from the least place on. -/
theorem galois {l : List S37} (h : R l) (y t : Int) (ht : 0 ≤ t) (hy : idy l y ≠ l.length) : y ≤ V l t ↔ L l y ≤ t := by
  have hle := idy_le l y
  have hn := h.2.1
  unfold L
  by_cases h0 : idy l y = 0
  · rw [if_pos h0]
    have a : ¬ py l 0 < y := fun hh => by have := (idy_iff h y 0 (by omega)).1 hh; omega
    have := (V_low h t).1
    omega
  · rw [if_neg h0]
    obtain ⟨i, hi⟩ : ∃ i, idy l y = i := ⟨_, rfl⟩
    rw [hi]
    have a := (idy_iff h y (i - 1) (by omega)).2 (by omega)
    have b : ¬ py l i < y := fun hh => by have := (idy_iff h y i (by omega)).1 hh; omega
    have c := (h.1 i (by omega)).2 (by omega)
    have hlen : 0 < len l i := by unfold len; omega
    have hd : 0 < py l i - py l (i - 1) := by omega
    rcases Int.lt_or_le t (px l (i - 1)) with u | u
    · have hv := V_mono h t (px l (i - 1)) (by omega)
      rw [(val_point h (i - 1) (by omega)).1] at hv
      have hc : ¬ ceil ((y - py l (i - 1)) * len l i) (py l i - py l (i - 1)) ≤ 0 := by
        rw [ceil_le hd, Int.zero_mul]
        have := Int.mul_pos (show 0 < y - py l (i - 1) by omega) hlen; omega
      omega
    · have hm : ceil ((y - py l (i - 1)) * len l i) (py l i - py l (i - 1)) ≤ t - px l (i - 1) ↔ (y - py l (i - 1)) * len l i ≤ (t - px l (i - 1)) * (py l i - py l (i - 1)) := ceil_le hd
      rcases Int.lt_or_le (px l i) t with v | v
      · have hv := V_mono h (px l i) t (by omega)
        rw [(val_point h i (by omega)).1] at hv
        have h1 : ceil ((y - py l (i - 1)) * len l i) (py l i - py l (i - 1)) ≤ len l i := by
          rw [ceil_le hd, Int.mul_comm]
          exact Int.mul_le_mul_of_nonneg_left (by omega) (by omega)
        have : len l i = px l i - px l (i - 1) := rfl
        omega
      · have e := (val_seg h i (by omega) (by omega) t u v).1
        have q : y - py l (i - 1) ≤ num l i t / len l i ↔ (y - py l (i - 1)) * len l i ≤ num l i t := Int.le_ediv_iff_mul_le hlen
        rw [show (t - px l (i - 1)) * (py l i - py l (i - 1)) = num l i t from Int.mul_comm _ _] at hm
        omega

theorem Least_spec (l : List S37) (y : Int) (k : Nat) (hl : l.length ≤ 40) (hk : 130 ≤ k) :
    curve_Least.f k l y = some (if rb l = true then (if idy l y = l.length then (0, false) else (L l y, true)) else (0, false)) := by
  unfold curve_Least.f
  rw [right_spec l k (by omega) (by omega), bs]
  by_cases h : R l
  · rw [rb_true h, if_pos rfl, if_pos rfl, searchY h, bs]
    have hn := h.2.1
    have hle := idy_le l y
    unfold L
    by_cases h1 : idy l y = l.length
    · rw [if_pos (by omega), if_pos h1]
    · rw [if_neg (by omega), if_neg h1]
      by_cases h0 : idy l y = 0
      · rw [if_pos (by omega), if_pos h0]
      · rw [if_neg (by omega), if_neg h0]
        have a := (idy_iff h y (idy l y - 1) (by omega)).2 (by omega)
        have b : ¬ py l (idy l y) < y := fun hh => by have := (idy_iff h y (idy l y) (by omega)).1 hh; omega
        have c := (h.1 (idy l y) (by omega)).2 (by omega)
        have p1 := (h.1 (idy l y) (by omega)).1
        have p2 := (h.1 (idy l y - 1) (by omega)).1
        have hi : idy l y < l.length := by omega
        rw [wis ((idy l y : Int) - 1) (by omega), show (idy l y : Int) - 1 = ((idy l y - 1 : Nat) : Int) by omega, if_pos (by omega), if_pos (by omega), if_pos (by omega), if_pos (by omega)]
        rw [rd0, rd0, rd1, rd1]
        unfold len ceil
        generalize px l (idy l y) = qx at *
        generalize py l (idy l y) = qy at *
        generalize px l (idy l y - 1) = px' at *
        generalize py l (idy l y - 1) = py' at *
        have q := quot (show 0 ≤ qx - px' by omega) (show 0 ≤ y - py' by omega) (show y - py' ≤ qy - py' by omega) (show 0 < qy - py' by omega)
        rw [Int.mul_comm] at q
        rw [wis (y - py') (by omega), wis (qx - px') (by omega), wis (qy - py') (by omega), scale_spec k (by omega), bs]
        have hf : fits (y - py') (qx - px') (qy - py') := ⟨by omega, by omega, by omega, by omega, by omega, by omega, by omega⟩
        rw [sc_true hf]
        dsimp only
        generalize (y - py') * (qx - px') / (qy - py') = z at *
        generalize (y - py') * (qx - px') % (qy - py') = r at *
        by_cases hr : r > 0
        · rw [if_pos hr, if_pos hr, wis (z + 1) (by omega), wis _ (by omega)]
        · rw [if_neg hr, if_neg hr, wis _ (by omega)]
  · rw [rb_false h, if_neg (by decide), if_neg (by decide)]

/-! ### Slopes -/
def dy (l : List S37) (i : Nat) : Int := py l i - py l (i - 1)
theorem slope_l0 {l : List S37} (h : R l) (nu de : Int) (hn0 : 0 ≤ nu) (hn1 : nu ≤ 1125899906842624) (hd0 : 1 ≤ de) (hd1 : de ≤ 1125899906842624) : ∀ (d k i : Nat), l.length - i = d → 1 ≤ i → i ≤ l.length → d + 62 ≤ k →
    ∃ b, curve_Slope.l0 k l nu de (i : Int) = some b ∧ (b = true ↔ ∀ j, i ≤ j → j < l.length → dy l j * de ≤ nu * len l j) := by
  have hlen := h.2.2
  intro d
  induction d with
  | zero =>
    intro k i hd hi1 hi hk
    obtain ⟨k, rfl⟩ : ∃ m, k = m + 1 := ⟨k - 1, by omega⟩
    simp only [curve_Slope.l0]
    rw [if_neg (by omega)]
    exact ⟨_, rfl, fun _ j h1 h2 => by omega, fun _ => rfl⟩
  | succ d ih =>
    intro k i hd hi1 hi hk
    obtain ⟨k, rfl⟩ : ∃ m, k = m + 1 := ⟨k - 1, by omega⟩
    have hlt : i < l.length := by omega
    obtain ⟨b, hb, hiff⟩ := ih k (i + 1) (by omega) (by omega) (by omega) (by omega)
    have p1 := (h.1 i hlt).1
    have p2 := (h.1 (i - 1) (by omega)).1
    have c := (h.1 i hlt).2 (by omega)
    simp only [curve_Slope.l0]
    rw [if_pos (by omega), if_pos (by omega), wis ((i : Int) - 1) (by omega), show (i : Int) - 1 = ((i - 1 : Nat) : Int) by omega, if_pos (by omega), if_pos (by omega), rd0, rd0, rd1, rd1]
    rw [wis (px l i - px l (i - 1)) (by omega), wis (py l i - py l (i - 1)) (by omega), scale_spec k (by omega), bs, wis ((i : Int) + 1) (by omega), show (i : Int) + 1 = ((i + 1 : Nat) : Int) from rfl, hb]
    have hl0 : 0 < len l i := by unfold len; omega
    have key : dy l i ≤ nu * len l i / de ↔ dy l i * de ≤ nu * len l i := Int.le_ediv_iff_mul_le (by omega)
    have glue : ∀ P : Prop, (P ↔ dy l i * de ≤ nu * len l i) → ((∀ j, i ≤ j → j < l.length → dy l j * de ≤ nu * len l j) ↔ (P ∧ ∀ j, i + 1 ≤ j → j < l.length → dy l j * de ≤ nu * len l j)) := by
      intro P hP
      constructor
      · intro hh; exact ⟨hP.2 (hh i (Nat.le_refl i) hlt), fun j h1 h2 => hh j (by omega) h2⟩
      · rintro ⟨h1, h2⟩ j h3 h4
        rcases Nat.lt_or_ge i j with e | e
        · exact h2 j (by omega) h4
        · have : j = i := by omega
          subst this; exact hP.1 h1
    by_cases hf : fits nu (px l i - px l (i - 1)) de
    · rw [sc_true hf, if_pos rfl]
      dsimp only
      by_cases hg : py l i - py l (i - 1) > nu * (px l i - px l (i - 1)) / de
      · rw [if_pos hg]
        refine ⟨_, rfl, fun e => (by cases e), fun e => ?_⟩
        have := key.2 (e i (Nat.le_refl i) hlt)
        unfold dy len at this; omega
      · rw [if_neg hg]
        have hP : dy l i ≤ nu * len l i / de := by unfold dy len; omega
        exact ⟨b, rfl, hiff.trans ⟨fun e => (glue _ key).2 ⟨hP, e⟩, fun e => ((glue _ key).1 e).2⟩⟩
    · rw [sc_false hf, if_neg (by decide)]
      have hbig : ¬ nu * len l i / de ≤ 1125899906842624 := fun e => hf ⟨hn0, hn1, by omega, by omega, hd0, hd1, e⟩
      have hP : dy l i ≤ nu * len l i / de := by unfold dy; omega
      exact ⟨b, rfl, hiff.trans ⟨fun e => (glue _ key).2 ⟨hP, e⟩, fun e => ((glue _ key).1 e).2⟩⟩

def Sl (l : List S37) (nu de : Int) : Prop := R l ∧ 0 ≤ nu ∧ nu ≤ 1125899906842624 ∧ 1 ≤ de ∧ de ≤ 1125899906842624 ∧ ∀ j, 0 < j → j < l.length → dy l j * de ≤ nu * len l j
theorem Slope_spec (l : List S37) (nu de : Int) (k : Nat) (hl : l.length ≤ 40) (hk : 130 ≤ k) : ∃ b, curve_Slope.f k l nu de = some b ∧ (b = true ↔ Sl l nu de) := by
  obtain ⟨k, rfl⟩ : ∃ m, k = m + 1 := ⟨k - 1, by omega⟩
  unfold curve_Slope.f
  rw [right_spec l _ (by omega) (by omega), bs]
  have bad : ¬ Sl l nu de → ∃ b, curve_Slope.j0 (k + 1) l nu de true = some b ∧ (b = true ↔ Sl l nu de) := by
    intro h
    simp only [curve_Slope.j0]
    rw [if_pos trivial]
    exact ⟨_, rfl, fun e => (by cases e), fun e => absurd e h⟩
  by_cases h : R l
  · rw [rb_true h, if_pos rfl]
    by_cases h1 : nu < 0
    · rw [if_pos h1]; exact bad (fun e => by have := e.2.1; omega)
    · rw [if_neg h1]
      by_cases h2 : nu > 1125899906842624
      · rw [if_pos h2]; exact bad (fun e => by have := e.2.2.1; omega)
      · rw [if_neg h2]
        by_cases h3 : de < 1
        · rw [if_pos h3]; exact bad (fun e => by have := e.2.2.2.1; omega)
        · rw [if_neg h3]
          by_cases h4 : de > 1125899906842624
          · rw [decide_eq_true h4]; exact bad (fun e => by have := e.2.2.2.2.1; omega)
          · rw [decide_eq_false h4]
            simp only [curve_Slope.j0]
            rw [if_neg (by decide)]
            have hn := h.2.1
            obtain ⟨b, hb, hiff⟩ := slope_l0 h nu de (by omega) (by omega) (by omega) (by omega) (l.length - 1) k 1 rfl (by omega) (by omega) (by omega)
            exact ⟨b, hb, hiff.trans ⟨fun e => ⟨h, by omega, by omega, by omega, by omega, fun j h1 h2 => e j (by omega) h2⟩, fun e j h1 h2 => e.2.2.2.2.2 j (by omega) h2⟩⟩
  · rw [rb_false h, if_neg (by decide)]; exact bad (fun e => h e.1)

/-! ### Under -/
theorem under_l1 {a : List S37} (h : R a) (b : List S37) (hb : b.length ≤ 40) : ∀ (d k i : Nat), b.length - i = d → i ≤ b.length → d + 62 ≤ k →
    ∃ r, curve_Under.l1 k a b (b.length : Int) (i : Int) = some r ∧ (r = true ↔ ∀ j, i ≤ j → j < b.length → U a (px b j) ≤ py b j) := by
  intro d
  induction d with
  | zero =>
    intro k i hd hi hk
    obtain ⟨k, rfl⟩ : ∃ m, k = m + 1 := ⟨k - 1, by omega⟩
    simp only [curve_Under.l1]
    rw [if_neg (by omega)]
    exact ⟨_, rfl, fun _ j h1 h2 => by omega, fun _ => rfl⟩
  | succ d ih =>
    intro k i hd hi hk
    obtain ⟨k, rfl⟩ : ∃ m, k = m + 1 := ⟨k - 1, by omega⟩
    obtain ⟨r, hr, hiff⟩ := ih k (i + 1) (by omega) (by omega) (by omega)
    simp only [curve_Under.l1]
    rw [if_pos (by omega), if_pos (by omega), if_pos (by omega), rd0, rd1, at_spec h _ k (by omega), bs, wis ((i : Int) + 1) (by omega), show (i : Int) + 1 = ((i + 1 : Nat) : Int) from rfl, hr]
    dsimp only
    by_cases hg : U a (px b i) > py b i
    · rw [if_pos hg]
      exact ⟨_, rfl, fun e => (by cases e), fun e => by have := e i (Nat.le_refl i) (by omega); omega⟩
    · rw [if_neg hg]
      refine ⟨r, rfl, hiff.trans ⟨fun e j h1 h2 => ?_, fun e j h1 h2 => e j (by omega) h2⟩⟩
      rcases Nat.lt_or_ge i j with q | q
      · exact e j (by omega) h2
      · have : j = i := by omega
        subst this; omega
theorem under_l0 {a b : List S37} (ha : R a) (hb : R b) : ∀ (d k i : Nat), a.length - i = d → i ≤ a.length → d + 120 ≤ k →
    ∃ r, curve_Under.l0 k a b a (a.length : Int) (i : Int) = some r ∧ (r = true ↔ ((∀ j, i ≤ j → j < a.length → py a j ≤ V b (px a j)) ∧ ∀ j, j < b.length → U a (px b j) ≤ py b j)) := by
  have hla := ha.2.2
  have hlb := hb.2.2
  intro d
  induction d with
  | zero =>
    intro k i hd hi hk
    obtain ⟨k, rfl⟩ : ∃ m, k = m + 1 := ⟨k - 1, by omega⟩
    simp only [curve_Under.l0]
    rw [if_neg (by omega)]
    obtain ⟨r, hr, hiff⟩ := under_l1 ha b (by omega) b.length k 0 (by omega) (by omega) (by omega)
    exact ⟨r, hr, hiff.trans ⟨fun e => ⟨fun j h1 h2 => by omega, fun j h1 => e j (by omega) h1⟩, fun e j h1 h2 => e.2 j h2⟩⟩
  | succ d ih =>
    intro k i hd hi hk
    obtain ⟨k, rfl⟩ : ∃ m, k = m + 1 := ⟨k - 1, by omega⟩
    obtain ⟨r, hr, hiff⟩ := ih k (i + 1) (by omega) (by omega) (by omega)
    simp only [curve_Under.l0]
    rw [if_pos (by omega), if_pos (by omega), if_pos (by omega), rd0, rd1, at_spec hb _ k (by omega), bs, wis ((i : Int) + 1) (by omega), show (i : Int) + 1 = ((i + 1 : Nat) : Int) from rfl, hr]
    dsimp only
    by_cases hg : py a i > V b (px a i)
    · rw [if_pos hg]
      exact ⟨_, rfl, fun e => (by cases e), fun e => by have := e.1 i (Nat.le_refl i) (by omega); omega⟩
    · rw [if_neg hg]
      refine ⟨r, rfl, hiff.trans ⟨fun e => ⟨fun j h1 h2 => ?_, e.2⟩, fun e => ⟨fun j h1 h2 => e.1 j (by omega) h2, e.2⟩⟩⟩
      rcases Nat.lt_or_ge i j with q | q
      · exact e.1 j (by omega) h2
      · have : j = i := by omega
        subst this; omega
def Un (a b : List S37) : Prop := R a ∧ R b ∧ (∀ j, j < a.length → py a j ≤ V b (px a j)) ∧ ∀ j, j < b.length → U a (px b j) ≤ py b j
theorem Under_spec (a b : List S37) (k : Nat) (hla : a.length ≤ 40) (hlb : b.length ≤ 40) (hk : 200 ≤ k) : ∃ r, curve_Under.f k a b = some r ∧ (r = true ↔ Un a b) := by
  obtain ⟨k, rfl⟩ : ∃ m, k = m + 1 := ⟨k - 1, by omega⟩
  unfold curve_Under.f
  rw [right_spec a _ (by omega) (by omega), bs]
  have bad : ¬ Un a b → ∃ r, curve_Under.j0 (k + 1) a b true = some r ∧ (r = true ↔ Un a b) := by
    intro h
    simp only [curve_Under.j0]
    rw [if_pos trivial]
    exact ⟨_, rfl, fun e => (by cases e), fun e => absurd e h⟩
  by_cases ha : R a
  · rw [rb_true ha, if_pos rfl, right_spec b _ (by omega) (by omega), bs]
    by_cases hb : R b
    · rw [rb_true hb]
      simp only [curve_Under.j0]
      rw [if_neg (by decide)]
      obtain ⟨r, hr, hiff⟩ := under_l0 ha hb a.length k 0 (by omega) (by omega) (by omega)
      exact ⟨r, hr, hiff.trans ⟨fun e => ⟨ha, hb, fun j h => e.1 j (by omega) h, e.2⟩, fun e => ⟨fun j _ h => e.2.2.1 j h, e.2.2.2⟩⟩⟩
    · rw [rb_false hb]; exact bad (fun e => hb e.2.1)
  · rw [rb_false ha, if_neg (by decide)]; exact bad (fun e => ha e.1)

theorem U_mono_of {v w v' w' d d' : Int} (hd : 0 < d) (hd' : 0 < d') (hw : 0 ≤ w) (hw2 : w < d) (hw' : 0 ≤ w') (hw2' : w' < d') (h : (v * d + w) * d' ≤ (v' * d' + w') * d) : v ≤ v' := by
  rcases Int.lt_or_le v' v with a | a
  · have h1 : (v' + 1) * d * d' ≤ v * d * d' := Int.mul_le_mul_of_nonneg_right (Int.mul_le_mul_of_nonneg_right (by omega) (by omega)) (by omega)
    have h2 : 0 ≤ w * d' := Int.mul_nonneg hw (by omega)
    have h3 : w' * d < d' * d := Int.mul_lt_mul_of_pos_right hw2' hd
    rw [Int.add_mul, Int.add_mul] at h
    rw [Int.add_mul, Int.one_mul, Int.add_mul] at h1
    have e1 : v' * d * d' = v' * d' * d := by rw [Int.mul_assoc, Int.mul_comm d d', ← Int.mul_assoc]
    have e2 : d * d' = d' * d := Int.mul_comm _ _
    omega
  · exact a
end Go.Proofs.Ytmkekbehipaopaa.Curve
