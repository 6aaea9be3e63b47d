import Derived.Test.YtpklgbnihgljmaaExact
import Derived.Test.YtpklgbnihgljmaaRef01
import Derived.Test.YtpklgbnihgljmaaRdT
import Derived.Test.YtpklgbnihgljmaaMesh
import Derived.Test.YtpklgbnihgljmaaFn10
import Derived.Test.YtpklgbnihgljmaaFn11
import Derived.Test.YtpklgbnihgljmaaFn12
import Derived.Test.YtpklgbnihgljmaaFn2
import Derived.Test.YtpklgbnihgljmaaFn4
import Derived.Test.YtpklgbnihgljmaaFn5
import Derived.Test.YtpklgbnihgljmaaFn6
import Derived.Test.YtpklgbnihgljmaaFn7
import Derived.Test.YtpklgbnihgljmaaFn8
import Derived.Test.YtpklgbnihgljmaaFn9
set_option maxRecDepth 100000
set_option linter.unusedVariables false
namespace Go.Proofs.Ytpklgbnihgljmaa.Rain
open Go.RowKit Go.Proofs.Ytpklgbnihgljmaa.Fn Go.Proofs.Ytpklgbnihgljmaa.Rd Go.Proofs.Ytpklgbnihgljmaa.Div Go.Proofs.Ytpklgbnihgljmaa.Exact Go.Proofs.YtpklgbnihgljmaaW.PrintWords Go.Proofs.YtpklgbnihgljmaaW.PrintLast Go.Proofs.YtpklgbnihgljmaaW.PrintMore

theorem mx_le (a c : Int) : a ≤ mx a c ∧ c ≤ mx a c ∧ (mx a c = a ∨ mx a c = c) := by unfold mx; split <;> omega
theorem mn_le (a c : Int) : mn a c ≤ a ∧ mn a c ≤ c ∧ (mn a c = a ∨ mn a c = c) := by unfold mn; split <;> omega
def lit (n area : Int) : Int := if n ≤ 0 ∨ area ≤ 0 then 0 else if (sc n area 1).2.2 = true then (sc n area 1).1 else 1125899906842624
theorem litres_spec (k : Nat) (hk : 51 ≤ k) (n area : Int) : rain_litres.f k n area = some (lit n area) := by
  obtain ⟨k, rfl⟩ : ∃ m, k = m + 1 := ⟨k - 1, by omega⟩
  have t : rain_litres.j0 (k + 1) n area true = some 0 := by simp only [rain_litres.j0]; rw [if_pos trivial]
  have f : rain_litres.j0 (k + 1) n area false = some (if (sc n area 1).2.2 = true then (sc n area 1).1 else 1125899906842624) := by
    simp only [rain_litres.j0]
    rw [if_neg (by decide), scale_spec _ (by omega), bs]
    split <;> rfl
  unfold rain_litres.f lit
  by_cases h1 : n ≤ 0
  · rw [if_pos h1, t, if_pos (Or.inl h1)]
  · rw [if_neg h1]
    by_cases h2 : area ≤ 0
    · rw [decide_eq_true h2, t, if_pos (Or.inr h2)]
    · rw [decide_eq_false h2, f, if_neg (show ¬ (n ≤ 0 ∨ area ≤ 0) by omega)]
theorem ref_litres (k : Nat) (hk : 121 ≤ k) (n area : Int) : bourneref26_Litres.f k n area = some (lit n area) := by
  obtain ⟨k, rfl⟩ : ∃ m, k = m + 1 := ⟨k - 1, by omega⟩
  have t : bourneref26_Litres.j0 (k + 1) n area true = some 0 := by simp only [bourneref26_Litres.j0]; rw [if_pos trivial]
  have f : bourneref26_Litres.j0 (k + 1) n area false = some (if (sc n area 1).2.2 = true then (sc n area 1).1 else 1125899906842624) := by
    simp only [bourneref26_Litres.j0]
    rw [if_neg (by decide), Ref01.scale_spec _ (by omega), bs]
    split <;> rfl
  unfold bourneref26_Litres.f lit
  by_cases h1 : n ≤ 0
  · rw [if_pos h1, t, if_pos (Or.inl h1)]
  · rw [if_neg h1]
    by_cases h2 : area ≤ 0
    · rw [decide_eq_true h2, t, if_pos (Or.inr h2)]
    · rw [decide_eq_false h2, f, if_neg (show ¬ (n ≤ 0 ∨ area ≤ 0) by omega)]
theorem lit_eq (n area : Int) : lit n area = if n ≤ 0 ∨ area ≤ 0 then 0 else if n ≤ 1125899906842624 ∧ area ≤ 1125899906842624 ∧ n * area ≤ 1125899906842624 then n * area else 1125899906842624 := by
  unfold lit
  by_cases h : n ≤ 0 ∨ area ≤ 0
  · rw [if_pos h, if_pos h]
  · rw [if_neg h, if_neg h]
    by_cases g : n ≤ 1125899906842624 ∧ area ≤ 1125899906842624 ∧ n * area ≤ 1125899906842624
    · rw [if_pos g, sc_true ⟨by omega, g.1, by omega, g.2.1, by omega, by omega, by rw [Int.ediv_one]; exact g.2.2⟩, if_pos rfl, Int.ediv_one]
    · rw [if_neg g, sc_false (fun q => g ⟨q.2.1, q.2.2.2.1, by have := q.2.2.2.2.2.2; rwa [Int.ediv_one] at this⟩)]
      rfl
theorem lit_bound (n area : Int) : 0 ≤ lit n area ∧ lit n area ≤ 1125899906842624 := by
  rw [lit_eq]
  split
  · omega
  · split
    · rename_i h g
      have : 0 ≤ n * area := Int.mul_nonneg (by omega) (by omega)
      omega
    · omega
theorem lit_mono {n m : Int} (area : Int) (h : n ≤ m) : lit n area ≤ lit m area := by
  have b1 := lit_bound n area
  have b2 := lit_bound m area
  by_cases h0 : n ≤ 0 ∨ area ≤ 0
  · have : lit n area = 0 := by rw [lit_eq, if_pos h0]
    omega
  · have hm : n * area ≤ m * area := Int.mul_le_mul_of_nonneg_right h (by omega)
    by_cases g : m ≤ 1125899906842624 ∧ area ≤ 1125899906842624 ∧ m * area ≤ 1125899906842624
    · have e1 : lit n area = n * area := by rw [lit_eq, if_neg h0, if_pos ⟨by omega, g.2.1, by omega⟩]
      have e2 : lit m area = m * area := by rw [lit_eq, if_neg (by omega), if_pos g]
      omega
    · have e2 : lit m area = 1125899906842624 := by rw [lit_eq, if_neg (by omega), if_neg g]
      omega
theorem clamp_spec (a lo hi : Int) (h : lo ≤ hi) : exact_Clamp.f a lo hi = some (mx lo (mn a hi)) := by
  unfold exact_Clamp.f mx mn
  by_cases h1 : a < lo
  · rw [if_pos h1, if_neg (show ¬ hi < a by omega), if_neg (show ¬ lo < a by omega)]
  · rw [if_neg h1]
    by_cases h2 : hi < a
    · rw [if_pos h2, if_pos h2]
      by_cases h3 : lo < hi
      · rw [if_pos h3]
      · rw [if_neg h3, show lo = hi by omega]
    · rw [if_neg h2, if_neg h2]
      by_cases h3 : lo < a
      · rw [if_pos h3]
      · rw [if_neg h3, show lo = a by omega]
def rad (v p : Int) : Int × Int :=
  ((sc (mx 0 (mn v 1125899906842624)) (1000 - mx 0 (mn p 1000)) 1000).1,
    if (sc (mx 0 (mn v 1125899906842624)) (1000 + mx 0 (mn p 1000)) 1000).2.2 = true then
      (if (sc (mx 0 (mn v 1125899906842624)) (1000 + mx 0 (mn p 1000)) 1000).2.1 > 0 then mn (wrap64 ((sc (mx 0 (mn v 1125899906842624)) (1000 + mx 0 (mn p 1000)) 1000).1 + 1)) 1125899906842624
       else mn (sc (mx 0 (mn v 1125899906842624)) (1000 + mx 0 (mn p 1000)) 1000).1 1125899906842624)
    else 1125899906842624)
theorem radar_spec (k : Nat) (hk : 52 ≤ k) (v p : Int) : rain_radarSpan.f k v p = some (rad v p) := by
  obtain ⟨k, rfl⟩ : ∃ m, k = m + 1 := ⟨k - 1, by omega⟩
  have J : ∀ (lo x : Int) (b : Bool), rain_radarSpan.j0 (k + 1) lo x b = some (lo, if b = true then mn x 1125899906842624 else 1125899906842624) := by
    intro lo x b
    simp only [rain_radarSpan.j0]
    cases b
    · rw [if_neg (by decide), if_neg (by decide)]
    · rw [if_pos rfl, if_pos rfl]
      unfold mn
      by_cases g : x > 1125899906842624
      · rw [if_pos g, if_pos g]
      · rw [if_neg g, if_neg g]
  unfold rain_radarSpan.f rad
  rw [clamp_spec _ _ _ (by omega), bs, clamp_spec _ _ _ (by omega), bs]
  have q1 := mx_le 0 (mn p 1000)
  have q2 := mn_le p 1000
  generalize mx 0 (mn v 1125899906842624) = c
  generalize mx 0 (mn p 1000) = q at *
  rw [wis (1000 - q) (by omega), wis (1000 + q) (by omega), scale_spec _ (by omega), bs, scale_spec _ (by omega), bs]
  generalize sc c (1000 - q) 1000 = x
  generalize sc c (1000 + q) 1000 = y
  by_cases g : y.2.1 > 0
  · rw [if_pos g, J, if_pos g]
  · rw [if_neg g, J, if_neg g]
theorem ref_radar (k : Nat) (hk : 120 ≤ k) (v p : Int) : bourneref26_Radar.f k v p = some (rad v p) := by
  unfold bourneref26_Radar.f rad
  rw [Ref01.scale_spec _ (by omega), bs, Ref01.scale_spec _ (by omega), bs]
  split
  · split <;> rfl
  · rfl

/-! ### readings -/
def of_ (G : List S67) (r : S50) (cell : Int) : Prop := 0 ≤ r.f0 ∧ r.f0 < (G.length : Int) ∧ (rd_T67 G r.f0).f1 = 1 ∧ (rd_T67 G r.f0).f2 = cell
instance (G : List S67) (r : S50) (cell : Int) : Decidable (of_ G r cell) := by unfold of_; infer_instance
theorem ref_of (a0_0 : ByteArray) (l0_1 : List ByteArray) (a0_2 : Int) (l0_3 : List (S56)) (l0_4 : List (S104)) (l0_5 : List (S106)) (l0_6 : List (S67)) (l0_7 : List (S108)) (l0_8 : List (S110)) (l0_9 : List Int) (a0_10 : Int) (r : S50) (cell : Int) : bourneref26_Of.f a0_0 l0_1 a0_2 l0_3 l0_4 l0_5 l0_6 l0_7 l0_8 l0_9 a0_10 r.f0 r.f1 r.f2.f0 r.f2.f1 cell = some (decide (of_ l0_6 r cell)) := by
  unfold bourneref26_Of.f
  by_cases h1 : r.f0 < 0
  · rw [if_pos h1, decide_eq_false (fun h => by have := h.1; omega)]
  rw [if_neg h1]
  by_cases h2 : r.f0 ≥ (l0_6.length : Int)
  · rw [if_pos h2, decide_eq_false (fun h => by have := h.2.1; omega)]
  rw [if_neg h2, if_pos (by omega), if_pos (by omega)]
  by_cases h3 : (rd_T67 l0_6 r.f0).f1 = 1
  · rw [if_pos h3]
    congr 1
    by_cases h4 : (rd_T67 l0_6 r.f0).f2 = cell
    · rw [decide_eq_true (show of_ l0_6 r cell from ⟨by omega, by omega, h3, h4⟩), beq_iff_eq.mpr h4]
    · rw [decide_eq_false (fun h => h4 h.2.2.2), beq_eq_false_iff_ne.mpr h4]
  · rw [if_neg h3, decide_eq_false (fun h => h3 h.2.2.1)]
def takes (G : List S67) (cell : Int) (s : S40) (r : S50) : Prop := of_ G r cell ∧ r.f2.f0 ≤ r.f2.f1 ∧ mx s.f0 r.f2.f0 ≤ mn s.f1 r.f2.f1
instance (G : List S67) (cell : Int) (s : S40) (r : S50) : Decidable (takes G cell s r) := by unfold takes; infer_instance
def step (G : List S67) (cell : Int) (s : S40) (r : S50) : S40 := if takes G cell s r then ⟨mx s.f0 r.f2.f0, mn s.f1 r.f2.f1⟩ else s
def cellf (G : List S67) (cell : Int) (rs : List S50) (s : S40) : S40 := rs.foldl (step G cell) s
theorem rdR (l : List S50) (i : Nat) : rd_T50 l (i : Int) = l.getD i z50 := rfl
theorem drop_rdR (l : List S50) (i : Nat) (h : i < l.length) : l.drop i = rd_T50 l (i : Int) :: l.drop (i + 1) := by
  rw [rdR, List.getD_eq_getElem?_getD, List.getElem?_eq_getElem h, Option.getD_some]; exact List.drop_eq_getElem_cons h
theorem ref_meet (k : Nat) (a b c d : Int) : bourneref09_Meet.f (k + 2) a b c d = some (if mx a c ≤ mn b d then (mx a c, mn b d, true) else (0, 0, false)) := by
  unfold bourneref09_Meet.f
  have m1 := mx_le a c
  have m2 := mn_le b d
  have j1 : ∀ x y : Int, x = mx a c → y = mn b d → bourneref09_Meet.j1 (k + 1) x y = some (if mx a c ≤ mn b d then (mx a c, mn b d, true) else (0, 0, false)) := by
    intro x y hx hy
    subst hx hy
    simp only [bourneref09_Meet.j1]
    by_cases h : mx a c ≤ mn b d
    · rw [if_neg (by omega), if_pos h]
    · rw [if_pos (by omega), if_neg h]
  simp only [bourneref09_Meet.j0]
  by_cases h1 : c > a
  · rw [if_pos h1]
    by_cases h2 : d < b
    · rw [if_pos h2]; exact j1 _ _ (by omega) (by omega)
    · rw [if_neg h2]; exact j1 _ _ (by omega) (by omega)
  · rw [if_neg h1]
    by_cases h2 : d < b
    · rw [if_pos h2]; exact j1 _ _ (by omega) (by omega)
    · rw [if_neg h2]; exact j1 _ _ (by omega) (by omega)
theorem ref_cell_l0 (rs : List S50) (hl : rs.length ≤ 1000) (a0_0 : ByteArray) (l0_1 : List ByteArray) (a0_2 : Int) (l0_3 : List (S56)) (l0_4 : List (S104)) (l0_5 : List (S106)) (l0_6 : List (S67)) (l0_7 : List (S108)) (l0_8 : List (S110)) (l0_9 : List Int) (a0_10 : Int) (cell : Int) : ∀ (d k i : Nat) (s : S40), rs.length - i = d → i ≤ rs.length → 2 * d + 5 ≤ k →
    bourneref26_Cell.l0 k rs cell (i : Int) a0_0 l0_1 a0_2 l0_3 l0_4 l0_5 l0_6 l0_7 l0_8 l0_9 a0_10 s.f0 s.f1 = some ((cellf l0_6 cell (rs.drop i) s).f0, (cellf l0_6 cell (rs.drop i) s).f1) := by
  intro d
  induction d with
  | zero =>
    intro k i s hd hi hk
    obtain ⟨k, rfl⟩ : ∃ m, k = m + 1 := ⟨k - 1, by omega⟩
    simp only [bourneref26_Cell.l0]
    rw [if_neg (by omega), List.drop_eq_nil_of_le (by omega)]
    rfl
  | succ d ih =>
    intro k i s hd hi hk
    obtain ⟨k, rfl⟩ : ∃ m, k = m + 4 := ⟨k - 4, by omega⟩
    have hlt : i < rs.length := by omega
    simp only [bourneref26_Cell.l0]
    rw [if_pos (by omega), if_pos (by omega), ref_of, bs, drop_rdR rs i hlt]
    generalize rd_T50 rs (i : Int) = r
    unfold bourneref09_Right.f
    rw [bs, ref_meet, bs]
    have e : cellf l0_6 cell (r :: rs.drop (i + 1)) s = cellf l0_6 cell (rs.drop (i + 1)) (step l0_6 cell s r) := rfl
    rw [e]
    have no : ∀ x y : Int, ¬ takes l0_6 cell s r → bourneref26_Cell.j2 (k + 3) rs cell (i : Int) false a0_0 l0_1 a0_2 l0_3 l0_4 l0_5 l0_6 l0_7 l0_8 l0_9 a0_10 s.f0 s.f1 x y = some ((cellf l0_6 cell (rs.drop (i + 1)) (step l0_6 cell s r)).f0, (cellf l0_6 cell (rs.drop (i + 1)) (step l0_6 cell s r)).f1) := by
      intro x y h
      simp only [bourneref26_Cell.j2]
      rw [if_neg (by decide), wis _ (by omega), show (i : Int) + 1 = ((i + 1 : Nat) : Int) from rfl, show step l0_6 cell s r = s by unfold step; rw [if_neg h]]
      exact ih (k + 2) (i + 1) s (by omega) (by omega) (by omega)
    by_cases h1 : of_ l0_6 r cell
    case neg => rw [decide_eq_false h1, if_neg (by decide)]; exact no _ _ (fun h => h1 h.1)
    rw [decide_eq_true h1, if_pos rfl]
    by_cases h2 : r.f2.f0 ≤ r.f2.f1
    case neg => rw [decide_eq_false h2, if_neg (by decide)]; exact no _ _ (fun h => h2 h.2.1)
    rw [decide_eq_true h2, if_pos rfl]
    by_cases h3 : mx s.f0 r.f2.f0 ≤ mn s.f1 r.f2.f1
    case neg => rw [if_neg h3]; exact no _ _ (fun h => h3 h.2.2)
    rw [if_pos h3]
    dsimp only
    simp only [bourneref26_Cell.j2]
    rw [if_pos trivial, wis _ (by omega), show (i : Int) + 1 = ((i + 1 : Nat) : Int) from rfl]
    have es : step l0_6 cell s r = ⟨mx s.f0 r.f2.f0, mn s.f1 r.f2.f1⟩ := by unfold step; rw [if_pos ⟨h1, h2, h3⟩]
    rw [es]
    exact ih (k + 2) (i + 1) ⟨mx s.f0 r.f2.f0, mn s.f1 r.f2.f1⟩ (by omega) (by omega) (by omega)
def base (radar : List Int) (p : Int) (i : Nat) : S40 := ⟨(rad (if (i : Int) < (radar.length : Int) then rd radar (i : Int) else 0) p).1, (rad (if (i : Int) < (radar.length : Int) then rd radar (i : Int) else 0) p).2⟩
theorem ref_cell (k : Nat) (a0_0 : ByteArray) (l0_1 : List ByteArray) (a0_2 : Int) (l0_3 : List (S56)) (l0_4 : List (S104)) (l0_5 : List (S106)) (l0_6 : List (S67)) (l0_7 : List (S108)) (l0_8 : List (S110)) (l0_9 : List Int) (a0_10 : Int) (radar : List Int) (p : Int) (rs : List S50) (hl : rs.length ≤ 1000) (hk : 2 * rs.length + 200 ≤ k) (i : Nat) :
    bourneref26_Cell.f k a0_0 l0_1 a0_2 l0_3 l0_4 l0_5 l0_6 l0_7 l0_8 l0_9 a0_10 radar p rs (i : Int) = some ((cellf l0_6 (i : Int) rs (base radar p i)).f0, (cellf l0_6 (i : Int) rs (base radar p i)).f1) := by
  obtain ⟨k, rfl⟩ : ∃ m, k = m + 1 := ⟨k - 1, by omega⟩
  unfold bourneref26_Cell.f
  have j : ∀ v : Int, bourneref26_Cell.j0 (k + 1) p rs (i : Int) v a0_0 l0_1 a0_2 l0_3 l0_4 l0_5 l0_6 l0_7 l0_8 l0_9 a0_10 = some ((cellf l0_6 (i : Int) rs ⟨(rad v p).1, (rad v p).2⟩).f0, (cellf l0_6 (i : Int) rs ⟨(rad v p).1, (rad v p).2⟩).f1) := by
    intro v
    simp only [bourneref26_Cell.j0]
    rw [ref_radar _ (by omega), bs]
    exact ref_cell_l0 rs hl a0_0 l0_1 a0_2 l0_3 l0_4 l0_5 l0_6 l0_7 l0_8 l0_9 a0_10 (i : Int) rs.length k 0 ⟨(rad v p).1, (rad v p).2⟩ (by omega) (by omega) (by omega)
  unfold base
  by_cases g : (i : Int) < (radar.length : Int)
  · rw [if_pos g, if_pos (by omega), if_pos g]; exact j _
  · rw [if_neg g, if_neg g]; exact j _
def ncell (cells : Int) : Nat := (mx 0 (mn cells 64)).toNat
theorem ncell_le (cells : Int) : ncell cells ≤ 64 ∧ ((ncell cells : Nat) : Int) = mx 0 (mn cells 64) := by
  unfold ncell
  have := mx_le 0 (mn cells 64)
  have := mn_le cells 64
  omega
def cells (G : List S67) (n : Nat) (radar : List Int) (p : Int) (rs : List S50) : List S40 := (List.range n).map (fun i : Nat => cellf G (i : Int) rs (base radar p i))
theorem ref_cells_l0 (a0_0 : ByteArray) (l0_1 : List ByteArray) (a0_2 : Int) (l0_3 : List (S56)) (l0_4 : List (S104)) (l0_5 : List (S106)) (l0_6 : List (S67)) (l0_7 : List (S108)) (l0_8 : List (S110)) (l0_9 : List Int) (a0_10 : Int) (radar : List Int) (p : Int) (rs : List S50) (hl : rs.length ≤ 1000) : ∀ (d k i : Nat), ncell a0_2 - i = d → i ≤ ncell a0_2 → d + 2 * rs.length + 210 ≤ k →
    bourneref26_Cells.l0 k radar p rs ((List.range i).map (fun i : Nat => cellf l0_6 (i : Int) rs (base radar p i))) (i : Int) a0_0 l0_1 a0_2 l0_3 l0_4 l0_5 l0_6 l0_7 l0_8 l0_9 a0_10 = some (cells l0_6 (ncell a0_2) radar p rs) := by
  have nn := ncell_le a0_2
  have m1 := mx_le 0 (mn a0_2 64)
  have m2 := mn_le a0_2 64
  intro d
  induction d with
  | zero =>
    intro k i hd hi hk
    obtain ⟨k, rfl⟩ : ∃ m, k = m + 1 := ⟨k - 1, by omega⟩
    obtain rfl : i = ncell a0_2 := by omega
    simp only [bourneref26_Cells.l0]
    by_cases g : ((ncell a0_2 : Nat) : Int) < a0_2
    · rw [if_pos g, if_neg (by omega)]; rfl
    · rw [if_neg g]; rfl
  | succ d ih =>
    intro k i hd hi hk
    obtain ⟨k, rfl⟩ : ∃ m, k = m + 1 := ⟨k - 1, by omega⟩
    simp only [bourneref26_Cells.l0]
    rw [if_pos (by omega), if_pos (by omega), ref_cell _ a0_0 l0_1 a0_2 l0_3 l0_4 l0_5 l0_6 l0_7 l0_8 l0_9 a0_10 radar p rs hl (by omega), bs, if_pos (by rw [List.length_map, List.length_range]; omega), wis _ (by omega), show (i : Int) + 1 = ((i + 1 : Nat) : Int) from rfl]
    have e : (List.range i).map (fun i : Nat => cellf l0_6 (i : Int) rs (base radar p i)) ++ [(⟨(cellf l0_6 (i : Int) rs (base radar p i)).f0, (cellf l0_6 (i : Int) rs (base radar p i)).f1⟩ : S40)] = (List.range (i + 1)).map (fun i : Nat => cellf l0_6 (i : Int) rs (base radar p i)) := by
      rw [List.range_succ, List.map_append]; rfl
    dsimp only
    rw [e]
    exact ih k (i + 1) (by omega) (by omega) (by omega)
theorem ref_cells (k : Nat) (a0_0 : ByteArray) (l0_1 : List ByteArray) (a0_2 : Int) (l0_3 : List (S56)) (l0_4 : List (S104)) (l0_5 : List (S106)) (l0_6 : List (S67)) (l0_7 : List (S108)) (l0_8 : List (S110)) (l0_9 : List Int) (a0_10 : Int) (radar : List Int) (p : Int) (rs : List S50) (hl : rs.length ≤ 1000) (hk : 2 * rs.length + 300 ≤ k) :
    bourneref26_Cells.f k a0_0 l0_1 a0_2 l0_3 l0_4 l0_5 l0_6 l0_7 l0_8 l0_9 a0_10 radar p rs = some (cells l0_6 (ncell a0_2) radar p rs) := by
  have := ncell_le a0_2
  exact ref_cells_l0 a0_0 l0_1 a0_2 l0_3 l0_4 l0_5 l0_6 l0_7 l0_8 l0_9 a0_10 radar p rs hl (ncell a0_2) k 0 (by omega) (by omega) (by omega)
/-! ### the program's Cells -/
theorem getD_set (l : List S40) (t j : Nat) (v : S40) (ht : t < l.length) : (l.set t v).getD j z40 = if t = j then v else l.getD j z40 := by
  rw [List.getD_eq_getElem?_getD, List.getD_eq_getElem?_getD, List.getElem?_set]
  by_cases h : t = j
  · rw [if_pos h, if_pos h, if_pos ht]; rfl
  · rw [if_neg h, if_neg h]
theorem prog_l1 (a0_0 : ByteArray) (l0_1 : List ByteArray) (a0_2 : Int) (l0_3 : List (S56)) (l0_4 : List (S104)) (l0_5 : List (S106)) (l0_6 : List (S67)) (l0_7 : List (S108)) (l0_8 : List (S110)) (l0_9 : List Int) (a0_10 : Int) (rs : List S50) (hl : rs.length ≤ 1000) : ∀ (d k i : Nat) (out : List S40), rs.length - i = d → i ≤ rs.length → 3 * d + 1 ≤ k → out.length ≤ 1000 →
    ∃ out', rain_Cells.l1 k out rs (rs.length : Int) (i : Int) a0_0 l0_1 a0_2 l0_3 l0_4 l0_5 l0_6 l0_7 l0_8 l0_9 a0_10 = some out' ∧ out'.length = out.length ∧ ∀ j : Nat, j < out.length → out'.getD j z40 = cellf l0_6 (j : Int) (rs.drop i) (out.getD j z40) := by
  intro d
  induction d with
  | zero =>
    intro k i out hd hi hk ho
    obtain ⟨k, rfl⟩ : ∃ m, k = m + 1 := ⟨k - 1, by omega⟩
    refine ⟨out, ?_, rfl, fun j _ => ?_⟩
    · simp only [rain_Cells.l1]
      rw [if_neg (by omega)]
    · rw [List.drop_eq_nil_of_le (by omega)]; rfl
  | succ d ih =>
    intro k i out hd hi hk ho
    obtain ⟨k, rfl⟩ : ∃ m, k = m + 3 := ⟨k - 3, by omega⟩
    have hlt : i < rs.length := by omega
    rw [drop_rdR rs i hlt]
    simp only [rain_Cells.l1]
    rw [if_pos (by omega), if_pos (by omega), if_pos (by omega)]
    generalize rd_T50 rs (i : Int) = r
    have nx : ∀ (q : Nat) (out1 : List S40), 3 * d + 1 ≤ q → out1.length = out.length → (∀ j : Nat, j < out.length → out1.getD j z40 = step l0_6 (j : Int) (out.getD j z40) r) →
        ∃ out', rain_Cells.l1 q out1 rs (rs.length : Int) (wrap64 ((i : Int) + 1)) a0_0 l0_1 a0_2 l0_3 l0_4 l0_5 l0_6 l0_7 l0_8 l0_9 a0_10 = some out' ∧ out'.length = out.length ∧ ∀ j : Nat, j < out.length → out'.getD j z40 = cellf l0_6 (j : Int) (r :: rs.drop (i + 1)) (out.getD j z40) := by
      intro q out1 hq hlen hs
      rw [wis _ (by omega), show (i : Int) + 1 = ((i + 1 : Nat) : Int) from rfl]
      obtain ⟨out', e1, e2, e3⟩ := ih q (i + 1) out1 (by omega) (by omega) hq (by omega)
      refine ⟨out', e1, by omega, fun j hj => ?_⟩
      rw [e3 j (by omega), hs j hj]
      rfl
    have skip : ∀ q : Nat, 3 * d + 1 ≤ q → (∀ j : Nat, j < out.length → ¬ takes l0_6 (j : Int) (out.getD j z40) r) →
        ∃ out', rain_Cells.l1 q out rs (rs.length : Int) (wrap64 ((i : Int) + 1)) a0_0 l0_1 a0_2 l0_3 l0_4 l0_5 l0_6 l0_7 l0_8 l0_9 a0_10 = some out' ∧ out'.length = out.length ∧ ∀ j : Nat, j < out.length → out'.getD j z40 = cellf l0_6 (j : Int) (r :: rs.drop (i + 1)) (out.getD j z40) :=
      fun q hq hn => nx q out hq rfl (fun j hj => by unfold step; rw [if_neg (hn j hj)])
    have j2t : (∀ j : Nat, j < out.length → ¬ takes l0_6 (j : Int) (out.getD j z40) r) → ∃ out', rain_Cells.j2 (k + 2) out rs (rs.length : Int) (i : Int) true a0_0 l0_1 a0_2 l0_3 l0_4 l0_5 l0_6 l0_7 l0_8 l0_9 a0_10 r.f0 r.f1 r.f2.f0 r.f2.f1 = some out' ∧ out'.length = out.length ∧ ∀ j : Nat, j < out.length → out'.getD j z40 = cellf l0_6 (j : Int) (r :: rs.drop (i + 1)) (out.getD j z40) := by
      intro hn
      simp only [rain_Cells.j2]
      rw [if_pos trivial]
      exact skip _ (by omega) hn
    by_cases h1 : r.f0 < 0
    · rw [if_pos h1]; exact j2t (fun j _ h => by have := h.1.1; omega)
    rw [if_neg h1]
    by_cases h2 : r.f0 ≥ (l0_6.length : Int)
    · rw [if_pos h2]; exact j2t (fun j _ h => by have := h.1.2.1; omega)
    rw [if_neg h2, if_pos (by omega), if_pos (by omega)]
    by_cases h3 : (rd_T67 l0_6 r.f0).f1 = 1
    case neg => rw [bne_iff_ne.mpr h3]; exact j2t (fun j _ h => h3 h.1.2.2.1)
    rw [bne_eq_false_iff_eq.mpr h3]
    simp only [rain_Cells.j2]
    rw [if_neg (by decide), if_pos (by omega), if_pos (by omega)]
    have j3t : (∀ j : Nat, j < out.length → ¬ takes l0_6 (j : Int) (out.getD j z40) r) → ∃ out', rain_Cells.j3 (k + 1) out ((rd_T67 l0_6 r.f0).f2) rs (rs.length : Int) (i : Int) true a0_0 l0_1 a0_2 l0_3 l0_4 l0_5 l0_6 l0_7 l0_8 l0_9 a0_10 r.f0 r.f1 r.f2.f0 r.f2.f1 = some out' ∧ out'.length = out.length ∧ ∀ j : Nat, j < out.length → out'.getD j z40 = cellf l0_6 (j : Int) (r :: rs.drop (i + 1)) (out.getD j z40) := by
      intro hn
      simp only [rain_Cells.j3]
      rw [if_pos trivial]
      exact skip _ (by omega) hn
    by_cases h4 : (rd_T67 l0_6 r.f0).f2 < 0
    · rw [if_pos h4]; exact j3t (fun j _ h => by have := h.1.2.2.2; omega)
    rw [if_neg h4]
    by_cases h5 : (rd_T67 l0_6 r.f0).f2 ≥ (out.length : Int)
    · rw [if_pos h5]; exact j3t (fun j _ h => by have := h.1.2.2.2; omega)
    rw [if_neg h5]
    unfold span_Right.f
    rw [bs]
    by_cases h6 : r.f2.f0 ≤ r.f2.f1
    case neg => rw [decide_eq_false h6]; exact j3t (fun j _ h => h6 h.2.1)
    rw [decide_eq_true h6]
    show ∃ out', rain_Cells.j3 (k + 1) out ((rd_T67 l0_6 r.f0).f2) rs (rs.length : Int) (i : Int) false a0_0 l0_1 a0_2 l0_3 l0_4 l0_5 l0_6 l0_7 l0_8 l0_9 a0_10 r.f0 r.f1 r.f2.f0 r.f2.f1 = some out' ∧ _
    obtain ⟨t, ht⟩ : ∃ t : Nat, (rd_T67 l0_6 r.f0).f2 = (t : Int) := ⟨((rd_T67 l0_6 r.f0).f2).toNat, by omega⟩
    rw [ht] at h4 h5 ⊢
    simp only [rain_Cells.j3]
    rw [if_neg (by decide), if_pos (by omega), if_pos (by omega)]
    unfold span_Meet.f span_Right.f
    rw [bs]
    have hrd : rd_T40 out (t : Int) = out.getD t z40 := rfl
    rw [hrd]
    have hof : of_ l0_6 r (t : Int) := ⟨by omega, by omega, h3, ht⟩
    by_cases h7 : mx (out.getD t z40).f0 r.f2.f0 ≤ mn (out.getD t z40).f1 r.f2.f1
    case neg =>
      rw [decide_eq_false h7, if_neg (by decide), bs, if_neg (by decide)]
      refine skip _ (by omega) (fun j hj h => ?_)
      have e := h.1.2.2.2
      rw [ht] at e
      have : j = t := by omega
      subst this
      exact h7 h.2.2
    rw [decide_eq_true h7, if_pos rfl, bs, if_pos rfl]
    refine nx _ _ (by omega) (by rw [List.length_set]) (fun j hj => ?_)
    rw [Int.toNat_natCast, getD_set _ _ _ _ (by omega)]
    unfold step
    by_cases e : t = j
    · subst e
      rw [if_pos rfl, if_pos ⟨hof, h6, h7⟩]
    · rw [if_neg e, if_neg (fun h => by have e2 := h.1.2.2.2; rw [ht] at e2; omega)]
theorem prog_l0 (a0_0 : ByteArray) (l0_1 : List ByteArray) (a0_2 : Int) (l0_3 : List (S56)) (l0_4 : List (S104)) (l0_5 : List (S106)) (l0_6 : List (S67)) (l0_7 : List (S108)) (l0_8 : List (S110)) (l0_9 : List Int) (a0_10 : Int) (radar : List Int) (p : Int) (rs : List S50) (hl : rs.length ≤ 1000) (n : Nat) (hn : n ≤ 64) : ∀ (d k i : Nat), n - i = d → i ≤ n → d + 3 * rs.length + 100 ≤ k →
    ∃ out', rain_Cells.l0 k radar p rs ((List.range i).map (base radar p)) (n : Int) (i : Int) a0_0 l0_1 a0_2 l0_3 l0_4 l0_5 l0_6 l0_7 l0_8 l0_9 a0_10 = some out' ∧ out'.length = n ∧ ∀ j : Nat, j < n → out'.getD j z40 = cellf l0_6 (j : Int) rs (base radar p j) := by
  intro d
  induction d with
  | zero =>
    intro k i hd hi hk
    obtain ⟨k, rfl⟩ : ∃ m, k = m + 1 := ⟨k - 1, by omega⟩
    obtain rfl : i = n := by omega
    simp only [rain_Cells.l0]
    rw [if_neg (by omega)]
    have hlen : ((List.range i).map (base radar p)).length = i := by rw [List.length_map, List.length_range]
    obtain ⟨out', e1, e2, e3⟩ := prog_l1 a0_0 l0_1 a0_2 l0_3 l0_4 l0_5 l0_6 l0_7 l0_8 l0_9 a0_10 rs hl rs.length k 0 ((List.range i).map (base radar p)) (by omega) (by omega) (by omega) (by omega)
    refine ⟨out', e1, by omega, fun j hj => ?_⟩
    rw [e3 j (by omega), List.getD_eq_getElem?_getD, List.getElem?_map, List.getElem?_range hj]
    rfl
  | succ d ih =>
    intro k i hd hi hk
    obtain ⟨k, rfl⟩ : ∃ m, k = m + 1 := ⟨k - 1, by omega⟩
    have nx : ∃ out', rain_Cells.l0 k radar p rs ((List.range i).map (base radar p) ++ [base radar p i]) (n : Int) (wrap64 ((i : Int) + 1)) a0_0 l0_1 a0_2 l0_3 l0_4 l0_5 l0_6 l0_7 l0_8 l0_9 a0_10 = some out' ∧ out'.length = n ∧ ∀ j : Nat, j < n → out'.getD j z40 = cellf l0_6 (j : Int) rs (base radar p j) := by
      have e : (List.range i).map (base radar p) ++ [base radar p i] = (List.range (i + 1)).map (base radar p) := by rw [List.range_succ, List.map_append]; rfl
      rw [e, wis _ (by omega), show (i : Int) + 1 = ((i + 1 : Nat) : Int) from rfl]
      exact ih k (i + 1) (by omega) (by omega) (by omega)
    have hb : base radar p i = ⟨(rad (if (i : Int) < (radar.length : Int) then rd radar (i : Int) else 0) p).1, (rad (if (i : Int) < (radar.length : Int) then rd radar (i : Int) else 0) p).2⟩ := rfl
    have hlen : ((List.range i).map (base radar p)).length < 8796093022208 := by rw [List.length_map, List.length_range]; omega
    simp only [rain_Cells.l0]
    rw [if_pos (by omega)]
    by_cases g : (i : Int) < (radar.length : Int)
    · rw [if_pos g, if_pos (by omega), radar_spec _ (by omega), bs, if_pos hlen]
      rw [if_pos g] at hb
      rw [hb] at nx
      exact nx
    · rw [if_neg g, radar_spec _ (by omega), bs, if_pos hlen]
      rw [if_neg g] at hb
      rw [hb] at nx
      exact nx
theorem prog_cells (k : Nat) (a0_0 : ByteArray) (l0_1 : List ByteArray) (a0_2 : Int) (l0_3 : List (S56)) (l0_4 : List (S104)) (l0_5 : List (S106)) (l0_6 : List (S67)) (l0_7 : List (S108)) (l0_8 : List (S110)) (l0_9 : List Int) (a0_10 : Int) (radar : List Int) (p : Int) (rs : List S50) (hl : rs.length ≤ 1000) (hk : 3 * rs.length + 200 ≤ k) :
    rain_Cells.f k a0_0 l0_1 a0_2 l0_3 l0_4 l0_5 l0_6 l0_7 l0_8 l0_9 a0_10 radar p rs = some (cells l0_6 (ncell a0_2) radar p rs) := by
  have nn := ncell_le a0_2
  unfold rain_Cells.f
  rw [clamp_spec _ _ _ (by omega), bs, ← nn.2]
  obtain ⟨out', e1, e2, e3⟩ := prog_l0 a0_0 l0_1 a0_2 l0_3 l0_4 l0_5 l0_6 l0_7 l0_8 l0_9 a0_10 radar p rs hl (ncell a0_2) nn.1 (ncell a0_2) k 0 (by omega) (by omega) (by omega)
  refine e1.trans (congrArg some ?_)
  apply List.ext_getElem
  · unfold cells; rw [List.length_map, List.length_range, e2]
  · intro j h1 h2
    have q := e3 j (by omega)
    rw [List.getD_eq_getElem?_getD, List.getElem?_eq_getElem h1, Option.getD_some] at q
    rw [q]
    simp only [cells, List.getElem_map, List.getElem_range]
/-! ### Mesh -/
def mfold (hi : Bool) (lc : List S40) (cs : List S63) (n : Int) : Int := cs.foldl (fun n c => if 0 ≤ c.f0 ∧ c.f0 < (lc.length : Int) then sat (n + lit (selE hi (rd_T40 lc c.f0)) c.f1) else n) n
theorem rdC (l : List S63) (i : Nat) : rd_T63 l (i : Int) = l.getD i z63 := rfl
theorem drop_rdC (l : List S63) (i : Nat) (h : i < l.length) : l.drop i = rd_T63 l (i : Int) :: l.drop (i + 1) := by
  rw [rdC, List.getD_eq_getElem?_getD, List.getElem?_eq_getElem h, Option.getD_some]; exact List.drop_eq_getElem_cons h
theorem lit_ok (n area : Int) : ok (lit n area) := by have := lit_bound n area; unfold ok; omega
theorem msum_spec (k : Nat) (hk : 60 ≤ k) (hi : Bool) (cs : List S63) (lc : List S40) (hl : cs.length ≤ 1000) : ∀ (d f i : Nat) (n : Int), cs.length - i = d → i ≤ cs.length → d + 1 ≤ f → ok n →
    msum k hi cs lc f (i : Int) n = some (mfold hi lc (cs.drop i) n) := by
  intro d
  induction d with
  | zero =>
    intro f i n hd hi' hf hn
    obtain ⟨f, rfl⟩ : ∃ m, f = m + 1 := ⟨f - 1, by omega⟩
    simp only [msum]
    rw [if_neg (by omega), List.drop_eq_nil_of_le (by omega)]
    rfl
  | succ d ih =>
    intro f i n hd hi' hf hn
    obtain ⟨f, rfl⟩ : ∃ m, f = m + 1 := ⟨f - 1, by omega⟩
    simp only [msum]
    rw [if_pos (by omega), if_pos (by omega), drop_rdC cs i (by omega)]
    generalize rd_T63 cs (i : Int) = c
    unfold mstep
    by_cases g : 0 ≤ c.f0 ∧ c.f0 < (lc.length : Int)
    · rw [if_pos g, litres_spec _ (by omega), bs, add_spec _ _ hn (lit_ok _ _), bs, wis _ (by omega), show (i : Int) + 1 = ((i + 1 : Nat) : Int) from rfl]
      rw [ih f (i + 1) _ (by omega) (by omega) (by omega) (sat_ok _)]
      show _ = some (mfold hi lc (cs.drop (i + 1)) (if 0 ≤ c.f0 ∧ c.f0 < (lc.length : Int) then sat (n + lit (selE hi (rd_T40 lc c.f0)) c.f1) else n))
      rw [if_pos g]
    · rw [if_neg g, bs, wis _ (by omega), show (i : Int) + 1 = ((i + 1 : Nat) : Int) from rfl]
      rw [ih f (i + 1) _ (by omega) (by omega) (by omega) hn]
      show _ = some (mfold hi lc (cs.drop (i + 1)) (if 0 ≤ c.f0 ∧ c.f0 < (lc.length : Int) then sat (n + lit (selE hi (rd_T40 lc c.f0)) c.f1) else n))
      rw [if_neg g]
def place (lc : List S40) (p : S56) : S40 := ⟨mn (mfold false lc p.f11 0) 1125899906842624, mn (mfold true lc p.f11 0) 1125899906842624⟩
theorem rdP (l : List S56) (i : Nat) : rd_T56 l (i : Int) = l.getD i z56 := rfl
theorem drop_rdP (l : List S56) (i : Nat) (h : i < l.length) : l.drop i = rd_T56 l (i : Int) :: l.drop (i + 1) := by
  rw [rdP, List.getD_eq_getElem?_getD, List.getElem?_eq_getElem h, Option.getD_some]; exact List.drop_eq_getElem_cons h
def fewP (ps : List S56) : Prop := ps.length ≤ 70 ∧ ∀ i : Nat, i < ps.length → (rd_T56 ps (i : Int)).f11.length ≤ 70
theorem mesh_l_spec (q : Nat) (hq : 100 ≤ q) (ps : List S56) (lc : List S40) (hp : fewP ps) : ∀ (d f i : Nat) (out : List S40), ps.length - i = d → i ≤ ps.length → d + 1 ≤ f → out.length = i →
    mesh_l q ps lc f out (i : Int) = some (out ++ (ps.drop i).map (place lc)) := by
  have hp1 := hp.1
  intro d
  induction d with
  | zero =>
    intro f i out hd hi hf ho
    obtain ⟨f, rfl⟩ : ∃ m, f = m + 1 := ⟨f - 1, by omega⟩
    simp only [mesh_l]
    rw [if_neg (by omega), List.drop_eq_nil_of_le (by omega), List.map_nil, List.append_nil]
  | succ d ih =>
    intro f i out hd hi hf ho
    obtain ⟨f, rfl⟩ : ∃ m, f = m + 1 := ⟨f - 1, by omega⟩
    have hc := hp.2 i (by omega)
    simp only [mesh_l]
    rw [if_pos (by omega), if_pos (by omega), drop_rdP ps i (by omega)]
    generalize rd_T56 ps (i : Int) = p at *
    have m := fun hi => msum_spec q (by omega) hi p.f11 lc (by omega) p.f11.length q 0 0 (by omega) (by omega) (by omega) (by unfold ok; omega)
    have m0 : msum q false p.f11 lc q 0 0 = some (mfold false lc p.f11 0) := m false
    have m1 : msum q true p.f11 lc q 0 0 = some (mfold true lc p.f11 0) := m true
    rw [m0, bs, m1, bs, if_pos (by omega), wis _ (by omega), show (i : Int) + 1 = ((i + 1 : Nat) : Int) from rfl]
    rw [ih f (i + 1) _ (by omega) (by omega) (by omega) (by rw [List.length_append]; simp [ho])]
    rw [List.append_assoc]
    rfl
theorem prog_mesh (k : Nat) (hk : 200 ≤ k) (a0_0 : ByteArray) (l0_1 : List ByteArray) (a0_2 : Int) (l0_3 : List (S56)) (l0_4 : List (S104)) (l0_5 : List (S106)) (l0_6 : List (S67)) (l0_7 : List (S108)) (l0_8 : List (S110)) (l0_9 : List Int) (a0_10 : Int) (lc : List S40) (hp : fewP l0_3) : rain_Mesh.f k a0_0 l0_1 a0_2 l0_3 l0_4 l0_5 l0_6 l0_7 l0_8 l0_9 a0_10 lc = some (l0_3.map (place lc)) := by
  have hp1 := hp.1
  unfold rain_Mesh.f
  exact mesh_l_spec k (by omega) l0_3 lc hp l0_3.length k 0 [] (by omega) (by omega) (by omega) rfl
theorem ref_add (k : Nat) (hk : 1 ≤ k) (a b : Int) (ha : ok a) (hb : ok b) : bourneref01_Add.f k a b = some (sat (a + b)) := by
  unfold ok at ha hb
  obtain ⟨k, rfl⟩ : ∃ m, k = m + 1 := ⟨k - 1, by omega⟩
  unfold bourneref01_Add.f
  simp only [bourneref01_Add.j0]
  by_cases h1 : b > 0
  · rw [if_pos h1, wis _ (by omega)]
    by_cases h2 : a > 9223372036854775807 - b
    · rw [decide_eq_true h2, if_pos rfl]; unfold sat; rw [if_neg (by omega), if_pos (by omega)]
    · rw [decide_eq_false h2, if_neg (by decide), if_neg (by omega), wis _ (by omega), sat_id (by unfold ok; omega)]
  · rw [if_neg h1, if_neg (by decide)]
    by_cases h2 : b < 0
    · rw [if_pos h2, wis _ (by omega)]
      by_cases h3 : a < -9223372036854775808 - b
      · rw [if_pos h3]; unfold sat; rw [if_pos (by omega)]
      · rw [if_neg h3, wis _ (by omega), sat_id (by unfold ok; omega)]
    · rw [if_neg h2, wis _ (by omega), sat_id (by unfold ok; omega)]
theorem ref_mesh_l1 (a0_0 : ByteArray) (l0_1 : List ByteArray) (a0_2 : Int) (l0_3 : List (S56)) (l0_4 : List (S104)) (l0_5 : List (S106)) (l0_6 : List (S67)) (l0_7 : List (S108)) (l0_8 : List (S110)) (l0_9 : List Int) (a0_10 : Int) (lc : List S40) (cs : List S63) (hl : cs.length ≤ 1000) (out : List S40) (ho : out.length ≤ 1000) (pi : Int) (m : Nat) (hm : 130 ≤ m) : ∀ (d i : Nat) (lo hi : Int), cs.length - i = d → i ≤ cs.length → ok lo → ok hi →
    bourneref26_Mesh.l1 (m + 1 + 2 * d) lc out pi lo hi cs (i : Int) a0_0 l0_1 a0_2 l0_3 l0_4 l0_5 l0_6 l0_7 l0_8 l0_9 a0_10 = bourneref26_Mesh.l0 m lc (out ++ [⟨mn (mfold false lc (cs.drop i) lo) 1125899906842624, mn (mfold true lc (cs.drop i) hi) 1125899906842624⟩]) (wrap64 (pi + 1)) a0_0 l0_1 a0_2 l0_3 l0_4 l0_5 l0_6 l0_7 l0_8 l0_9 a0_10 := by
  intro d
  induction d with
  | zero =>
    intro i lo hi hd hi' h1 h2
    show bourneref26_Mesh.l1 (m + 1) lc out pi lo hi cs (i : Int) a0_0 l0_1 a0_2 l0_3 l0_4 l0_5 l0_6 l0_7 l0_8 l0_9 a0_10 = _
    simp only [bourneref26_Mesh.l1]
    rw [if_neg (by omega), if_pos (by omega), List.drop_eq_nil_of_le (by omega)]
    rfl
  | succ d ih =>
    intro i lo hi hd hi' h1 h2
    have e : m + 1 + 2 * (d + 1) = (m + 1 + 2 * d) + 1 + 1 := by omega
    rw [e]
    simp only [bourneref26_Mesh.l1]
    rw [if_pos (by omega), if_pos (by omega), drop_rdC cs i (by omega)]
    have sk : ∀ b : Bool, bourneref26_Mesh.j2 (m + 1 + 2 * d + 1) lc out pi lo hi cs (i : Int) true a0_0 l0_1 a0_2 l0_3 l0_4 l0_5 l0_6 l0_7 l0_8 l0_9 a0_10 = bourneref26_Mesh.l1 (m + 1 + 2 * d) lc out pi lo hi cs (wrap64 ((i : Int) + 1)) a0_0 l0_1 a0_2 l0_3 l0_4 l0_5 l0_6 l0_7 l0_8 l0_9 a0_10 := by
      intro b; simp only [bourneref26_Mesh.j2]; rw [if_pos trivial]
    have ff : ∀ (hi : Bool) (c : S63) (n : Int), mfold hi lc (c :: cs.drop (i + 1)) n = mfold hi lc (cs.drop (i + 1)) (if 0 ≤ c.f0 ∧ c.f0 < (lc.length : Int) then sat (n + lit (selE hi (rd_T40 lc c.f0)) c.f1) else n) := fun _ _ _ => rfl
    rw [ff, ff]
    have skip : ¬ (0 ≤ (rd_T63 cs (i : Int)).f0 ∧ (rd_T63 cs (i : Int)).f0 < (lc.length : Int)) → bourneref26_Mesh.j2 (m + 1 + 2 * d + 1) lc out pi lo hi cs (i : Int) true a0_0 l0_1 a0_2 l0_3 l0_4 l0_5 l0_6 l0_7 l0_8 l0_9 a0_10 = bourneref26_Mesh.l0 m lc (out ++ [⟨mn (mfold false lc (cs.drop (i + 1)) (if 0 ≤ (rd_T63 cs (i : Int)).f0 ∧ (rd_T63 cs (i : Int)).f0 < (lc.length : Int) then sat (lo + lit (selE false (rd_T40 lc (rd_T63 cs (i : Int)).f0)) (rd_T63 cs (i : Int)).f1) else lo)) 1125899906842624, mn (mfold true lc (cs.drop (i + 1)) (if 0 ≤ (rd_T63 cs (i : Int)).f0 ∧ (rd_T63 cs (i : Int)).f0 < (lc.length : Int) then sat (hi + lit (selE true (rd_T40 lc (rd_T63 cs (i : Int)).f0)) (rd_T63 cs (i : Int)).f1) else hi)) 1125899906842624⟩]) (wrap64 (pi + 1)) a0_0 l0_1 a0_2 l0_3 l0_4 l0_5 l0_6 l0_7 l0_8 l0_9 a0_10 := by
      intro g
      rw [if_neg g, if_neg g, sk true, wis _ (by omega), show (i : Int) + 1 = ((i + 1 : Nat) : Int) from rfl]
      exact ih (i + 1) lo hi (by omega) (by omega) h1 h2
    by_cases g1 : (rd_T63 cs (i : Int)).f0 < 0
    · rw [if_pos g1]; exact skip (by omega)
    rw [if_neg g1]
    by_cases g2 : (rd_T63 cs (i : Int)).f0 ≥ (lc.length : Int)
    · rw [decide_eq_true g2]; exact skip (by omega)
    rw [decide_eq_false g2]
    simp only [bourneref26_Mesh.j2]
    rw [if_neg (by decide), if_pos (by omega), if_pos (by omega), if_pos (by omega), if_pos (by omega), ref_litres _ (by omega), bs, ref_add _ (by omega) _ _ h1 (lit_ok _ _), bs, ref_litres _ (by omega), bs, ref_add _ (by omega) _ _ h2 (lit_ok _ _), bs,
      wis _ (by omega), show (i : Int) + 1 = ((i + 1 : Nat) : Int) from rfl, ih (i + 1) _ _ (by omega) (by omega) (sat_ok _) (sat_ok _), if_pos ⟨by omega, by omega⟩, if_pos ⟨by omega, by omega⟩]
    rfl
theorem ref_mesh_l0 (a0_0 : ByteArray) (l0_1 : List ByteArray) (a0_2 : Int) (l0_3 : List (S56)) (l0_4 : List (S104)) (l0_5 : List (S106)) (l0_6 : List (S67)) (l0_7 : List (S108)) (l0_8 : List (S110)) (l0_9 : List Int) (a0_10 : Int) (lc : List S40) (hp : fewP l0_3) : ∀ (d k i : Nat) (out : List S40), l0_3.length - i = d → i ≤ l0_3.length → 150 * d + 140 ≤ k → out.length = i →
    bourneref26_Mesh.l0 k lc out (i : Int) a0_0 l0_1 a0_2 l0_3 l0_4 l0_5 l0_6 l0_7 l0_8 l0_9 a0_10 = some (out ++ (l0_3.drop i).map (place lc)) := by
  have hp1 := hp.1
  intro d
  induction d with
  | zero =>
    intro k i out hd hi hk ho
    obtain ⟨k, rfl⟩ : ∃ m, k = m + 1 := ⟨k - 1, by omega⟩
    simp only [bourneref26_Mesh.l0]
    rw [if_neg (by omega), List.drop_eq_nil_of_le (by omega), List.map_nil, List.append_nil]
  | succ d ih =>
    intro k i out hd hi hk ho
    obtain ⟨k, rfl⟩ : ∃ m, k = m + 1 := ⟨k - 1, by omega⟩
    have hc := hp.2 i (by omega)
    simp only [bourneref26_Mesh.l0]
    rw [if_pos (by omega), if_pos (by omega), drop_rdP l0_3 i (by omega)]
    generalize rd_T56 l0_3 (i : Int) = p at *
    obtain ⟨m, hm⟩ : ∃ m, k = m + 1 + 2 * p.f11.length := ⟨k - 1 - 2 * p.f11.length, by omega⟩
    rw [hm]
    have z := ref_mesh_l1 a0_0 l0_1 a0_2 l0_3 l0_4 l0_5 l0_6 l0_7 l0_8 l0_9 a0_10 lc p.f11 (by omega) out (by omega) (i : Int) m (by omega) p.f11.length 0 0 0 (by omega) (by omega) (by unfold ok; omega) (by unfold ok; omega)
    refine z.trans ?_
    rw [wis _ (by omega), show (i : Int) + 1 = ((i + 1 : Nat) : Int) from rfl, ih m (i + 1) _ (by omega) (by omega) (by omega) (by rw [List.length_append]; simp [ho]), List.append_assoc]
    rfl
theorem ref_mesh (k : Nat) (hk : 11000 ≤ k) (a0_0 : ByteArray) (l0_1 : List ByteArray) (a0_2 : Int) (l0_3 : List (S56)) (l0_4 : List (S104)) (l0_5 : List (S106)) (l0_6 : List (S67)) (l0_7 : List (S108)) (l0_8 : List (S110)) (l0_9 : List Int) (a0_10 : Int) (lc : List S40) (hp : fewP l0_3) : bourneref26_Mesh.f k a0_0 l0_1 a0_2 l0_3 l0_4 l0_5 l0_6 l0_7 l0_8 l0_9 a0_10 lc = some (l0_3.map (place lc)) := by
  have hp1 := hp.1
  unfold bourneref26_Mesh.f
  exact ref_mesh_l0 a0_0 l0_1 a0_2 l0_3 l0_4 l0_5 l0_6 l0_7 l0_8 l0_9 a0_10 lc hp l0_3.length k 0 [] (by omega) (by omega) (by omega) rfl
/-! ### few, SameAll -/
theorem same_l0 (l : List S40) (hl : l.length ≤ 1000) : ∀ (d k i : Nat), l.length - i = d → i ≤ l.length → d + 1 ≤ k → bourneref09_SameAll.l0 k l l (i : Int) = some true := by
  intro d
  induction d with
  | zero =>
    intro k i hd hi hk
    obtain ⟨k, rfl⟩ : ∃ m, k = m + 1 := ⟨k - 1, by omega⟩
    simp only [bourneref09_SameAll.l0]
    rw [if_neg (by omega)]
  | succ d ih =>
    intro k i hd hi hk
    obtain ⟨k, rfl⟩ : ∃ m, k = m + 1 := ⟨k - 1, by omega⟩
    simp only [bourneref09_SameAll.l0]
    rw [if_pos (by omega), if_pos (by omega), if_pos (by omega), if_neg (by simp), wis _ (by omega), show (i : Int) + 1 = ((i + 1 : Nat) : Int) from rfl]
    exact ih k (i + 1) (by omega) (by omega) (by omega)
theorem same_self (k : Nat) (l : List S40) (hl : l.length ≤ 1000) (hk : 1001 ≤ k) : bourneref09_SameAll.f k l l = some true := by
  unfold bourneref09_SameAll.f
  rw [if_pos rfl]
  exact same_l0 l hl l.length k 0 (by omega) (by omega) (by omega)
theorem few_l0 (a0_0 : ByteArray) (l0_1 : List ByteArray) (a0_2 : Int) (l0_3 : List (S56)) (l0_4 : List (S104)) (l0_5 : List (S106)) (l0_6 : List (S67)) (l0_7 : List (S108)) (l0_8 : List (S110)) (l0_9 : List Int) (a0_10 : Int) (hp : l0_3.length ≤ 70) : ∀ (d k i : Nat), l0_3.length - i = d → i ≤ l0_3.length → d + 1 ≤ k →
    ∃ t, bournelaw26_few.l0 k (i : Int) a0_0 l0_1 a0_2 l0_3 l0_4 l0_5 l0_6 l0_7 l0_8 l0_9 a0_10 = some t ∧ (t = true → ∀ j : Nat, i ≤ j → j < l0_3.length → (rd_T56 l0_3 (j : Int)).f11.length ≤ 70) := by
  intro d
  induction d with
  | zero =>
    intro k i hd hi hk
    obtain ⟨k, rfl⟩ : ∃ m, k = m + 1 := ⟨k - 1, by omega⟩
    refine ⟨true, ?_, fun _ j h1 h2 => by omega⟩
    simp only [bournelaw26_few.l0]
    rw [if_neg (by omega)]
  | succ d ih =>
    intro k i hd hi hk
    obtain ⟨k, rfl⟩ : ∃ m, k = m + 1 := ⟨k - 1, by omega⟩
    by_cases g : (((rd_T56 l0_3 (i : Int)).f11).length : Int) > 70
    · refine ⟨false, ?_, fun h => by cases h⟩
      simp only [bournelaw26_few.l0]
      rw [if_pos (by omega), if_pos (by omega), if_pos g]
    · obtain ⟨t, e1, e2⟩ := ih k (i + 1) (by omega) (by omega) (by omega)
      refine ⟨t, ?_, fun h j h1 h2 => ?_⟩
      · simp only [bournelaw26_few.l0]
        rw [if_pos (by omega), if_pos (by omega), if_neg g, wis _ (by omega)]
        exact e1
      · by_cases e : j = i
        · subst e; omega
        · exact e2 h j (by omega) h2
theorem few_spec (k : Nat) (hk : 200 ≤ k) (a0_0 : ByteArray) (l0_1 : List ByteArray) (a0_2 : Int) (l0_3 : List (S56)) (l0_4 : List (S104)) (l0_5 : List (S106)) (l0_6 : List (S67)) (l0_7 : List (S108)) (l0_8 : List (S110)) (l0_9 : List Int) (a0_10 : Int) (rs : List S50) (lc : List S40) : ∃ t, bournelaw26_few.f k a0_0 l0_1 a0_2 l0_3 l0_4 l0_5 l0_6 l0_7 l0_8 l0_9 a0_10 rs lc = some t ∧ (t = true → fewP l0_3 ∧ rs.length ≤ 60 ∧ lc.length ≤ 100) := by
  obtain ⟨k, rfl⟩ : ∃ m, k = m + 1 := ⟨k - 1, by omega⟩
  have bad : bournelaw26_few.j0 (k + 1) true a0_0 l0_1 a0_2 l0_3 l0_4 l0_5 l0_6 l0_7 l0_8 l0_9 a0_10 = some false := by simp only [bournelaw26_few.j0]; rw [if_pos trivial]
  unfold bournelaw26_few.f
  by_cases g1 : (l0_3.length : Int) > 70
  · exact ⟨false, by rw [if_pos g1, bad], fun h => by cases h⟩
  by_cases g2 : (rs.length : Int) > 60
  · exact ⟨false, by rw [if_neg g1, if_pos g2, bad], fun h => by cases h⟩
  by_cases g3 : (lc.length : Int) > 100
  · exact ⟨false, by rw [if_neg g1, if_neg g2, decide_eq_true g3, bad], fun h => by cases h⟩
  obtain ⟨t, e1, e2⟩ := few_l0 a0_0 l0_1 a0_2 l0_3 l0_4 l0_5 l0_6 l0_7 l0_8 l0_9 a0_10 (by omega) l0_3.length k 0 (by omega) (by omega) (by omega)
  refine ⟨t, ?_, fun h => ⟨⟨by omega, fun i hi => e2 h i (by omega) hi⟩, by omega, by omega⟩⟩
  rw [if_neg g1, if_neg g2, decide_eq_false g3]
  simp only [bournelaw26_few.j0]
  rw [if_neg (by decide)]
  exact e1
/-! ### Sum -/
def sfold (l : List S40) (s : Int × Int) : Int × Int := l.foldl (fun s x => (sat (s.1 + x.f0), sat (s.2 + x.f1))) s
theorem rdS (l : List S40) (i : Nat) : rd_T40 l (i : Int) = l.getD i z40 := rfl
theorem mem_rd (l : List S40) (i : Nat) (h : i < l.length) : rd_T40 l (i : Int) ∈ l := by
  rw [rdS, List.getD_eq_getElem?_getD, List.getElem?_eq_getElem h, Option.getD_some]; exact List.getElem_mem _
theorem drop_rdS (l : List S40) (i : Nat) (h : i < l.length) : l.drop i = rd_T40 l (i : Int) :: l.drop (i + 1) := by
  rw [rdS, List.getD_eq_getElem?_getD, List.getElem?_eq_getElem h, Option.getD_some]; exact List.drop_eq_getElem_cons h
theorem sum_l0 (l : List S40) (hl : l.length ≤ 1000) (hok : ∀ x, x ∈ l → ok x.f0 ∧ ok x.f1) : ∀ (d k i : Nat) (a b : Int), l.length - i = d → i ≤ l.length → d + 1 ≤ k → ok a → ok b →
    rain_Sum.l0 k l (l.length : Int) (i : Int) a b = some (sfold (l.drop i) (a, b)) := by
  intro d
  induction d with
  | zero =>
    intro k i a b hd hi hk ha hb
    obtain ⟨k, rfl⟩ : ∃ m, k = m + 1 := ⟨k - 1, by omega⟩
    simp only [rain_Sum.l0]
    rw [if_neg (by omega), List.drop_eq_nil_of_le (by omega)]
    rfl
  | succ d ih =>
    intro k i a b hd hi hk ha hb
    obtain ⟨k, rfl⟩ : ∃ m, k = m + 1 := ⟨k - 1, by omega⟩
    have o := hok _ (mem_rd l i (by omega))
    simp only [rain_Sum.l0]
    rw [if_pos (by omega), if_pos (by omega), if_pos (by omega), drop_rdS l i (by omega)]
    generalize rd_T40 l (i : Int) = x at *
    unfold span_Add.f
    rw [add_spec _ _ ha o.1, bs, add_spec _ _ hb o.2, bs, bs, wis _ (by omega), show (i : Int) + 1 = ((i + 1 : Nat) : Int) from rfl]
    exact ih k (i + 1) _ _ (by omega) (by omega) (by omega) (sat_ok _) (sat_ok _)
theorem prog_sum (k : Nat) (hk : 1100 ≤ k) (l : List S40) (hl : l.length ≤ 1000) (hok : ∀ x, x ∈ l → ok x.f0 ∧ ok x.f1) : rain_Sum.f k l = some (sfold l (0, 0)) := by
  unfold rain_Sum.f
  exact sum_l0 l hl hok l.length k 0 0 0 (by omega) (by omega) (by omega) (by unfold ok; omega) (by unfold ok; omega)
theorem ref_sum_l0 (l : List S40) (hl : l.length ≤ 1000) (hok : ∀ x, x ∈ l → ok x.f0 ∧ ok x.f1) : ∀ (d k i : Nat) (a b : Int), l.length - i = d → i ≤ l.length → d + 2 ≤ k → ok a → ok b →
    bourneref26_Sum.l0 k l (i : Int) a b = some (sfold (l.drop i) (a, b)) := by
  intro d
  induction d with
  | zero =>
    intro k i a b hd hi hk ha hb
    obtain ⟨k, rfl⟩ : ∃ m, k = m + 1 := ⟨k - 1, by omega⟩
    simp only [bourneref26_Sum.l0]
    rw [if_neg (by omega), List.drop_eq_nil_of_le (by omega)]
    rfl
  | succ d ih =>
    intro k i a b hd hi hk ha hb
    obtain ⟨k, rfl⟩ : ∃ m, k = m + 1 := ⟨k - 1, by omega⟩
    have o := hok _ (mem_rd l i (by omega))
    simp only [bourneref26_Sum.l0]
    rw [if_pos (by omega), if_pos (by omega), drop_rdS l i (by omega)]
    generalize rd_T40 l (i : Int) = x at *
    unfold bourneref09_Add.f
    rw [ref_add _ (by omega) _ _ ha o.1, bs, ref_add _ (by omega) _ _ hb o.2, bs, bs, wis _ (by omega), show (i : Int) + 1 = ((i + 1 : Nat) : Int) from rfl]
    exact ih k (i + 1) _ _ (by omega) (by omega) (by omega) (sat_ok _) (sat_ok _)
theorem ref_sum (k : Nat) (hk : 1100 ≤ k) (l : List S40) (hl : l.length ≤ 1000) (hok : ∀ x, x ∈ l → ok x.f0 ∧ ok x.f1) : bourneref26_Sum.f k l = some (sfold l (0, 0)) := by
  unfold bourneref26_Sum.f
  exact ref_sum_l0 l hl hok l.length k 0 0 0 (by omega) (by omega) (by omega) (by unfold ok; omega) (by unfold ok; omega)
end Go.Proofs.Ytpklgbnihgljmaa.Rain
