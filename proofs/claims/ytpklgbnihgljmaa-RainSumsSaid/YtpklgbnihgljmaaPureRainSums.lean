import Derived.Test.YtpklgbnihgljmaaExact
import Derived.Test.YtpklgbnihgljmaaRdT
import Derived.Test.YtpklgbnihgljmaaFn16
import Derived.Test.YtpklgbnihgljmaaFnS
set_option maxRecDepth 100000
set_option linter.unusedVariables false
namespace Go.Proofs.Ytpklgbnihgljmaa.Pure
open Go.RowKit Go.Proofs.Ytpklgbnihgljmaa.Fn Go.Proofs.Ytpklgbnihgljmaa.Rd Go.Proofs.Ytpklgbnihgljmaa.Div Go.Proofs.Ytpklgbnihgljmaa.Exact Go.Proofs.YtpklgbnihgljmaaW.PrintWords Go.Proofs.YtpklgbnihgljmaaW.PrintLast Go.Proofs.YtpklgbnihgljmaaW.PrintMore

def S0 : List S40 → Int
  | [] => 0
  | c :: cs => c.f0 + S0 cs
def S1 : List S40 → Int
  | [] => 0
  | c :: cs => c.f1 + S1 cs
theorem S0_app : ∀ a b : List S40, S0 (a ++ b) = S0 a + S0 b
  | [], b => by simp [S0]
  | c :: cs, b => by rw [List.cons_append]; simp only [S0]; rw [S0_app cs b]; omega
theorem S1_app : ∀ a b : List S40, S1 (a ++ b) = S1 a + S1 b
  | [], b => by simp [S1]
  | c :: cs, b => by rw [List.cons_append]; simp only [S1]; rw [S1_app cs b]; omega
def okS (c : S40) : Prop := -1125899906842624 ≤ c.f0 ∧ c.f0 ≤ c.f1 ∧ c.f1 ≤ 1125899906842624
theorem bnd : ∀ l : List S40, (∀ c, c ∈ l → okS c) → -1125899906842624 * (l.length : Int) ≤ S0 l ∧ S0 l ≤ S1 l ∧ S1 l ≤ 1125899906842624 * (l.length : Int)
  | [], _ => by simp [S0, S1]
  | c :: cs, h => by
    have a := h c List.mem_cons_self
    have b := bnd cs (fun d hd => h d (List.mem_cons_of_mem _ hd))
    unfold okS at a
    simp only [S0, S1, List.length_cons]
    omega
theorem rdS (l : List S40) (i : Nat) : rd_T40 l (i : Int) = l.getD i z40 := rfl
theorem mem_rd (l : List S40) (i : Nat) (h : i < l.length) : rd_T40 l (i : Int) ∈ l := by
  rw [rdS, List.getD_eq_getElem?_getD, List.getElem?_eq_getElem h, Option.getD_some]; exact List.getElem_mem _
theorem drop_rd (l : List S40) (i : Nat) (h : i < l.length) : l.drop i = rd_T40 l (i : Int) :: l.drop (i + 1) := by
  rw [rdS, List.getD_eq_getElem?_getD, List.getElem?_eq_getElem h, Option.getD_some]; exact List.drop_eq_getElem_cons h
theorem take_rd (l : List S40) (i : Nat) (h : i < l.length) : l.take (i + 1) = l.take i ++ [rd_T40 l (i : Int)] := by
  rw [rdS, List.getD_eq_getElem?_getD, List.getElem?_eq_getElem h, Option.getD_some, List.take_append_getElem]
theorem add_s (a b c d : Int) (h1 : ok a) (h2 : ok b) (h3 : ok c) (h4 : ok d) (h5 : ok (a + c)) (h6 : ok (b + d)) : span_Add.f a b c d = some (a + c, b + d) := by
  unfold span_Add.f
  rw [add_spec a c h1 h3, bs, add_spec b d h2 h4, bs, sat_id h5, sat_id h6]
theorem sum_l0 (l : List S40) (hok : ∀ c, c ∈ l → okS c) (hl : l.length ≤ 100) : ∀ (d k i : Nat) (a b : Int), l.length - i = d → i ≤ l.length → d + 1 ≤ k → -200000000000000000 ≤ a - 1125899906842624 * d → b + 1125899906842624 * d ≤ 200000000000000000 → a ≤ b →
    rain_Sum.l0 k l (l.length : Int) (i : Int) a b = some (a + S0 (l.drop i), b + S1 (l.drop i)) := by
  intro d
  induction d with
  | zero =>
    intro k i a b hd hi hk h1 h2 h3
    obtain ⟨k, rfl⟩ : ∃ m, k = m + 1 := ⟨k - 1, by omega⟩
    have e : l.drop i = [] := List.drop_eq_nil_of_le (by omega)
    simp only [rain_Sum.l0]
    rw [if_neg (by omega), e]
    simp [S0, S1]
  | succ d ih =>
    intro k i a b hd hi hk h1 h2 h3
    obtain ⟨k, rfl⟩ : ∃ m, k = m + 1 := ⟨k - 1, by omega⟩
    have hlt : i < l.length := by omega
    have c := hok _ (mem_rd l i hlt)
    have e := drop_rd l i hlt
    simp only [rain_Sum.l0]
    rw [if_pos (by omega), if_pos (by omega), if_pos (by omega)]
    generalize rd_T40 l (i : Int) = s at *
    unfold okS at c
    rw [add_s a b s.f0 s.f1 (by unfold ok; omega) (by unfold ok; omega) (by unfold ok; omega) (by unfold ok; omega) (by unfold ok; omega) (by unfold ok; omega), bs, wis _ (by omega), show (i : Int) + 1 = ((i + 1 : Nat) : Int) from rfl]
    dsimp only
    rw [ih k (i + 1) (a + s.f0) (b + s.f1) (by omega) (by omega) (by omega) (by omega) (by omega) (by omega), e]
    simp only [S0, S1]
    rw [Int.add_assoc, Int.add_assoc]
theorem sum_spec (l : List S40) (hok : ∀ c, c ∈ l → okS c) (hl : l.length ≤ 100) (k : Nat) (hk : 101 ≤ k) : rain_Sum.f k l = some (S0 l, S1 l) := by
  unfold rain_Sum.f
  have := sum_l0 l hok hl l.length k 0 0 0 (by omega) (by omega) (by omega) (by omega) (by omega) (by omega)
  rw [show (0 : Int) = ((0 : Nat) : Int) from rfl]
  rw [show ((0 : Nat) : Int) = 0 from rfl] at this ⊢
  rw [this, List.drop_zero]; simp
theorem has_s (a b x : Int) (h1 : a ≤ x) (h2 : x ≤ b) : span_Has.f a b x = some true := by
  unfold span_Has.f span_Of.f span_Within.f span_Join.f
  simp only [bs]
  congr 1
  unfold mn mx
  rw [Bool.and_eq_true, beq_iff_eq, beq_iff_eq]
  split <;> split <;> omega
theorem sums_l0 (l : List S40) (n : Int) (at_ : List Bool) (hl : l.length ≤ 100) (h0 : 0 ≤ n) (h1 : n ≤ (l.length : Int)) : ∀ (d k i : Nat) (t : Int), l.length - i = d → i ≤ l.length → 2 * d + 200 ≤ k → (∀ c, c ∈ l.take i → okS c) → S0 (l.take i) ≤ t → t ≤ S1 (l.take i) →
    bournelaw26_RainSums.l0 k l n at_ true t (i : Int) = some true := by
  intro d
  induction d with
  | zero =>
    intro k i t hd hi hk hok t1 t2
    obtain ⟨k, rfl⟩ : ∃ m, k = m + 1 := ⟨k - 1, by omega⟩
    have e : l.take i = l := List.take_of_length_le (by omega)
    rw [e] at hok t1 t2
    have hT : ∀ c, c ∈ l.take n.toNat → okS c := fun c hc => hok c (List.mem_of_mem_take hc)
    have hD : ∀ c, c ∈ l.drop n.toNat → okS c := fun c hc => hok c (List.mem_of_mem_drop hc)
    have lT : (l.take n.toNat).length ≤ 100 := by rw [List.length_take]; omega
    have lD : (l.drop n.toNat).length ≤ 100 := by rw [List.length_drop]; omega
    have bT := bnd _ hT
    have bD := bnd _ hD
    have a0 : S0 l = S0 (l.take n.toNat) + S0 (l.drop n.toNat) := by rw [← S0_app, List.take_append_drop]
    have a1 : S1 l = S1 (l.take n.toNat) + S1 (l.drop n.toNat) := by rw [← S1_app, List.take_append_drop]
    simp only [bournelaw26_RainSums.l0]
    rw [if_neg (by omega), sum_spec l hok hl k (by omega), bs, if_pos trivial, if_pos h0, if_pos h1, sum_spec _ hT lT k (by omega), bs, sum_spec _ hD lD k (by omega), bs]
    dsimp only
    rw [add_s _ _ _ _ (by unfold ok; omega) (by unfold ok; omega) (by unfold ok; omega) (by unfold ok; omega) (by unfold ok; omega) (by unfold ok; omega), bs, if_pos (by rw [a0, a1]; simp), has_s _ _ _ t1 t2, bs]
  | succ d ih =>
    intro k i t hd hi hk hok t1 t2
    obtain ⟨k, rfl⟩ : ∃ m, k = m + 2 := ⟨k - 2, by omega⟩
    have hlt : i < l.length := by omega
    have bT := bnd _ hok
    have lT : (l.take i).length = i := by rw [List.length_take]; omega
    rw [lT] at bT
    have bad : bournelaw26_RainSums.j2 (k + 1) l n at_ true t (i : Int) true = some true := by
      simp only [bournelaw26_RainSums.j2]; rw [if_pos trivial]
    simp only [bournelaw26_RainSums.l0]
    rw [if_pos (by omega), if_pos (by omega)]
    by_cases g1 : (rd_T40 l (i : Int)).f0 < -1125899906842624
    · rw [if_pos g1]; exact bad
    rw [if_neg g1]
    by_cases g2 : (rd_T40 l (i : Int)).f1 > 1125899906842624
    · rw [if_pos g2]; exact bad
    rw [if_neg g2]
    unfold span_Right.f
    rw [bs]
    by_cases g3 : (rd_T40 l (i : Int)).f0 ≤ (rd_T40 l (i : Int)).f1
    case neg => rw [decide_eq_false g3]; exact bad
    rw [decide_eq_true g3]
    have et := take_rd l i hlt
    have nx : ∀ x : Int, (rd_T40 l (i : Int)).f0 ≤ x → x ≤ (rd_T40 l (i : Int)).f1 → bournelaw26_RainSums.l0 k l n at_ true (wrap64 (t + x)) (wrap64 ((i : Int) + 1)) = some true := by
      intro x x1 x2
      rw [wis (t + x) (by omega), wis ((i : Int) + 1) (by omega), show (i : Int) + 1 = ((i + 1 : Nat) : Int) from rfl]
      refine ih k (i + 1) (t + x) (by omega) (by omega) (by omega) ?_ ?_ ?_
      · rw [et]
        intro c hc
        rcases List.mem_append.1 hc with hc | hc
        · exact hok c hc
        · rw [List.mem_singleton] at hc; subst hc; unfold okS; omega
      · rw [et, S0_app]; simp only [S0]; omega
      · rw [et, S1_app]; simp only [S1]; omega
    show bournelaw26_RainSums.j2 (k + 1) l n at_ true t (i : Int) false = some true
    simp only [bournelaw26_RainSums.j2]
    rw [if_neg (by decide)]
    by_cases g4 : (i : Int) < (at_.length : Int)
    · rw [if_pos g4, if_pos (by omega)]
      by_cases g5 : rdOf false at_ (i : Int) = true
      · rw [if_pos g5, if_pos (by omega)]; exact nx _ g3 (Int.le_refl _)
      · rw [if_neg g5, if_pos (by omega)]; exact nx _ (Int.le_refl _) g3
    · rw [if_neg g4, if_pos (by omega), if_pos (by omega)]; exact nx _ (Int.le_refl _) g3
theorem sums (k : Nat) (hk : 500 ≤ k) (l : List S40) (n : Int) (at_ : List Bool) : bournelaw26_RainSums.f k l n at_ = some true := by
  obtain ⟨k, rfl⟩ : ∃ m, k = m + 1 := ⟨k - 1, by omega⟩
  unfold bournelaw26_RainSums.f bournelaw26_small.f
  rw [bs]
  have bad : bournelaw26_RainSums.j0 (k + 1) l n at_ true true = some true := by
    simp only [bournelaw26_RainSums.j0]; rw [if_pos trivial]
  by_cases g1 : (l.length : Int) > 100
  · rw [if_pos g1]; exact bad
  rw [if_neg g1]
  by_cases g2 : n < 0
  · rw [if_pos g2]; exact bad
  rw [if_neg g2]
  by_cases g3 : n > (l.length : Int)
  · rw [decide_eq_true g3]; exact bad
  rw [decide_eq_false g3]
  simp only [bournelaw26_RainSums.j0]
  rw [if_neg (by decide)]
  exact sums_l0 l n at_ (by omega) (by omega) (by omega) l.length k 0 0 (by omega) (by omega) (by omega) (by intro c hc; simp at hc) (by simp [S0]) (by simp [S1])
theorem RainSums : bournelaw26_RainSums.Pure := by
  intro l n at_
  intros
  exact ⟨500, sums 500 (Nat.le_refl _) l n at_⟩
end Go.Proofs.Ytpklgbnihgljmaa.Pure
