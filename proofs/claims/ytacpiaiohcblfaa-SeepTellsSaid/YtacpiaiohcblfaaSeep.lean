/- The printed functions of layer 20 (seep) answer plainly. -/
import Derived.Test.YtacpiaiohcblfaaExact
import Derived.Test.YtacpiaiohcblfaaMaybe
import Derived.Test.YtacpiaiohcblfaaFn13
import Derived.Test.YtacpiaiohcblfaaFn15
import Derived.Test.YtacpiaiohcblfaaFn5
set_option maxRecDepth 100000
set_option linter.unusedVariables false
namespace Go.Proofs.Ytacpiaiohcblfaa.Seep
open Go.RowKit Go.Proofs.Ytacpiaiohcblfaa.Fn Go.Proofs.Ytacpiaiohcblfaa.Div Go.Proofs.Ytacpiaiohcblfaa.Exact Go.Proofs.YtacpiaiohcblfaaW.PrintWords Go.Proofs.YtacpiaiohcblfaaW.PrintLast Go.Proofs.YtacpiaiohcblfaaW.PrintMore

def spart (v nu de : Int) : Int := (sc v nu de).1
theorem part_bound (v nu de : Int) : 0 ≤ spart v nu de ∧ spart v nu de ≤ 1125899906842624 := by
  unfold spart
  by_cases h : fits v nu de
  · rw [sc_true h]
    exact ⟨Int.ediv_nonneg (Int.mul_nonneg h.1 h.2.2.1) (by have := h.2.2.2.2.1; omega), h.2.2.2.2.2.2⟩
  · rw [sc_false h]; decide
theorem part_self {v nu de : Int} (hv : 0 ≤ v) (h : nu ≤ de) : spart v nu de ≤ v := by
  unfold spart
  by_cases hf : fits v nu de
  · rw [sc_true hf]
    have hd := hf.2.2.2.2.1
    have h1 : v * nu ≤ v * de := Int.mul_le_mul_of_nonneg_left h hv
    have h2 := Int.ediv_le_ediv (show 0 < de by omega) h1
    rwa [Int.mul_ediv_cancel _ (by omega)] at h2
  · rw [sc_false hf]; exact hv
theorem part_mono {v v' nu de : Int} (h0 : 0 ≤ v) (h1 : v ≤ v') (h2 : v' ≤ 1125899906842624) (h : nu ≤ de) : spart v nu de ≤ spart v' nu de := by
  by_cases hf : fits v nu de
  · have hd := hf.2.2.2.2.1
    have hf' : fits v' nu de := by
      refine ⟨by omega, h2, hf.2.2.1, hf.2.2.2.1, hd, hf.2.2.2.2.2.1, ?_⟩
      have a : v' * nu ≤ v' * de := Int.mul_le_mul_of_nonneg_left h (by omega)
      have b := Int.ediv_le_ediv (show 0 < de by omega) a
      rw [Int.mul_ediv_cancel _ (by omega)] at b; omega
    unfold spart
    rw [sc_true hf, sc_true hf']
    exact Int.ediv_le_ediv (by omega) (Int.mul_le_mul_of_nonneg_right h1 hf.2.2.1)
  · have := (part_bound v' nu de).1
    have e : spart v nu de = 0 := by unfold spart; rw [sc_false hf]
    omega
theorem part_spec (k : Nat) (hk : 50 ≤ k) (v nu de : Int) : seep_part.f k v nu de = some (spart v nu de) := by
  unfold seep_part.f
  rw [scale_spec k hk, bs]; rfl
def sask (kind nu de bn bd f t : Int) : Int := if kind = 4 then spart f nu de - spart t bn bd else 0
theorem ask_bound (kind nu de bn bd f t : Int) : -1125899906842624 ≤ sask kind nu de bn bd f t ∧ sask kind nu de bn bd f t ≤ 1125899906842624 := by
  unfold sask
  have := part_bound f nu de
  have := part_bound t bn bd
  split <;> omega
theorem ask_spec (k : Nat) (hk : 50 ≤ k) (a0_0 : ByteArray) (a0_1 a0_2 a0_3 : Int) (l0_4 l0_5 l0_6 : List (S90)) (a0_7 a0_8 a0_9 a0_10 a0_11 a0_12 a0_13 a0_14 a0_15 a0_16 a0_17 : Int) (f t : Int) : seep_Ask.f k a0_0 a0_1 a0_2 a0_3 l0_4 l0_5 l0_6 a0_7 a0_8 a0_9 a0_10 a0_11 a0_12 a0_13 a0_14 a0_15 a0_16 a0_17 f t = some (sask a0_1 a0_11 a0_12 a0_15 a0_16 f t) := by
  unfold seep_Ask.f sask
  have := part_bound f a0_11 a0_12
  have := part_bound t a0_15 a0_16
  by_cases h : a0_1 = 4
  · rw [if_pos h, if_pos h, part_spec k hk, bs, part_spec k hk, bs, wis _ (by omega)]
  · rw [if_neg h, if_neg h]
theorem bounds_spec (k : Nat) (hk : 50 ≤ k) (a0_0 : ByteArray) (a0_1 a0_2 a0_3 : Int) (l0_4 l0_5 l0_6 : List (S90)) (a0_7 a0_8 a0_9 a0_10 a0_11 a0_12 a0_13 a0_14 a0_15 a0_16 a0_17 : Int) (fl fh tl th : Int) : seep_Bounds.f k a0_0 a0_1 a0_2 a0_3 l0_4 l0_5 l0_6 a0_7 a0_8 a0_9 a0_10 a0_11 a0_12 a0_13 a0_14 a0_15 a0_16 a0_17 fl fh tl th = some (sask a0_1 a0_11 a0_12 a0_15 a0_16 fl th, sask a0_1 a0_11 a0_12 a0_15 a0_16 fh tl) := by
  unfold seep_Bounds.f
  rw [ask_spec k hk, bs, ask_spec k hk, bs]
theorem siphon_spec (a0_0 : ByteArray) (a0_1 a0_2 a0_3 : Int) (l0_4 l0_5 l0_6 : List (S90)) (a0_7 a0_8 a0_9 a0_10 a0_11 a0_12 a0_13 a0_14 a0_15 a0_16 a0_17 : Int) (p t : Int) (st o : Bool) (v : Int) : seep_Siphon.f a0_0 a0_1 a0_2 a0_3 l0_4 l0_5 l0_6 a0_7 a0_8 a0_9 a0_10 a0_11 a0_12 a0_13 a0_14 a0_15 a0_16 a0_17 p t st o v = some (p, t, st, if a0_1 = 3 then siph a0_13 a0_14 o v else o) := by
  unfold seep_Siphon.f siph
  by_cases h : a0_1 = 3
  · rw [if_pos h, if_pos h]
    by_cases h1 : a0_13 ≤ v
    · simp [h1]
    · cases o <;> simp [h1]
  · rw [if_neg h, if_neg h]
/-- More water in From, less in To: a greater exchange. -/
theorem ask_mono {kind nu de bn bd f f' t t' : Int} (h1 : nu ≤ de) (h2 : bn ≤ bd) (f0 : 0 ≤ f) (ff : f ≤ f') (f1 : f' ≤ 1125899906842624) (t0 : 0 ≤ t) (tt : t ≤ t') (t1 : t' ≤ 1125899906842624) : sask kind nu de bn bd f t' ≤ sask kind nu de bn bd f' t := by
  have a := part_mono f0 ff f1 h1
  have b := part_mono t0 tt t1 h2
  unfold sask; split <;> omega

/-! ### What is known of a siphon -/
def Inv (P : Bool → Prop) (m : Int × Int) : Prop :=
  (P false → m.1 = 0) ∧ (¬ P false → P true → m.1 = 1) ∧ (¬ P false → ¬ P true → m.1 = 2) ∧ (P true → m.2 = 1) ∧ (¬ P true → P false → m.2 = 0) ∧ (¬ P true → ¬ P false → m.2 = -1)
theorem inv_congr {P Q : Bool → Prop} {m : Int × Int} (h : ∀ b, P b ↔ Q b) (hi : Inv P m) : Inv Q m := by
  unfold Inv at *
  rw [← h false, ← h true]; exact hi
theorem inv_step {P : Bool → Prop} {m : Int × Int} (hi : Inv P m) (c : Bool) : Inv (fun b => P b ∨ c = b) (mn m.1 (if c = true then 1 else 0), mx m.2 (if c = true then 1 else 0)) := by
  obtain ⟨h1, h2, h3, h4, h5, h6⟩ := hi
  unfold Inv mn mx
  by_cases pf : P false <;> by_cases pt : P true <;> cases c <;> simp_all
theorem inv_mstep {P : Bool → Prop} {m : Int × Int} (hi : Inv P m) (p b klo khi x o : Int) : Inv (fun c => P c ∨ (klo ≤ o ∧ o ≤ khi ∧ siph p b (decide (o = 1)) x = c)) (mstep p b klo khi x o m) := by
  unfold mstep mnum
  by_cases h : klo ≤ o ∧ o ≤ khi
  · rw [if_pos h]
    exact inv_congr (fun c => by simp [h.1, h.2]) (inv_step hi (siph p b (decide (o = 1)) x))
  · rw [if_neg h]
    refine inv_congr (fun c => ?_) hi
    constructor
    · exact fun q => Or.inl q
    · rintro (q | ⟨q1, q2, _⟩)
      · exact q
      · exact absurd ⟨q1, q2⟩ h
/-- A state after the step that may occur: from a state and a volume that may. -/
def Occ (p b klo khi : Int) (X : Int → Prop) (c : Bool) : Prop := ∃ x o : Int, X x ∧ (o = 0 ∨ o = 1) ∧ klo ≤ o ∧ o ≤ khi ∧ siph p b (decide (o = 1)) x = c
theorem inv_fold (p b klo khi : Int) : ∀ (xs : List Int) (P : Bool → Prop) (m : Int × Int), Inv P m → Inv (fun c => P c ∨ Occ p b klo khi (fun x => x ∈ xs) c) (xs.foldl (mround p b klo khi) m)
  | [], P, m, h => inv_congr (fun c => ⟨fun q => Or.inl q, fun q => by
      rcases q with q | ⟨x, o, hx, _⟩
      · exact q
      · simp at hx⟩) h
  | y :: ys, P, m, h => by
    have s := inv_fold p b klo khi ys _ _ (inv_mstep (inv_mstep h p b klo khi y 0) p b klo khi y 1)
    refine inv_congr (fun c => ?_) s
    constructor
    · rintro (((q | q) | q) | ⟨x, o, hx, r⟩)
      · exact Or.inl q
      · exact Or.inr ⟨y, 0, List.mem_cons_self, Or.inl rfl, q⟩
      · exact Or.inr ⟨y, 1, List.mem_cons_self, Or.inr rfl, q⟩
      · exact Or.inr ⟨x, o, List.mem_cons_of_mem _ hx, r⟩
    · rintro (q | ⟨x, o, hx, ho, r⟩)
      · exact Or.inl (Or.inl (Or.inl q))
      · rcases List.mem_cons.1 hx with rfl | hx
        · rcases ho with rfl | rfl
          · exact Or.inl (Or.inl (Or.inr r))
          · exact Or.inl (Or.inr r)
        · exact Or.inr ⟨x, o, hx, ho, r⟩
/-- Every volume in the span has one of the chosen ones that acts as it does. -/
theorem repr {p b lo hi v : Int} (hp : ok p) (hb : ok b) (h1 : lo ≤ v) (h2 : v ≤ hi) : ∃ y, y ∈ turnsL lo hi [lo, sat (p - 1), p, b, sat (b + 1), hi] ∧ ∀ o, siph p b o y = siph p b o v := by
  have mem : ∀ y, y ∈ [lo, sat (p - 1), p, b, sat (b + 1), hi] → lo ≤ y → y ≤ hi → y ∈ turnsL lo hi [lo, sat (p - 1), p, b, sat (b + 1), hi] := by
    intro y hy g1 g2
    unfold turnsL
    rw [List.mem_filter]
    exact ⟨hy, decide_eq_true ⟨g1, g2⟩⟩
  unfold ok at hp hb
  have same : ∀ y, (p ≤ y ↔ p ≤ v) → (¬ p ≤ v → (b < y ↔ b < v)) → ∀ o, siph p b o y = siph p b o v := by
    intro y e1 e2 o
    unfold siph
    by_cases g : p ≤ v
    · simp [g, e1.2 g]
    · have g' : ¬ p ≤ y := fun e => g (e1.1 e)
      simp only [g, g', decide_false, Bool.false_or]
      rw [show decide (b < y) = decide (b < v) by rw [decide_eq_decide]; exact e2 g]
  by_cases g : p ≤ v
  · by_cases g2 : lo ≤ p
    · exact ⟨p, mem p (by simp) g2 (by omega), same p (by omega) (by omega)⟩
    · exact ⟨lo, mem lo (by simp) (by omega) (by omega), same lo (by omega) (by omega)⟩
  · by_cases g2 : b < v
    · by_cases g3 : hi ≤ p - 1
      · exact ⟨hi, mem hi (by simp) (by omega) (by omega), same hi (by omega) (by omega)⟩
      · have e : sat (p - 1) = p - 1 := sat_id (by unfold ok; omega)
        exact ⟨sat (p - 1), mem _ (by simp) (by omega) (by omega), same _ (by omega) (by omega)⟩
    · exact ⟨lo, mem lo (by simp) (by omega) (by omega), same lo (by omega) (by omega)⟩
def may (p b lo hi klo khi : Int) : Int × Int := mfold p b klo khi (turnsL lo hi [lo, sat (p - 1), p, b, sat (b + 1), hi])
theorem may_inv {p b : Int} (hp : ok p) (hb : ok b) (lo hi klo khi : Int) : Inv (Occ p b klo khi (fun x => lo ≤ x ∧ x ≤ hi)) (may p b lo hi klo khi) := by
  have s := inv_fold p b klo khi (turnsL lo hi [lo, sat (p - 1), p, b, sat (b + 1), hi]) (fun _ => False) (2, -1) (by unfold Inv; simp)
  refine inv_congr (fun c => ?_) s
  constructor
  · rintro (q | ⟨x, o, hx, r⟩)
    · exact q.elim
    · unfold turnsL at hx
      rw [List.mem_filter] at hx
      exact ⟨x, o, of_decide_eq_true hx.2, r⟩
  · rintro ⟨x, o, hx, ho, k1, k2, r⟩
    obtain ⟨y, hy, he⟩ := repr hp hb hx.1 hx.2
    exact Or.inr ⟨y, o, hy, ho, k1, k2, by rw [he]; exact r⟩
def mayb (kind p b lo hi klo khi : Int) : Int × Int := if kind = 3 then (if (may p b lo hi klo khi).1 ≤ (may p b lo hi klo khi).2 then may p b lo hi klo khi else (klo, khi)) else (klo, khi)
theorem maybe_spec (a0_0 : ByteArray) (a0_1 a0_2 a0_3 : Int) (l0_4 l0_5 l0_6 : List (S90)) (a0_7 a0_8 a0_9 a0_10 a0_11 a0_12 a0_13 a0_14 a0_15 a0_16 a0_17 : Int) (k0 k1 k2 k3 k4 lo hi : Int) (hp : ok a0_13) (hb : ok a0_14) : seep_Maybe.f a0_0 a0_1 a0_2 a0_3 l0_4 l0_5 l0_6 a0_7 a0_8 a0_9 a0_10 a0_11 a0_12 a0_13 a0_14 a0_15 a0_16 a0_17 k0 k1 k2 k3 k4 lo hi = some (k0, k1, k2, (mayb a0_1 a0_13 a0_14 lo hi k3 k4).1, (mayb a0_1 a0_13 a0_14 lo hi k3 k4).2) := by
  unfold seep_Maybe.f mayb
  by_cases h : a0_1 = 3
  · rw [if_pos h, if_pos h, sub_spec _ _ hp (by unfold ok; omega), bs, add_spec _ _ hb (by unfold ok; omega), bs]
    show (if (may a0_13 a0_14 lo hi k3 k4).1 ≤ (may a0_13 a0_14 lo hi k3 k4).2 then _ else _) = _
    by_cases g : (may a0_13 a0_14 lo hi k3 k4).1 ≤ (may a0_13 a0_14 lo hi k3 k4).2
    · rw [if_pos g, if_pos g]; rfl
    · rw [if_neg g, if_neg g]
  · rw [if_neg h, if_neg h]
def num (c : Bool) : Int := if c = true then 1 else 0
theorem inv_has {P : Bool → Prop} {m : Int × Int} (h : Inv P m) (c : Bool) (hc : P c) : m.1 ≤ num c ∧ num c ≤ m.2 ∧ 0 ≤ m.1 ∧ m.2 ≤ 1 ∧ m.1 ≤ m.2 := by
  obtain ⟨h1, h2, h3, h4, h5, h6⟩ := h
  by_cases pf : P false
  · have e1 := h1 pf
    by_cases pt : P true
    · have e2 := h4 pt
      cases c <;> (unfold num; simp; omega)
    · have e2 := h5 pt pf
      cases c
      · unfold num; simp; omega
      · exact absurd hc pt
  · cases c
    · exact absurd hc pf
    · have e1 := h2 pf hc
      have e2 := h4 hc
      unfold num; simp; omega
theorem inv_sub {P Q : Bool → Prop} {m m' : Int × Int} (h : Inv P m) (h' : Inv Q m') (hs : ∀ c, P c → Q c) (c : Bool) (hc : P c) : m'.1 ≤ m.1 ∧ m.2 ≤ m'.2 := by
  have a := inv_has h c hc
  have b := inv_has h' c (hs c hc)
  obtain ⟨h1, h2, h3, h4, h5, h6⟩ := h
  have lo : m'.1 ≤ m.1 := by
    by_cases pf : P false
    · have := (inv_has h' false (hs _ pf)).1; have := h1 pf; unfold num at *; simp at *; omega
    · cases c
      · exact absurd hc pf
      · have := h2 pf hc; have := b.1; unfold num at *; simp at *; omega
  have hi : m.2 ≤ m'.2 := by
    by_cases pt : P true
    · have := (inv_has h' true (hs _ pt)).2.1; have := h4 pt; unfold num at *; simp at *; omega
    · cases c
      · have := h5 pt hc; have := b.2.1; unfold num at *; simp at *; omega
      · exact absurd hc pt
  exact ⟨lo, hi⟩
theorem inv_one {P : Bool → Prop} {m : Int × Int} (h : Inv P m) (c : Bool) (hc : ∀ d, P d ↔ d = c) : m = (num c, num c) := by
  obtain ⟨h1, h2, h3, h4, h5, h6⟩ := h
  obtain ⟨m1, m2⟩ := m
  unfold num
  cases c
  · have pf : P false := (hc false).2 rfl
    have pt : ¬ P true := fun e => by have := (hc true).1 e; cases this
    have e1 := h1 pf; have e2 := h5 pt pf
    simp at *; exact ⟨e1, e2⟩
  · have pf : ¬ P false := fun e => by have := (hc false).1 e; cases this
    have pt : P true := (hc true).2 rfl
    have e1 := h2 pf pt; have e2 := h4 pt
    simp at *; exact ⟨e1, e2⟩
theorem mayb_may {p b lo hi klo khi : Int} (hp : ok p) (hb : ok b) (c : Bool) (hc : Occ p b klo khi (fun x => lo ≤ x ∧ x ≤ hi) c) : mayb 3 p b lo hi klo khi = may p b lo hi klo khi := by
  have := (inv_has (may_inv hp hb lo hi klo khi) c hc).2.2.2.2
  unfold mayb
  rw [if_pos rfl, if_pos this]
theorem inside_spec (a b x : Int) (h : a ≤ b) : ∃ y, bournelaw20_inside.f a b x = some y ∧ a ≤ y ∧ y ≤ b := by
  unfold bournelaw20_inside.f exact_Clamp.f
  by_cases h1 : x < a
  · rw [if_pos h1, bs]; exact ⟨a, rfl, by omega, by omega⟩
  · rw [if_neg h1]
    by_cases h2 : x > b
    · rw [if_pos h2, bs]; exact ⟨b, rfl, by omega, by omega⟩
    · rw [if_neg h2, bs]; exact ⟨x, rfl, by omega, by omega⟩
theorem within_spec (a b : Int) : bournelaw20_within.f a b = some (decide (0 ≤ a ∧ b ≤ 1125899906842624 ∧ a ≤ b)) := by
  unfold bournelaw20_within.f span_Within.f span_Join.f span_Right.f
  simp only [bs]
  have h1 : (mn a 0 == 0 && mx b 1125899906842624 == 1125899906842624) = decide (0 ≤ a ∧ b ≤ 1125899906842624) := by
    unfold mn mx
    rw [Bool.eq_iff_iff, Bool.and_eq_true, beq_iff_eq, beq_iff_eq, decide_eq_true_iff]
    split <;> split <;> omega
  rw [h1]
  by_cases g : 0 ≤ a ∧ b ≤ 1125899906842624
  · rw [decide_eq_true g, if_pos rfl]; congr 1; rw [decide_eq_decide]; omega
  · rw [decide_eq_false g, if_neg (by decide)]; congr 1; exact (decide_eq_false (by omega)).symm
theorem in_spec' (a b c d : Int) (h1 : c ≤ a) (h2 : b ≤ d) : span_Within.f a b c d = some true := by
  unfold span_Within.f span_Join.f
  simp only [bs]
  congr 1
  unfold mn mx
  rw [Bool.and_eq_true, beq_iff_eq, beq_iff_eq]
  split <;> split <;> omega
end Go.Proofs.Ytacpiaiohcblfaa.Seep
