import Derived.Test.YtacpiaiohcblfaaSeep
import Derived.Test.YtacpiaiohcblfaaRdT
import Derived.Test.YtacpiaiohcblfaaRef01
import Derived.Test.YtacpiaiohcblfaaFn10
import Derived.Test.YtacpiaiohcblfaaFn7
import Derived.Test.YtacpiaiohcblfaaFn8
import Derived.Test.YtacpiaiohcblfaaFn9
set_option maxRecDepth 100000
set_option linter.unusedVariables false
namespace Go.Proofs.Ytacpiaiohcblfaa.Pure
open Go.RowKit Go.Proofs.Ytacpiaiohcblfaa.Fn Go.Proofs.Ytacpiaiohcblfaa.Rd Go.Proofs.Ytacpiaiohcblfaa.Div Go.Proofs.Ytacpiaiohcblfaa.Exact Go.Proofs.Ytacpiaiohcblfaa.Seep Go.Proofs.YtacpiaiohcblfaaW.PrintWords Go.Proofs.YtacpiaiohcblfaaW.PrintLast Go.Proofs.YtacpiaiohcblfaaW.PrintMore

theorem ref_part (k : Nat) (hk : 120 ≤ k) (v nu de : Int) : bourneref20_Part.f k v nu de = some (spart v nu de) := by
  unfold bourneref20_Part.f
  rw [Ref01.scale_spec k hk, bs]; rfl
theorem ref_ask (k : Nat) (hk : 120 ≤ k) (a0_0 : ByteArray) (a0_1 a0_2 a0_3 : Int) (l0_4 l0_5 l0_6 : List (S90)) (a0_7 a0_8 a0_9 a0_10 a0_11 a0_12 a0_13 a0_14 a0_15 a0_16 a0_17 : Int) (f t : Int) : bourneref20_Ask.f k a0_0 a0_1 a0_2 a0_3 l0_4 l0_5 l0_6 a0_7 a0_8 a0_9 a0_10 a0_11 a0_12 a0_13 a0_14 a0_15 a0_16 a0_17 f t = some (sask a0_1 a0_11 a0_12 a0_15 a0_16 f t) := by
  unfold bourneref20_Ask.f sask
  have := part_bound f a0_11 a0_12
  have := part_bound t a0_15 a0_16
  by_cases h : a0_1 = 4
  · rw [if_pos h, if_pos h, ref_part k hk, bs, ref_part k hk, bs, wis _ (by omega)]
  · rw [if_neg h, if_neg h]
theorem ref_bounds (k : Nat) (hk : 120 ≤ k) (a0_0 : ByteArray) (a0_1 a0_2 a0_3 : Int) (l0_4 l0_5 l0_6 : List (S90)) (a0_7 a0_8 a0_9 a0_10 a0_11 a0_12 a0_13 a0_14 a0_15 a0_16 a0_17 : Int) (fl fh tl th : Int) : bourneref20_Bounds.f k a0_0 a0_1 a0_2 a0_3 l0_4 l0_5 l0_6 a0_7 a0_8 a0_9 a0_10 a0_11 a0_12 a0_13 a0_14 a0_15 a0_16 a0_17 fl fh tl th = some (sask a0_1 a0_11 a0_12 a0_15 a0_16 fl th, sask a0_1 a0_11 a0_12 a0_15 a0_16 fh tl) := by
  unfold bourneref20_Bounds.f
  rw [ref_ask k hk, bs, ref_ask k hk, bs]
theorem ref_siphon (a0_0 : ByteArray) (a0_1 a0_2 a0_3 : Int) (l0_4 l0_5 l0_6 : List (S90)) (a0_7 a0_8 a0_9 a0_10 a0_11 a0_12 a0_13 a0_14 a0_15 a0_16 a0_17 : Int) (p t : Int) (st o : Bool) (v : Int) : bourneref20_Siphon.f a0_0 a0_1 a0_2 a0_3 l0_4 l0_5 l0_6 a0_7 a0_8 a0_9 a0_10 a0_11 a0_12 a0_13 a0_14 a0_15 a0_16 a0_17 p t st o v = some (p, t, st, if a0_1 = 3 then siph a0_13 a0_14 o v else o) := by
  unfold bourneref20_Siphon.f siph
  by_cases h : a0_1 = 3
  · rw [if_pos h, if_pos h]
    by_cases h1 : a0_13 ≤ v
    · rw [if_pos h1]; simp [h1]
    · rw [if_neg h1]
      by_cases h2 : v ≤ a0_14
      · rw [if_pos h2]; simp [h1, show ¬ a0_14 < v by omega]
      · rw [if_neg h2]; simp [h1, show a0_14 < v by omega]
  · rw [if_neg h, if_neg h]
theorem mayb_out (kind p b lo hi klo khi : Int) (h : Inv (Occ p b klo khi (fun x => lo ≤ x ∧ x ≤ hi)) (may p b lo hi klo khi)) (hn : ∀ c, ¬ Occ p b klo khi (fun x => lo ≤ x ∧ x ≤ hi) c) : mayb kind p b lo hi klo khi = (klo, khi) := by
  have e1 := h.2.2.1 (hn false) (hn true)
  have e2 := h.2.2.2.2.2 (hn true) (hn false)
  unfold mayb
  split
  · rw [if_neg (by omega)]
  · rfl
theorem mayb_val (p b lo hi klo khi : Int) (h : Inv (Occ p b klo khi (fun x => lo ≤ x ∧ x ≤ hi)) (may p b lo hi klo khi)) (one zero : Bool) (h1 : one = true ↔ Occ p b klo khi (fun x => lo ≤ x ∧ x ≤ hi) true) (h0 : zero = true ↔ Occ p b klo khi (fun x => lo ≤ x ∧ x ≤ hi) false) (hx : one = true ∨ zero = true) :
    mayb 3 p b lo hi klo khi = (if one = true then (if zero = true then (0, 1) else (1, 1)) else (0, 0)) := by
  obtain ⟨q1, q2, q3, q4, q5, q6⟩ := h
  rw [← h0, ← h1] at *
  unfold mayb
  rw [if_pos rfl]
  generalize may p b lo hi klo khi = m at *
  obtain ⟨m1, m2⟩ := m
  cases one <;> cases zero <;> simp at *
  · rw [if_pos (by omega)]; simp; omega
  · rw [if_pos (by omega)]; simp; omega
  · rw [if_pos (by omega)]; simp; omega
theorem ref_maybe (k : Nat) (hk : 10 ≤ k) (a0_0 : ByteArray) (a0_1 a0_2 a0_3 : Int) (l0_4 l0_5 l0_6 : List (S90)) (a0_7 a0_8 a0_9 a0_10 a0_11 a0_12 a0_13 a0_14 a0_15 a0_16 a0_17 : Int) (k0 k1 k2 klo khi lo hi : Int) (hp : ok a0_13) (hb : ok a0_14) : bourneref20_Maybe.f k a0_0 a0_1 a0_2 a0_3 l0_4 l0_5 l0_6 a0_7 a0_8 a0_9 a0_10 a0_11 a0_12 a0_13 a0_14 a0_15 a0_16 a0_17 k0 k1 k2 klo khi lo hi = some (k0, k1, k2, (mayb a0_1 a0_13 a0_14 lo hi klo khi).1, (mayb a0_1 a0_13 a0_14 lo hi klo khi).2) := by
  obtain ⟨k, rfl⟩ : ∃ m, k = m + 9 := ⟨k - 9, by omega⟩
  unfold bourneref20_Maybe.f
  have bad : mayb a0_1 a0_13 a0_14 lo hi klo khi = (klo, khi) → bourneref20_Maybe.j0 (k + 9) true a0_0 a0_1 a0_2 a0_3 l0_4 l0_5 l0_6 a0_7 a0_8 a0_9 a0_10 a0_11 a0_12 a0_13 a0_14 a0_15 a0_16 a0_17 k0 k1 k2 klo khi lo hi = some (k0, k1, k2, (mayb a0_1 a0_13 a0_14 lo hi klo khi).1, (mayb a0_1 a0_13 a0_14 lo hi klo khi).2) := by
    intro e
    simp only [bourneref20_Maybe.j0]
    rw [if_pos trivial, e]
  by_cases h3 : a0_1 = 3
  case neg => rw [if_neg h3]; exact bad (by unfold mayb; rw [if_neg h3])
  rw [if_pos h3]
  have inv := may_inv hp hb lo hi klo khi
  by_cases hl : lo > hi
  · rw [decide_eq_true hl]
    refine bad (mayb_out _ _ _ _ _ _ _ inv ?_)
    rintro c ⟨x, o, hx, _⟩
    omega
  rw [decide_eq_false hl]
  unfold ok at hp hb
  have fin : ∀ (cl op : Bool), (cl = true ↔ klo ≤ 0 ∧ 0 ≤ khi) → (op = true ↔ klo ≤ 1 ∧ 1 ≤ khi) → bourneref20_Maybe.j2 (k + 7) cl op a0_0 a0_1 a0_2 a0_3 l0_4 l0_5 l0_6 a0_7 a0_8 a0_9 a0_10 a0_11 a0_12 a0_13 a0_14 a0_15 a0_16 a0_17 k0 k1 k2 klo khi lo hi = some (k0, k1, k2, (mayb a0_1 a0_13 a0_14 lo hi klo khi).1, (mayb a0_1 a0_13 a0_14 lo hi klo khi).2) := by
    intro cl op hcl hop
    simp only [bourneref20_Maybe.j2]
    have go3 : ∀ n : Bool, n = (!cl && !op) → bourneref20_Maybe.j3 (k + 6) cl op n a0_0 a0_1 a0_2 a0_3 l0_4 l0_5 l0_6 a0_7 a0_8 a0_9 a0_10 a0_11 a0_12 a0_13 a0_14 a0_15 a0_16 a0_17 k0 k1 k2 klo khi lo hi = some (k0, k1, k2, (mayb a0_1 a0_13 a0_14 lo hi klo khi).1, (mayb a0_1 a0_13 a0_14 lo hi klo khi).2) := by
      intro n hn
      simp only [bourneref20_Maybe.j3]
      cases n with
      | true =>
        rw [if_pos rfl]
        have e : mayb a0_1 a0_13 a0_14 lo hi klo khi = (klo, khi) := by
          refine mayb_out _ _ _ _ _ _ _ inv ?_
          rintro c ⟨x, o, hx, ho, p1, p2, _⟩
          cases cl <;> cases op <;> simp at hn hcl hop
          rcases ho with rfl | rfl <;> omega
        rw [e]
      | false =>
        have any : (klo ≤ 0 ∧ 0 ≤ khi) ∨ (klo ≤ 1 ∧ 1 ≤ khi) := by
          cases cl <;> cases op <;> simp at hn hcl hop <;> omega
        rw [if_neg (by decide)]
        have go5 : ∀ (one zero bet : Bool), (one = true ↔ a0_13 ≤ hi) → (zero = true ↔ lo ≤ a0_14 ∧ lo < a0_13) → (bet = true ↔ a0_14 < a0_13 ∧ a0_14 + 1 ≤ hi ∧ lo ≤ a0_13 - 1 ∧ a0_14 + 1 ≤ a0_13 - 1) → bourneref20_Maybe.j5 (k + 4) cl op one zero bet k0 k1 k2 klo khi = some (k0, k1, k2, (mayb a0_1 a0_13 a0_14 lo hi klo khi).1, (mayb a0_1 a0_13 a0_14 lo hi klo khi).2) := by
          intro one zero bet h1 h0 hbt
          have o1 : (one || (bet && op)) = true ↔ Occ a0_13 a0_14 klo khi (fun x => lo ≤ x ∧ x ≤ hi) true := by
            rw [Bool.or_eq_true, Bool.and_eq_true, h1, hbt, hop]
            constructor
            · rintro (q | ⟨q, q2⟩)
              · rcases any with z | z
                · exact ⟨hi, 0, ⟨by omega, Int.le_refl _⟩, Or.inl rfl, z.1, z.2, by unfold siph; simp [q]⟩
                · exact ⟨hi, 1, ⟨by omega, Int.le_refl _⟩, Or.inr rfl, z.1, z.2, by unfold siph; simp [q]⟩
              · by_cases g : lo ≤ a0_14 + 1
                · exact ⟨a0_14 + 1, 1, ⟨g, by omega⟩, Or.inr rfl, q2.1, q2.2, by unfold siph; simp; omega⟩
                · exact ⟨lo, 1, ⟨Int.le_refl _, by omega⟩, Or.inr rfl, q2.1, q2.2, by unfold siph; simp; omega⟩
            · rintro ⟨x, o, hx, ho, p1, p2, r⟩
              unfold siph at r
              rw [Bool.or_eq_true, Bool.and_eq_true, decide_eq_true_iff, decide_eq_true_iff, decide_eq_true_iff] at r
              by_cases g : a0_13 ≤ hi
              · exact Or.inl g
              · refine Or.inr ⟨by omega, by omega, by omega⟩
          have o0 : (zero || (bet && cl)) = true ↔ Occ a0_13 a0_14 klo khi (fun x => lo ≤ x ∧ x ≤ hi) false := by
            rw [Bool.or_eq_true, Bool.and_eq_true, h0, hbt, hcl]
            constructor
            · rintro (q | ⟨q, q2⟩)
              · rcases any with z | z
                · exact ⟨lo, 0, ⟨Int.le_refl _, by omega⟩, Or.inl rfl, z.1, z.2, by unfold siph; simp; omega⟩
                · exact ⟨lo, 1, ⟨Int.le_refl _, by omega⟩, Or.inr rfl, z.1, z.2, by unfold siph; simp; omega⟩
              · by_cases g : lo ≤ a0_14 + 1
                · exact ⟨a0_14 + 1, 0, ⟨g, by omega⟩, Or.inl rfl, q2.1, q2.2, by unfold siph; simp; omega⟩
                · exact ⟨lo, 0, ⟨Int.le_refl _, by omega⟩, Or.inl rfl, q2.1, q2.2, by unfold siph; simp; omega⟩
            · rintro ⟨x, o, hx, ho, p1, p2, r⟩
              unfold siph at r
              rw [Bool.or_eq_false_iff, Bool.and_eq_false_iff, decide_eq_false_iff_not, decide_eq_false_iff_not, decide_eq_false_iff_not] at r
              by_cases g : lo ≤ a0_14 ∧ lo < a0_13
              · exact Or.inl g
              · refine Or.inr ⟨by omega, by omega, by omega⟩
          have some1 : (one || (bet && op)) = true ∨ (zero || (bet && cl)) = true := by
            rw [Bool.or_eq_true, Bool.and_eq_true, Bool.or_eq_true, Bool.and_eq_true, h1, h0, hbt, hcl, hop]
            omega
          have v := mayb_val a0_13 a0_14 lo hi klo khi inv _ _ o1 o0 some1
          rw [h3, v]
          simp only [bourneref20_Maybe.j5, bourneref20_Maybe.j6, bourneref20_Maybe.j7, bourneref20_Maybe.j8]
          cases one <;> cases zero <;> cases bet <;> cases op <;> cases cl <;> simp at some1 ⊢
        have bt : ∀ one zero : Bool, (one = true ↔ a0_13 ≤ hi) → (zero = true ↔ lo ≤ a0_14 ∧ lo < a0_13) → bourneref20_Maybe.j4 (k + 5) cl op one zero a0_0 a0_1 a0_2 a0_3 l0_4 l0_5 l0_6 a0_7 a0_8 a0_9 a0_10 a0_11 a0_12 a0_13 a0_14 a0_15 a0_16 a0_17 k0 k1 k2 klo khi lo hi = some (k0, k1, k2, (mayb a0_1 a0_13 a0_14 lo hi klo khi).1, (mayb a0_1 a0_13 a0_14 lo hi klo khi).2) := by
          intro one zero h1 h0
          simp only [bourneref20_Maybe.j4]
          by_cases g : a0_13 > a0_14
          · rw [if_pos g]
            unfold bourneref20_middle.f
            rw [bs, wis (a0_14 + 1) (by omega), wis (a0_13 - 1) (by omega)]
            refine go5 one zero _ h1 h0 ?_
            rw [decide_eq_true_iff]
            unfold mx mn
            split <;> split <;> omega
          · rw [if_neg g]
            exact go5 one zero false h1 h0 ⟨fun e => (by cases e), fun e => by omega⟩
        by_cases g : lo ≤ a0_14
        · rw [if_pos g]
          exact bt _ _ decide_eq_true_iff (by rw [decide_eq_true_iff]; omega)
        · rw [if_neg g]
          exact bt _ false decide_eq_true_iff ⟨fun e => (by cases e), fun e => by omega⟩
    cases cl with
    | true => rw [if_pos rfl]; exact go3 false rfl
    | false => rw [if_neg (by decide)]; exact go3 (!op) (by simp)
  have mid : ∀ cl : Bool, (cl = true ↔ klo ≤ 0 ∧ 0 ≤ khi) → bourneref20_Maybe.j1 (k + 8) cl a0_0 a0_1 a0_2 a0_3 l0_4 l0_5 l0_6 a0_7 a0_8 a0_9 a0_10 a0_11 a0_12 a0_13 a0_14 a0_15 a0_16 a0_17 k0 k1 k2 klo khi lo hi = some (k0, k1, k2, (mayb a0_1 a0_13 a0_14 lo hi klo khi).1, (mayb a0_1 a0_13 a0_14 lo hi klo khi).2) := by
    intro cl hcl
    simp only [bourneref20_Maybe.j1]
    by_cases g : klo ≤ 1
    · rw [if_pos g]; exact fin cl _ hcl (by rw [decide_eq_true_iff]; omega)
    · rw [if_neg g]; exact fin cl false hcl ⟨fun e => (by cases e), fun e => by omega⟩
  simp only [bourneref20_Maybe.j0]
  rw [if_neg (by decide)]
  by_cases g : klo ≤ 0
  · rw [if_pos g]; exact mid _ (by rw [decide_eq_true_iff]; omega)
  · rw [if_neg g]; exact mid false ⟨fun e => (by cases e), fun e => by omega⟩
theorem tells (k : Nat) (hk : 200 ≤ k) (a0_0 : ByteArray) (a0_1 a0_2 a0_3 : Int) (l0_4 l0_5 l0_6 : List (S90)) (a0_7 a0_8 a0_9 a0_10 a0_11 a0_12 a0_13 a0_14 a0_15 a0_16 a0_17 : Int) (p t : Int) (st o : Bool) (k0 k1 k2 k3 k4 al ah bl bh : Int) (hp : ok a0_13) (hb : ok a0_14) : bournelaw20_SeepTells.f k a0_0 a0_1 a0_2 a0_3 l0_4 l0_5 l0_6 a0_7 a0_8 a0_9 a0_10 a0_11 a0_12 a0_13 a0_14 a0_15 a0_16 a0_17 p t st o k0 k1 k2 k3 k4 al ah bl bh = some true := by
  unfold bournelaw20_SeepTells.f bournelaw20_small.f
  rw [bs, if_pos rfl, ask_spec _ (by omega), bs, ref_ask _ (by omega), bs, if_pos rfl, bounds_spec _ (by omega), bs, ref_bounds _ (by omega), bs, if_pos (by simp), siphon_spec, bs, ref_siphon, bs, if_pos (by simp)]
  rw [maybe_spec _ _ _ _ _ _ _ _ _ _ _ _ _ _ _ _ _ _ _ _ _ _ _ _ _ hp hb, bs, ref_maybe k (by omega) _ _ _ _ _ _ _ _ _ _ _ _ _ _ _ _ _ _ _ _ _ _ _ _ _ hp hb, bs]
  simp
theorem SeepTells : bournelaw20_SeepTells.Pure := by
  intro a0_0 a0_1 a0_2 a0_3 l0_4 l0_5 l0_6 a0_7 a0_8 a0_9 a0_10 a0_11 a0_12 a0_13 a0_14 a0_15 a0_16 a0_17 p t st o k0 k1 k2 k3 k4 al ah bl bh
  intro _ _ _ _ _ _ _ _ _ _ _ _ _ _ _ _ hp hb
  intros
  exact ⟨200, tells 200 (Nat.le_refl _) a0_0 a0_1 a0_2 a0_3 l0_4 l0_5 l0_6 a0_7 a0_8 a0_9 a0_10 a0_11 a0_12 a0_13 a0_14 a0_15 a0_16 a0_17 p t st o k0 k1 k2 k3 k4 al ah bl bh (ok_of hp) (ok_of hb)⟩
end Go.Proofs.Ytacpiaiohcblfaa.Pure
