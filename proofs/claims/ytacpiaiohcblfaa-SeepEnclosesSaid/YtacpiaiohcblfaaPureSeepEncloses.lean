import Derived.Test.YtacpiaiohcblfaaSeep
import Derived.Test.YtacpiaiohcblfaaRdT
import Derived.Test.YtacpiaiohcblfaaFn16
set_option maxRecDepth 100000
set_option linter.unusedVariables false
namespace Go.Proofs.Ytacpiaiohcblfaa.Pure
open Go.RowKit Go.Proofs.Ytacpiaiohcblfaa.Fn Go.Proofs.Ytacpiaiohcblfaa.Rd Go.Proofs.Ytacpiaiohcblfaa.Div Go.Proofs.Ytacpiaiohcblfaa.Exact Go.Proofs.Ytacpiaiohcblfaa.Seep Go.Proofs.YtacpiaiohcblfaaW.PrintWords Go.Proofs.YtacpiaiohcblfaaW.PrintLast Go.Proofs.YtacpiaiohcblfaaW.PrintMore

theorem enc_j4 (k : Nat) (a0_0 : ByteArray) (a0_1 a0_2 a0_3 : Int) (l0_4 l0_5 l0_6 : List (S90)) (a0_7 a0_8 a0_9 a0_10 a0_11 a0_12 a0_13 a0_14 a0_15 a0_16 a0_17 : Int) (al ah k0 k1 k2 k3 k4 : Int) (hp : ok a0_13) (hb : ok a0_14) (h3 : a0_1 = 3) (c : Bool) (hc : Occ a0_13 a0_14 k3 k4 (fun x => al ≤ x ∧ x ≤ ah) c) :
    bournelaw20_SeepEncloses.j4 (k + 1) true (num c) a0_0 a0_1 a0_2 a0_3 l0_4 l0_5 l0_6 a0_7 a0_8 a0_9 a0_10 a0_11 a0_12 a0_13 a0_14 a0_15 a0_16 a0_17 al ah k0 k1 k2 k3 k4 = some true := by
  simp only [bournelaw20_SeepEncloses.j4]
  rw [maybe_spec _ _ _ _ _ _ _ _ _ _ _ _ _ _ _ _ _ _ _ _ _ _ _ _ _ hp hb, bs, h3, mayb_may hp hb c hc]
  dsimp only
  obtain ⟨e1, e2, e3, e4, e5⟩ := inv_has (may_inv hp hb al ah k3 k4) c hc
  rw [if_pos trivial, has_f, bs, decide_eq_true ⟨e1, e2⟩, if_pos rfl, if_pos (by omega), if_pos (by omega)]
  simp
theorem encloses (k : Nat) (hk : 100 ≤ k) (a0_0 : ByteArray) (a0_1 a0_2 a0_3 : Int) (l0_4 l0_5 l0_6 : List (S90)) (a0_7 a0_8 a0_9 a0_10 a0_11 a0_12 a0_13 a0_14 a0_15 a0_16 a0_17 : Int) (al ah bl bh x y k0 k1 k2 k3 k4 : Int) (o : Bool) (hp : ok a0_13) (hb : ok a0_14) : bournelaw20_SeepEncloses.f k a0_0 a0_1 a0_2 a0_3 l0_4 l0_5 l0_6 a0_7 a0_8 a0_9 a0_10 a0_11 a0_12 a0_13 a0_14 a0_15 a0_16 a0_17 al ah bl bh x y k0 k1 k2 k3 k4 o = some true := by
  obtain ⟨k, rfl⟩ : ∃ m, k = m + 5 := ⟨k - 5, by omega⟩
  unfold bournelaw20_SeepEncloses.f bournelaw20_small.f
  rw [bs, within_spec, bs]
  have bad : bournelaw20_SeepEncloses.j0 (k + 5) x y o true true a0_0 a0_1 a0_2 a0_3 l0_4 l0_5 l0_6 a0_7 a0_8 a0_9 a0_10 a0_11 a0_12 a0_13 a0_14 a0_15 a0_16 a0_17 al ah bl bh k0 k1 k2 k3 k4 = some true := by
    simp only [bournelaw20_SeepEncloses.j0]; rw [if_pos trivial]
  by_cases ga : 0 ≤ al ∧ ah ≤ 1125899906842624 ∧ al ≤ ah
  case neg => rw [decide_eq_false ga, if_neg (by decide)]; exact bad
  rw [decide_eq_true ga, if_pos rfl, within_spec, bs]
  by_cases gb : 0 ≤ bl ∧ bh ≤ 1125899906842624 ∧ bl ≤ bh
  case neg => rw [decide_eq_false gb, if_neg (by decide)]; exact bad
  rw [decide_eq_true gb, if_pos rfl]
  by_cases n3 : a0_11 > a0_12
  · rw [if_pos n3]; exact bad
  rw [if_neg n3]
  by_cases n4 : a0_15 > a0_16
  · rw [decide_eq_true n4]; exact bad
  rw [decide_eq_false n4]
  have mono : ∀ {f f' t t' : Int}, 0 ≤ f → f ≤ f' → f' ≤ 1125899906842624 → 0 ≤ t → t ≤ t' → t' ≤ 1125899906842624 → sask a0_1 a0_11 a0_12 a0_15 a0_16 f t' ≤ sask a0_1 a0_11 a0_12 a0_15 a0_16 f' t :=
    fun h1 h2 h3 h4 h5 h6 => ask_mono (by omega) (by omega) h1 h2 h3 h4 h5 h6
  obtain ⟨x', ex, x1, x2⟩ := inside_spec al ah x ga.2.2
  obtain ⟨y', ey, y1, y2⟩ := inside_spec bl bh y gb.2.2
  have q1 := mono (show 0 ≤ al by omega) x1 (by omega) (show 0 ≤ y' by omega) y2 (by omega)
  have q2 := mono (show 0 ≤ x' by omega) x2 (by omega) (show 0 ≤ bl by omega) y1 (by omega)
  simp only [bournelaw20_SeepEncloses.j0]
  rw [if_neg (by decide), ex, bs, ey, bs, bounds_spec _ (by omega), bs, ask_spec _ (by omega), bs, has_f, bs, decide_eq_true ⟨q1, q2⟩, if_pos rfl, ask_spec _ (by omega), bs, if_pos rfl, ask_spec _ (by omega), bs, bne_self_eq_false]
  have fin : bournelaw20_SeepEncloses.j2 (k + 3) x' o true (num o) a0_0 a0_1 a0_2 a0_3 l0_4 l0_5 l0_6 a0_7 a0_8 a0_9 a0_10 a0_11 a0_12 a0_13 a0_14 a0_15 a0_16 a0_17 al ah k0 k1 k2 k3 k4 = some true := by
    simp only [bournelaw20_SeepEncloses.j2]
    rw [has_f, bs]
    by_cases g : k3 ≤ num o ∧ num o ≤ k4
    case neg =>
      rw [decide_eq_false g, if_neg (by decide)]
      simp only [bournelaw20_SeepEncloses.j3]; rw [if_pos trivial]
    rw [decide_eq_true g, if_pos rfl]
    simp only [bournelaw20_SeepEncloses.j3]
    by_cases h3 : a0_1 = 3
    case neg => rw [show (a0_1 != 3) = true by simp [h3], if_pos rfl]
    rw [show (a0_1 != 3) = false by simp [h3], if_neg (by decide), siphon_spec, bs, if_pos h3]
    dsimp only
    have hc : Occ a0_13 a0_14 k3 k4 (fun x => al ≤ x ∧ x ≤ ah) (siph a0_13 a0_14 o x') := by
      refine ⟨x', num o, ⟨x1, x2⟩, ?_, g.1, g.2, ?_⟩
      · cases o
        · exact Or.inl rfl
        · exact Or.inr rfl
      · cases o <;> simp [num]
    have q := enc_j4 k a0_0 a0_1 a0_2 a0_3 l0_4 l0_5 l0_6 a0_7 a0_8 a0_9 a0_10 a0_11 a0_12 a0_13 a0_14 a0_15 a0_16 a0_17 al ah k0 k1 k2 k3 k4 hp hb h3 _ hc
    cases hs : siph a0_13 a0_14 o x' with
    | false => rw [if_neg (by decide)]; rw [hs] at q; exact q
    | true => rw [if_pos rfl]; rw [hs] at q; exact q
  simp only [bournelaw20_SeepEncloses.j1]
  rw [if_neg (by decide)]
  cases o with
  | false => rw [if_neg (by decide)]; exact fin
  | true => rw [if_pos rfl]; exact fin
theorem SeepEncloses : bournelaw20_SeepEncloses.Pure := by
  intro a0_0 a0_1 a0_2 a0_3 l0_4 l0_5 l0_6 a0_7 a0_8 a0_9 a0_10 a0_11 a0_12 a0_13 a0_14 a0_15 a0_16 a0_17 al ah bl bh x y k0 k1 k2 k3 k4 o
  intro _ _ _ _ _ _ _ _ _ _ _ _ _ _ _ _ hp hb
  intros
  exact ⟨100, encloses 100 (Nat.le_refl _) a0_0 a0_1 a0_2 a0_3 l0_4 l0_5 l0_6 a0_7 a0_8 a0_9 a0_10 a0_11 a0_12 a0_13 a0_14 a0_15 a0_16 a0_17 al ah bl bh x y k0 k1 k2 k3 k4 o (ok_of hp) (ok_of hb)⟩
end Go.Proofs.Ytacpiaiohcblfaa.Pure
