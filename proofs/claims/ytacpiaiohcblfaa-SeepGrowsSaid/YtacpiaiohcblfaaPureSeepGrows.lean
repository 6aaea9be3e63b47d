import Derived.Test.YtacpiaiohcblfaaSeep
import Derived.Test.YtacpiaiohcblfaaRdT
import Derived.Test.YtacpiaiohcblfaaFn14
set_option maxRecDepth 100000
set_option linter.unusedVariables false
namespace Go.Proofs.Ytacpiaiohcblfaa.Pure
open Go.RowKit Go.Proofs.Ytacpiaiohcblfaa.Fn Go.Proofs.Ytacpiaiohcblfaa.Rd Go.Proofs.Ytacpiaiohcblfaa.Div Go.Proofs.Ytacpiaiohcblfaa.Exact Go.Proofs.Ytacpiaiohcblfaa.Seep Go.Proofs.YtacpiaiohcblfaaW.PrintWords Go.Proofs.YtacpiaiohcblfaaW.PrintLast Go.Proofs.YtacpiaiohcblfaaW.PrintMore

theorem grows (k : Nat) (hk : 100 ≤ k) (a0_0 : ByteArray) (a0_1 a0_2 a0_3 : Int) (l0_4 l0_5 l0_6 : List (S90)) (a0_7 a0_8 a0_9 a0_10 a0_11 a0_12 a0_13 a0_14 a0_15 a0_16 a0_17 : Int) (al ah bl bh cl ch : Int) : bournelaw20_SeepGrows.f k a0_0 a0_1 a0_2 a0_3 l0_4 l0_5 l0_6 a0_7 a0_8 a0_9 a0_10 a0_11 a0_12 a0_13 a0_14 a0_15 a0_16 a0_17 al ah bl bh cl ch = some true := by
  obtain ⟨k, rfl⟩ : ∃ m, k = m + 2 := ⟨k - 2, by omega⟩
  unfold bournelaw20_SeepGrows.f bournelaw20_small.f
  rw [bs, within_spec, bs]
  have bad : bournelaw20_SeepGrows.j0 (k + 2) true true a0_0 a0_1 a0_2 a0_3 l0_4 l0_5 l0_6 a0_7 a0_8 a0_9 a0_10 a0_11 a0_12 a0_13 a0_14 a0_15 a0_16 a0_17 al ah bl bh cl ch = some true := by
    simp only [bournelaw20_SeepGrows.j0]; rw [if_pos trivial]
  by_cases ga : 0 ≤ al ∧ ah ≤ 1125899906842624 ∧ al ≤ ah
  case neg => rw [decide_eq_false ga, if_neg (by decide)]; exact bad
  rw [decide_eq_true ga, if_pos rfl, within_spec, bs]
  by_cases gb : 0 ≤ bl ∧ bh ≤ 1125899906842624 ∧ bl ≤ bh
  case neg => rw [decide_eq_false gb, if_neg (by decide)]; exact bad
  rw [decide_eq_true gb, if_pos rfl, within_spec, bs]
  by_cases gc : 0 ≤ cl ∧ ch ≤ 1125899906842624 ∧ cl ≤ ch
  case neg => rw [decide_eq_false gc, if_neg (by decide)]; exact bad
  rw [decide_eq_true gc, if_pos rfl]
  by_cases n1 : a0_11 < 0
  · rw [if_pos n1]; exact bad
  rw [if_neg n1]
  by_cases n2 : a0_15 < 0
  · rw [if_pos n2]; exact bad
  rw [if_neg n2]
  by_cases n3 : a0_11 > a0_12
  · rw [if_pos n3]; exact bad
  rw [if_neg n3]
  by_cases n4 : a0_15 > a0_16
  · rw [if_pos n4]; exact bad
  rw [if_neg n4]
  by_cases n5 : a0_12 > 1125899906842624
  · rw [if_pos n5]; exact bad
  rw [if_neg n5]
  by_cases n6 : a0_16 > 1125899906842624
  · rw [decide_eq_true n6]; exact bad
  rw [decide_eq_false n6]
  have mono : ∀ {f f' t t' : Int}, 0 ≤ f → f ≤ f' → f' ≤ 1125899906842624 → 0 ≤ t → t ≤ t' → t' ≤ 1125899906842624 → sask a0_1 a0_11 a0_12 a0_15 a0_16 f t' ≤ sask a0_1 a0_11 a0_12 a0_15 a0_16 f' t :=
    fun h1 h2 h3 h4 h5 h6 => ask_mono (by omega) (by omega) h1 h2 h3 h4 h5 h6
  have q1 := mono (show 0 ≤ al by omega) ga.2.2 ga.2.1 (show 0 ≤ bl by omega) (Int.le_refl bl) (show bl ≤ 1125899906842624 by omega)
  have q2 := mono (show 0 ≤ al by omega) (Int.le_refl al) (show al ≤ 1125899906842624 by omega) (show 0 ≤ bl by omega) gb.2.2 gb.2.1
  simp only [bournelaw20_SeepGrows.j0]
  rw [if_neg (by decide), ask_spec _ (by omega), bs, ask_spec _ (by omega), bs, if_neg (by omega), bs, ask_spec _ (by omega), bs, decide_eq_false (by omega)]
  simp only [bournelaw20_SeepGrows.j1]
  rw [if_neg (by decide)]
  unfold span_Meet.f span_Right.f
  rw [bs]
  have m1 : al ≤ mx al cl ∧ cl ≤ mx al cl ∧ (mx al cl = al ∨ mx al cl = cl) := by unfold mx; split <;> omega
  have m2 : mn ah ch ≤ ah ∧ mn ah ch ≤ ch ∧ (mn ah ch = ah ∨ mn ah ch = ch) := by unfold mn; split <;> omega
  generalize mx al cl = ml at *
  generalize mn ah ch = mh at *
  by_cases g : ml ≤ mh
  case neg => rw [decide_eq_false g, if_neg (by decide), bs, if_neg (by decide)]
  rw [decide_eq_true g, if_pos rfl, bs, if_pos rfl, if_pos trivial, bounds_spec _ (by omega), bs, bounds_spec _ (by omega), bs]
  dsimp only
  rw [in_spec' _ _ _ _ (mono (f := al) (f' := ml) (t := bh) (t' := bh) (by omega) m1.1 (by omega) (by omega) (Int.le_refl _) (by omega)) (mono (f := mh) (f' := ah) (t := bl) (t' := bl) (by omega) m2.1 (by omega) (by omega) (Int.le_refl _) (by omega)), bs, if_pos rfl]
  rw [bounds_spec _ (by omega), bs, bounds_spec _ (by omega), bs]
  dsimp only
  rw [in_spec' _ _ _ _ (mono (f := bl) (f' := bl) (t := mh) (t' := ch) (by omega) (Int.le_refl _) (by omega) (by omega) m2.2.1 (by omega)) (mono (f := bh) (f' := bh) (t := cl) (t' := ml) (by omega) (Int.le_refl _) (by omega) (by omega) m1.2.1 (by omega)), bs]
theorem SeepGrows : bournelaw20_SeepGrows.Pure := by
  intro a0_0 a0_1 a0_2 a0_3 l0_4 l0_5 l0_6 a0_7 a0_8 a0_9 a0_10 a0_11 a0_12 a0_13 a0_14 a0_15 a0_16 a0_17 al ah bl bh cl ch
  intros
  exact ⟨100, grows 100 (Nat.le_refl _) a0_0 a0_1 a0_2 a0_3 l0_4 l0_5 l0_6 a0_7 a0_8 a0_9 a0_10 a0_11 a0_12 a0_13 a0_14 a0_15 a0_16 a0_17 al ah bl bh cl ch⟩
end Go.Proofs.Ytacpiaiohcblfaa.Pure
