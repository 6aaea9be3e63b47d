/- For every input that can be read, the Go function SeepTells returns true, its arguments read afterwards as before, and nothing else in memory changes (the given statement SeepTellsSaid). No condition. -/
import Derived.Test.YtacpiaiohcblfaaRows
import Derived.Test.YtacpiaiohcblfaaFn10
import Derived.Test.YtacpiaiohcblfaaPureSeepTells
import Derived.Test.YtacpiaiohcblfaaRdT
import Derived.WalkKit
import Derived.ProofKit
import Derived.OpenShut
import Derived.ShutString
import Derived.ChangeOld
import Derived.Below
import Derived.SizedLaws
namespace Go.Proofs.Ytacpiaiohcblfaa.seepTells
open Go.ChangeShapes Go.WideShapes Go.ChangeAt Go.RowKit Go.Proofs.Ytacpiaiohcblfaa.Rd Go.Proofs.Ytacpiaiohcblfaa.Fn Go.Proofs.YtacpiaiohcblfaaW.PrintWords
open Go.ChangeMaps (open_string shut_string)
set_option linter.unusedVariables false
theorem own : ownKnob Try.prog.godebug = none := by kernel_rfl
theorem laidOut : laidOutB Try.prog = true := by kernel_rfl
set_option maxRecDepth 100000 in
theorem lifted (os : Os) (started : os.Started) (H : Type) (enc : TypeId × Value → H) :
    ReturnsInHanded {} Try.checked os 3 .any (Rows.seepTellsSpec.pre6 enc Try.prog Try.f3 Rows.seepTellsRow.domain false) (Rows.seepTellsSpec.post enc Try.prog Try.f3 false true false false) := by
  refine returnsInHanded_of_change_sized (C := Try.checked) own started (by kernel_rfl) Try.func3
    (ChangeSpec.witness6 (enc := enc) (C := Try.checked) false ⟨#[], #[.agg #[.string ByteArray.empty, .int .i64 0, .int .i64 0, .int .i64 0, .slice none 0 0, .slice none 0 0, .slice none 0 0, .int .i64 0, .int .i64 0, .int .i64 0, .int .i64 0, .int .i64 0, .int .i64 0, .int .i64 0, .int .i64 0, .int .i64 0, .int .i64 0, .int .i64 0], .agg #[.int .i64 0, .int .i64 0, .bool false, .bool false], .agg #[.int .i64 0, .int .i64 0, .int .i64 0, .int .i64 0, .int .i64 0], .agg #[.int .i64 0, .int .i64 0], .agg #[.int .i64 0, .int .i64 0]], []⟩ 12 (by kernel_rfl) (by kernel_rfl) (by kernel_rfl) (by kernel_rfl)) ?_
  intro W base args ds gs before hval0 hW hcnd hsz0 _
  have hval : ∀ (j : Nat) t v, Try.f3.params[j]? = some t → args[j]? = some v → Value.okWide Try.prog W .any base t v := hval0
  have hW' := hW
  obtain ⟨p, q, hA0, hV, rfl, hfz, hnd⟩ := hW
  have hA : DataW.TrodAll enc Try.prog W 0 (fun _ => true) true Try.f3.params.toList args.toList ds p := hA0
  rw [Try.params3] at hA hval
  obtain ⟨v0, vs0, d0, ds0, p0, q0, hargs, rfl, rfl, h0, r0⟩ := trodAll_cons hA
  obtain ⟨v1, vs1, d1, ds1, p1, q1, rfl, rfl, rfl, h1, r1⟩ := trodAll_cons r0
  obtain ⟨v2, vs2, d2, ds2, p2, q2, rfl, rfl, rfl, h2, r2⟩ := trodAll_cons r1
  obtain ⟨v3, vs3, d3, ds3, p3, q3, rfl, rfl, rfl, h3, r3⟩ := trodAll_cons r2
  obtain ⟨v4, vs4, d4, ds4, p4, q4, rfl, rfl, rfl, h4, r4⟩ := trodAll_cons r3
  obtain ⟨rfl, rfl, rfl⟩ := trodAll_nil r4
  obtain rfl : args = #[v0, v1, v2, v3, v4] := by cases args; simp_all
  obtain ⟨rfl, rfl⟩ := trodVars_none hV
  have k0 := h0
  have lt0 : ∀ x ∈ p0, x.block < W.heap.size := by obtain ⟨m, hm⟩ := k0; exact DataW.trod_lt m _ _ _ hm
  obtain ⟨x0, hK0, w0⟩ : ∃ y, k26.K W y v0.cells.toList ∧ w26 y := by
    obtain ⟨fuel, hf⟩ := h0
    exact opens26 enc W 0 _ true fuel _ _ hf
  obtain ⟨A0_4, c0_4, A0_5, c0_5, A0_6, c0_6, hcs0, hc0_4, hr0_4, hc0_5, hr0_5, hc0_6, hr0_6⟩ := k26_open hK0
  obtain rfl := agg_of hcs0 (by simp)
  have k1 := h1
  have lt1 : ∀ x ∈ p1, x.block < W.heap.size := by obtain ⟨m, hm⟩ := k1; exact DataW.trod_lt m _ _ _ hm
  obtain ⟨x1, hK1, w1⟩ : ∃ y, k28.K W y v1.cells.toList ∧ w28 y := by
    obtain ⟨fuel, hf⟩ := h1
    exact opens28 enc W 0 _ true fuel _ _ hf
  have hcs1 := k28_open hK1
  obtain rfl := agg_of hcs1 (by simp)
  have k2 := h2
  have lt2 : ∀ x ∈ p2, x.block < W.heap.size := by obtain ⟨m, hm⟩ := k2; exact DataW.trod_lt m _ _ _ hm
  obtain ⟨x2, hK2, w2⟩ : ∃ y, k32.K W y v2.cells.toList ∧ w32 y := by
    obtain ⟨fuel, hf⟩ := h2
    exact opens32 enc W 0 _ true fuel _ _ hf
  have hcs2 := k32_open hK2
  obtain rfl := agg_of hcs2 (by simp)
  have k3 := h3
  have lt3 : ∀ x ∈ p3, x.block < W.heap.size := by obtain ⟨m, hm⟩ := k3; exact DataW.trod_lt m _ _ _ hm
  obtain ⟨x3, hK3, w3⟩ : ∃ y, k30.K W y v3.cells.toList ∧ w30 y := by
    obtain ⟨fuel, hf⟩ := h3
    exact opens30 enc W 0 _ true fuel _ _ hf
  have hcs3 := k30_open hK3
  obtain rfl := agg_of hcs3 (by simp)
  have k4 := h4
  have lt4 : ∀ x ∈ p4, x.block < W.heap.size := by obtain ⟨m, hm⟩ := k4; exact DataW.trod_lt m _ _ _ hm
  obtain ⟨x4, hK4, w4⟩ : ∃ y, k30.K W y v4.cells.toList ∧ w30 y := by
    obtain ⟨fuel, hf⟩ := h4
    exact opens30 enc W 0 _ true fuel _ _ hf
  have hcs4 := k30_open hK4
  obtain rfl := agg_of hcs4 (by simp)
  clear hA0 hval0 hsz0
  refine (Fn.bournelaw20_SeepTells.walk Pure.SeepTells x0.f0 x0.f1 x0.f2 x0.f3 A0_4 c0_4 x0.f4 A0_5 c0_5 x0.f5.f0 A0_6 c0_6 x0.f5.f1 x0.f6 x0.f7 x0.f8 x0.f9 x0.f10 x0.f11 x0.f12 x0.f13 x0.f14 x0.f15 x0.f16 x1.f0 x1.f1 x1.f2 x1.f3 x2.f0.f0 x2.f0.f1 x2.f1 x2.f2.f0 x2.f2.f1 x3.f0 x3.f1 x4.f0 x4.f1 W hr0_4 hc0_4 hr0_5 hc0_5 hr0_6 hc0_6 w0.1 w0.2.1 w0.2.2.1 w0.2.2.2.1 w0.2.2.2.2.1.1 w0.2.2.2.2.1.2 w0.2.2.2.2.2.1.1.1 w0.2.2.2.2.2.1.1.2 w0.2.2.2.2.2.1.2.1 w0.2.2.2.2.2.1.2.2 w0.2.2.2.2.2.2.1 w0.2.2.2.2.2.2.2.1 w0.2.2.2.2.2.2.2.2.1 w0.2.2.2.2.2.2.2.2.2.1 w0.2.2.2.2.2.2.2.2.2.2.1 w0.2.2.2.2.2.2.2.2.2.2.2.1 w0.2.2.2.2.2.2.2.2.2.2.2.2.1 w0.2.2.2.2.2.2.2.2.2.2.2.2.2.1 w0.2.2.2.2.2.2.2.2.2.2.2.2.2.2.1 w0.2.2.2.2.2.2.2.2.2.2.2.2.2.2.2.1 w0.2.2.2.2.2.2.2.2.2.2.2.2.2.2.2.2 w1.1 w1.2.1 w2.1.1 w2.1.2 w2.2.1 w2.2.2.1 w2.2.2.2 w3.1 w3.2 w4.1 w4.2).mono fun e W' ⟨he, bel⟩ => ?_
  subst he
  exact ⟨_, rfl, _, _, _, [], _, [], hW', trodAll_mk1 (shut_bool Try.underlying4 _), (trodAll_cons_mk (Below.trod laidOut (by kernel_rfl) (of_decide_eq_true (by kernel_rfl)) k0 bel lt0) (trodAll_cons_mk (Below.trod laidOut (by kernel_rfl) (of_decide_eq_true (by kernel_rfl)) k1 bel lt1) (trodAll_cons_mk (Below.trod laidOut (by kernel_rfl) (of_decide_eq_true (by kernel_rfl)) k2 bel lt2) (trodAll_cons_mk (Below.trod laidOut (by kernel_rfl) (of_decide_eq_true (by kernel_rfl)) k3 bel lt3) (trodAll_cons_mk (Below.trod laidOut (by kernel_rfl) (of_decide_eq_true (by kernel_rfl)) k4 bel lt4) trodAll_mk0))))), rfl, bel.frame _, fun h => by cases h⟩
theorem over : Rows.seepTellsRow.holds Try.pinned (OpenSpec.ofChange Rows.seepTellsSpec) :=
  OpenClaim.holds_of_wide 3 Try.f3 rfl rfl rfl rfl rfl rfl rfl ⟨rfl, rfl, rfl, rfl, rfl⟩ rfl rfl rfl rfl rfl (by kernel_rfl) Try.func3 (by kernel_rfl)
    (of_decide_eq_true (by kernel_rfl)) (by unfold Func.isWrapper; first | (rw [if_pos (by decide +kernel)]; kernel_rfl) | (rw [if_neg (by decide +kernel)]; exact ⟨rfl, rfl⟩))
    (fun os started H enc _ => lifted os started H enc)
theorem proved : Rows.SeepTellsSaid := over
end Go.Proofs.Ytacpiaiohcblfaa.seepTells
namespace Go.Proofs.Ytacpiaiohcblfaa
/-- The row, under a short name, for the claim. -/
theorem seepTells_holds : Rows.SeepTellsSaid := seepTells.proved
end Go.Proofs.Ytacpiaiohcblfaa
