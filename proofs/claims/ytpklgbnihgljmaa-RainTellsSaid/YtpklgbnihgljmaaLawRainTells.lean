/- For every input that can be read, the Go function RainTells returns true, its arguments read afterwards as before, and nothing else in memory changes (the given statement RainTellsSaid). No condition. -/
import Derived.Test.YtpklgbnihgljmaaRows
import Derived.Test.YtpklgbnihgljmaaFn13
import Derived.Test.YtpklgbnihgljmaaPureRainTells
import Derived.Test.YtpklgbnihgljmaaRdT
import Derived.WalkKit
import Derived.ProofKit
import Derived.OpenShut
import Derived.ShutString
import Derived.ChangeOld
import Derived.Below
import Derived.SizedLaws
namespace Go.Proofs.Ytpklgbnihgljmaa.rainTells
open Go.ChangeShapes Go.WideShapes Go.ChangeAt Go.RowKit Go.Proofs.Ytpklgbnihgljmaa.Rd Go.Proofs.Ytpklgbnihgljmaa.Fn Go.Proofs.YtpklgbnihgljmaaW.PrintWords
open Go.ChangeMaps (open_string shut_string)
set_option linter.unusedVariables false
theorem own : ownKnob Try.prog.godebug = none := by kernel_rfl
theorem laidOut : laidOutB Try.prog = true := by kernel_rfl
set_option maxRecDepth 100000 in
theorem lifted (os : Os) (started : os.Started) (H : Type) (enc : TypeId × Value → H) :
    ReturnsInHanded {} Try.checked os 3 .any (Rows.rainTellsSpec.pre6 enc Try.prog Try.f3 Rows.rainTellsRow.domain false) (Rows.rainTellsSpec.post enc Try.prog Try.f3 false true false false) := by
  refine returnsInHanded_of_change_sized (C := Try.checked) own started (by kernel_rfl) Try.func3
    (ChangeSpec.witness6 (enc := enc) (C := Try.checked) false ⟨#[], #[.agg #[.string ByteArray.empty, .slice none 0 0, .int .i64 0, .slice none 0 0, .slice none 0 0, .slice none 0 0, .slice none 0 0, .slice none 0 0, .slice none 0 0, .slice none 0 0, .int .i64 0], .slice none 0 0, .int .i64 0, .slice none 0 0, .slice none 0 0], []⟩ 12 (by kernel_rfl) (by kernel_rfl) (by kernel_rfl) (by kernel_rfl)) ?_
  intro W base args ds gs before hval0 hW hcnd hsz0 _
  have hval : ∀ (j : Nat) t v, Try.f3.params[j]? = some t → args[j]? = some v → Value.okWide Try.prog W .any base t v := hval0
  have hW' := hW
  obtain ⟨p, q, hA0, hV, rfl, hfz, hnd⟩ := hW
  have hA : DataW.TrodAll enc Try.prog W 0 (fun _ => true) true Try.f3.params.toList args.toList ds p := hA0
  rw [Try.params3] at hA hval
  obtain ⟨v0, vs0, d0, ds0, p0, q0, hargs, rfl, rfl, h0, r0⟩ := trodAll_cons hA
  obtain ⟨v1, vs1, d1, ds1, p1, q1, rfl, rfl, rfl, h1, r1⟩ := trodAll_cons r0
  obtain ⟨v2, vs2, d2, ds2, p2, q2, rfl, rfl, rfl, h2, r2⟩ := trodAll_cons r1
  obtain ⟨v3, vs3, d3, ds3, p3, q3, rfl, rfl, rfl, h3, r3⟩ := trodAll_cons r2
  obtain ⟨v4, vs4, d4, ds4, p4, q4, rfl, rfl, rfl, h4, r4⟩ := trodAll_cons r3
  obtain ⟨rfl, rfl, rfl⟩ := trodAll_nil r4
  obtain rfl : args = #[v0, v1, v2, v3, v4] := by cases args; simp_all
  obtain ⟨rfl, rfl⟩ := trodVars_none hV
  have k0 := h0
  have lt0 : ∀ x ∈ p0, x.block < W.heap.size := by obtain ⟨m, hm⟩ := k0; exact DataW.trod_lt m _ _ _ hm
  obtain ⟨x0, hK0, w0⟩ : ∃ y, k31.K W y v0.cells.toList ∧ w31 y := by
    obtain ⟨fuel, hf⟩ := h0
    exact opens31 enc W 0 _ true fuel _ _ hf
  obtain ⟨A0_1, c0_1, A0_3, c0_3, A0_4, c0_4, A0_5, c0_5, A0_6, c0_6, A0_7, c0_7, A0_8, c0_8, A0_9, c0_9, hcs0, hc0_1, hr0_1, hc0_3, hr0_3, hc0_4, hr0_4, hc0_5, hr0_5, hc0_6, hr0_6, hc0_7, hr0_7, hc0_8, hr0_8, hc0_9, hr0_9⟩ := k31_open hK0
  obtain rfl := agg_of hcs0 (by simp)
  obtain ⟨b1, len1, cap1, rfl⟩ := okWide_slice Try.underlying29 (hval 1 29 v1 rfl rfl)
  have k1 := h1
  have lt1 : ∀ x ∈ p1, x.block < W.heap.size := by obtain ⟨m, hm⟩ := k1; exact DataW.trod_lt m _ _ _ hm
  obtain ⟨l1, ⟨A1, c1, hcs1, hc1, hr1⟩, w1⟩ : ∃ z_, (Kd.slice 3 (Kd.int .i64)).K W z_ (Value.slice b1 len1 cap1).cells.toList ∧ (z_.length ≤ maxLen ∧ ∀ y, y ∈ z_ → (Lit.int .i64 y).wf = true) := by
    obtain ⟨fuel, hf⟩ := h1
    exact (opens_slice (q := 3) Try.underlying29 (by kernel_rfl) (opens_int Try.underlying3)) enc W 0 _ true fuel _ _ hf
  obtain ⟨rfl, rfl, rfl⟩ := slice_inj hcs1
  obtain ⟨a2, rfl, rfl, rfl, w2⟩ := open_int Try.underlying3 (hval 2 3 v2 rfl rfl) h2
  obtain ⟨b3, len3, cap3, rfl⟩ := okWide_slice Try.underlying32 (hval 3 32 v3 rfl rfl)
  have k3 := h3
  have lt3 : ∀ x ∈ p3, x.block < W.heap.size := by obtain ⟨m, hm⟩ := k3; exact DataW.trod_lt m _ _ _ hm
  obtain ⟨l3, ⟨A3, c3, hcs3, hc3, hr3⟩, w3⟩ : ∃ z_, (Kd.slice 50 k50).K W z_ (Value.slice b3 len3 cap3).cells.toList ∧ (z_.length ≤ maxLen ∧ ∀ y, y ∈ z_ → w50 y) := by
    obtain ⟨fuel, hf⟩ := h3
    exact (opens_slice (q := 50) Try.underlying32 (by kernel_rfl) opens50) enc W 0 _ true fuel _ _ hf
  obtain ⟨rfl, rfl, rfl⟩ := slice_inj hcs3
  obtain ⟨b4, len4, cap4, rfl⟩ := okWide_slice Try.underlying33 (hval 4 33 v4 rfl rfl)
  have k4 := h4
  have lt4 : ∀ x ∈ p4, x.block < W.heap.size := by obtain ⟨m, hm⟩ := k4; exact DataW.trod_lt m _ _ _ hm
  obtain ⟨l4, ⟨A4, c4, hcs4, hc4, hr4⟩, w4⟩ : ∃ z_, (Kd.slice 40 k40).K W z_ (Value.slice b4 len4 cap4).cells.toList ∧ (z_.length ≤ maxLen ∧ ∀ y, y ∈ z_ → w40 y) := by
    obtain ⟨fuel, hf⟩ := h4
    exact (opens_slice (q := 40) Try.underlying33 (by kernel_rfl) opens40) enc W 0 _ true fuel _ _ hf
  obtain ⟨rfl, rfl, rfl⟩ := slice_inj hcs4
  clear hA0 hval0 hsz0
  refine (Fn.bournelaw26_RainTells.walk Pure.RainTells x0.f0 A0_1 c0_1 x0.f1 x0.f2 A0_3 c0_3 x0.f3 A0_4 c0_4 x0.f4 A0_5 c0_5 x0.f5 A0_6 c0_6 x0.f6 A0_7 c0_7 x0.f7 A0_8 c0_8 x0.f8 A0_9 c0_9 x0.f9 x0.f10 b1 cap1 l1 a2 b3 cap3 l3 b4 cap4 l4 W hr0_1 hc0_1 hr0_3 hc0_3 hr0_4 hc0_4 hr0_5 hc0_5 hr0_6 hc0_6 hr0_7 hc0_7 hr0_8 hc0_8 hr0_9 hc0_9 hr1 hc1 hr3 hc3 hr4 hc4 w0.1 w0.2.1.1 w0.2.1.2 w0.2.2.1 w0.2.2.2.1.1 w0.2.2.2.1.2 w0.2.2.2.2.1.1 w0.2.2.2.2.1.2 w0.2.2.2.2.2.1.1 w0.2.2.2.2.2.1.2 w0.2.2.2.2.2.2.1.1 w0.2.2.2.2.2.2.1.2 w0.2.2.2.2.2.2.2.1.1 w0.2.2.2.2.2.2.2.1.2 w0.2.2.2.2.2.2.2.2.1.1 w0.2.2.2.2.2.2.2.2.1.2 w0.2.2.2.2.2.2.2.2.2.1.1 w0.2.2.2.2.2.2.2.2.2.1.2 w0.2.2.2.2.2.2.2.2.2.2 w1.1 w1.2 w2 w3.1 w3.2 w4.1 w4.2).mono fun e W' ⟨he, bel⟩ => ?_
  subst he
  exact ⟨_, rfl, _, _, _, [], _, [], hW', trodAll_mk1 (shut_bool Try.underlying4 _), (trodAll_cons_mk (Below.trod laidOut (by kernel_rfl) (of_decide_eq_true (by kernel_rfl)) k0 bel lt0) (trodAll_cons_mk (Below.trod laidOut (by kernel_rfl) (of_decide_eq_true (by kernel_rfl)) k1 bel lt1) (trodAll_cons_mk (shut_int Try.underlying3 w2) (trodAll_cons_mk (Below.trod laidOut (by kernel_rfl) (of_decide_eq_true (by kernel_rfl)) k3 bel lt3) (trodAll_cons_mk (Below.trod laidOut (by kernel_rfl) (of_decide_eq_true (by kernel_rfl)) k4 bel lt4) trodAll_mk0))))), rfl, bel.frame _, fun h => by cases h⟩
theorem over : Rows.rainTellsRow.holds Try.pinned (OpenSpec.ofChange Rows.rainTellsSpec) :=
  OpenClaim.holds_of_wide 3 Try.f3 rfl rfl rfl rfl rfl rfl rfl ⟨rfl, rfl, rfl, rfl, rfl⟩ rfl rfl rfl rfl rfl (by kernel_rfl) Try.func3 (by kernel_rfl)
    (of_decide_eq_true (by kernel_rfl)) (by unfold Func.isWrapper; first | (rw [if_pos (by decide +kernel)]; kernel_rfl) | (rw [if_neg (by decide +kernel)]; exact ⟨rfl, rfl⟩))
    (fun os started H enc _ => lifted os started H enc)
theorem proved : Rows.RainTellsSaid := over
end Go.Proofs.Ytpklgbnihgljmaa.rainTells
namespace Go.Proofs.Ytpklgbnihgljmaa
/-- The row, under a short name, for the claim. -/
theorem rainTells_holds : Rows.RainTellsSaid := rainTells.proved
end Go.Proofs.Ytpklgbnihgljmaa
