/- For every input that can be read, the Go function SeepHolds returns true, its arguments read afterwards as before, and nothing else in memory changes (the given statement SeepHoldsSaid). No condition. -/
import Derived.Test.YtacpiaiohcblfaaRows
import Derived.Test.YtacpiaiohcblfaaFn12
import Derived.Test.YtacpiaiohcblfaaPureSeepHolds
import Derived.Test.YtacpiaiohcblfaaRdT
import Derived.WalkKit
import Derived.ProofKit
import Derived.OpenShut
import Derived.ShutString
import Derived.ChangeOld
import Derived.Below
import Derived.SizedLaws
namespace Go.Proofs.Ytacpiaiohcblfaa.seepHolds
open Go.ChangeShapes Go.WideShapes Go.ChangeAt Go.RowKit Go.Proofs.Ytacpiaiohcblfaa.Rd Go.Proofs.Ytacpiaiohcblfaa.Fn Go.Proofs.YtacpiaiohcblfaaW.PrintWords
open Go.ChangeMaps (open_string shut_string)
set_option linter.unusedVariables false
theorem own : ownKnob Try.prog.godebug = none := by kernel_rfl
theorem laidOut : laidOutB Try.prog = true := by kernel_rfl
set_option maxRecDepth 100000 in
theorem lifted (os : Os) (started : os.Started) (H : Type) (enc : TypeId × Value → H) :
    ReturnsInHanded {} Try.checked os 5 .any (Rows.seepHoldsSpec.pre6 enc Try.prog Try.f5 Rows.seepHoldsRow.domain false) (Rows.seepHoldsSpec.post enc Try.prog Try.f5 false true false false) := by
  refine returnsInHanded_of_change_sized (C := Try.checked) own started (by kernel_rfl) Try.func5
    (ChangeSpec.witness6 (enc := enc) (C := Try.checked) false ⟨#[], #[.agg #[.string ByteArray.empty, .int .i64 0, .int .i64 0, .int .i64 0, .slice none 0 0, .slice none 0 0, .slice none 0 0, .int .i64 0, .int .i64 0, .int .i64 0, .int .i64 0, .int .i64 0, .int .i64 0, .int .i64 0, .int .i64 0, .int .i64 0, .int .i64 0, .int .i64 0], .bool false, .slice none 0 0], []⟩ 12 (by kernel_rfl) (by kernel_rfl) (by kernel_rfl) (by kernel_rfl)) ?_
  intro W base args ds gs before hval0 hW hcnd hsz0 _
  have hval : ∀ (j : Nat) t v, Try.f5.params[j]? = some t → args[j]? = some v → Value.okWide Try.prog W .any base t v := hval0
  have hW' := hW
  obtain ⟨p, q, hA0, hV, rfl, hfz, hnd⟩ := hW
  have hA : DataW.TrodAll enc Try.prog W 0 (fun _ => true) true Try.f5.params.toList args.toList ds p := hA0
  rw [Try.params5] at hA hval
  obtain ⟨v0, vs0, d0, ds0, p0, q0, hargs, rfl, rfl, h0, r0⟩ := trodAll_cons hA
  obtain ⟨v1, vs1, d1, ds1, p1, q1, rfl, rfl, rfl, h1, r1⟩ := trodAll_cons r0
  obtain ⟨v2, vs2, d2, ds2, p2, q2, rfl, rfl, rfl, h2, r2⟩ := trodAll_cons r1
  obtain ⟨rfl, rfl, rfl⟩ := trodAll_nil r2
  obtain rfl : args = #[v0, v1, v2] := by cases args; simp_all
  obtain ⟨rfl, rfl⟩ := trodVars_none hV
  have k0 := h0
  have lt0 : ∀ x ∈ p0, x.block < W.heap.size := by obtain ⟨m, hm⟩ := k0; exact DataW.trod_lt m _ _ _ hm
  obtain ⟨x0, hK0, w0⟩ : ∃ y, k26.K W y v0.cells.toList ∧ w26 y := by
    obtain ⟨fuel, hf⟩ := h0
    exact opens26 enc W 0 _ true fuel _ _ hf
  obtain ⟨A0_4, c0_4, A0_5, c0_5, A0_6, c0_6, hcs0, hc0_4, hr0_4, hc0_5, hr0_5, hc0_6, hr0_6⟩ := k26_open hK0
  obtain rfl := agg_of hcs0 (by simp)
  obtain ⟨a1, rfl, rfl, rfl⟩ := open_bool Try.underlying4 (hval 1 4 v1 rfl rfl) h1
  obtain ⟨b2, len2, cap2, rfl⟩ := okWide_slice Try.underlying40 (hval 2 40 v2 rfl rfl)
  have k2 := h2
  have lt2 : ∀ x ∈ p2, x.block < W.heap.size := by obtain ⟨m, hm⟩ := k2; exact DataW.trod_lt m _ _ _ hm
  obtain ⟨l2, ⟨A2, c2, hcs2, hc2, hr2⟩, w2⟩ : ∃ z_, (Kd.slice 3 (Kd.int .i64)).K W z_ (Value.slice b2 len2 cap2).cells.toList ∧ (z_.length ≤ maxLen ∧ ∀ y, y ∈ z_ → (Lit.int .i64 y).wf = true) := by
    obtain ⟨fuel, hf⟩ := h2
    exact (opens_slice (q := 3) Try.underlying40 (by kernel_rfl) (opens_int Try.underlying3)) enc W 0 _ true fuel _ _ hf
  obtain ⟨rfl, rfl, rfl⟩ := slice_inj hcs2
  clear hA0 hval0 hsz0
  refine (Fn.bournelaw20_SeepHolds.walk Pure.SeepHolds x0.f0 x0.f1 x0.f2 x0.f3 A0_4 c0_4 x0.f4 A0_5 c0_5 x0.f5.f0 A0_6 c0_6 x0.f5.f1 x0.f6 x0.f7 x0.f8 x0.f9 x0.f10 x0.f11 x0.f12 x0.f13 x0.f14 x0.f15 x0.f16 a1 b2 cap2 l2 W hr0_4 hc0_4 hr0_5 hc0_5 hr0_6 hc0_6 hr2 hc2 w0.1 w0.2.1 w0.2.2.1 w0.2.2.2.1 w0.2.2.2.2.1.1 w0.2.2.2.2.1.2 w0.2.2.2.2.2.1.1.1 w0.2.2.2.2.2.1.1.2 w0.2.2.2.2.2.1.2.1 w0.2.2.2.2.2.1.2.2 w0.2.2.2.2.2.2.1 w0.2.2.2.2.2.2.2.1 w0.2.2.2.2.2.2.2.2.1 w0.2.2.2.2.2.2.2.2.2.1 w0.2.2.2.2.2.2.2.2.2.2.1 w0.2.2.2.2.2.2.2.2.2.2.2.1 w0.2.2.2.2.2.2.2.2.2.2.2.2.1 w0.2.2.2.2.2.2.2.2.2.2.2.2.2.1 w0.2.2.2.2.2.2.2.2.2.2.2.2.2.2.1 w0.2.2.2.2.2.2.2.2.2.2.2.2.2.2.2.1 w0.2.2.2.2.2.2.2.2.2.2.2.2.2.2.2.2 w2.1 w2.2).mono fun e W' ⟨he, bel⟩ => ?_
  subst he
  exact ⟨_, rfl, _, _, _, [], _, [], hW', trodAll_mk1 (shut_bool Try.underlying4 _), (trodAll_cons_mk (Below.trod laidOut (by kernel_rfl) (of_decide_eq_true (by kernel_rfl)) k0 bel lt0) (trodAll_cons_mk (shut_bool Try.underlying4 _) (trodAll_cons_mk (Below.trod laidOut (by kernel_rfl) (of_decide_eq_true (by kernel_rfl)) k2 bel lt2) trodAll_mk0))), rfl, bel.frame _, fun h => by cases h⟩
theorem over : Rows.seepHoldsRow.holds Try.pinned (OpenSpec.ofChange Rows.seepHoldsSpec) :=
  OpenClaim.holds_of_wide 5 Try.f5 rfl rfl rfl rfl rfl rfl rfl ⟨rfl, rfl, rfl, rfl, rfl⟩ rfl rfl rfl rfl rfl (by kernel_rfl) Try.func5 (by kernel_rfl)
    (of_decide_eq_true (by kernel_rfl)) (by unfold Func.isWrapper; first | (rw [if_pos (by decide +kernel)]; kernel_rfl) | (rw [if_neg (by decide +kernel)]; exact ⟨rfl, rfl⟩))
    (fun os started H enc _ => lifted os started H enc)
theorem proved : Rows.SeepHoldsSaid := over
end Go.Proofs.Ytacpiaiohcblfaa.seepHolds
namespace Go.Proofs.Ytacpiaiohcblfaa
/-- The row, under a short name, for the claim. -/
theorem seepHolds_holds : Rows.SeepHoldsSaid := seepHolds.proved
end Go.Proofs.Ytacpiaiohcblfaa
