/- For every input that can be read, the Go function RainSums returns true, its arguments read afterwards as before, and nothing else in memory changes (the given statement RainSumsSaid). No condition. -/
import Derived.Test.YtpklgbnihgljmaaRows
import Derived.Test.YtpklgbnihgljmaaFn16
import Derived.Test.YtpklgbnihgljmaaPureRainSums
import Derived.Test.YtpklgbnihgljmaaRdT
import Derived.WalkKit
import Derived.ProofKit
import Derived.OpenShut
import Derived.ShutString
import Derived.ChangeOld
import Derived.Below
import Derived.SizedLaws
namespace Go.Proofs.Ytpklgbnihgljmaa.rainSums
open Go.ChangeShapes Go.WideShapes Go.ChangeAt Go.RowKit Go.Proofs.Ytpklgbnihgljmaa.Rd Go.Proofs.Ytpklgbnihgljmaa.Fn Go.Proofs.YtpklgbnihgljmaaW.PrintWords
open Go.ChangeMaps (open_string shut_string)
set_option linter.unusedVariables false
theorem own : ownKnob Try.prog.godebug = none := by kernel_rfl
theorem laidOut : laidOutB Try.prog = true := by kernel_rfl
set_option maxRecDepth 100000 in
theorem lifted (os : Os) (started : os.Started) (H : Type) (enc : TypeId × Value → H) :
    ReturnsInHanded {} Try.checked os 6 .any (Rows.rainSumsSpec.pre6 enc Try.prog Try.f6 Rows.rainSumsRow.domain false) (Rows.rainSumsSpec.post enc Try.prog Try.f6 false true false false) := by
  refine returnsInHanded_of_change_sized (C := Try.checked) own started (by kernel_rfl) Try.func6
    (ChangeSpec.witness6 (enc := enc) (C := Try.checked) false ⟨#[], #[.slice none 0 0, .int .i64 0, .slice none 0 0], []⟩ 12 (by kernel_rfl) (by kernel_rfl) (by kernel_rfl) (by kernel_rfl)) ?_
  intro W base args ds gs before hval0 hW hcnd hsz0 _
  have hval : ∀ (j : Nat) t v, Try.f6.params[j]? = some t → args[j]? = some v → Value.okWide Try.prog W .any base t v := hval0
  have hW' := hW
  obtain ⟨p, q, hA0, hV, rfl, hfz, hnd⟩ := hW
  have hA : DataW.TrodAll enc Try.prog W 0 (fun _ => true) true Try.f6.params.toList args.toList ds p := hA0
  rw [Try.params6] at hA hval
  obtain ⟨v0, vs0, d0, ds0, p0, q0, hargs, rfl, rfl, h0, r0⟩ := trodAll_cons hA
  obtain ⟨v1, vs1, d1, ds1, p1, q1, rfl, rfl, rfl, h1, r1⟩ := trodAll_cons r0
  obtain ⟨v2, vs2, d2, ds2, p2, q2, rfl, rfl, rfl, h2, r2⟩ := trodAll_cons r1
  obtain ⟨rfl, rfl, rfl⟩ := trodAll_nil r2
  obtain rfl : args = #[v0, v1, v2] := by cases args; simp_all
  obtain ⟨rfl, rfl⟩ := trodVars_none hV
  obtain ⟨b0, len0, cap0, rfl⟩ := okWide_slice Try.underlying33 (hval 0 33 v0 rfl rfl)
  have k0 := h0
  have lt0 : ∀ x ∈ p0, x.block < W.heap.size := by obtain ⟨m, hm⟩ := k0; exact DataW.trod_lt m _ _ _ hm
  obtain ⟨l0, ⟨A0, c0, hcs0, hc0, hr0⟩, w0⟩ : ∃ z_, (Kd.slice 40 k40).K W z_ (Value.slice b0 len0 cap0).cells.toList ∧ (z_.length ≤ maxLen ∧ ∀ y, y ∈ z_ → w40 y) := by
    obtain ⟨fuel, hf⟩ := h0
    exact (opens_slice (q := 40) Try.underlying33 (by kernel_rfl) opens40) enc W 0 _ true fuel _ _ hf
  obtain ⟨rfl, rfl, rfl⟩ := slice_inj hcs0
  obtain ⟨a1, rfl, rfl, rfl, w1⟩ := open_int Try.underlying3 (hval 1 3 v1 rfl rfl) h1
  obtain ⟨b2, len2, cap2, rfl⟩ := okWide_slice Try.underlying58 (hval 2 58 v2 rfl rfl)
  have k2 := h2
  have lt2 : ∀ x ∈ p2, x.block < W.heap.size := by obtain ⟨m, hm⟩ := k2; exact DataW.trod_lt m _ _ _ hm
  obtain ⟨l2, ⟨A2, c2, hcs2, hc2, hr2⟩, w2⟩ : ∃ z_, (Kd.slice 4 Kd.bool).K W z_ (Value.slice b2 len2 cap2).cells.toList ∧ (z_.length ≤ maxLen ∧ ∀ y, y ∈ z_ → True) := by
    obtain ⟨fuel, hf⟩ := h2
    exact (opens_slice (q := 4) Try.underlying58 (by kernel_rfl) (opens_bool Try.underlying4)) enc W 0 _ true fuel _ _ hf
  obtain ⟨rfl, rfl, rfl⟩ := slice_inj hcs2
  clear hA0 hval0 hsz0
  refine (Fn.bournelaw26_RainSums.walk Pure.RainSums b0 cap0 l0 a1 b2 cap2 l2 W hr0 hc0 hr2 hc2 w0.1 w0.2 w1 w2.1 w2.2).mono fun e W' ⟨he, bel⟩ => ?_
  subst he
  exact ⟨_, rfl, _, _, _, [], _, [], hW', trodAll_mk1 (shut_bool Try.underlying4 _), (trodAll_cons_mk (Below.trod laidOut (by kernel_rfl) (of_decide_eq_true (by kernel_rfl)) k0 bel lt0) (trodAll_cons_mk (shut_int Try.underlying3 w1) (trodAll_cons_mk (Below.trod laidOut (by kernel_rfl) (of_decide_eq_true (by kernel_rfl)) k2 bel lt2) trodAll_mk0))), rfl, bel.frame _, fun h => by cases h⟩
theorem over : Rows.rainSumsRow.holds Try.pinned (OpenSpec.ofChange Rows.rainSumsSpec) :=
  OpenClaim.holds_of_wide 6 Try.f6 rfl rfl rfl rfl rfl rfl rfl ⟨rfl, rfl, rfl, rfl, rfl⟩ rfl rfl rfl rfl rfl (by kernel_rfl) Try.func6 (by kernel_rfl)
    (of_decide_eq_true (by kernel_rfl)) (by unfold Func.isWrapper; first | (rw [if_pos (by decide +kernel)]; kernel_rfl) | (rw [if_neg (by decide +kernel)]; exact ⟨rfl, rfl⟩))
    (fun os started H enc _ => lifted os started H enc)
theorem proved : Rows.RainSumsSaid := over
end Go.Proofs.Ytpklgbnihgljmaa.rainSums
namespace Go.Proofs.Ytpklgbnihgljmaa
/-- The row, under a short name, for the claim. -/
theorem rainSums_holds : Rows.RainSumsSaid := rainSums.proved
end Go.Proofs.Ytpklgbnihgljmaa
