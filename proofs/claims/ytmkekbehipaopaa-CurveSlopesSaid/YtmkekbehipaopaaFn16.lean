-- written by this session's program myprint.py out of the translation; Lean checks it
import Derived.Test.YtmkekbehipaopaaFn0
import Derived.Test.YtmkekbehipaopaaRdT
import Derived.Test.YtmkekbehipaopaaFn2
import Derived.Test.YtmkekbehipaopaaFn3
import Derived.Test.YtmkekbehipaopaaFn7
import Derived.Test.YtmkekbehipaopaaFn8
namespace Go.Proofs.Ytmkekbehipaopaa.Fn
open Go.Proofs.Ytmkekbehipaopaa.Rd (w37)
open Go.RowKit Go.Proofs.YtmkekbehipaopaaW.PrintWords Go.Proofs.YtmkekbehipaopaaW.PrintLast Go.Proofs.YtmkekbehipaopaaW.PrintMore
attribute [local go_sem] max2_int min2_int max_two min_two max_three min_three max_four min_four   -- for this text's walks alone
set_option linter.unusedVariables false
set_option linter.unusedSimpArgs false

/-! ### bournelaw10_CurveSlopes: function 5 -/
mutual
def bournelaw10_CurveSlopes.j0 : Nat → List (S37) → Int → Int → Int → Int → Bool → Bool → Option (Bool)
  | 0, _, _, _, _, _, _, _ => none
  | k + 1, x0, x1, x2, x3, x4, x11, x37 => if x37 = true then (some x11) else ((curve_Slope.f k x0 x1 x2).bind fun t284 => (if t284 = true then (if x1 < 1125899906842624 then ((curve_Slope.f k x0 (wrap64 (x1 + 1)) x2).bind fun t285 => (if t285 = true then (if x2 > 1 then ((curve_Slope.f k x0 x1 (wrap64 (x2 - 1))).bind fun t286 => (bournelaw10_CurveSlopes.j1 k x0 x1 x2 x3 x4 x11 t284 (!t286))) else (bournelaw10_CurveSlopes.j1 k x0 x1 x2 x3 x4 x11 t284 false)) else (bournelaw10_CurveSlopes.j1 k x0 x1 x2 x3 x4 x11 t284 true))) else (if x2 > 1 then ((curve_Slope.f k x0 x1 (wrap64 (x2 - 1))).bind fun t287 => (bournelaw10_CurveSlopes.j1 k x0 x1 x2 x3 x4 x11 t284 (!t287))) else (bournelaw10_CurveSlopes.j1 k x0 x1 x2 x3 x4 x11 t284 false))) else (bournelaw10_CurveSlopes.j1 k x0 x1 x2 x3 x4 x11 t284 false)))
def bournelaw10_CurveSlopes.j1 : Nat → List (S37) → Int → Int → Int → Int → Bool → Bool → Bool → Option (Bool)
  | 0, _, _, _, _, _, _, _, _ => none
  | k + 1, x0, x1, x2, x3, x4, x11, x12, x70 => if x70 = true then (some false) else (bournelaw10_CurveSlopes.l0 k x0 x1 x2 x3 x4 x11 x12 1)
def bournelaw10_CurveSlopes.l0 : Nat → List (S37) → Int → Int → Int → Int → Bool → Bool → Int → Option (Bool)
  | 0, _, _, _, _, _, _, _, _ => none
  | k + 1, x0, x1, x2, x3, x4, x11, x12, x13 => if x13 < (x0.length : Int) then ((curve_Right.f k x0).bind fun t288 => (bournelaw10_CurveSlopes.j3 k x0 x1 x2 x3 x4 x11 x12 x13 t288)) else (bournelaw10_CurveSlopes.j3 k x0 x1 x2 x3 x4 x11 x12 x13 false)
def bournelaw10_CurveSlopes.j3 : Nat → List (S37) → Int → Int → Int → Int → Bool → Bool → Int → Bool → Option (Bool)
  | 0, _, _, _, _, _, _, _, _, _ => none
  | k + 1, x0, x1, x2, x3, x4, x11, x12, x13, x78 => if x78 = true then (if 0 ≤ (wrap64 (x13 - 1)) then (if (wrap64 (x13 - 1)) ≤ (wrap64 (x13 + 1)) then (if (wrap64 (x13 + 1)) ≤ (x0.length : Int) then ((curve_Slope.f k ((x0.take ((wrap64 (x13 + 1)) : Int).toNat).drop ((wrap64 (x13 - 1)) : Int).toNat) x1 x2).bind fun t293 => (if x12 = true then (if t293 = true then (bournelaw10_CurveSlopes.l0 k x0 x1 x2 x3 x4 x11 x12 (wrap64 (x13 + 1))) else (some false)) else (bournelaw10_CurveSlopes.l0 k x0 x1 x2 x3 x4 x11 x12 (wrap64 (x13 + 1))))) else (none)) else (none)) else (none)) else (if x12 = true then ((exact_Scale.f k x4 x1 x2).bind fun bt294 => (if bt294.2.1 > 0 then (bournelaw10_CurveSlopes.j4 k x0 x3 x4 x11 (wrap64 (bt294.1 + 1)) bt294.2.2) else (bournelaw10_CurveSlopes.j4 k x0 x3 x4 x11 bt294.1 bt294.2.2))) else (some x11))
def bournelaw10_CurveSlopes.j4 : Nat → List (S37) → Int → Int → Bool → Int → Bool → Option (Bool)
  | 0, _, _, _, _, _, _ => none
  | k + 1, x0, x3, x4, x11, x15, x17 => if x11 = true then (if x17 = true then ((curve_At.f k x0 (wrap64 (x3 + x4))).bind fun t297 => ((curve_At.f k x0 x3).bind fun t298 => (some (decide ((wrap64 (t297 - t298)) ≤ x15))))) else (some true)) else (some false)
end
def bournelaw10_CurveSlopes.f (k : Nat) (l0 : List (S37)) (a1 : Int) (a2 : Int) (a3 : Int) (a4 : Int) : Option (Bool) := (bournelaw10_small.f k).bind fun t283 => (if (l0.length : Int) > 40 then (bournelaw10_CurveSlopes.j0 k l0 a1 a2 a3 a4 t283 true) else (if a3 < 0 then (bournelaw10_CurveSlopes.j0 k l0 a1 a2 a3 a4 t283 true) else (if a3 > 1125899906842624 then (bournelaw10_CurveSlopes.j0 k l0 a1 a2 a3 a4 t283 true) else (if a4 < 0 then (bournelaw10_CurveSlopes.j0 k l0 a1 a2 a3 a4 t283 true) else (bournelaw10_CurveSlopes.j0 k l0 a1 a2 a3 a4 t283 (decide (a4 > 1125899906842624)))))))
theorem bournelaw10_CurveSlopes.mono_l : ∀ k, (∀ y0 y1 y2 y3 y4 y5 y6, LeO (bournelaw10_CurveSlopes.j0 k y0 y1 y2 y3 y4 y5 y6) (bournelaw10_CurveSlopes.j0 (k + 1) y0 y1 y2 y3 y4 y5 y6)) ∧ (∀ y0 y1 y2 y3 y4 y5 y6 y7, LeO (bournelaw10_CurveSlopes.j1 k y0 y1 y2 y3 y4 y5 y6 y7) (bournelaw10_CurveSlopes.j1 (k + 1) y0 y1 y2 y3 y4 y5 y6 y7)) ∧ (∀ y0 y1 y2 y3 y4 y5 y6 y7, LeO (bournelaw10_CurveSlopes.l0 k y0 y1 y2 y3 y4 y5 y6 y7) (bournelaw10_CurveSlopes.l0 (k + 1) y0 y1 y2 y3 y4 y5 y6 y7)) ∧ (∀ y0 y1 y2 y3 y4 y5 y6 y7 y8, LeO (bournelaw10_CurveSlopes.j3 k y0 y1 y2 y3 y4 y5 y6 y7 y8) (bournelaw10_CurveSlopes.j3 (k + 1) y0 y1 y2 y3 y4 y5 y6 y7 y8)) ∧ (∀ y0 y1 y2 y3 y4 y5, LeO (bournelaw10_CurveSlopes.j4 k y0 y1 y2 y3 y4 y5) (bournelaw10_CurveSlopes.j4 (k + 1) y0 y1 y2 y3 y4 y5))
  | 0 => ⟨fun _ _ _ _ _ _ _ r h => by simp [bournelaw10_CurveSlopes.j0] at h, fun _ _ _ _ _ _ _ _ r h => by simp [bournelaw10_CurveSlopes.j1] at h, fun _ _ _ _ _ _ _ _ r h => by simp [bournelaw10_CurveSlopes.l0] at h, fun _ _ _ _ _ _ _ _ _ r h => by simp [bournelaw10_CurveSlopes.j3] at h, fun _ _ _ _ _ _ r h => by simp [bournelaw10_CurveSlopes.j4] at h⟩
  | k + 1 => by
    obtain ⟨ih0, ih1, ih2, ih3, ih4⟩ := bournelaw10_CurveSlopes.mono_l k
    refine ⟨?_, ?_, ?_, ?_, ?_⟩
    · intro y0 y1 y2 y3 y4 y5 y6
      unfold bournelaw10_CurveSlopes.j0
      repeat' first
      | (with_reducible exact ih0 _ _ _ _ _ _ _)
      | (with_reducible exact ih1 _ _ _ _ _ _ _ _)
      | (with_reducible exact ih2 _ _ _ _ _ _ _ _)
      | (with_reducible exact ih3 _ _ _ _ _ _ _ _ _)
      | (with_reducible exact ih4 _ _ _ _ _ _)
      | (with_reducible exact bournelaw10_small.mono _)
      | (with_reducible exact curve_At.mono _ _ _)
      | (with_reducible exact curve_Right.mono _ _)
      | (with_reducible exact curve_Slope.mono _ _ _ _)
      | (with_reducible exact exact_Scale.mono _ _ _ _)
      | (with_reducible exact LeO.refl _)
      | (with_reducible exact LeO.none _)
      | (with_reducible refine LeO.ite ?_ ?_)
      | (with_reducible refine LeO.bind ?_ (fun _ => ?_))
      | exact ih0 _ _ _ _ _ _ _
      | exact ih1 _ _ _ _ _ _ _ _
      | exact ih2 _ _ _ _ _ _ _ _
      | exact ih3 _ _ _ _ _ _ _ _ _
      | exact ih4 _ _ _ _ _ _
      | exact bournelaw10_small.mono _
      | exact curve_At.mono _ _ _
      | exact curve_Right.mono _ _
      | exact curve_Slope.mono _ _ _ _
      | exact exact_Scale.mono _ _ _ _
      | exact LeO.none _
      | refine LeO.ite ?_ ?_
      | refine LeO.bind ?_ (fun _ => ?_)
    · intro y0 y1 y2 y3 y4 y5 y6 y7
      unfold bournelaw10_CurveSlopes.j1
      repeat' first
      | (with_reducible exact ih0 _ _ _ _ _ _ _)
      | (with_reducible exact ih1 _ _ _ _ _ _ _ _)
      | (with_reducible exact ih2 _ _ _ _ _ _ _ _)
      | (with_reducible exact ih3 _ _ _ _ _ _ _ _ _)
      | (with_reducible exact ih4 _ _ _ _ _ _)
      | (with_reducible exact bournelaw10_small.mono _)
      | (with_reducible exact curve_At.mono _ _ _)
      | (with_reducible exact curve_Right.mono _ _)
      | (with_reducible exact curve_Slope.mono _ _ _ _)
      | (with_reducible exact exact_Scale.mono _ _ _ _)
      | (with_reducible exact LeO.refl _)
      | (with_reducible exact LeO.none _)
      | (with_reducible refine LeO.ite ?_ ?_)
      | (with_reducible refine LeO.bind ?_ (fun _ => ?_))
      | exact ih0 _ _ _ _ _ _ _
      | exact ih1 _ _ _ _ _ _ _ _
      | exact ih2 _ _ _ _ _ _ _ _
      | exact ih3 _ _ _ _ _ _ _ _ _
      | exact ih4 _ _ _ _ _ _
      | exact bournelaw10_small.mono _
      | exact curve_At.mono _ _ _
      | exact curve_Right.mono _ _
      | exact curve_Slope.mono _ _ _ _
      | exact exact_Scale.mono _ _ _ _
      | exact LeO.none _
      | refine LeO.ite ?_ ?_
      | refine LeO.bind ?_ (fun _ => ?_)
    · intro y0 y1 y2 y3 y4 y5 y6 y7
      unfold bournelaw10_CurveSlopes.l0
      repeat' first
      | (with_reducible exact ih0 _ _ _ _ _ _ _)
      | (with_reducible exact ih1 _ _ _ _ _ _ _ _)
      | (with_reducible exact ih2 _ _ _ _ _ _ _ _)
      | (with_reducible exact ih3 _ _ _ _ _ _ _ _ _)
      | (with_reducible exact ih4 _ _ _ _ _ _)
      | (with_reducible exact bournelaw10_small.mono _)
      | (with_reducible exact curve_At.mono _ _ _)
      | (with_reducible exact curve_Right.mono _ _)
      | (with_reducible exact curve_Slope.mono _ _ _ _)
      | (with_reducible exact exact_Scale.mono _ _ _ _)
      | (with_reducible exact LeO.refl _)
      | (with_reducible exact LeO.none _)
      | (with_reducible refine LeO.ite ?_ ?_)
      | (with_reducible refine LeO.bind ?_ (fun _ => ?_))
      | exact ih0 _ _ _ _ _ _ _
      | exact ih1 _ _ _ _ _ _ _ _
      | exact ih2 _ _ _ _ _ _ _ _
      | exact ih3 _ _ _ _ _ _ _ _ _
      | exact ih4 _ _ _ _ _ _
      | exact bournelaw10_small.mono _
      | exact curve_At.mono _ _ _
      | exact curve_Right.mono _ _
      | exact curve_Slope.mono _ _ _ _
      | exact exact_Scale.mono _ _ _ _
      | exact LeO.none _
      | refine LeO.ite ?_ ?_
      | refine LeO.bind ?_ (fun _ => ?_)
    · intro y0 y1 y2 y3 y4 y5 y6 y7 y8
      unfold bournelaw10_CurveSlopes.j3
      repeat' first
      | (with_reducible exact ih0 _ _ _ _ _ _ _)
      | (with_reducible exact ih1 _ _ _ _ _ _ _ _)
      | (with_reducible exact ih2 _ _ _ _ _ _ _ _)
      | (with_reducible exact ih3 _ _ _ _ _ _ _ _ _)
      | (with_reducible exact ih4 _ _ _ _ _ _)
      | (with_reducible exact bournelaw10_small.mono _)
      | (with_reducible exact curve_At.mono _ _ _)
      | (with_reducible exact curve_Right.mono _ _)
      | (with_reducible exact curve_Slope.mono _ _ _ _)
      | (with_reducible exact exact_Scale.mono _ _ _ _)
      | (with_reducible exact LeO.refl _)
      | (with_reducible exact LeO.none _)
      | (with_reducible refine LeO.ite ?_ ?_)
      | (with_reducible refine LeO.bind ?_ (fun _ => ?_))
      | exact ih0 _ _ _ _ _ _ _
      | exact ih1 _ _ _ _ _ _ _ _
      | exact ih2 _ _ _ _ _ _ _ _
      | exact ih3 _ _ _ _ _ _ _ _ _
      | exact ih4 _ _ _ _ _ _
      | exact bournelaw10_small.mono _
      | exact curve_At.mono _ _ _
      | exact curve_Right.mono _ _
      | exact curve_Slope.mono _ _ _ _
      | exact exact_Scale.mono _ _ _ _
      | exact LeO.none _
      | refine LeO.ite ?_ ?_
      | refine LeO.bind ?_ (fun _ => ?_)
    · intro y0 y1 y2 y3 y4 y5
      unfold bournelaw10_CurveSlopes.j4
      repeat' first
      | (with_reducible exact ih0 _ _ _ _ _ _ _)
      | (with_reducible exact ih1 _ _ _ _ _ _ _ _)
      | (with_reducible exact ih2 _ _ _ _ _ _ _ _)
      | (with_reducible exact ih3 _ _ _ _ _ _ _ _ _)
      | (with_reducible exact ih4 _ _ _ _ _ _)
      | (with_reducible exact bournelaw10_small.mono _)
      | (with_reducible exact curve_At.mono _ _ _)
      | (with_reducible exact curve_Right.mono _ _)
      | (with_reducible exact curve_Slope.mono _ _ _ _)
      | (with_reducible exact exact_Scale.mono _ _ _ _)
      | (with_reducible exact LeO.refl _)
      | (with_reducible exact LeO.none _)
      | (with_reducible refine LeO.ite ?_ ?_)
      | (with_reducible refine LeO.bind ?_ (fun _ => ?_))
      | exact ih0 _ _ _ _ _ _ _
      | exact ih1 _ _ _ _ _ _ _ _
      | exact ih2 _ _ _ _ _ _ _ _
      | exact ih3 _ _ _ _ _ _ _ _ _
      | exact ih4 _ _ _ _ _ _
      | exact bournelaw10_small.mono _
      | exact curve_At.mono _ _ _
      | exact curve_Right.mono _ _
      | exact curve_Slope.mono _ _ _ _
      | exact exact_Scale.mono _ _ _ _
      | exact LeO.none _
      | refine LeO.ite ?_ ?_
      | refine LeO.bind ?_ (fun _ => ?_)
theorem bournelaw10_CurveSlopes.mono : ∀ a0 a1 a2 a3 a4 k, LeO (bournelaw10_CurveSlopes.f k a0 a1 a2 a3 a4) (bournelaw10_CurveSlopes.f (k + 1) a0 a1 a2 a3 a4) := by
  intro a0 a1 a2 a3 a4 k
  obtain ⟨ih0, ih1, ih2, ih3, ih4⟩ := bournelaw10_CurveSlopes.mono_l k
  unfold bournelaw10_CurveSlopes.f
  repeat' first
      | (with_reducible exact ih0 _ _ _ _ _ _ _)
      | (with_reducible exact ih1 _ _ _ _ _ _ _ _)
      | (with_reducible exact ih2 _ _ _ _ _ _ _ _)
      | (with_reducible exact ih3 _ _ _ _ _ _ _ _ _)
      | (with_reducible exact ih4 _ _ _ _ _ _)
      | (with_reducible exact bournelaw10_small.mono _)
      | (with_reducible exact curve_At.mono _ _ _)
      | (with_reducible exact curve_Right.mono _ _)
      | (with_reducible exact curve_Slope.mono _ _ _ _)
      | (with_reducible exact exact_Scale.mono _ _ _ _)
      | (with_reducible exact LeO.refl _)
      | (with_reducible exact LeO.none _)
      | (with_reducible refine LeO.ite ?_ ?_)
      | (with_reducible refine LeO.bind ?_ (fun _ => ?_))
      | exact ih0 _ _ _ _ _ _ _
      | exact ih1 _ _ _ _ _ _ _ _
      | exact ih2 _ _ _ _ _ _ _ _
      | exact ih3 _ _ _ _ _ _ _ _ _
      | exact ih4 _ _ _ _ _ _
      | exact bournelaw10_small.mono _
      | exact curve_At.mono _ _ _
      | exact curve_Right.mono _ _
      | exact curve_Slope.mono _ _ _ _
      | exact exact_Scale.mono _ _ _ _
      | exact LeO.none _
      | refine LeO.ite ?_ ?_
      | refine LeO.bind ?_ (fun _ => ?_)
set_option maxHeartbeats 8000000 in
set_option maxRecDepth 100000 in
theorem bournelaw10_CurveSlopes.calls (k : Nat) (A0 : Option Addr) (c0 : Nat) (l0 : List (S37)) (a1 : Int) (a2 : Int) (a3 : Int) (a4 : Int) (r : Bool) (w : World) (hr0 : Kd.C k37 w A0 l0.length l0) (hc0 : l0.length ≤ c0) (hT : Aside0 (r = true)) (h : bournelaw10_CurveSlopes.f k l0 a1 a2 a3 a4 = some r) :
    Calls Try.prog 5 #[.slice A0 l0.length c0, .int .i64 a1, .int .i64 a2, .int .i64 a3, .int .i64 a4] w fun e w' => e = .returned (.bool r) ∧ Below w.heap.size w w' := by
  have HR0 := Aside0.mk hr0
  have HC0 := Aside0.mk hc0
  clear hr0 hc0
  have HB := Aside0.mk (Below.refl w.heap.size w)
  have H : ((bournelaw10_small.f k).bind fun t283 => (if (l0.length : Int) > 40 then (bournelaw10_CurveSlopes.j0 k l0 a1 a2 a3 a4 t283 true) else (if a3 < 0 then (bournelaw10_CurveSlopes.j0 k l0 a1 a2 a3 a4 t283 true) else (if a3 > 1125899906842624 then (bournelaw10_CurveSlopes.j0 k l0 a1 a2 a3 a4 t283 true) else (if a4 < 0 then (bournelaw10_CurveSlopes.j0 k l0 a1 a2 a3 a4 t283 true) else (bournelaw10_CurveSlopes.j0 k l0 a1 a2 a3 a4 t283 (decide (a4 > 1125899906842624)))))))) = some r := h
  clear h
  replace H := Option.bind_eq_some_iff.mp H
  obtain ⟨t283, A60, H⟩ := H
  have A6 := Aside0.mk A60
  clear A60
  have HC7 := Aside0.mk H
  clear H
  go_enter Try.func5, Try.ntmps5
  (try simp only [List.append_eq, List.cons_append, List.nil_append])
  go_upto_region 2 with (first | ((with_reducible refine gate_callee (f := 8) rfl ?_); refine goesL_ (some 18) rfl rfl Try.func8 (by kernel_rfl) rfl #[] rfl (by (try simp only [List.map_toArray, List.map_cons, List.map_nil]); first | done | rfl | (simp only [List.length_drop, List.length_take]; rfl)) ?_; (with_reducible refine (bournelaw10_small.calls k  t283 _ A6.out).mono ?_); rintro e w8 ⟨rfl, hb⟩; refine ⟨_, rfl, ?_⟩; have n0_ := Aside0.mk (below_step (by repeat (first | (with_reducible first | exact HB.out | apply below_alloc | apply pw_below_drewN | apply below_drew1) | exact HB.out)) hb); clear HB; have HB := n0_; clear n0_; (try clear hb); (try clear hb2); (try clear hk); (try clear hi)))
  (try simp only [Act.put, List.setIfInBounds_toArray, List.set_cons_zero, List.set_cons_succ])
  go_cut [37] (fun v37 wc => ∃ (kq : Nat) (x37_6 : Bool), v37 = .bool x37_6 ∧ Aside0 (bournelaw10_CurveSlopes.j0 kq l0 a1 a2 a3 a4 t283 x37_6 = some r) ∧ Aside0 (kq ≤ k) ∧ Aside0 (Below w.heap.size w wc))
  case first =>
    have H := HC7.out
    clear HC7
    by_cases c9 : (l0.length : Int) > 40
    · rw [if_pos c9] at H
      have c9b0 : decide (40 < (l0.length : Int)) = true := decide_eq_true c9
      have c9b1 : decide (40 < l0.length) = true := decide_eq_true (by omega)
      clear c9
      (first | rw [c9b0] | (simp only [i64_w, i32_w]; rw [c9b0]) | skip)
      have H' := Aside0.mk H
      clear H
      go_wp2
      go_meet
      case rel => exact ⟨_, (true), (by first | rfl | (simp; done) | (simp [*]; done)), H', ⟨by first | omega | exact Nat.le_refl _⟩, ⟨by repeat (first | (with_reducible first | exact HB.out | apply below_alloc | apply pw_below_drewN | apply below_drew1) | exact HB.out)⟩⟩
    · rw [if_neg c9] at H
      have c9b0 : decide (40 < (l0.length : Int)) = false := decide_eq_false c9
      have c9b1 : decide (40 < l0.length) = false := decide_eq_false (by omega)
      clear c9
      (first | rw [c9b0] | (simp only [i64_w, i32_w]; rw [c9b0]) | skip)
      by_cases c10 : a3 < 0
      · rw [if_pos c10] at H
        have c10b0 : decide (a3 < 0) = true := decide_eq_true c10
        clear c10
        have H' := Aside0.mk H
        clear H
        go_wp2
        go_meet
        case rel => exact ⟨_, (true), (by first | rfl | (simp; done) | (simp [*]; done)), H', ⟨by first | omega | exact Nat.le_refl _⟩, ⟨by repeat (first | (with_reducible first | exact HB.out | apply below_alloc | apply pw_below_drewN | apply below_drew1) | exact HB.out)⟩⟩
      · rw [if_neg c10] at H
        have c10b0 : decide (a3 < 0) = false := decide_eq_false c10
        clear c10
        by_cases c11 : a3 > 1125899906842624
        · rw [if_pos c11] at H
          have c11b0 : decide (1125899906842624 < a3) = true := decide_eq_true c11
          clear c11
          have H' := Aside0.mk H
          clear H
          go_wp2
          go_meet
          case rel => exact ⟨_, (true), (by first | rfl | (simp; done) | (simp [*]; done)), H', ⟨by first | omega | exact Nat.le_refl _⟩, ⟨by repeat (first | (with_reducible first | exact HB.out | apply below_alloc | apply pw_below_drewN | apply below_drew1) | exact HB.out)⟩⟩
        · rw [if_neg c11] at H
          have c11b0 : decide (1125899906842624 < a3) = false := decide_eq_false c11
          clear c11
          by_cases c12 : a4 < 0
          · rw [if_pos c12] at H
            have c12b0 : decide (a4 < 0) = true := decide_eq_true c12
            clear c12
            have H' := Aside0.mk H
            clear H
            go_wp2
            go_meet
            case rel => exact ⟨_, (true), (by first | rfl | (simp; done) | (simp [*]; done)), H', ⟨by first | omega | exact Nat.le_refl _⟩, ⟨by repeat (first | (with_reducible first | exact HB.out | apply below_alloc | apply pw_below_drewN | apply below_drew1) | exact HB.out)⟩⟩
          · rw [if_neg c12] at H
            have c12b0 : decide (a4 < 0) = false := decide_eq_false c12
            clear c12
            have H' := Aside0.mk H
            clear H
            go_wp2
            go_meet
            case rel => exact ⟨_, (decide (a4 > 1125899906842624)), (by first | rfl | (simp; done) | (simp [*]; done)), H', ⟨by first | omega | exact Nat.le_refl _⟩, ⟨by repeat (first | (with_reducible first | exact HB.out | apply below_alloc | apply pw_below_drewN | apply below_drew1) | exact HB.out)⟩⟩
  case rest =>
    clear HC7
    try clear c1
    try clear p2
    try clear c5
    try clear c8
    try clear c9
    try clear c9b0
    try clear c9b1
    try clear c10
    try clear c10b0
    try clear c11
    try clear c11b0
    try clear c12
    try clear c12b0
    obtain ⟨kq, x37_6, rfl, HA, HJ6, HB⟩ := hcut
    cases kq with
    | zero => exact absurd HA.out (by simp [bournelaw10_CurveSlopes.j0])
    | succ kj6 =>
      have H := HA.out
      clear HA
      simp only [bournelaw10_CurveSlopes.j0] at H
      by_cases c13 : x37_6 = true
      · subst c13
        have H1 : (some t283) = some r := by rw [if_pos rfl] at H; exact H
        clear H
        have H := H1
        clear H1
        obtain rfl := Option.some.inj H
        go_wp2
        go_ret
        exact ⟨by first | rfl | (simp [errW_none, errW_some] <;> rfl) | (simp [*, errW_none, errW_some] <;> rfl), by repeat (first | (with_reducible first | exact HB.out | apply below_alloc | apply pw_below_drewN | apply below_drew1) | exact HB.out)⟩
      · replace c13 := Bool.eq_false_iff.mpr c13
        subst c13
        have H1 : ((curve_Slope.f kj6 l0 a1 a2).bind fun t284 => (if t284 = true then (if a1 < 1125899906842624 then ((curve_Slope.f kj6 l0 (wrap64 (a1 + 1)) a2).bind fun t285 => (if t285 = true then (if a2 > 1 then ((curve_Slope.f kj6 l0 a1 (wrap64 (a2 - 1))).bind fun t286 => (bournelaw10_CurveSlopes.j1 kj6 l0 a1 a2 a3 a4 t283 t284 (!t286))) else (bournelaw10_CurveSlopes.j1 kj6 l0 a1 a2 a3 a4 t283 t284 false)) else (bournelaw10_CurveSlopes.j1 kj6 l0 a1 a2 a3 a4 t283 t284 true))) else (if a2 > 1 then ((curve_Slope.f kj6 l0 a1 (wrap64 (a2 - 1))).bind fun t287 => (bournelaw10_CurveSlopes.j1 kj6 l0 a1 a2 a3 a4 t283 t284 (!t287))) else (bournelaw10_CurveSlopes.j1 kj6 l0 a1 a2 a3 a4 t283 t284 false))) else (bournelaw10_CurveSlopes.j1 kj6 l0 a1 a2 a3 a4 t283 t284 false))) = some r := by rw [if_neg (show ¬ (false = true) by decide)] at H; exact H
        clear H
        have H := H1
        clear H1
        replace H := Option.bind_eq_some_iff.mp H
        obtain ⟨t284, A140, H⟩ := H
        have A14 := Aside0.mk A140
        clear A140
        have HC15 := Aside0.mk H
        clear H
        go_upto_region 5 with (first | ((with_reducible refine gate_callee (f := 15) rfl ?_); refine goesL_ (some 42) rfl rfl Try.func15 (by kernel_rfl) rfl #[.slice A0 l0.length c0, .int .i64 a1, .int .i64 a2] rfl (by (try simp only [List.map_toArray, List.map_cons, List.map_nil]); first | done | rfl | (simp only [List.length_drop, List.length_take]; rfl)) ?_; (with_reducible refine (curve_Slope.calls kj6 _ _ l0 a1 a2 t284 _ ?side1 ?side2 A14.out).mono ?_); (case side1 => repeat (first | exact (Kd.C_below HR0.out HB.out) | (with_reducible refine Kd.C_alloc ?_ _) | (with_reducible refine Kd.C_drewN ?_ _) | (with_reducible refine Kd.C_drew ?_))); (case side2 => exact HC0.out); rintro e w16 ⟨rfl, hb⟩; refine ⟨_, rfl, ?_⟩; have n0_ := Aside0.mk (below_step (by repeat (first | (with_reducible first | exact HB.out | apply below_alloc | apply pw_below_drewN | apply below_drew1) | exact HB.out)) hb); clear HB; have HB := n0_; clear n0_; (try clear hb); (try clear hb2); (try clear hk); (try clear hi)))
        (try simp only [Act.put, List.setIfInBounds_toArray, List.set_cons_zero, List.set_cons_succ])
        go_cut [70] (fun v70 wc => ∃ (kq : Nat) (x70_14 : Bool), v70 = .bool x70_14 ∧ Aside0 (bournelaw10_CurveSlopes.j1 kq l0 a1 a2 a3 a4 t283 t284 x70_14 = some r) ∧ Aside0 (kq ≤ kj6) ∧ Aside0 (Below w.heap.size w wc))
        case first =>
          have H := HC15.out
          clear HC15
          by_cases c17 : t284 = true
          · subst c17
            have H1 : (if a1 < 1125899906842624 then ((curve_Slope.f kj6 l0 (wrap64 (a1 + 1)) a2).bind fun t285 => (if t285 = true then (if a2 > 1 then ((curve_Slope.f kj6 l0 a1 (wrap64 (a2 - 1))).bind fun t286 => (bournelaw10_CurveSlopes.j1 kj6 l0 a1 a2 a3 a4 t283 true (!t286))) else (bournelaw10_CurveSlopes.j1 kj6 l0 a1 a2 a3 a4 t283 true false)) else (bournelaw10_CurveSlopes.j1 kj6 l0 a1 a2 a3 a4 t283 true true))) else (if a2 > 1 then ((curve_Slope.f kj6 l0 a1 (wrap64 (a2 - 1))).bind fun t287 => (bournelaw10_CurveSlopes.j1 kj6 l0 a1 a2 a3 a4 t283 true (!t287))) else (bournelaw10_CurveSlopes.j1 kj6 l0 a1 a2 a3 a4 t283 true false))) = some r := by rw [if_pos rfl] at H; exact H
            clear H
            have H := H1
            clear H1
            by_cases c18 : a1 < 1125899906842624
            · rw [if_pos c18] at H
              have c18b0 : decide (a1 < 1125899906842624) = true := decide_eq_true c18
              clear c18
              (first | rw [c18b0] | (simp only [i64_w, i32_w]; rw [c18b0]) | skip)
              replace H := Option.bind_eq_some_iff.mp H
              obtain ⟨t285, A190, H⟩ := H
              have A19 := Aside0.mk A190
              clear A190
              by_cases c20 : t285 = true
              · subst c20
                have H1 : (if a2 > 1 then ((curve_Slope.f kj6 l0 a1 (wrap64 (a2 - 1))).bind fun t286 => (bournelaw10_CurveSlopes.j1 kj6 l0 a1 a2 a3 a4 t283 true (!t286))) else (bournelaw10_CurveSlopes.j1 kj6 l0 a1 a2 a3 a4 t283 true false)) = some r := by rw [if_pos rfl] at H; exact H
                clear H
                have H := H1
                clear H1
                by_cases c21 : a2 > 1
                · rw [if_pos c21] at H
                  have c21b0 : decide (1 < a2) = true := decide_eq_true c21
                  clear c21
                  replace H := Option.bind_eq_some_iff.mp H
                  obtain ⟨t286, A220, H⟩ := H
                  have A22 := Aside0.mk A220
                  clear A220
                  have H' := Aside0.mk H
                  clear H
                  go_wp2_with (first | (go_at_call 15; (with_reducible refine (curve_Slope.calls kj6 _ _ l0 (wrap64 (a1 + 1)) a2 true _ ?side1 ?side2 A19.out).mono ?_); (case side1 => repeat (first | exact (Kd.C_below HR0.out HB.out) | (with_reducible refine Kd.C_alloc ?_ _) | (with_reducible refine Kd.C_drewN ?_ _) | (with_reducible refine Kd.C_drew ?_))); (case side2 => exact HC0.out); rintro e w23 ⟨rfl, hb⟩; (try clear A19); have n0_ := Aside0.mk (below_step (by repeat (first | (with_reducible first | exact HB.out | apply below_alloc | apply pw_below_drewN | apply below_drew1) | exact HB.out)) hb); clear HB; have HB := n0_; clear n0_; (try clear hb); (try clear hb2); (try clear hk); (try clear hi)) | (go_at_call 15; (with_reducible refine (curve_Slope.calls kj6 _ _ l0 a1 (wrap64 (a2 - 1)) t286 _ ?side1 ?side2 A22.out).mono ?_); (case side1 => repeat (first | exact (Kd.C_below HR0.out HB.out) | (with_reducible refine Kd.C_alloc ?_ _) | (with_reducible refine Kd.C_drewN ?_ _) | (with_reducible refine Kd.C_drew ?_))); (case side2 => exact HC0.out); rintro e w24 ⟨rfl, hb⟩; (try clear A22); have n0_ := Aside0.mk (below_step (by repeat (first | (with_reducible first | exact HB.out | apply below_alloc | apply pw_below_drewN | apply below_drew1) | exact HB.out)) hb); clear HB; have HB := n0_; clear n0_; (try clear hb); (try clear hb2); (try clear hk); (try clear hi)))
                  go_meet
                  case rel => exact ⟨_, (!t286), (by first | rfl | (simp; done) | (simp [*]; done)), H', ⟨by have := HJ6.out; first | omega | exact Nat.le_refl _⟩, ⟨by repeat (first | (with_reducible first | exact HB.out | apply below_alloc | apply pw_below_drewN | apply below_drew1) | exact HB.out)⟩⟩
                · rw [if_neg c21] at H
                  have c21b0 : decide (1 < a2) = false := decide_eq_false c21
                  clear c21
                  have H' := Aside0.mk H
                  clear H
                  go_wp2_with (first | (go_at_call 15; (with_reducible refine (curve_Slope.calls kj6 _ _ l0 (wrap64 (a1 + 1)) a2 true _ ?side1 ?side2 A19.out).mono ?_); (case side1 => repeat (first | exact (Kd.C_below HR0.out HB.out) | (with_reducible refine Kd.C_alloc ?_ _) | (with_reducible refine Kd.C_drewN ?_ _) | (with_reducible refine Kd.C_drew ?_))); (case side2 => exact HC0.out); rintro e w25 ⟨rfl, hb⟩; (try clear A19); have n0_ := Aside0.mk (below_step (by repeat (first | (with_reducible first | exact HB.out | apply below_alloc | apply pw_below_drewN | apply below_drew1) | exact HB.out)) hb); clear HB; have HB := n0_; clear n0_; (try clear hb); (try clear hb2); (try clear hk); (try clear hi)))
                  go_meet
                  case rel => exact ⟨_, (false), (by first | rfl | (simp; done) | (simp [*]; done)), H', ⟨by have := HJ6.out; first | omega | exact Nat.le_refl _⟩, ⟨by repeat (first | (with_reducible first | exact HB.out | apply below_alloc | apply pw_below_drewN | apply below_drew1) | exact HB.out)⟩⟩
              · replace c20 := Bool.eq_false_iff.mpr c20
                subst c20
                have H1 : (bournelaw10_CurveSlopes.j1 kj6 l0 a1 a2 a3 a4 t283 true true) = some r := by rw [if_neg (show ¬ (false = true) by decide)] at H; exact H
                clear H
                have H := H1
                clear H1
                have H' := Aside0.mk H
                clear H
                go_wp2_with (first | (go_at_call 15; (with_reducible refine (curve_Slope.calls kj6 _ _ l0 (wrap64 (a1 + 1)) a2 false _ ?side1 ?side2 A19.out).mono ?_); (case side1 => repeat (first | exact (Kd.C_below HR0.out HB.out) | (with_reducible refine Kd.C_alloc ?_ _) | (with_reducible refine Kd.C_drewN ?_ _) | (with_reducible refine Kd.C_drew ?_))); (case side2 => exact HC0.out); rintro e w26 ⟨rfl, hb⟩; (try clear A19); have n0_ := Aside0.mk (below_step (by repeat (first | (with_reducible first | exact HB.out | apply below_alloc | apply pw_below_drewN | apply below_drew1) | exact HB.out)) hb); clear HB; have HB := n0_; clear n0_; (try clear hb); (try clear hb2); (try clear hk); (try clear hi)))
                go_meet
                case rel => exact ⟨_, (true), (by first | rfl | (simp; done) | (simp [*]; done)), H', ⟨by have := HJ6.out; first | omega | exact Nat.le_refl _⟩, ⟨by repeat (first | (with_reducible first | exact HB.out | apply below_alloc | apply pw_below_drewN | apply below_drew1) | exact HB.out)⟩⟩
            · rw [if_neg c18] at H
              have c18b0 : decide (a1 < 1125899906842624) = false := decide_eq_false c18
              clear c18
              (first | rw [c18b0] | (simp only [i64_w, i32_w]; rw [c18b0]) | skip)
              by_cases c27 : a2 > 1
              · rw [if_pos c27] at H
                have c27b0 : decide (1 < a2) = true := decide_eq_true c27
                clear c27
                replace H := Option.bind_eq_some_iff.mp H
                obtain ⟨t287, A280, H⟩ := H
                have A28 := Aside0.mk A280
                clear A280
                have H' := Aside0.mk H
                clear H
                go_wp2_with (first | (go_at_call 15; (with_reducible refine (curve_Slope.calls kj6 _ _ l0 a1 (wrap64 (a2 - 1)) t287 _ ?side1 ?side2 A28.out).mono ?_); (case side1 => repeat (first | exact (Kd.C_below HR0.out HB.out) | (with_reducible refine Kd.C_alloc ?_ _) | (with_reducible refine Kd.C_drewN ?_ _) | (with_reducible refine Kd.C_drew ?_))); (case side2 => exact HC0.out); rintro e w29 ⟨rfl, hb⟩; (try clear A28); have n0_ := Aside0.mk (below_step (by repeat (first | (with_reducible first | exact HB.out | apply below_alloc | apply pw_below_drewN | apply below_drew1) | exact HB.out)) hb); clear HB; have HB := n0_; clear n0_; (try clear hb); (try clear hb2); (try clear hk); (try clear hi)))
                go_meet
                case rel => exact ⟨_, (!t287), (by first | rfl | (simp; done) | (simp [*]; done)), H', ⟨by have := HJ6.out; first | omega | exact Nat.le_refl _⟩, ⟨by repeat (first | (with_reducible first | exact HB.out | apply below_alloc | apply pw_below_drewN | apply below_drew1) | exact HB.out)⟩⟩
              · rw [if_neg c27] at H
                have c27b0 : decide (1 < a2) = false := decide_eq_false c27
                clear c27
                have H' := Aside0.mk H
                clear H
                go_wp2
                go_meet
                case rel => exact ⟨_, (false), (by first | rfl | (simp; done) | (simp [*]; done)), H', ⟨by have := HJ6.out; first | omega | exact Nat.le_refl _⟩, ⟨by repeat (first | (with_reducible first | exact HB.out | apply below_alloc | apply pw_below_drewN | apply below_drew1) | exact HB.out)⟩⟩
          · replace c17 := Bool.eq_false_iff.mpr c17
            subst c17
            have H1 : (bournelaw10_CurveSlopes.j1 kj6 l0 a1 a2 a3 a4 t283 false false) = some r := by rw [if_neg (show ¬ (false = true) by decide)] at H; exact H
            clear H
            have H := H1
            clear H1
            have H' := Aside0.mk H
            clear H
            go_wp2
            go_meet
            case rel => exact ⟨_, (false), (by first | rfl | (simp; done) | (simp [*]; done)), H', ⟨by have := HJ6.out; first | omega | exact Nat.le_refl _⟩, ⟨by repeat (first | (with_reducible first | exact HB.out | apply below_alloc | apply pw_below_drewN | apply below_drew1) | exact HB.out)⟩⟩
        case rest =>
          clear HC15
          try clear c1
          try clear c2
          try clear p2
          try clear c5
          try clear p6
          try clear c8
          try clear c9
          try clear c9b0
          try clear c9b1
          try clear c10
          try clear c10b0
          try clear c11
          try clear c11b0
          try clear c12
          try clear c12b0
          try clear c13
          try clear c15
          try clear c17
          try clear c18
          try clear c18b0
          try clear c20
          try clear c21
          try clear c21b0
          try clear c27
          try clear c27b0
          try clear p2
          obtain ⟨kq, x70_14, rfl, HA, HJ14, HB⟩ := hcut
          cases kq with
          | zero => exact absurd HA.out (by simp [bournelaw10_CurveSlopes.j1])
          | succ kj14 =>
            have H := HA.out
            clear HA
            simp only [bournelaw10_CurveSlopes.j1] at H
            by_cases c30 : x70_14 = true
            · subst c30
              have H1 : (some false) = some r := by rw [if_pos rfl] at H; exact H
              clear H
              have H := H1
              clear H1
              exact absurd (H.trans (congrArg some hT.out)) (by simp)
            · replace c30 := Bool.eq_false_iff.mpr c30
              subst c30
              have H1 : (bournelaw10_CurveSlopes.l0 kj14 l0 a1 a2 a3 a4 t283 t284 1) = some r := by rw [if_neg (show ¬ (false = true) by decide)] at H; exact H
              clear H
              have H := H1
              clear H1
              have H' := Aside0.mk H
              clear H
              go_wp2
              go_loopg [13] kj14 (fun kq v13 w' => ∃ (x13_3 : Int), v13 = .int .i64 x13_3 ∧ Aside0 (bournelaw10_CurveSlopes.l0 kq l0 a1 a2 a3 a4 t283 t284 x13_3 = some r) ∧ Aside0 (kq ≤ kj14) ∧ Aside0 (Below w.heap.size w w'))
              case atStart => exact ⟨(1), (by first | rfl | (simp; done) | (simp [*]; done)), H', ⟨Nat.le_refl _⟩, ⟨by repeat (first | (with_reducible first | exact HB.out | apply below_alloc | apply pw_below_drewN | apply below_drew1) | exact HB.out)⟩⟩
              case round =>
                clear H'
                try clear c1
                try clear c2
                try clear p2
                try clear c3
                try clear c5
                try clear p6
                try clear c8
                try clear c9
                try clear c9b0
                try clear c9b1
                try clear c10
                try clear c10b0
                try clear c11
                try clear c11b0
                try clear c12
                try clear c12b0
                try clear c13
                try clear c15
                try clear c17
                try clear c18
                try clear c18b0
                try clear c20
                try clear c21
                try clear c21b0
                try clear c27
                try clear c27b0
                try clear c30
                try clear p2
                try clear p6
                obtain ⟨x13_3, rfl, HA, HK3, HB⟩ := hrel
                cases gk with
                | zero => exact absurd HA.out (by simp [bournelaw10_CurveSlopes.l0])
                | succ k3 =>
                  have H := HA.out
                  clear HA
                  simp only [bournelaw10_CurveSlopes.l0] at H
                  have HC31 := Aside0.mk H
                  clear H
                  go_upto_region 8 with (fail)
                  go_cut [78] (fun v78 wc => ∃ (kq : Nat) (x78_30 : Bool), v78 = .bool x78_30 ∧ Aside0 (bournelaw10_CurveSlopes.j3 kq l0 a1 a2 a3 a4 t283 t284 x13_3 x78_30 = some r) ∧ Aside0 (kq ≤ k3) ∧ Aside0 (Below w.heap.size w wc))
                  case first =>
                    have H := HC31.out
                    clear HC31
                    by_cases c32 : x13_3 < (l0.length : Int)
                    · rw [if_pos c32] at H
                      have c32b0 : decide (x13_3 < (l0.length : Int)) = true := decide_eq_true c32
                      clear c32
                      (first | rw [c32b0] | (simp only [i64_w, i32_w]; rw [c32b0]) | skip)
                      replace H := Option.bind_eq_some_iff.mp H
                      obtain ⟨t288, A330, H⟩ := H
                      have A33 := Aside0.mk A330
                      clear A330
                      have H' := Aside0.mk H
                      clear H
                      go_wp2_with (first | (go_at_call 11; (with_reducible refine (curve_Right.calls k3 _ _ l0 t288 _ ?side1 ?side2 A33.out).mono ?_); (case side1 => repeat (first | exact (Kd.C_below HR0.out HB.out) | (with_reducible refine Kd.C_alloc ?_ _) | (with_reducible refine Kd.C_drewN ?_ _) | (with_reducible refine Kd.C_drew ?_))); (case side2 => exact HC0.out); rintro e w34 ⟨rfl, hb⟩; (try clear A33); have n0_ := Aside0.mk (below_step (by repeat (first | (with_reducible first | exact HB.out | apply below_alloc | apply pw_below_drewN | apply below_drew1) | exact HB.out)) hb); clear HB; have HB := n0_; clear n0_; (try clear hb); (try clear hb2); (try clear hk); (try clear hi)))
                      go_meet
                      case rel => exact ⟨_, (t288), (by first | rfl | (simp; done) | (simp [*]; done)), H', ⟨by have := HJ6.out; have := HJ14.out; have := HK3.out; first | omega | exact Nat.le_refl _⟩, ⟨by repeat (first | (with_reducible first | exact HB.out | apply below_alloc | apply pw_below_drewN | apply below_drew1) | exact HB.out)⟩⟩
                    · rw [if_neg c32] at H
                      have c32b0 : decide (x13_3 < (l0.length : Int)) = false := decide_eq_false c32
                      clear c32
                      (first | rw [c32b0] | (simp only [i64_w, i32_w]; rw [c32b0]) | skip)
                      have H' := Aside0.mk H
                      clear H
                      go_wp2
                      go_meet
                      case rel => exact ⟨_, (false), (by first | rfl | (simp; done) | (simp [*]; done)), H', ⟨by have := HJ6.out; have := HJ14.out; have := HK3.out; first | omega | exact Nat.le_refl _⟩, ⟨by repeat (first | (with_reducible first | exact HB.out | apply below_alloc | apply pw_below_drewN | apply below_drew1) | exact HB.out)⟩⟩
                  case rest =>
                    clear HC31
                    try clear c1
                    try clear c2
                    try clear p2
                    try clear c3
                    try clear c5
                    try clear p6
                    try clear c8
                    try clear c9
                    try clear c9b0
                    try clear c9b1
                    try clear c10
                    try clear c10b0
                    try clear c11
                    try clear c11b0
                    try clear c12
                    try clear c12b0
                    try clear c13
                    try clear c15
                    try clear c17
                    try clear c18
                    try clear c18b0
                    try clear c20
                    try clear c21
                    try clear c21b0
                    try clear c27
                    try clear c27b0
                    try clear c30
                    try clear c32
                    try clear c32b0
                    try clear p2
                    try clear p6
                    obtain ⟨kq, x78_30, rfl, HA, HJ30, HB⟩ := hcut
                    cases kq with
                    | zero => exact absurd HA.out (by simp [bournelaw10_CurveSlopes.j3])
                    | succ kj30 =>
                      have H := HA.out
                      clear HA
                      simp only [bournelaw10_CurveSlopes.j3] at H
                      by_cases c35 : x78_30 = true
                      · subst c35
                        have H1 : (if 0 ≤ (wrap64 (x13_3 - 1)) then (if (wrap64 (x13_3 - 1)) ≤ (wrap64 (x13_3 + 1)) then (if (wrap64 (x13_3 + 1)) ≤ (l0.length : Int) then ((curve_Slope.f kj30 ((l0.take ((wrap64 (x13_3 + 1)) : Int).toNat).drop ((wrap64 (x13_3 - 1)) : Int).toNat) a1 a2).bind fun t293 => (if t284 = true then (if t293 = true then (bournelaw10_CurveSlopes.l0 kj30 l0 a1 a2 a3 a4 t283 t284 (wrap64 (x13_3 + 1))) else (some false)) else (bournelaw10_CurveSlopes.l0 kj30 l0 a1 a2 a3 a4 t283 t284 (wrap64 (x13_3 + 1))))) else (none)) else (none)) else (none)) = some r := by rw [if_pos rfl] at H; exact H
                        clear H
                        have H := H1
                        clear H1
                        obtain ⟨ji36, hji36⟩ : ∃ j_ : Int, (wrap64 (x13_3 - 1)) = j_ := ⟨_, rfl⟩
                        replace H : (if 0 ≤ (ji36) then (if (ji36) ≤ (wrap64 (x13_3 + 1)) then (if (wrap64 (x13_3 + 1)) ≤ (l0.length : Int) then ((curve_Slope.f kj30 ((l0.take ((wrap64 (x13_3 + 1)) : Int).toNat).drop ((ji36) : Int).toNat) a1 a2).bind fun t293 => (if t284 = true then (if t293 = true then (bournelaw10_CurveSlopes.l0 kj30 l0 a1 a2 a3 a4 t283 t284 (wrap64 (x13_3 + 1))) else (some false)) else (bournelaw10_CurveSlopes.l0 kj30 l0 a1 a2 a3 a4 t283 t284 (wrap64 (x13_3 + 1))))) else (none)) else (none)) else (none)) = some r := by first | (rw [hji36] at H; exact H) | (simp only [hji36] at H ⊢; exact H)
                        have hji36w : (IntKind.i64.wrap (x13_3 - 1)) = ji36 := (i64_w _).trans hji36
                        by_cases c37 : 0 ≤ (ji36)
                        · rw [if_pos c37] at H
                          have c37b0 := eq_true c37
                          have c37b1 : decide (0 ≤ (ji36)) = true := decide_eq_true c37
                          clear c37
                          by_cases c38 : (ji36) ≤ (wrap64 (x13_3 + 1))
                          · rw [if_pos c38] at H
                            have c38b0 := eq_true c38
                            have c38b1 : decide ((ji36) ≤ (wrap64 (x13_3 + 1))) = true := decide_eq_true c38
                            by_cases c39 : (wrap64 (x13_3 + 1)) ≤ (l0.length : Int)
                            · rw [if_pos c39] at H
                              have c39b0 := eq_true c39
                              have c39b1 : decide ((wrap64 (x13_3 + 1)) ≤ (l0.length : Int)) = true := decide_eq_true c39
                              obtain ⟨y289, hy289⟩ : ∃ y_ : List (S37), y_ = ((l0.take ((wrap64 (x13_3 + 1)) : Int).toNat).drop ((ji36) : Int).toNat) := ⟨_, rfl⟩
                              replace H : ((curve_Slope.f kj30 y289 a1 a2).bind fun t293 => (if t284 = true then (if t293 = true then (bournelaw10_CurveSlopes.l0 kj30 l0 a1 a2 a3 a4 t283 t284 (wrap64 (x13_3 + 1))) else (some false)) else (bournelaw10_CurveSlopes.l0 kj30 l0 a1 a2 a3 a4 t283 t284 (wrap64 (x13_3 + 1))))) = some r := by first | (rw [hy289]; with_reducible exact H) | (have H2_ := (Option.bind_some _ _).symm.trans H; rw [hy289]; with_reducible exact H2_) | (have H2_ := (Option.bind_some _ _).symm.trans H; with_reducible exact H2_) | with_reducible exact H | (rw [hy289]; exact H) | exact H
                              have Ny289 := Aside0.mk hy289
                              clear hy289
                              replace H := Option.bind_eq_some_iff.mp H
                              obtain ⟨t293, A400, H⟩ := H
                              have A40 := Aside0.mk A400
                              clear A400
                              by_cases c41 : t284 = true
                              · subst c41
                                have H1 : (if t293 = true then (bournelaw10_CurveSlopes.l0 kj30 l0 a1 a2 a3 a4 t283 true (wrap64 (x13_3 + 1))) else (some false)) = some r := by rw [if_pos rfl] at H; exact H
                                clear H
                                have H := H1
                                clear H1
                                by_cases c42 : t293 = true
                                · subst c42
                                  have H1 : (bournelaw10_CurveSlopes.l0 kj30 l0 a1 a2 a3 a4 t283 true (wrap64 (x13_3 + 1))) = some r := by rw [if_pos rfl] at H; exact H
                                  clear H
                                  have H := H1
                                  clear H1
                                  have H' := Aside0.mk H
                                  clear H
                                  have q43 : ((wrap64 (x13_3 + 1)) : Int) ≤ ((l0.length : Int) : Int) := of_decide_eq_true (by first | (with_reducible assumption) | assumption)
                                  obtain ⟨i043, hi043, _, hsz43, _⟩ := info_parts info37
                                  have hroom43 : l0.length ≤ c0 := HC0.out
                                  have hC43 : Kd.C k37 _ A0 l0.length l0 := HR0.out
                                  have ql43 : ((ji36) : Int) ≤ ((wrap64 (x13_3 + 1)) : Int) := of_decide_eq_true (by first | (with_reducible assumption) | assumption)
                                  have q043 : (0 : Int) ≤ ((ji36) : Int) := of_decide_eq_true (by first | (with_reducible assumption) | assumption)
                                  have hcut43 := cut_mid (P := Try.prog) 22 37 .i64 .i64 Try.underlying22 hi043 2 hsz43 A0 l0.length c0 (ji36) (wrap64 (x13_3 + 1)) q043 ql43 q43 hroom43
                                  have hr43 := Kd.C_mid (lo := ((ji36) : Int).toNat) (hi := ((wrap64 (x13_3 + 1)) : Int).toNat) (c := c0) hC43 (by omega) (by omega) hroom43
                                  obtain ⟨A43, hA43⟩ : ∃ A1, A1 = (if c0 = ((ji36) : Int).toNat then A0 else (A0 : Option Addr).map (·.add (((ji36) : Int).toNat * 2))) := ⟨_, rfl⟩
                                  obtain ⟨c43, hc43⟩ : ∃ c1, c1 = c0 - ((ji36) : Int).toNat := ⟨_, rfl⟩
                                  have hy43 : y289.length = ((wrap64 (x13_3 + 1)) : Int).toNat - ((ji36) : Int).toNat := (by rw [Ny289.out, List.length_drop, List.length_take] <;> omega)
                                  rw [show ((l0).take ((wrap64 (x13_3 + 1)) : Int).toNat).drop ((ji36) : Int).toNat = y289 from Ny289.out.symm] at hr43
                                  replace hr43 : Kd.C k37 _ A43 y289.length y289 := (by rw [hA43]; exact hr43)
                                  rw [← hy43, ← hA43, ← hc43] at hcut43
                                  have HR292 := Aside0.mk hr43
                                  have HC292 := Aside0.mk (show y289.length ≤ c43 from by rw [hy43, hc43]; exact Nat.sub_le_sub_right (Nat.le_trans (by omega) hroom43) _)
                                  clear hr43 hC43 hroom43 hi043 hsz43 hc43
                                  have KY43 := Aside0.mk hy43
                                  have KA43 := Aside0.mk hA43
                                  clear hy43 hA43
                                  replace q43 := eq_true q43
                                  go_wp2_with (first | ((with_reducible refine gate_callee (f := 15) rfl ?_); refine goesL_ (some 89) rfl rfl Try.func15 (by kernel_rfl) rfl #[.slice A43 y289.length c43, .int .i64 a1, .int .i64 a2] rfl (by (try simp only [List.map_toArray, List.map_cons, List.map_nil]); first | done | rfl | (simp only [List.length_drop, List.length_take]; rfl)) ?_; (with_reducible refine (curve_Slope.calls kj30 _ _ y289 a1 a2 true _ ?side1 ?side2 A40.out).mono ?_); (case side1 => repeat (first | exact (Kd.C_below HR292.out HB.out) | (with_reducible refine Kd.C_alloc ?_ _) | (with_reducible refine Kd.C_drewN ?_ _) | (with_reducible refine Kd.C_drew ?_))); (case side2 => exact HC292.out); rintro e w44 ⟨rfl, hb⟩; refine ⟨_, rfl, ?_⟩; have n0_ := Aside0.mk (below_step (by repeat (first | (with_reducible first | exact HB.out | apply below_alloc | apply pw_below_drewN | apply below_drew1) | exact HB.out)) hb); clear HB; have HB := n0_; clear n0_; (try clear hb); (try clear hb2); (try clear hk); (try clear hi)))
                                  go_roundg kj30
                                  case measure => have := HJ6.out; have := HJ14.out; have := HK3.out; have := HJ30.out; omega
                                  case rel => exact ⟨(wrap64 (x13_3 + 1)), (by first | rfl | (simp; done) | (simp [*]; done)), H', ⟨by have := HJ6.out; have := HJ14.out; have := HK3.out; have := HJ30.out; omega⟩, ⟨by repeat (first | (with_reducible first | exact HB.out | apply below_alloc | apply pw_below_drewN | apply below_drew1) | exact HB.out)⟩⟩
                                · replace c42 := Bool.eq_false_iff.mpr c42
                                  subst c42
                                  have H1 : (some false) = some r := by rw [if_neg (show ¬ (false = true) by decide)] at H; exact H
                                  clear H
                                  have H := H1
                                  clear H1
                                  exact absurd (H.trans (congrArg some hT.out)) (by simp)
                              · replace c41 := Bool.eq_false_iff.mpr c41
                                subst c41
                                have H1 : (bournelaw10_CurveSlopes.l0 kj30 l0 a1 a2 a3 a4 t283 false (wrap64 (x13_3 + 1))) = some r := by rw [if_neg (show ¬ (false = true) by decide)] at H; exact H
                                clear H
                                have H := H1
                                clear H1
                                have H' := Aside0.mk H
                                clear H
                                have q45 : ((wrap64 (x13_3 + 1)) : Int) ≤ ((l0.length : Int) : Int) := of_decide_eq_true (by first | (with_reducible assumption) | assumption)
                                obtain ⟨i045, hi045, _, hsz45, _⟩ := info_parts info37
                                have hroom45 : l0.length ≤ c0 := HC0.out
                                have hC45 : Kd.C k37 _ A0 l0.length l0 := HR0.out
                                have ql45 : ((ji36) : Int) ≤ ((wrap64 (x13_3 + 1)) : Int) := of_decide_eq_true (by first | (with_reducible assumption) | assumption)
                                have q045 : (0 : Int) ≤ ((ji36) : Int) := of_decide_eq_true (by first | (with_reducible assumption) | assumption)
                                have hcut45 := cut_mid (P := Try.prog) 22 37 .i64 .i64 Try.underlying22 hi045 2 hsz45 A0 l0.length c0 (ji36) (wrap64 (x13_3 + 1)) q045 ql45 q45 hroom45
                                have hr45 := Kd.C_mid (lo := ((ji36) : Int).toNat) (hi := ((wrap64 (x13_3 + 1)) : Int).toNat) (c := c0) hC45 (by omega) (by omega) hroom45
                                obtain ⟨A45, hA45⟩ : ∃ A1, A1 = (if c0 = ((ji36) : Int).toNat then A0 else (A0 : Option Addr).map (·.add (((ji36) : Int).toNat * 2))) := ⟨_, rfl⟩
                                obtain ⟨c45, hc45⟩ : ∃ c1, c1 = c0 - ((ji36) : Int).toNat := ⟨_, rfl⟩
                                have hy45 : y289.length = ((wrap64 (x13_3 + 1)) : Int).toNat - ((ji36) : Int).toNat := (by rw [Ny289.out, List.length_drop, List.length_take] <;> omega)
                                rw [show ((l0).take ((wrap64 (x13_3 + 1)) : Int).toNat).drop ((ji36) : Int).toNat = y289 from Ny289.out.symm] at hr45
                                replace hr45 : Kd.C k37 _ A45 y289.length y289 := (by rw [hA45]; exact hr45)
                                rw [← hy45, ← hA45, ← hc45] at hcut45
                                have HR292 := Aside0.mk hr45
                                have HC292 := Aside0.mk (show y289.length ≤ c45 from by rw [hy45, hc45]; exact Nat.sub_le_sub_right (Nat.le_trans (by omega) hroom45) _)
                                clear hr45 hC45 hroom45 hi045 hsz45 hc45
                                have KY45 := Aside0.mk hy45
                                have KA45 := Aside0.mk hA45
                                clear hy45 hA45
                                replace q45 := eq_true q45
                                go_wp2_with (first | ((with_reducible refine gate_callee (f := 15) rfl ?_); refine goesL_ (some 89) rfl rfl Try.func15 (by kernel_rfl) rfl #[.slice A45 y289.length c45, .int .i64 a1, .int .i64 a2] rfl (by (try simp only [List.map_toArray, List.map_cons, List.map_nil]); first | done | rfl | (simp only [List.length_drop, List.length_take]; rfl)) ?_; (with_reducible refine (curve_Slope.calls kj30 _ _ y289 a1 a2 t293 _ ?side1 ?side2 A40.out).mono ?_); (case side1 => repeat (first | exact (Kd.C_below HR292.out HB.out) | (with_reducible refine Kd.C_alloc ?_ _) | (with_reducible refine Kd.C_drewN ?_ _) | (with_reducible refine Kd.C_drew ?_))); (case side2 => exact HC292.out); rintro e w46 ⟨rfl, hb⟩; refine ⟨_, rfl, ?_⟩; have n0_ := Aside0.mk (below_step (by repeat (first | (with_reducible first | exact HB.out | apply below_alloc | apply pw_below_drewN | apply below_drew1) | exact HB.out)) hb); clear HB; have HB := n0_; clear n0_; (try clear hb); (try clear hb2); (try clear hk); (try clear hi)))
                                go_roundg kj30
                                case measure => have := HJ6.out; have := HJ14.out; have := HK3.out; have := HJ30.out; omega
                                case rel => exact ⟨(wrap64 (x13_3 + 1)), (by first | rfl | (simp; done) | (simp [*]; done)), H', ⟨by have := HJ6.out; have := HJ14.out; have := HK3.out; have := HJ30.out; omega⟩, ⟨by repeat (first | (with_reducible first | exact HB.out | apply below_alloc | apply pw_below_drewN | apply below_drew1) | exact HB.out)⟩⟩
                            · rw [if_neg c39] at H
                              exact absurd H (by simp)
                          · rw [if_neg c38] at H
                            exact absurd H (by simp)
                        · rw [if_neg c37] at H
                          exact absurd H (by simp)
                      · replace c35 := Bool.eq_false_iff.mpr c35
                        subst c35
                        have H1 : (if t284 = true then ((exact_Scale.f kj30 a4 a1 a2).bind fun bt294 => (if bt294.2.1 > 0 then (bournelaw10_CurveSlopes.j4 kj30 l0 a3 a4 t283 (wrap64 (bt294.1 + 1)) bt294.2.2) else (bournelaw10_CurveSlopes.j4 kj30 l0 a3 a4 t283 bt294.1 bt294.2.2))) else (some t283)) = some r := by rw [if_neg (show ¬ (false = true) by decide)] at H; exact H
                        clear H
                        have H := H1
                        clear H1
                        by_cases c47 : t284 = true
                        · subst c47
                          have H1 : ((exact_Scale.f kj30 a4 a1 a2).bind fun bt294 => (if bt294.2.1 > 0 then (bournelaw10_CurveSlopes.j4 kj30 l0 a3 a4 t283 (wrap64 (bt294.1 + 1)) bt294.2.2) else (bournelaw10_CurveSlopes.j4 kj30 l0 a3 a4 t283 bt294.1 bt294.2.2))) = some r := by rw [if_pos rfl] at H; exact H
                          clear H
                          have H := H1
                          clear H1
                          replace H := Option.bind_eq_some_iff.mp H
                          obtain ⟨⟨t294, t295, t296⟩, A480, H⟩ := H
                          dsimp only at H
                          have A48 := Aside0.mk A480
                          clear A480
                          have HC49 := Aside0.mk H
                          clear H
                          go_upto_if 107 with (first | ((with_reducible refine gate_callee (f := 21) rfl ?_); refine goesL_ (some 102) rfl rfl Try.func21 (by kernel_rfl) rfl #[.int .i64 a4, .int .i64 a1, .int .i64 a2] rfl (by (try simp only [List.map_toArray, List.map_cons, List.map_nil]); first | done | rfl | (simp only [List.length_drop, List.length_take]; rfl)) ?_; (with_reducible refine (exact_Scale.calls kj30 a4 a1 a2 t294 t295 t296 _ A48.out).mono ?_); rintro e w' ⟨rfl, ⟨nd, rfl⟩⟩; refine ⟨_, rfl, ?_⟩))
                          (try simp only [Act.put, List.setIfInBounds_toArray, List.set_cons_zero, List.set_cons_succ])
                          go_cut [15] (fun v15 wc => ∃ (kq : Nat) (x15_48 : Int), v15 = .int .i64 x15_48 ∧ Aside0 (bournelaw10_CurveSlopes.j4 kq l0 a3 a4 t283 x15_48 t296 = some r) ∧ Aside0 (kq ≤ kj30) ∧ Aside0 (Below w.heap.size w wc))
                          case first =>
                            have H := HC49.out
                            clear HC49
                            by_cases c50 : t295 > 0
                            · rw [if_pos c50] at H
                              have c50b0 : decide (0 < t295) = true := decide_eq_true c50
                              clear c50
                              (first | rw [c50b0] | (simp only [i64_w, i32_w]; rw [c50b0]) | skip)
                              have H' := Aside0.mk H
                              clear H
                              go_wp2
                              go_meet
                              case rel => exact ⟨_, (wrap64 (t294 + 1)), (by first | rfl | (simp; done) | (simp [*]; done)), H', ⟨by have := HJ6.out; have := HJ14.out; have := HK3.out; have := HJ30.out; first | omega | exact Nat.le_refl _⟩, ⟨by repeat (first | (with_reducible first | exact HB.out | apply below_alloc | apply pw_below_drewN | apply below_drew1) | exact HB.out)⟩⟩
                            · rw [if_neg c50] at H
                              have c50b0 : decide (0 < t295) = false := decide_eq_false c50
                              clear c50
                              (first | rw [c50b0] | (simp only [i64_w, i32_w]; rw [c50b0]) | skip)
                              have H' := Aside0.mk H
                              clear H
                              go_wp2
                              go_meet
                              case rel => exact ⟨_, (t294), (by first | rfl | (simp; done) | (simp [*]; done)), H', ⟨by have := HJ6.out; have := HJ14.out; have := HK3.out; have := HJ30.out; first | omega | exact Nat.le_refl _⟩, ⟨by repeat (first | (with_reducible first | exact HB.out | apply below_alloc | apply pw_below_drewN | apply below_drew1) | exact HB.out)⟩⟩
                          case rest =>
                            clear HC49
                            try clear c1
                            try clear c2
                            try clear p2
                            try clear c3
                            try clear c4
                            try clear q4
                            try clear c5
                            try clear p6
                            try clear c8
                            try clear c9
                            try clear c9b0
                            try clear c9b1
                            try clear c10
                            try clear c10b0
                            try clear c11
                            try clear c11b0
                            try clear c12
                            try clear c12b0
                            try clear c13
                            try clear c15
                            try clear c17
                            try clear c18
                            try clear c18b0
                            try clear c20
                            try clear c21
                            try clear c21b0
                            try clear c27
                            try clear c27b0
                            try clear c30
                            try clear c32
                            try clear c32b0
                            try clear c35
                            try clear c37
                            try clear c37b0
                            try clear c37b1
                            try clear c38
                            try clear c38b0
                            try clear c38b1
                            try clear c39
                            try clear c39b0
                            try clear c39b1
                            try clear c41
                            try clear c42
                            try clear c43
                            try clear q43
                            try clear c45
                            try clear q45
                            try clear c47
                            try clear c50
                            try clear c50b0
                            try clear p2
                            try clear p6
                            try clear q043
                            try clear q045
                            try clear q43
                            try clear q45
                            obtain ⟨kq, x15_48, rfl, HA, HJ48, HB⟩ := hcut
                            cases kq with
                            | zero => exact absurd HA.out (by simp [bournelaw10_CurveSlopes.j4])
                            | succ kj48 =>
                              have H := HA.out
                              clear HA
                              simp only [bournelaw10_CurveSlopes.j4] at H
                              by_cases c51 : t283 = true
                              · subst c51
                                have H1 : (if t296 = true then ((curve_At.f kj48 l0 (wrap64 (a3 + a4))).bind fun t297 => ((curve_At.f kj48 l0 a3).bind fun t298 => (some (decide ((wrap64 (t297 - t298)) ≤ x15_48))))) else (some true)) = some r := by rw [if_pos rfl] at H; exact H
                                clear H
                                have H := H1
                                clear H1
                                by_cases c52 : t296 = true
                                · subst c52
                                  have H1 : ((curve_At.f kj48 l0 (wrap64 (a3 + a4))).bind fun t297 => ((curve_At.f kj48 l0 a3).bind fun t298 => (some (decide ((wrap64 (t297 - t298)) ≤ x15_48))))) = some r := by rw [if_pos rfl] at H; exact H
                                  clear H
                                  have H := H1
                                  clear H1
                                  replace H := Option.bind_eq_some_iff.mp H
                                  obtain ⟨t297, A530, H⟩ := H
                                  have A53 := Aside0.mk A530
                                  clear A530
                                  replace H := Option.bind_eq_some_iff.mp H
                                  obtain ⟨t298, A540, H⟩ := H
                                  have A54 := Aside0.mk A540
                                  clear A540
                                  obtain rfl := Option.some.inj H
                                  go_wp2_with (first | (go_at_call 13; (with_reducible refine (curve_At.calls kj48 _ _ l0 (wrap64 (a3 + a4)) t297 _ ?side1 ?side2 A53.out).mono ?_); (case side1 => repeat (first | exact (Kd.C_below HR0.out HB.out) | (with_reducible refine Kd.C_alloc ?_ _) | (with_reducible refine Kd.C_drewN ?_ _) | (with_reducible refine Kd.C_drew ?_))); (case side2 => exact HC0.out); rintro e w55 ⟨rfl, hb⟩; (try clear A53); have n0_ := Aside0.mk (below_step (by repeat (first | (with_reducible first | exact HB.out | apply below_alloc | apply pw_below_drewN | apply below_drew1) | exact HB.out)) hb); clear HB; have HB := n0_; clear n0_; (try clear hb); (try clear hb2); (try clear hk); (try clear hi)) | (go_at_call 13; (with_reducible refine (curve_At.calls kj48 _ _ l0 a3 t298 _ ?side1 ?side2 A54.out).mono ?_); (case side1 => repeat (first | exact (Kd.C_below HR0.out HB.out) | (with_reducible refine Kd.C_alloc ?_ _) | (with_reducible refine Kd.C_drewN ?_ _) | (with_reducible refine Kd.C_drew ?_))); (case side2 => exact HC0.out); rintro e w56 ⟨rfl, hb⟩; (try clear A54); have n0_ := Aside0.mk (below_step (by repeat (first | (with_reducible first | exact HB.out | apply below_alloc | apply pw_below_drewN | apply below_drew1) | exact HB.out)) hb); clear HB; have HB := n0_; clear n0_; (try clear hb); (try clear hb2); (try clear hk); (try clear hi)))
                                  go_ret
                                  exact ⟨by first | rfl | (simp [errW_none, errW_some] <;> rfl) | (simp [*, errW_none, errW_some] <;> rfl), by repeat (first | (with_reducible first | exact HB.out | apply below_alloc | apply pw_below_drewN | apply below_drew1) | exact HB.out)⟩
                                · replace c52 := Bool.eq_false_iff.mpr c52
                                  subst c52
                                  have H1 : (some true) = some r := by rw [if_neg (show ¬ (false = true) by decide)] at H; exact H
                                  clear H
                                  have H := H1
                                  clear H1
                                  obtain rfl := Option.some.inj H
                                  go_wp2
                                  go_ret
                                  exact ⟨by first | rfl | (simp [errW_none, errW_some] <;> rfl) | (simp [*, errW_none, errW_some] <;> rfl), by repeat (first | (with_reducible first | exact HB.out | apply below_alloc | apply pw_below_drewN | apply below_drew1) | exact HB.out)⟩
                              · replace c51 := Bool.eq_false_iff.mpr c51
                                subst c51
                                have H1 : (some false) = some r := by rw [if_neg (show ¬ (false = true) by decide)] at H; exact H
                                clear H
                                have H := H1
                                clear H1
                                exact absurd (H.trans (congrArg some hT.out)) (by simp)
                        · replace c47 := Bool.eq_false_iff.mpr c47
                          subst c47
                          have H1 : (some t283) = some r := by rw [if_neg (show ¬ (false = true) by decide)] at H; exact H
                          clear H
                          have H := H1
                          clear H1
                          obtain rfl := Option.some.inj H
                          go_wp2
                          go_ret
                          exact ⟨by first | rfl | (simp [errW_none, errW_some] <;> rfl) | (simp [*, errW_none, errW_some] <;> rfl), by repeat (first | (with_reducible first | exact HB.out | apply below_alloc | apply pw_below_drewN | apply below_drew1) | exact HB.out)⟩
def bournelaw10_CurveSlopes.Pure : Prop := ∀ (l0 : List (S37)) (a1 : Int) (a2 : Int) (a3 : Int) (a4 : Int), l0.length ≤ maxLen → (∀ y, y ∈ l0 → w37 y) → (Lit.int .i64 a1).wf = true → (Lit.int .i64 a2).wf = true → (Lit.int .i64 a3).wf = true → (Lit.int .i64 a4).wf = true → ∃ k, bournelaw10_CurveSlopes.f k l0 a1 a2 a3 a4 = some true
theorem bournelaw10_CurveSlopes.walk (P_ : bournelaw10_CurveSlopes.Pure) (A0 : Option Addr) (c0 : Nat) (l0 : List (S37)) (a1 : Int) (a2 : Int) (a3 : Int) (a4 : Int) (w : World) (hr0 : Kd.C k37 w A0 l0.length l0) (hc0 : l0.length ≤ c0) (y0 : l0.length ≤ maxLen) (y1 : (∀ y, y ∈ l0 → w37 y)) (y2 : (Lit.int .i64 a1).wf = true) (y3 : (Lit.int .i64 a2).wf = true) (y4 : (Lit.int .i64 a3).wf = true) (y5 : (Lit.int .i64 a4).wf = true) :
    Calls Try.prog 5 #[.slice A0 l0.length c0, .int .i64 a1, .int .i64 a2, .int .i64 a3, .int .i64 a4] w fun e w' => e = .returned (.bool true) ∧ Below w.heap.size w w' := by
  obtain ⟨k, h⟩ := P_ l0 a1 a2 a3 a4 y0 y1 y2 y3 y4 y5
  refine (bournelaw10_CurveSlopes.calls k A0 c0 l0 a1 a2 a3 a4 true w hr0 hc0 ⟨rfl⟩ h).mono ?_
  rintro e w' ⟨rfl, hd⟩
  exact ⟨rfl, hd⟩

end Go.Proofs.Ytmkekbehipaopaa.Fn
