-- written by this session's program myprint.py out of the translation; Lean checks it
import Derived.Test.YtmkekbehipaopaaFn0
import Derived.Test.YtmkekbehipaopaaRdT
import Derived.Test.YtmkekbehipaopaaFn1
import Derived.Test.YtmkekbehipaopaaFn2
import Derived.Test.YtmkekbehipaopaaFn4
import Derived.Test.YtmkekbehipaopaaFn7
import Derived.Test.YtmkekbehipaopaaFn8
namespace Go.Proofs.Ytmkekbehipaopaa.Fn
open Go.Proofs.Ytmkekbehipaopaa.Rd (w37)
open Go.RowKit Go.Proofs.YtmkekbehipaopaaW.PrintWords Go.Proofs.YtmkekbehipaopaaW.PrintLast Go.Proofs.YtmkekbehipaopaaW.PrintMore
attribute [local go_sem] max2_int min2_int max_two min_two max_three min_three max_four min_four   -- for this text's walks alone
set_option linter.unusedVariables false
set_option linter.unusedSimpArgs false

attribute [local go_sem high] eqA33
/-! ### bournelaw10_CurveOrders: function 6 -/
mutual
def bournelaw10_CurveOrders.j0 : Nat → List (S37) → List (S37) → List (S37) → Int → Int → Bool → Bool → Option (Bool)
  | 0, _, _, _, _, _, _, _ => none
  | k + 1, x0, x1, x2, x3, x4, x11, x49 => if x49 = true then (some x11) else ((curve_Under.f k x0 x1).bind fun t303 => ((curve_Under.f k x1 x2).bind fun t304 => ((curve_Under.f k x0 x0).bind fun t305 => (if t305 = true then (if t303 = true then (if t304 = true then ((curve_Under.f k x0 x2).bind fun t306 => (bournelaw10_CurveOrders.j1 k x0 x1 x3 x4 x11 t303 (!t306))) else (bournelaw10_CurveOrders.j1 k x0 x1 x3 x4 x11 t303 false)) else (bournelaw10_CurveOrders.j1 k x0 x1 x3 x4 x11 t303 false)) else (bournelaw10_CurveOrders.j1 k x0 x1 x3 x4 x11 t303 true)))))
def bournelaw10_CurveOrders.j1 : Nat → List (S37) → List (S37) → Int → Int → Bool → Bool → Bool → Option (Bool)
  | 0, _, _, _, _, _, _, _ => none
  | k + 1, x0, x1, x3, x4, x11, x12, x72 => if x72 = true then (some false) else ((curve_At.f k x0 x3).bind fun t307 => ((curve_At.f k x1 x3).bind fun t308 => ((curve_Least.f k x0 x4).bind fun bt309 => ((curve_Least.f k x1 x4).bind fun bt311 => (if x12 = true then (if t307 > t308 then (bournelaw10_CurveOrders.j2 k x0 x1 x3 x11 x12 t307 t308 bt309.1 bt309.2 bt311.1 bt311.2 true) else (if bt309.2 = true then (if bt311.2 = true then (bournelaw10_CurveOrders.j2 k x0 x1 x3 x11 x12 t307 t308 bt309.1 bt309.2 bt311.1 bt311.2 (decide (bt311.1 > bt309.1))) else (bournelaw10_CurveOrders.j2 k x0 x1 x3 x11 x12 t307 t308 bt309.1 bt309.2 bt311.1 bt311.2 true)) else (bournelaw10_CurveOrders.j2 k x0 x1 x3 x11 x12 t307 t308 bt309.1 bt309.2 bt311.1 bt311.2 false))) else (bournelaw10_CurveOrders.j2 k x0 x1 x3 x11 x12 t307 t308 bt309.1 bt309.2 bt311.1 bt311.2 false))))))
def bournelaw10_CurveOrders.j2 : Nat → List (S37) → List (S37) → Int → Bool → Bool → Int → Int → Int → Bool → Int → Bool → Bool → Option (Bool)
  | 0, _, _, _, _, _, _, _, _, _, _, _, _ => none
  | k + 1, x0, x1, x3, x11, x12, x14, x15, x16, x17, x18, x19, x111 => if x111 = true then (some false) else (if x12 = true then ((curve_Under.f k x1 x0).bind fun t313 => (if t313 = true then (if x14 = x15 then (if (x17 != x19) = true then (bournelaw10_CurveOrders.j3 k x0 x1 x3 x11 x12 x14 x15 true) else (bournelaw10_CurveOrders.j3 k x0 x1 x3 x11 x12 x14 x15 (x16 != x18))) else (bournelaw10_CurveOrders.j3 k x0 x1 x3 x11 x12 x14 x15 true)) else (bournelaw10_CurveOrders.j3 k x0 x1 x3 x11 x12 x14 x15 false))) else (bournelaw10_CurveOrders.j3 k x0 x1 x3 x11 x12 x14 x15 false))
def bournelaw10_CurveOrders.j3 : Nat → List (S37) → List (S37) → Int → Bool → Bool → Int → Int → Bool → Option (Bool)
  | 0, _, _, _, _, _, _, _, _ => none
  | k + 1, x0, x1, x3, x11, x12, x14, x15, x132 => if x132 = true then (some false) else ((curve_Band.f k x0 x1 x3).bind fun bt314 => (if x11 = true then (if bt314.1 = (mn x14 x15) then (if bt314.2 = (mx x14 x15) then (if x12 = true then (some (bt314.1 == x14 && (bt314.2 == x15))) else (some true)) else (some false)) else (some false)) else (some false)))
end
def bournelaw10_CurveOrders.f (k : Nat) (l0 : List (S37)) (l1 : List (S37)) (l2 : List (S37)) (a3 : Int) (a4 : Int) : Option (Bool) := (bournelaw10_small.f k).bind fun t299 => (if (l0.length : Int) > 40 then (bournelaw10_CurveOrders.j0 k l0 l1 l2 a3 a4 t299 true) else (if (l1.length : Int) > 40 then (bournelaw10_CurveOrders.j0 k l0 l1 l2 a3 a4 t299 true) else (if (l2.length : Int) > 40 then (bournelaw10_CurveOrders.j0 k l0 l1 l2 a3 a4 t299 true) else ((curve_Right.f k l0).bind fun t300 => (if t300 = true then ((curve_Right.f k l1).bind fun t301 => (if t301 = true then ((curve_Right.f k l2).bind fun t302 => (bournelaw10_CurveOrders.j0 k l0 l1 l2 a3 a4 t299 (!t302))) else (bournelaw10_CurveOrders.j0 k l0 l1 l2 a3 a4 t299 true))) else (bournelaw10_CurveOrders.j0 k l0 l1 l2 a3 a4 t299 true))))))
theorem bournelaw10_CurveOrders.mono_l : ∀ k, (∀ y0 y1 y2 y3 y4 y5 y6, LeO (bournelaw10_CurveOrders.j0 k y0 y1 y2 y3 y4 y5 y6) (bournelaw10_CurveOrders.j0 (k + 1) y0 y1 y2 y3 y4 y5 y6)) ∧ (∀ y0 y1 y2 y3 y4 y5 y6, LeO (bournelaw10_CurveOrders.j1 k y0 y1 y2 y3 y4 y5 y6) (bournelaw10_CurveOrders.j1 (k + 1) y0 y1 y2 y3 y4 y5 y6)) ∧ (∀ y0 y1 y2 y3 y4 y5 y6 y7 y8 y9 y10 y11, LeO (bournelaw10_CurveOrders.j2 k y0 y1 y2 y3 y4 y5 y6 y7 y8 y9 y10 y11) (bournelaw10_CurveOrders.j2 (k + 1) y0 y1 y2 y3 y4 y5 y6 y7 y8 y9 y10 y11)) ∧ (∀ y0 y1 y2 y3 y4 y5 y6 y7, LeO (bournelaw10_CurveOrders.j3 k y0 y1 y2 y3 y4 y5 y6 y7) (bournelaw10_CurveOrders.j3 (k + 1) y0 y1 y2 y3 y4 y5 y6 y7))
  | 0 => ⟨fun _ _ _ _ _ _ _ r h => by simp [bournelaw10_CurveOrders.j0] at h, fun _ _ _ _ _ _ _ r h => by simp [bournelaw10_CurveOrders.j1] at h, fun _ _ _ _ _ _ _ _ _ _ _ _ r h => by simp [bournelaw10_CurveOrders.j2] at h, fun _ _ _ _ _ _ _ _ r h => by simp [bournelaw10_CurveOrders.j3] at h⟩
  | k + 1 => by
    obtain ⟨ih0, ih1, ih2, ih3⟩ := bournelaw10_CurveOrders.mono_l k
    refine ⟨?_, ?_, ?_, ?_⟩
    · intro y0 y1 y2 y3 y4 y5 y6
      unfold bournelaw10_CurveOrders.j0
      repeat' first
      | (with_reducible exact ih0 _ _ _ _ _ _ _)
      | (with_reducible exact ih1 _ _ _ _ _ _ _)
      | (with_reducible exact ih2 _ _ _ _ _ _ _ _ _ _ _ _)
      | (with_reducible exact ih3 _ _ _ _ _ _ _ _)
      | (with_reducible exact bournelaw10_small.mono _)
      | (with_reducible exact curve_At.mono _ _ _)
      | (with_reducible exact curve_Band.mono _ _ _ _)
      | (with_reducible exact curve_Least.mono _ _ _)
      | (with_reducible exact curve_Right.mono _ _)
      | (with_reducible exact curve_Under.mono _ _ _)
      | (with_reducible exact LeO.refl _)
      | (with_reducible exact LeO.none _)
      | (with_reducible refine LeO.ite ?_ ?_)
      | (with_reducible refine LeO.bind ?_ (fun _ => ?_))
      | exact ih0 _ _ _ _ _ _ _
      | exact ih1 _ _ _ _ _ _ _
      | exact ih2 _ _ _ _ _ _ _ _ _ _ _ _
      | exact ih3 _ _ _ _ _ _ _ _
      | exact bournelaw10_small.mono _
      | exact curve_At.mono _ _ _
      | exact curve_Band.mono _ _ _ _
      | exact curve_Least.mono _ _ _
      | exact curve_Right.mono _ _
      | exact curve_Under.mono _ _ _
      | exact LeO.none _
      | refine LeO.ite ?_ ?_
      | refine LeO.bind ?_ (fun _ => ?_)
    · intro y0 y1 y2 y3 y4 y5 y6
      unfold bournelaw10_CurveOrders.j1
      repeat' first
      | (with_reducible exact ih0 _ _ _ _ _ _ _)
      | (with_reducible exact ih1 _ _ _ _ _ _ _)
      | (with_reducible exact ih2 _ _ _ _ _ _ _ _ _ _ _ _)
      | (with_reducible exact ih3 _ _ _ _ _ _ _ _)
      | (with_reducible exact bournelaw10_small.mono _)
      | (with_reducible exact curve_At.mono _ _ _)
      | (with_reducible exact curve_Band.mono _ _ _ _)
      | (with_reducible exact curve_Least.mono _ _ _)
      | (with_reducible exact curve_Right.mono _ _)
      | (with_reducible exact curve_Under.mono _ _ _)
      | (with_reducible exact LeO.refl _)
      | (with_reducible exact LeO.none _)
      | (with_reducible refine LeO.ite ?_ ?_)
      | (with_reducible refine LeO.bind ?_ (fun _ => ?_))
      | exact ih0 _ _ _ _ _ _ _
      | exact ih1 _ _ _ _ _ _ _
      | exact ih2 _ _ _ _ _ _ _ _ _ _ _ _
      | exact ih3 _ _ _ _ _ _ _ _
      | exact bournelaw10_small.mono _
      | exact curve_At.mono _ _ _
      | exact curve_Band.mono _ _ _ _
      | exact curve_Least.mono _ _ _
      | exact curve_Right.mono _ _
      | exact curve_Under.mono _ _ _
      | exact LeO.none _
      | refine LeO.ite ?_ ?_
      | refine LeO.bind ?_ (fun _ => ?_)
    · intro y0 y1 y2 y3 y4 y5 y6 y7 y8 y9 y10 y11
      unfold bournelaw10_CurveOrders.j2
      repeat' first
      | (with_reducible exact ih0 _ _ _ _ _ _ _)
      | (with_reducible exact ih1 _ _ _ _ _ _ _)
      | (with_reducible exact ih2 _ _ _ _ _ _ _ _ _ _ _ _)
      | (with_reducible exact ih3 _ _ _ _ _ _ _ _)
      | (with_reducible exact bournelaw10_small.mono _)
      | (with_reducible exact curve_At.mono _ _ _)
      | (with_reducible exact curve_Band.mono _ _ _ _)
      | (with_reducible exact curve_Least.mono _ _ _)
      | (with_reducible exact curve_Right.mono _ _)
      | (with_reducible exact curve_Under.mono _ _ _)
      | (with_reducible exact LeO.refl _)
      | (with_reducible exact LeO.none _)
      | (with_reducible refine LeO.ite ?_ ?_)
      | (with_reducible refine LeO.bind ?_ (fun _ => ?_))
      | exact ih0 _ _ _ _ _ _ _
      | exact ih1 _ _ _ _ _ _ _
      | exact ih2 _ _ _ _ _ _ _ _ _ _ _ _
      | exact ih3 _ _ _ _ _ _ _ _
      | exact bournelaw10_small.mono _
      | exact curve_At.mono _ _ _
      | exact curve_Band.mono _ _ _ _
      | exact curve_Least.mono _ _ _
      | exact curve_Right.mono _ _
      | exact curve_Under.mono _ _ _
      | exact LeO.none _
      | refine LeO.ite ?_ ?_
      | refine LeO.bind ?_ (fun _ => ?_)
    · intro y0 y1 y2 y3 y4 y5 y6 y7
      unfold bournelaw10_CurveOrders.j3
      repeat' first
      | (with_reducible exact ih0 _ _ _ _ _ _ _)
      | (with_reducible exact ih1 _ _ _ _ _ _ _)
      | (with_reducible exact ih2 _ _ _ _ _ _ _ _ _ _ _ _)
      | (with_reducible exact ih3 _ _ _ _ _ _ _ _)
      | (with_reducible exact bournelaw10_small.mono _)
      | (with_reducible exact curve_At.mono _ _ _)
      | (with_reducible exact curve_Band.mono _ _ _ _)
      | (with_reducible exact curve_Least.mono _ _ _)
      | (with_reducible exact curve_Right.mono _ _)
      | (with_reducible exact curve_Under.mono _ _ _)
      | (with_reducible exact LeO.refl _)
      | (with_reducible exact LeO.none _)
      | (with_reducible refine LeO.ite ?_ ?_)
      | (with_reducible refine LeO.bind ?_ (fun _ => ?_))
      | exact ih0 _ _ _ _ _ _ _
      | exact ih1 _ _ _ _ _ _ _
      | exact ih2 _ _ _ _ _ _ _ _ _ _ _ _
      | exact ih3 _ _ _ _ _ _ _ _
      | exact bournelaw10_small.mono _
      | exact curve_At.mono _ _ _
      | exact curve_Band.mono _ _ _ _
      | exact curve_Least.mono _ _ _
      | exact curve_Right.mono _ _
      | exact curve_Under.mono _ _ _
      | exact LeO.none _
      | refine LeO.ite ?_ ?_
      | refine LeO.bind ?_ (fun _ => ?_)
theorem bournelaw10_CurveOrders.mono : ∀ a0 a1 a2 a3 a4 k, LeO (bournelaw10_CurveOrders.f k a0 a1 a2 a3 a4) (bournelaw10_CurveOrders.f (k + 1) a0 a1 a2 a3 a4) := by
  intro a0 a1 a2 a3 a4 k
  obtain ⟨ih0, ih1, ih2, ih3⟩ := bournelaw10_CurveOrders.mono_l k
  unfold bournelaw10_CurveOrders.f
  repeat' first
      | (with_reducible exact ih0 _ _ _ _ _ _ _)
      | (with_reducible exact ih1 _ _ _ _ _ _ _)
      | (with_reducible exact ih2 _ _ _ _ _ _ _ _ _ _ _ _)
      | (with_reducible exact ih3 _ _ _ _ _ _ _ _)
      | (with_reducible exact bournelaw10_small.mono _)
      | (with_reducible exact curve_At.mono _ _ _)
      | (with_reducible exact curve_Band.mono _ _ _ _)
      | (with_reducible exact curve_Least.mono _ _ _)
      | (with_reducible exact curve_Right.mono _ _)
      | (with_reducible exact curve_Under.mono _ _ _)
      | (with_reducible exact LeO.refl _)
      | (with_reducible exact LeO.none _)
      | (with_reducible refine LeO.ite ?_ ?_)
      | (with_reducible refine LeO.bind ?_ (fun _ => ?_))
      | exact ih0 _ _ _ _ _ _ _
      | exact ih1 _ _ _ _ _ _ _
      | exact ih2 _ _ _ _ _ _ _ _ _ _ _ _
      | exact ih3 _ _ _ _ _ _ _ _
      | exact bournelaw10_small.mono _
      | exact curve_At.mono _ _ _
      | exact curve_Band.mono _ _ _ _
      | exact curve_Least.mono _ _ _
      | exact curve_Right.mono _ _
      | exact curve_Under.mono _ _ _
      | exact LeO.none _
      | refine LeO.ite ?_ ?_
      | refine LeO.bind ?_ (fun _ => ?_)
set_option maxHeartbeats 8000000 in
set_option maxRecDepth 100000 in
theorem bournelaw10_CurveOrders.calls (k : Nat) (A0 : Option Addr) (c0 : Nat) (l0 : List (S37)) (A1 : Option Addr) (c1 : Nat) (l1 : List (S37)) (A2 : Option Addr) (c2 : Nat) (l2 : List (S37)) (a3 : Int) (a4 : Int) (r : Bool) (w : World) (hr0 : Kd.C k37 w A0 l0.length l0) (hc0 : l0.length ≤ c0) (hr1 : Kd.C k37 w A1 l1.length l1) (hc1 : l1.length ≤ c1) (hr2 : Kd.C k37 w A2 l2.length l2) (hc2 : l2.length ≤ c2) (hT : Aside0 (r = true)) (h : bournelaw10_CurveOrders.f k l0 l1 l2 a3 a4 = some r) :
    Calls Try.prog 6 #[.slice A0 l0.length c0, .slice A1 l1.length c1, .slice A2 l2.length c2, .int .i64 a3, .int .i64 a4] w fun e w' => e = .returned (.bool r) ∧ Below w.heap.size w w' := by
  have hu29 := Try.underlying29
  have hu33 := Try.underlying33
  have HR0 := Aside0.mk hr0
  have HC0 := Aside0.mk hc0
  clear hr0 hc0
  have HR1 := Aside0.mk hr1
  have HC1 := Aside0.mk hc1
  clear hr1 hc1
  have HR2 := Aside0.mk hr2
  have HC2 := Aside0.mk hc2
  clear hr2 hc2
  have HB := Aside0.mk (Below.refl w.heap.size w)
  have H : ((bournelaw10_small.f k).bind fun t299 => (if (l0.length : Int) > 40 then (bournelaw10_CurveOrders.j0 k l0 l1 l2 a3 a4 t299 true) else (if (l1.length : Int) > 40 then (bournelaw10_CurveOrders.j0 k l0 l1 l2 a3 a4 t299 true) else (if (l2.length : Int) > 40 then (bournelaw10_CurveOrders.j0 k l0 l1 l2 a3 a4 t299 true) else ((curve_Right.f k l0).bind fun t300 => (if t300 = true then ((curve_Right.f k l1).bind fun t301 => (if t301 = true then ((curve_Right.f k l2).bind fun t302 => (bournelaw10_CurveOrders.j0 k l0 l1 l2 a3 a4 t299 (!t302))) else (bournelaw10_CurveOrders.j0 k l0 l1 l2 a3 a4 t299 true))) else (bournelaw10_CurveOrders.j0 k l0 l1 l2 a3 a4 t299 true))))))) = some r := h
  clear h
  replace H := Option.bind_eq_some_iff.mp H
  obtain ⟨t299, A60, H⟩ := H
  have A6 := Aside0.mk A60
  clear A60
  have HC7 := Aside0.mk H
  clear H
  go_enter Try.func6, Try.ntmps6
  (try simp only [List.append_eq, List.cons_append, List.nil_append])
  go_upto_region 2 with (first | ((with_reducible refine gate_callee (f := 8) rfl ?_); refine goesL_ (some 21) rfl rfl Try.func8 (by kernel_rfl) rfl #[] rfl (by (try simp only [List.map_toArray, List.map_cons, List.map_nil]); first | done | rfl | (simp only [List.length_drop, List.length_take]; rfl)) ?_; (with_reducible refine (bournelaw10_small.calls k  t299 _ A6.out).mono ?_); rintro e w8 ⟨rfl, hb⟩; refine ⟨_, rfl, ?_⟩; have n0_ := Aside0.mk (below_step (by repeat (first | (with_reducible first | exact HB.out | apply below_alloc | apply pw_below_drewN | apply below_drew1) | exact HB.out)) hb); clear HB; have HB := n0_; clear n0_; (try clear hb); (try clear hb2); (try clear hk); (try clear hi)))
  (try simp only [Act.put, List.setIfInBounds_toArray, List.set_cons_zero, List.set_cons_succ])
  go_cut [49] (fun v49 wc => ∃ (kq : Nat) (x49_6 : Bool), v49 = .bool x49_6 ∧ Aside0 (bournelaw10_CurveOrders.j0 kq l0 l1 l2 a3 a4 t299 x49_6 = some r) ∧ Aside0 (kq ≤ k) ∧ Aside0 (Below w.heap.size w wc))
  case first =>
    have H := HC7.out
    clear HC7
    by_cases c9 : (l0.length : Int) > 40
    · rw [if_pos c9] at H
      have c9b0 : decide (40 < (l0.length : Int)) = true := decide_eq_true c9
      have c9b1 : decide (40 < l0.length) = true := decide_eq_true (by omega)
      clear c9
      (first | rw [c9b0] | (simp only [i64_w, i32_w]; rw [c9b0]) | skip)
      have H' := Aside0.mk H
      clear H
      go_wp2
      go_meet
      case rel => exact ⟨_, (true), (by first | rfl | (simp; done) | (simp [*]; done)), H', ⟨by first | omega | exact Nat.le_refl _⟩, ⟨by repeat (first | (with_reducible first | exact HB.out | apply below_alloc | apply pw_below_drewN | apply below_drew1) | exact HB.out)⟩⟩
    · rw [if_neg c9] at H
      have c9b0 : decide (40 < (l0.length : Int)) = false := decide_eq_false c9
      have c9b1 : decide (40 < l0.length) = false := decide_eq_false (by omega)
      clear c9
      (first | rw [c9b0] | (simp only [i64_w, i32_w]; rw [c9b0]) | skip)
      by_cases c10 : (l1.length : Int) > 40
      · rw [if_pos c10] at H
        have c10b0 : decide (40 < (l1.length : Int)) = true := decide_eq_true c10
        have c10b1 : decide (40 < l1.length) = true := decide_eq_true (by omega)
        clear c10
        have H' := Aside0.mk H
        clear H
        go_wp2
        go_meet
        case rel => exact ⟨_, (true), (by first | rfl | (simp; done) | (simp [*]; done)), H', ⟨by first | omega | exact Nat.le_refl _⟩, ⟨by repeat (first | (with_reducible first | exact HB.out | apply below_alloc | apply pw_below_drewN | apply below_drew1) | exact HB.out)⟩⟩
      · rw [if_neg c10] at H
        have c10b0 : decide (40 < (l1.length : Int)) = false := decide_eq_false c10
        have c10b1 : decide (40 < l1.length) = false := decide_eq_false (by omega)
        clear c10
        by_cases c11 : (l2.length : Int) > 40
        · rw [if_pos c11] at H
          have c11b0 : decide (40 < (l2.length : Int)) = true := decide_eq_true c11
          have c11b1 : decide (40 < l2.length) = true := decide_eq_true (by omega)
          clear c11
          have H' := Aside0.mk H
          clear H
          go_wp2
          go_meet
          case rel => exact ⟨_, (true), (by first | rfl | (simp; done) | (simp [*]; done)), H', ⟨by first | omega | exact Nat.le_refl _⟩, ⟨by repeat (first | (with_reducible first | exact HB.out | apply below_alloc | apply pw_below_drewN | apply below_drew1) | exact HB.out)⟩⟩
        · rw [if_neg c11] at H
          have c11b0 : decide (40 < (l2.length : Int)) = false := decide_eq_false c11
          have c11b1 : decide (40 < l2.length) = false := decide_eq_false (by omega)
          clear c11
          replace H := Option.bind_eq_some_iff.mp H
          obtain ⟨t300, A120, H⟩ := H
          have A12 := Aside0.mk A120
          clear A120
          by_cases c13 : t300 = true
          · subst c13
            have H1 : ((curve_Right.f k l1).bind fun t301 => (if t301 = true then ((curve_Right.f k l2).bind fun t302 => (bournelaw10_CurveOrders.j0 k l0 l1 l2 a3 a4 t299 (!t302))) else (bournelaw10_CurveOrders.j0 k l0 l1 l2 a3 a4 t299 true))) = some r := by rw [if_pos rfl] at H; exact H
            clear H
            have H := H1
            clear H1
            replace H := Option.bind_eq_some_iff.mp H
            obtain ⟨t301, A140, H⟩ := H
            have A14 := Aside0.mk A140
            clear A140
            by_cases c15 : t301 = true
            · subst c15
              have H1 : ((curve_Right.f k l2).bind fun t302 => (bournelaw10_CurveOrders.j0 k l0 l1 l2 a3 a4 t299 (!t302))) = some r := by rw [if_pos rfl] at H; exact H
              clear H
              have H := H1
              clear H1
              replace H := Option.bind_eq_some_iff.mp H
              obtain ⟨t302, A160, H⟩ := H
              have A16 := Aside0.mk A160
              clear A160
              have H' := Aside0.mk H
              clear H
              go_wp2_with (first | (go_at_call 11; (with_reducible refine (curve_Right.calls k _ _ l0 true _ ?side1 ?side2 A12.out).mono ?_); (case side1 => repeat (first | exact (Kd.C_below HR0.out HB.out) | (with_reducible refine Kd.C_alloc ?_ _) | (with_reducible refine Kd.C_drewN ?_ _) | (with_reducible refine Kd.C_drew ?_))); (case side2 => exact HC0.out); rintro e w17 ⟨rfl, hb⟩; (try clear A12); have n0_ := Aside0.mk (below_step (by repeat (first | (with_reducible first | exact HB.out | apply below_alloc | apply pw_below_drewN | apply below_drew1) | exact HB.out)) hb); clear HB; have HB := n0_; clear n0_; (try clear hb); (try clear hb2); (try clear hk); (try clear hi)) | (go_at_call 11; (with_reducible refine (curve_Right.calls k _ _ l1 true _ ?side1 ?side2 A14.out).mono ?_); (case side1 => repeat (first | exact (Kd.C_below HR1.out HB.out) | (with_reducible refine Kd.C_alloc ?_ _) | (with_reducible refine Kd.C_drewN ?_ _) | (with_reducible refine Kd.C_drew ?_))); (case side2 => exact HC1.out); rintro e w18 ⟨rfl, hb⟩; (try clear A14); have n0_ := Aside0.mk (below_step (by repeat (first | (with_reducible first | exact HB.out | apply below_alloc | apply pw_below_drewN | apply below_drew1) | exact HB.out)) hb); clear HB; have HB := n0_; clear n0_; (try clear hb); (try clear hb2); (try clear hk); (try clear hi)) | (go_at_call 11; (with_reducible refine (curve_Right.calls k _ _ l2 t302 _ ?side1 ?side2 A16.out).mono ?_); (case side1 => repeat (first | exact (Kd.C_below HR2.out HB.out) | (with_reducible refine Kd.C_alloc ?_ _) | (with_reducible refine Kd.C_drewN ?_ _) | (with_reducible refine Kd.C_drew ?_))); (case side2 => exact HC2.out); rintro e w19 ⟨rfl, hb⟩; (try clear A16); have n0_ := Aside0.mk (below_step (by repeat (first | (with_reducible first | exact HB.out | apply below_alloc | apply pw_below_drewN | apply below_drew1) | exact HB.out)) hb); clear HB; have HB := n0_; clear n0_; (try clear hb); (try clear hb2); (try clear hk); (try clear hi)))
              go_meet
              case rel => exact ⟨_, (!t302), (by first | rfl | (simp; done) | (simp [*]; done)), H', ⟨by first | omega | exact Nat.le_refl _⟩, ⟨by repeat (first | (with_reducible first | exact HB.out | apply below_alloc | apply pw_below_drewN | apply below_drew1) | exact HB.out)⟩⟩
            · replace c15 := Bool.eq_false_iff.mpr c15
              subst c15
              have H1 : (bournelaw10_CurveOrders.j0 k l0 l1 l2 a3 a4 t299 true) = some r := by rw [if_neg (show ¬ (false = true) by decide)] at H; exact H
              clear H
              have H := H1
              clear H1
              have H' := Aside0.mk H
              clear H
              go_wp2_with (first | (go_at_call 11; (with_reducible refine (curve_Right.calls k _ _ l0 true _ ?side1 ?side2 A12.out).mono ?_); (case side1 => repeat (first | exact (Kd.C_below HR0.out HB.out) | (with_reducible refine Kd.C_alloc ?_ _) | (with_reducible refine Kd.C_drewN ?_ _) | (with_reducible refine Kd.C_drew ?_))); (case side2 => exact HC0.out); rintro e w20 ⟨rfl, hb⟩; (try clear A12); have n0_ := Aside0.mk (below_step (by repeat (first | (with_reducible first | exact HB.out | apply below_alloc | apply pw_below_drewN | apply below_drew1) | exact HB.out)) hb); clear HB; have HB := n0_; clear n0_; (try clear hb); (try clear hb2); (try clear hk); (try clear hi)) | (go_at_call 11; (with_reducible refine (curve_Right.calls k _ _ l1 false _ ?side1 ?side2 A14.out).mono ?_); (case side1 => repeat (first | exact (Kd.C_below HR1.out HB.out) | (with_reducible refine Kd.C_alloc ?_ _) | (with_reducible refine Kd.C_drewN ?_ _) | (with_reducible refine Kd.C_drew ?_))); (case side2 => exact HC1.out); rintro e w21 ⟨rfl, hb⟩; (try clear A14); have n0_ := Aside0.mk (below_step (by repeat (first | (with_reducible first | exact HB.out | apply below_alloc | apply pw_below_drewN | apply below_drew1) | exact HB.out)) hb); clear HB; have HB := n0_; clear n0_; (try clear hb); (try clear hb2); (try clear hk); (try clear hi)))
              go_meet
              case rel => exact ⟨_, (true), (by first | rfl | (simp; done) | (simp [*]; done)), H', ⟨by first | omega | exact Nat.le_refl _⟩, ⟨by repeat (first | (with_reducible first | exact HB.out | apply below_alloc | apply pw_below_drewN | apply below_drew1) | exact HB.out)⟩⟩
          · replace c13 := Bool.eq_false_iff.mpr c13
            subst c13
            have H1 : (bournelaw10_CurveOrders.j0 k l0 l1 l2 a3 a4 t299 true) = some r := by rw [if_neg (show ¬ (false = true) by decide)] at H; exact H
            clear H
            have H := H1
            clear H1
            have H' := Aside0.mk H
            clear H
            go_wp2_with (first | (go_at_call 11; (with_reducible refine (curve_Right.calls k _ _ l0 false _ ?side1 ?side2 A12.out).mono ?_); (case side1 => repeat (first | exact (Kd.C_below HR0.out HB.out) | (with_reducible refine Kd.C_alloc ?_ _) | (with_reducible refine Kd.C_drewN ?_ _) | (with_reducible refine Kd.C_drew ?_))); (case side2 => exact HC0.out); rintro e w22 ⟨rfl, hb⟩; (try clear A12); have n0_ := Aside0.mk (below_step (by repeat (first | (with_reducible first | exact HB.out | apply below_alloc | apply pw_below_drewN | apply below_drew1) | exact HB.out)) hb); clear HB; have HB := n0_; clear n0_; (try clear hb); (try clear hb2); (try clear hk); (try clear hi)))
            go_meet
            case rel => exact ⟨_, (true), (by first | rfl | (simp; done) | (simp [*]; done)), H', ⟨by first | omega | exact Nat.le_refl _⟩, ⟨by repeat (first | (with_reducible first | exact HB.out | apply below_alloc | apply pw_below_drewN | apply below_drew1) | exact HB.out)⟩⟩
  case rest =>
    clear HC7
    try clear c1
    try clear c2
    try clear p2
    try clear c6
    try clear c8
    try clear c9
    try clear c9b0
    try clear c9b1
    try clear c10
    try clear c10b0
    try clear c10b1
    try clear c11
    try clear c11b0
    try clear c11b1
    try clear c13
    try clear c15
    obtain ⟨kq, x49_6, rfl, HA, HJ6, HB⟩ := hcut
    cases kq with
    | zero => exact absurd HA.out (by simp [bournelaw10_CurveOrders.j0])
    | succ kj6 =>
      have H := HA.out
      clear HA
      simp only [bournelaw10_CurveOrders.j0] at H
      by_cases c23 : x49_6 = true
      · subst c23
        have H1 : (some t299) = some r := by rw [if_pos rfl] at H; exact H
        clear H
        have H := H1
        clear H1
        obtain rfl := Option.some.inj H
        go_wp2
        go_ret
        exact ⟨by first | rfl | (simp [errW_none, errW_some] <;> rfl) | (simp [*, errW_none, errW_some] <;> rfl), by repeat (first | (with_reducible first | exact HB.out | apply below_alloc | apply pw_below_drewN | apply below_drew1) | exact HB.out)⟩
      · replace c23 := Bool.eq_false_iff.mpr c23
        subst c23
        have H1 : ((curve_Under.f kj6 l0 l1).bind fun t303 => ((curve_Under.f kj6 l1 l2).bind fun t304 => ((curve_Under.f kj6 l0 l0).bind fun t305 => (if t305 = true then (if t303 = true then (if t304 = true then ((curve_Under.f kj6 l0 l2).bind fun t306 => (bournelaw10_CurveOrders.j1 kj6 l0 l1 a3 a4 t299 t303 (!t306))) else (bournelaw10_CurveOrders.j1 kj6 l0 l1 a3 a4 t299 t303 false)) else (bournelaw10_CurveOrders.j1 kj6 l0 l1 a3 a4 t299 t303 false)) else (bournelaw10_CurveOrders.j1 kj6 l0 l1 a3 a4 t299 t303 true))))) = some r := by rw [if_neg (show ¬ (false = true) by decide)] at H; exact H
        clear H
        have H := H1
        clear H1
        replace H := Option.bind_eq_some_iff.mp H
        obtain ⟨t303, A240, H⟩ := H
        have A24 := Aside0.mk A240
        clear A240
        replace H := Option.bind_eq_some_iff.mp H
        obtain ⟨t304, A250, H⟩ := H
        have A25 := Aside0.mk A250
        clear A250
        have HC26 := Aside0.mk H
        clear H
        go_upto_region 6 with (first | ((with_reducible refine gate_callee (f := 17) rfl ?_); refine goesL_ (some 53) rfl rfl Try.func17 (by kernel_rfl) rfl #[.slice A0 l0.length c0, .slice A1 l1.length c1] rfl (by (try simp only [List.map_toArray, List.map_cons, List.map_nil]); first | done | rfl | (simp only [List.length_drop, List.length_take]; rfl)) ?_; (with_reducible refine (curve_Under.calls kj6 _ _ l0 _ _ l1 t303 _ ?side1 ?side2 ?side3 ?side4 A24.out).mono ?_); (case side1 => repeat (first | exact (Kd.C_below HR0.out HB.out) | (with_reducible refine Kd.C_alloc ?_ _) | (with_reducible refine Kd.C_drewN ?_ _) | (with_reducible refine Kd.C_drew ?_))); (case side2 => exact HC0.out); (case side3 => repeat (first | exact (Kd.C_below HR1.out HB.out) | (with_reducible refine Kd.C_alloc ?_ _) | (with_reducible refine Kd.C_drewN ?_ _) | (with_reducible refine Kd.C_drew ?_))); (case side4 => exact HC1.out); rintro e w27 ⟨rfl, hb⟩; refine ⟨_, rfl, ?_⟩; have n0_ := Aside0.mk (below_step (by repeat (first | (with_reducible first | exact HB.out | apply below_alloc | apply pw_below_drewN | apply below_drew1) | exact HB.out)) hb); clear HB; have HB := n0_; clear n0_; (try clear hb); (try clear hb2); (try clear hk); (try clear hi)) | ((with_reducible refine gate_callee (f := 17) rfl ?_); refine goesL_ (some 56) rfl rfl Try.func17 (by kernel_rfl) rfl #[.slice A1 l1.length c1, .slice A2 l2.length c2] rfl (by (try simp only [List.map_toArray, List.map_cons, List.map_nil]); first | done | rfl | (simp only [List.length_drop, List.length_take]; rfl)) ?_; (with_reducible refine (curve_Under.calls kj6 _ _ l1 _ _ l2 t304 _ ?side1 ?side2 ?side3 ?side4 A25.out).mono ?_); (case side1 => repeat (first | exact (Kd.C_below HR1.out HB.out) | (with_reducible refine Kd.C_alloc ?_ _) | (with_reducible refine Kd.C_drewN ?_ _) | (with_reducible refine Kd.C_drew ?_))); (case side2 => exact HC1.out); (case side3 => repeat (first | exact (Kd.C_below HR2.out HB.out) | (with_reducible refine Kd.C_alloc ?_ _) | (with_reducible refine Kd.C_drewN ?_ _) | (with_reducible refine Kd.C_drew ?_))); (case side4 => exact HC2.out); rintro e w28 ⟨rfl, hb⟩; refine ⟨_, rfl, ?_⟩; have n0_ := Aside0.mk (below_step (by repeat (first | (with_reducible first | exact HB.out | apply below_alloc | apply pw_below_drewN | apply below_drew1) | exact HB.out)) hb); clear HB; have HB := n0_; clear n0_; (try clear hb); (try clear hb2); (try clear hk); (try clear hi)))
        (try simp only [Act.put, List.setIfInBounds_toArray, List.set_cons_zero, List.set_cons_succ])
        go_cut [72] (fun v72 wc => ∃ (kq : Nat) (x72_25 : Bool), v72 = .bool x72_25 ∧ Aside0 (bournelaw10_CurveOrders.j1 kq l0 l1 a3 a4 t299 t303 x72_25 = some r) ∧ Aside0 (kq ≤ kj6) ∧ Aside0 (Below w.heap.size w wc))
        case first =>
          have H := HC26.out
          clear HC26
          replace H := Option.bind_eq_some_iff.mp H
          obtain ⟨t305, A290, H⟩ := H
          have A29 := Aside0.mk A290
          clear A290
          by_cases c30 : t305 = true
          · subst c30
            have H1 : (if t303 = true then (if t304 = true then ((curve_Under.f kj6 l0 l2).bind fun t306 => (bournelaw10_CurveOrders.j1 kj6 l0 l1 a3 a4 t299 t303 (!t306))) else (bournelaw10_CurveOrders.j1 kj6 l0 l1 a3 a4 t299 t303 false)) else (bournelaw10_CurveOrders.j1 kj6 l0 l1 a3 a4 t299 t303 false)) = some r := by rw [if_pos rfl] at H; exact H
            clear H
            have H := H1
            clear H1
            by_cases c31 : t303 = true
            · subst c31
              have H1 : (if t304 = true then ((curve_Under.f kj6 l0 l2).bind fun t306 => (bournelaw10_CurveOrders.j1 kj6 l0 l1 a3 a4 t299 true (!t306))) else (bournelaw10_CurveOrders.j1 kj6 l0 l1 a3 a4 t299 true false)) = some r := by rw [if_pos rfl] at H; exact H
              clear H
              have H := H1
              clear H1
              by_cases c32 : t304 = true
              · subst c32
                have H1 : ((curve_Under.f kj6 l0 l2).bind fun t306 => (bournelaw10_CurveOrders.j1 kj6 l0 l1 a3 a4 t299 true (!t306))) = some r := by rw [if_pos rfl] at H; exact H
                clear H
                have H := H1
                clear H1
                replace H := Option.bind_eq_some_iff.mp H
                obtain ⟨t306, A330, H⟩ := H
                have A33 := Aside0.mk A330
                clear A330
                have H' := Aside0.mk H
                clear H
                go_wp2_with (first | ((with_reducible refine gate_callee (f := 17) rfl ?_); refine goesL_ (some 59) rfl rfl Try.func17 (by kernel_rfl) rfl #[.slice A0 l0.length c0, .slice A0 l0.length c0] rfl (by (try simp only [List.map_toArray, List.map_cons, List.map_nil]); first | done | rfl | (simp only [List.length_drop, List.length_take]; rfl)) ?_; (with_reducible refine (curve_Under.calls kj6 _ _ l0 _ _ l0 true _ ?side1 ?side2 ?side3 ?side4 A29.out).mono ?_); (case side1 => repeat (first | exact (Kd.C_below HR0.out HB.out) | (with_reducible refine Kd.C_alloc ?_ _) | (with_reducible refine Kd.C_drewN ?_ _) | (with_reducible refine Kd.C_drew ?_))); (case side2 => exact HC0.out); (case side3 => repeat (first | exact (Kd.C_below HR0.out HB.out) | (with_reducible refine Kd.C_alloc ?_ _) | (with_reducible refine Kd.C_drewN ?_ _) | (with_reducible refine Kd.C_drew ?_))); (case side4 => exact HC0.out); rintro e w34 ⟨rfl, hb⟩; refine ⟨_, rfl, ?_⟩; have n0_ := Aside0.mk (below_step (by repeat (first | (with_reducible first | exact HB.out | apply below_alloc | apply pw_below_drewN | apply below_drew1) | exact HB.out)) hb); clear HB; have HB := n0_; clear n0_; (try clear hb); (try clear hb2); (try clear hk); (try clear hi)) | (go_at_call 17; (with_reducible refine (curve_Under.calls kj6 _ _ l0 _ _ l2 t306 _ ?side1 ?side2 ?side3 ?side4 A33.out).mono ?_); (case side1 => repeat (first | exact (Kd.C_below HR0.out HB.out) | (with_reducible refine Kd.C_alloc ?_ _) | (with_reducible refine Kd.C_drewN ?_ _) | (with_reducible refine Kd.C_drew ?_))); (case side2 => exact HC0.out); (case side3 => repeat (first | exact (Kd.C_below HR2.out HB.out) | (with_reducible refine Kd.C_alloc ?_ _) | (with_reducible refine Kd.C_drewN ?_ _) | (with_reducible refine Kd.C_drew ?_))); (case side4 => exact HC2.out); rintro e w35 ⟨rfl, hb⟩; (try clear A33); have n0_ := Aside0.mk (below_step (by repeat (first | (with_reducible first | exact HB.out | apply below_alloc | apply pw_below_drewN | apply below_drew1) | exact HB.out)) hb); clear HB; have HB := n0_; clear n0_; (try clear hb); (try clear hb2); (try clear hk); (try clear hi)))
                go_meet
                case rel => exact ⟨_, (!t306), (by first | rfl | (simp; done) | (simp [*]; done)), H', ⟨by have := HJ6.out; first | omega | exact Nat.le_refl _⟩, ⟨by repeat (first | (with_reducible first | exact HB.out | apply below_alloc | apply pw_below_drewN | apply below_drew1) | exact HB.out)⟩⟩
              · replace c32 := Bool.eq_false_iff.mpr c32
                subst c32
                have H1 : (bournelaw10_CurveOrders.j1 kj6 l0 l1 a3 a4 t299 true false) = some r := by rw [if_neg (show ¬ (false = true) by decide)] at H; exact H
                clear H
                have H := H1
                clear H1
                have H' := Aside0.mk H
                clear H
                go_wp2_with (first | ((with_reducible refine gate_callee (f := 17) rfl ?_); refine goesL_ (some 59) rfl rfl Try.func17 (by kernel_rfl) rfl #[.slice A0 l0.length c0, .slice A0 l0.length c0] rfl (by (try simp only [List.map_toArray, List.map_cons, List.map_nil]); first | done | rfl | (simp only [List.length_drop, List.length_take]; rfl)) ?_; (with_reducible refine (curve_Under.calls kj6 _ _ l0 _ _ l0 true _ ?side1 ?side2 ?side3 ?side4 A29.out).mono ?_); (case side1 => repeat (first | exact (Kd.C_below HR0.out HB.out) | (with_reducible refine Kd.C_alloc ?_ _) | (with_reducible refine Kd.C_drewN ?_ _) | (with_reducible refine Kd.C_drew ?_))); (case side2 => exact HC0.out); (case side3 => repeat (first | exact (Kd.C_below HR0.out HB.out) | (with_reducible refine Kd.C_alloc ?_ _) | (with_reducible refine Kd.C_drewN ?_ _) | (with_reducible refine Kd.C_drew ?_))); (case side4 => exact HC0.out); rintro e w36 ⟨rfl, hb⟩; refine ⟨_, rfl, ?_⟩; have n0_ := Aside0.mk (below_step (by repeat (first | (with_reducible first | exact HB.out | apply below_alloc | apply pw_below_drewN | apply below_drew1) | exact HB.out)) hb); clear HB; have HB := n0_; clear n0_; (try clear hb); (try clear hb2); (try clear hk); (try clear hi)))
                go_meet
                case rel => exact ⟨_, (false), (by first | rfl | (simp; done) | (simp [*]; done)), H', ⟨by have := HJ6.out; first | omega | exact Nat.le_refl _⟩, ⟨by repeat (first | (with_reducible first | exact HB.out | apply below_alloc | apply pw_below_drewN | apply below_drew1) | exact HB.out)⟩⟩
            · replace c31 := Bool.eq_false_iff.mpr c31
              subst c31
              have H1 : (bournelaw10_CurveOrders.j1 kj6 l0 l1 a3 a4 t299 false false) = some r := by rw [if_neg (show ¬ (false = true) by decide)] at H; exact H
              clear H
              have H := H1
              clear H1
              have H' := Aside0.mk H
              clear H
              go_wp2_with (first | ((with_reducible refine gate_callee (f := 17) rfl ?_); refine goesL_ (some 59) rfl rfl Try.func17 (by kernel_rfl) rfl #[.slice A0 l0.length c0, .slice A0 l0.length c0] rfl (by (try simp only [List.map_toArray, List.map_cons, List.map_nil]); first | done | rfl | (simp only [List.length_drop, List.length_take]; rfl)) ?_; (with_reducible refine (curve_Under.calls kj6 _ _ l0 _ _ l0 true _ ?side1 ?side2 ?side3 ?side4 A29.out).mono ?_); (case side1 => repeat (first | exact (Kd.C_below HR0.out HB.out) | (with_reducible refine Kd.C_alloc ?_ _) | (with_reducible refine Kd.C_drewN ?_ _) | (with_reducible refine Kd.C_drew ?_))); (case side2 => exact HC0.out); (case side3 => repeat (first | exact (Kd.C_below HR0.out HB.out) | (with_reducible refine Kd.C_alloc ?_ _) | (with_reducible refine Kd.C_drewN ?_ _) | (with_reducible refine Kd.C_drew ?_))); (case side4 => exact HC0.out); rintro e w37 ⟨rfl, hb⟩; refine ⟨_, rfl, ?_⟩; have n0_ := Aside0.mk (below_step (by repeat (first | (with_reducible first | exact HB.out | apply below_alloc | apply pw_below_drewN | apply below_drew1) | exact HB.out)) hb); clear HB; have HB := n0_; clear n0_; (try clear hb); (try clear hb2); (try clear hk); (try clear hi)))
              go_meet
              case rel => exact ⟨_, (false), (by first | rfl | (simp; done) | (simp [*]; done)), H', ⟨by have := HJ6.out; first | omega | exact Nat.le_refl _⟩, ⟨by repeat (first | (with_reducible first | exact HB.out | apply below_alloc | apply pw_below_drewN | apply below_drew1) | exact HB.out)⟩⟩
          · replace c30 := Bool.eq_false_iff.mpr c30
            subst c30
            have H1 : (bournelaw10_CurveOrders.j1 kj6 l0 l1 a3 a4 t299 t303 true) = some r := by rw [if_neg (show ¬ (false = true) by decide)] at H; exact H
            clear H
            have H := H1
            clear H1
            have H' := Aside0.mk H
            clear H
            go_wp2_with (first | ((with_reducible refine gate_callee (f := 17) rfl ?_); refine goesL_ (some 59) rfl rfl Try.func17 (by kernel_rfl) rfl #[.slice A0 l0.length c0, .slice A0 l0.length c0] rfl (by (try simp only [List.map_toArray, List.map_cons, List.map_nil]); first | done | rfl | (simp only [List.length_drop, List.length_take]; rfl)) ?_; (with_reducible refine (curve_Under.calls kj6 _ _ l0 _ _ l0 false _ ?side1 ?side2 ?side3 ?side4 A29.out).mono ?_); (case side1 => repeat (first | exact (Kd.C_below HR0.out HB.out) | (with_reducible refine Kd.C_alloc ?_ _) | (with_reducible refine Kd.C_drewN ?_ _) | (with_reducible refine Kd.C_drew ?_))); (case side2 => exact HC0.out); (case side3 => repeat (first | exact (Kd.C_below HR0.out HB.out) | (with_reducible refine Kd.C_alloc ?_ _) | (with_reducible refine Kd.C_drewN ?_ _) | (with_reducible refine Kd.C_drew ?_))); (case side4 => exact HC0.out); rintro e w38 ⟨rfl, hb⟩; refine ⟨_, rfl, ?_⟩; have n0_ := Aside0.mk (below_step (by repeat (first | (with_reducible first | exact HB.out | apply below_alloc | apply pw_below_drewN | apply below_drew1) | exact HB.out)) hb); clear HB; have HB := n0_; clear n0_; (try clear hb); (try clear hb2); (try clear hk); (try clear hi)))
            go_meet
            case rel => exact ⟨_, (true), (by first | rfl | (simp; done) | (simp [*]; done)), H', ⟨by have := HJ6.out; first | omega | exact Nat.le_refl _⟩, ⟨by repeat (first | (with_reducible first | exact HB.out | apply below_alloc | apply pw_below_drewN | apply below_drew1) | exact HB.out)⟩⟩
        case rest =>
          clear HC26
          try clear c1
          try clear c2
          try clear p2
          try clear c3
          try clear c6
          try clear c8
          try clear c9
          try clear c9b0
          try clear c9b1
          try clear c10
          try clear c10b0
          try clear c10b1
          try clear c11
          try clear c11b0
          try clear c11b1
          try clear c13
          try clear c15
          try clear c17
          try clear c23
          try clear c30
          try clear c31
          try clear c32
          try clear p2
          obtain ⟨kq, x72_25, rfl, HA, HJ25, HB⟩ := hcut
          cases kq with
          | zero => exact absurd HA.out (by simp [bournelaw10_CurveOrders.j1])
          | succ kj25 =>
            have H := HA.out
            clear HA
            simp only [bournelaw10_CurveOrders.j1] at H
            by_cases c39 : x72_25 = true
            · subst c39
              have H1 : (some false) = some r := by rw [if_pos rfl] at H; exact H
              clear H
              have H := H1
              clear H1
              exact absurd (H.trans (congrArg some hT.out)) (by simp)
            · replace c39 := Bool.eq_false_iff.mpr c39
              subst c39
              have H1 : ((curve_At.f kj25 l0 a3).bind fun t307 => ((curve_At.f kj25 l1 a3).bind fun t308 => ((curve_Least.f kj25 l0 a4).bind fun bt309 => ((curve_Least.f kj25 l1 a4).bind fun bt311 => (if t303 = true then (if t307 > t308 then (bournelaw10_CurveOrders.j2 kj25 l0 l1 a3 t299 t303 t307 t308 bt309.1 bt309.2 bt311.1 bt311.2 true) else (if bt309.2 = true then (if bt311.2 = true then (bournelaw10_CurveOrders.j2 kj25 l0 l1 a3 t299 t303 t307 t308 bt309.1 bt309.2 bt311.1 bt311.2 (decide (bt311.1 > bt309.1))) else (bournelaw10_CurveOrders.j2 kj25 l0 l1 a3 t299 t303 t307 t308 bt309.1 bt309.2 bt311.1 bt311.2 true)) else (bournelaw10_CurveOrders.j2 kj25 l0 l1 a3 t299 t303 t307 t308 bt309.1 bt309.2 bt311.1 bt311.2 false))) else (bournelaw10_CurveOrders.j2 kj25 l0 l1 a3 t299 t303 t307 t308 bt309.1 bt309.2 bt311.1 bt311.2 false)))))) = some r := by rw [if_neg (show ¬ (false = true) by decide)] at H; exact H
              clear H
              have H := H1
              clear H1
              replace H := Option.bind_eq_some_iff.mp H
              obtain ⟨t307, A400, H⟩ := H
              have A40 := Aside0.mk A400
              clear A400
              replace H := Option.bind_eq_some_iff.mp H
              obtain ⟨t308, A410, H⟩ := H
              have A41 := Aside0.mk A410
              clear A410
              replace H := Option.bind_eq_some_iff.mp H
              obtain ⟨⟨t309, t310⟩, A420, H⟩ := H
              dsimp only at H
              have A42 := Aside0.mk A420
              clear A420
              replace H := Option.bind_eq_some_iff.mp H
              obtain ⟨⟨t311, t312⟩, A430, H⟩ := H
              dsimp only at H
              have A43 := Aside0.mk A430
              clear A430
              have HC44 := Aside0.mk H
              clear H
              go_upto_region 12 with (first | ((with_reducible refine gate_callee (f := 13) rfl ?_); refine goesL_ (some 75) rfl rfl Try.func13 (by kernel_rfl) rfl #[.slice A0 l0.length c0, .int .i64 a3] rfl (by (try simp only [List.map_toArray, List.map_cons, List.map_nil]); first | done | rfl | (simp only [List.length_drop, List.length_take]; rfl)) ?_; (with_reducible refine (curve_At.calls kj25 _ _ l0 a3 t307 _ ?side1 ?side2 A40.out).mono ?_); (case side1 => repeat (first | exact (Kd.C_below HR0.out HB.out) | (with_reducible refine Kd.C_alloc ?_ _) | (with_reducible refine Kd.C_drewN ?_ _) | (with_reducible refine Kd.C_drew ?_))); (case side2 => exact HC0.out); rintro e w45 ⟨rfl, hb⟩; refine ⟨_, rfl, ?_⟩; have n0_ := Aside0.mk (below_step (by repeat (first | (with_reducible first | exact HB.out | apply below_alloc | apply pw_below_drewN | apply below_drew1) | exact HB.out)) hb); clear HB; have HB := n0_; clear n0_; (try clear hb); (try clear hb2); (try clear hk); (try clear hi)) | ((with_reducible refine gate_callee (f := 13) rfl ?_); refine goesL_ (some 78) rfl rfl Try.func13 (by kernel_rfl) rfl #[.slice A1 l1.length c1, .int .i64 a3] rfl (by (try simp only [List.map_toArray, List.map_cons, List.map_nil]); first | done | rfl | (simp only [List.length_drop, List.length_take]; rfl)) ?_; (with_reducible refine (curve_At.calls kj25 _ _ l1 a3 t308 _ ?side1 ?side2 A41.out).mono ?_); (case side1 => repeat (first | exact (Kd.C_below HR1.out HB.out) | (with_reducible refine Kd.C_alloc ?_ _) | (with_reducible refine Kd.C_drewN ?_ _) | (with_reducible refine Kd.C_drew ?_))); (case side2 => exact HC1.out); rintro e w46 ⟨rfl, hb⟩; refine ⟨_, rfl, ?_⟩; have n0_ := Aside0.mk (below_step (by repeat (first | (with_reducible first | exact HB.out | apply below_alloc | apply pw_below_drewN | apply below_drew1) | exact HB.out)) hb); clear HB; have HB := n0_; clear n0_; (try clear hb); (try clear hb2); (try clear hk); (try clear hi)) | ((with_reducible refine gate_callee (f := 9) rfl ?_); refine goesL_ (some 82) rfl rfl Try.func9 (by kernel_rfl) rfl #[.slice A0 l0.length c0, .int .i64 a4] rfl (by (try simp only [List.map_toArray, List.map_cons, List.map_nil]); first | done | rfl | (simp only [List.length_drop, List.length_take]; rfl)) ?_; (with_reducible refine (curve_Least.calls kj25 _ _ l0 a4 t309 t310 _ ?side1 ?side2 A42.out).mono ?_); (case side1 => repeat (first | exact (Kd.C_below HR0.out HB.out) | (with_reducible refine Kd.C_alloc ?_ _) | (with_reducible refine Kd.C_drewN ?_ _) | (with_reducible refine Kd.C_drew ?_))); (case side2 => exact HC0.out); rintro e w47 ⟨rfl, hb⟩; refine ⟨_, rfl, ?_⟩; have n0_ := Aside0.mk (below_step (by repeat (first | (with_reducible first | exact HB.out | apply below_alloc | apply pw_below_drewN | apply below_drew1) | exact HB.out)) hb); clear HB; have HB := n0_; clear n0_; (try clear hb); (try clear hb2); (try clear hk); (try clear hi)) | ((with_reducible refine gate_callee (f := 9) rfl ?_); refine goesL_ (some 88) rfl rfl Try.func9 (by kernel_rfl) rfl #[.slice A1 l1.length c1, .int .i64 a4] rfl (by (try simp only [List.map_toArray, List.map_cons, List.map_nil]); first | done | rfl | (simp only [List.length_drop, List.length_take]; rfl)) ?_; (with_reducible refine (curve_Least.calls kj25 _ _ l1 a4 t311 t312 _ ?side1 ?side2 A43.out).mono ?_); (case side1 => repeat (first | exact (Kd.C_below HR1.out HB.out) | (with_reducible refine Kd.C_alloc ?_ _) | (with_reducible refine Kd.C_drewN ?_ _) | (with_reducible refine Kd.C_drew ?_))); (case side2 => exact HC1.out); rintro e w48 ⟨rfl, hb⟩; refine ⟨_, rfl, ?_⟩; have n0_ := Aside0.mk (below_step (by repeat (first | (with_reducible first | exact HB.out | apply below_alloc | apply pw_below_drewN | apply below_drew1) | exact HB.out)) hb); clear HB; have HB := n0_; clear n0_; (try clear hb); (try clear hb2); (try clear hk); (try clear hi)))
              (try simp only [Act.put, List.setIfInBounds_toArray, List.set_cons_zero, List.set_cons_succ])
              go_cut [111] (fun v111 wc => ∃ (kq : Nat) (x111_43 : Bool), v111 = .bool x111_43 ∧ Aside0 (bournelaw10_CurveOrders.j2 kq l0 l1 a3 t299 t303 t307 t308 t309 t310 t311 t312 x111_43 = some r) ∧ Aside0 (kq ≤ kj25) ∧ Aside0 (Below w.heap.size w wc))
              case first =>
                have H := HC44.out
                clear HC44
                by_cases c49 : t303 = true
                · subst c49
                  have H1 : (if t307 > t308 then (bournelaw10_CurveOrders.j2 kj25 l0 l1 a3 t299 true t307 t308 t309 t310 t311 t312 true) else (if t310 = true then (if t312 = true then (bournelaw10_CurveOrders.j2 kj25 l0 l1 a3 t299 true t307 t308 t309 t310 t311 t312 (decide (t311 > t309))) else (bournelaw10_CurveOrders.j2 kj25 l0 l1 a3 t299 true t307 t308 t309 t310 t311 t312 true)) else (bournelaw10_CurveOrders.j2 kj25 l0 l1 a3 t299 true t307 t308 t309 t310 t311 t312 false))) = some r := by rw [if_pos rfl] at H; exact H
                  clear H
                  have H := H1
                  clear H1
                  by_cases c50 : t307 > t308
                  · rw [if_pos c50] at H
                    have c50b0 : decide (t308 < t307) = true := decide_eq_true c50
                    clear c50
                    (first | rw [c50b0] | (simp only [i64_w, i32_w]; rw [c50b0]) | skip)
                    have H' := Aside0.mk H
                    clear H
                    go_wp2
                    go_meet
                    case rel => exact ⟨_, (true), (by first | rfl | (simp; done) | (simp [*]; done)), H', ⟨by have := HJ6.out; have := HJ25.out; first | omega | exact Nat.le_refl _⟩, ⟨by repeat (first | (with_reducible first | exact HB.out | apply below_alloc | apply pw_below_drewN | apply below_drew1) | exact HB.out)⟩⟩
                  · rw [if_neg c50] at H
                    have c50b0 : decide (t308 < t307) = false := decide_eq_false c50
                    clear c50
                    (first | rw [c50b0] | (simp only [i64_w, i32_w]; rw [c50b0]) | skip)
                    by_cases c51 : t310 = true
                    · subst c51
                      have H1 : (if t312 = true then (bournelaw10_CurveOrders.j2 kj25 l0 l1 a3 t299 true t307 t308 t309 true t311 t312 (decide (t311 > t309))) else (bournelaw10_CurveOrders.j2 kj25 l0 l1 a3 t299 true t307 t308 t309 true t311 t312 true)) = some r := by rw [if_pos rfl] at H; exact H
                      clear H
                      have H := H1
                      clear H1
                      by_cases c52 : t312 = true
                      · subst c52
                        have H1 : (bournelaw10_CurveOrders.j2 kj25 l0 l1 a3 t299 true t307 t308 t309 true t311 true (decide (t311 > t309))) = some r := by rw [if_pos rfl] at H; exact H
                        clear H
                        have H := H1
                        clear H1
                        have H' := Aside0.mk H
                        clear H
                        go_wp2
                        go_meet
                        case rel => exact ⟨_, (decide (t311 > t309)), (by first | rfl | (simp; done) | (simp [*]; done)), H', ⟨by have := HJ6.out; have := HJ25.out; first | omega | exact Nat.le_refl _⟩, ⟨by repeat (first | (with_reducible first | exact HB.out | apply below_alloc | apply pw_below_drewN | apply below_drew1) | exact HB.out)⟩⟩
                      · replace c52 := Bool.eq_false_iff.mpr c52
                        subst c52
                        have H1 : (bournelaw10_CurveOrders.j2 kj25 l0 l1 a3 t299 true t307 t308 t309 true t311 false true) = some r := by rw [if_neg (show ¬ (false = true) by decide)] at H; exact H
                        clear H
                        have H := H1
                        clear H1
                        have H' := Aside0.mk H
                        clear H
                        go_wp2
                        go_meet
                        case rel => exact ⟨_, (true), (by first | rfl | (simp; done) | (simp [*]; done)), H', ⟨by have := HJ6.out; have := HJ25.out; first | omega | exact Nat.le_refl _⟩, ⟨by repeat (first | (with_reducible first | exact HB.out | apply below_alloc | apply pw_below_drewN | apply below_drew1) | exact HB.out)⟩⟩
                    · replace c51 := Bool.eq_false_iff.mpr c51
                      subst c51
                      have H1 : (bournelaw10_CurveOrders.j2 kj25 l0 l1 a3 t299 true t307 t308 t309 false t311 t312 false) = some r := by rw [if_neg (show ¬ (false = true) by decide)] at H; exact H
                      clear H
                      have H := H1
                      clear H1
                      have H' := Aside0.mk H
                      clear H
                      go_wp2
                      go_meet
                      case rel => exact ⟨_, (false), (by first | rfl | (simp; done) | (simp [*]; done)), H', ⟨by have := HJ6.out; have := HJ25.out; first | omega | exact Nat.le_refl _⟩, ⟨by repeat (first | (with_reducible first | exact HB.out | apply below_alloc | apply pw_below_drewN | apply below_drew1) | exact HB.out)⟩⟩
                · replace c49 := Bool.eq_false_iff.mpr c49
                  subst c49
                  have H1 : (bournelaw10_CurveOrders.j2 kj25 l0 l1 a3 t299 false t307 t308 t309 t310 t311 t312 false) = some r := by rw [if_neg (show ¬ (false = true) by decide)] at H; exact H
                  clear H
                  have H := H1
                  clear H1
                  have H' := Aside0.mk H
                  clear H
                  go_wp2
                  go_meet
                  case rel => exact ⟨_, (false), (by first | rfl | (simp; done) | (simp [*]; done)), H', ⟨by have := HJ6.out; have := HJ25.out; first | omega | exact Nat.le_refl _⟩, ⟨by repeat (first | (with_reducible first | exact HB.out | apply below_alloc | apply pw_below_drewN | apply below_drew1) | exact HB.out)⟩⟩
              case rest =>
                clear HC44
                try clear c1
                try clear c2
                try clear p2
                try clear c3
                try clear c4
                try clear c5
                try clear c6
                try clear c8
                try clear c9
                try clear c9b0
                try clear c9b1
                try clear c10
                try clear c10b0
                try clear c10b1
                try clear c11
                try clear c11b0
                try clear c11b1
                try clear c13
                try clear c15
                try clear c17
                try clear c23
                try clear c30
                try clear c31
                try clear c32
                try clear c39
                try clear c49
                try clear c50
                try clear c50b0
                try clear c51
                try clear c52
                try clear p2
                obtain ⟨kq, x111_43, rfl, HA, HJ43, HB⟩ := hcut
                cases kq with
                | zero => exact absurd HA.out (by simp [bournelaw10_CurveOrders.j2])
                | succ kj43 =>
                  have H := HA.out
                  clear HA
                  simp only [bournelaw10_CurveOrders.j2] at H
                  by_cases c53 : x111_43 = true
                  · subst c53
                    have H1 : (some false) = some r := by rw [if_pos rfl] at H; exact H
                    clear H
                    have H := H1
                    clear H1
                    exact absurd (H.trans (congrArg some hT.out)) (by simp)
                  · replace c53 := Bool.eq_false_iff.mpr c53
                    subst c53
                    have H1 : (if t303 = true then ((curve_Under.f kj43 l1 l0).bind fun t313 => (if t313 = true then (if t307 = t308 then (if (t310 != t312) = true then (bournelaw10_CurveOrders.j3 kj43 l0 l1 a3 t299 t303 t307 t308 true) else (bournelaw10_CurveOrders.j3 kj43 l0 l1 a3 t299 t303 t307 t308 (t309 != t311))) else (bournelaw10_CurveOrders.j3 kj43 l0 l1 a3 t299 t303 t307 t308 true)) else (bournelaw10_CurveOrders.j3 kj43 l0 l1 a3 t299 t303 t307 t308 false))) else (bournelaw10_CurveOrders.j3 kj43 l0 l1 a3 t299 t303 t307 t308 false)) = some r := by rw [if_neg (show ¬ (false = true) by decide)] at H; exact H
                    clear H
                    have H := H1
                    clear H1
                    have HC54 := Aside0.mk H
                    clear H
                    go_upto_region 14 with (fail)
                    go_cut [132] (fun v132 wc => ∃ (kq : Nat) (x132_53 : Bool), v132 = .bool x132_53 ∧ Aside0 (bournelaw10_CurveOrders.j3 kq l0 l1 a3 t299 t303 t307 t308 x132_53 = some r) ∧ Aside0 (kq ≤ kj43) ∧ Aside0 (Below w.heap.size w wc))
                    case first =>
                      have H := HC54.out
                      clear HC54
                      by_cases c55 : t303 = true
                      · subst c55
                        have H1 : ((curve_Under.f kj43 l1 l0).bind fun t313 => (if t313 = true then (if t307 = t308 then (if (t310 != t312) = true then (bournelaw10_CurveOrders.j3 kj43 l0 l1 a3 t299 true t307 t308 true) else (bournelaw10_CurveOrders.j3 kj43 l0 l1 a3 t299 true t307 t308 (t309 != t311))) else (bournelaw10_CurveOrders.j3 kj43 l0 l1 a3 t299 true t307 t308 true)) else (bournelaw10_CurveOrders.j3 kj43 l0 l1 a3 t299 true t307 t308 false))) = some r := by rw [if_pos rfl] at H; exact H
                        clear H
                        have H := H1
                        clear H1
                        replace H := Option.bind_eq_some_iff.mp H
                        obtain ⟨t313, A560, H⟩ := H
                        have A56 := Aside0.mk A560
                        clear A560
                        by_cases c57 : t313 = true
                        · subst c57
                          have H1 : (if t307 = t308 then (if (t310 != t312) = true then (bournelaw10_CurveOrders.j3 kj43 l0 l1 a3 t299 true t307 t308 true) else (bournelaw10_CurveOrders.j3 kj43 l0 l1 a3 t299 true t307 t308 (t309 != t311))) else (bournelaw10_CurveOrders.j3 kj43 l0 l1 a3 t299 true t307 t308 true)) = some r := by rw [if_pos rfl] at H; exact H
                          clear H
                          have H := H1
                          clear H1
                          by_cases c58 : t307 = t308
                          · rw [if_pos c58] at H
                            have c58b0 : (t307 == t308) = true := beq_iff_eq.mpr c58
                            have c58b1 : (t307 != t308) = false := bne_eq_false_iff_eq.mpr c58
                            clear c58
                            (first | rw [c58b0] | (simp only [i64_w, i32_w]; rw [c58b0]) | skip)
                            by_cases c59 : (t310 != t312) = true
                            · rw [if_pos c59] at H
                              have c59b0 : (t310 != t312) = true := c59
                              (try (have c59b1 : decide (t310 = t312) = false := by simpa using c59))
                              (try (have c59b2 : (t310 == t312) = false := by simpa using c59))
                              (try (have c59b3 : ¬ (t310 = t312) := by simpa using c59))
                              clear c59
                              have H' := Aside0.mk H
                              clear H
                              go_wp2_with (first | (go_at_call 17; (with_reducible refine (curve_Under.calls kj43 _ _ l1 _ _ l0 true _ ?side1 ?side2 ?side3 ?side4 A56.out).mono ?_); (case side1 => repeat (first | exact (Kd.C_below HR1.out HB.out) | (with_reducible refine Kd.C_alloc ?_ _) | (with_reducible refine Kd.C_drewN ?_ _) | (with_reducible refine Kd.C_drew ?_))); (case side2 => exact HC1.out); (case side3 => repeat (first | exact (Kd.C_below HR0.out HB.out) | (with_reducible refine Kd.C_alloc ?_ _) | (with_reducible refine Kd.C_drewN ?_ _) | (with_reducible refine Kd.C_drew ?_))); (case side4 => exact HC0.out); rintro e w60 ⟨rfl, hb⟩; (try clear A56); have n0_ := Aside0.mk (below_step (by repeat (first | (with_reducible first | exact HB.out | apply below_alloc | apply pw_below_drewN | apply below_drew1) | exact HB.out)) hb); clear HB; have HB := n0_; clear n0_; (try clear hb); (try clear hb2); (try clear hk); (try clear hi)))
                              go_meet
                              case rel => exact ⟨_, (true), (by first | rfl | (simp; done) | (simp [*]; done)), H', ⟨by have := HJ6.out; have := HJ25.out; have := HJ43.out; first | omega | exact Nat.le_refl _⟩, ⟨by repeat (first | (with_reducible first | exact HB.out | apply below_alloc | apply pw_below_drewN | apply below_drew1) | exact HB.out)⟩⟩
                            · rw [if_neg c59] at H
                              have c59b0 : (t310 != t312) = false := by simpa using c59
                              (try (have c59b1 : decide (t310 = t312) = true := by simpa using c59))
                              (try (have c59b2 : (t310 == t312) = true := by simpa using c59))
                              clear c59
                              have H' := Aside0.mk H
                              clear H
                              go_wp2_with (first | (go_at_call 17; (with_reducible refine (curve_Under.calls kj43 _ _ l1 _ _ l0 true _ ?side1 ?side2 ?side3 ?side4 A56.out).mono ?_); (case side1 => repeat (first | exact (Kd.C_below HR1.out HB.out) | (with_reducible refine Kd.C_alloc ?_ _) | (with_reducible refine Kd.C_drewN ?_ _) | (with_reducible refine Kd.C_drew ?_))); (case side2 => exact HC1.out); (case side3 => repeat (first | exact (Kd.C_below HR0.out HB.out) | (with_reducible refine Kd.C_alloc ?_ _) | (with_reducible refine Kd.C_drewN ?_ _) | (with_reducible refine Kd.C_drew ?_))); (case side4 => exact HC0.out); rintro e w61 ⟨rfl, hb⟩; (try clear A56); have n0_ := Aside0.mk (below_step (by repeat (first | (with_reducible first | exact HB.out | apply below_alloc | apply pw_below_drewN | apply below_drew1) | exact HB.out)) hb); clear HB; have HB := n0_; clear n0_; (try clear hb); (try clear hb2); (try clear hk); (try clear hi)))
                              go_meet
                              case rel => exact ⟨_, ((t309 != t311)), (by first | rfl | (simp; done) | (simp [*]; done)), H', ⟨by have := HJ6.out; have := HJ25.out; have := HJ43.out; first | omega | exact Nat.le_refl _⟩, ⟨by repeat (first | (with_reducible first | exact HB.out | apply below_alloc | apply pw_below_drewN | apply below_drew1) | exact HB.out)⟩⟩
                          · rw [if_neg c58] at H
                            have c58b0 : (t307 == t308) = false := beq_eq_false_iff_ne.mpr c58
                            have c58b1 : (t307 != t308) = true := bne_iff_ne.mpr c58
                            (first | rw [c58b0] | (simp only [i64_w, i32_w]; rw [c58b0]) | skip)
                            have H' := Aside0.mk H
                            clear H
                            go_wp2_with (first | (go_at_call 17; (with_reducible refine (curve_Under.calls kj43 _ _ l1 _ _ l0 true _ ?side1 ?side2 ?side3 ?side4 A56.out).mono ?_); (case side1 => repeat (first | exact (Kd.C_below HR1.out HB.out) | (with_reducible refine Kd.C_alloc ?_ _) | (with_reducible refine Kd.C_drewN ?_ _) | (with_reducible refine Kd.C_drew ?_))); (case side2 => exact HC1.out); (case side3 => repeat (first | exact (Kd.C_below HR0.out HB.out) | (with_reducible refine Kd.C_alloc ?_ _) | (with_reducible refine Kd.C_drewN ?_ _) | (with_reducible refine Kd.C_drew ?_))); (case side4 => exact HC0.out); rintro e w62 ⟨rfl, hb⟩; (try clear A56); have n0_ := Aside0.mk (below_step (by repeat (first | (with_reducible first | exact HB.out | apply below_alloc | apply pw_below_drewN | apply below_drew1) | exact HB.out)) hb); clear HB; have HB := n0_; clear n0_; (try clear hb); (try clear hb2); (try clear hk); (try clear hi)))
                            go_meet
                            case rel => exact ⟨_, (true), (by first | rfl | (simp; done) | (simp [*]; done)), H', ⟨by have := HJ6.out; have := HJ25.out; have := HJ43.out; first | omega | exact Nat.le_refl _⟩, ⟨by repeat (first | (with_reducible first | exact HB.out | apply below_alloc | apply pw_below_drewN | apply below_drew1) | exact HB.out)⟩⟩
                        · replace c57 := Bool.eq_false_iff.mpr c57
                          subst c57
                          have H1 : (bournelaw10_CurveOrders.j3 kj43 l0 l1 a3 t299 true t307 t308 false) = some r := by rw [if_neg (show ¬ (false = true) by decide)] at H; exact H
                          clear H
                          have H := H1
                          clear H1
                          have H' := Aside0.mk H
                          clear H
                          go_wp2_with (first | (go_at_call 17; (with_reducible refine (curve_Under.calls kj43 _ _ l1 _ _ l0 false _ ?side1 ?side2 ?side3 ?side4 A56.out).mono ?_); (case side1 => repeat (first | exact (Kd.C_below HR1.out HB.out) | (with_reducible refine Kd.C_alloc ?_ _) | (with_reducible refine Kd.C_drewN ?_ _) | (with_reducible refine Kd.C_drew ?_))); (case side2 => exact HC1.out); (case side3 => repeat (first | exact (Kd.C_below HR0.out HB.out) | (with_reducible refine Kd.C_alloc ?_ _) | (with_reducible refine Kd.C_drewN ?_ _) | (with_reducible refine Kd.C_drew ?_))); (case side4 => exact HC0.out); rintro e w63 ⟨rfl, hb⟩; (try clear A56); have n0_ := Aside0.mk (below_step (by repeat (first | (with_reducible first | exact HB.out | apply below_alloc | apply pw_below_drewN | apply below_drew1) | exact HB.out)) hb); clear HB; have HB := n0_; clear n0_; (try clear hb); (try clear hb2); (try clear hk); (try clear hi)))
                          go_meet
                          case rel => exact ⟨_, (false), (by first | rfl | (simp; done) | (simp [*]; done)), H', ⟨by have := HJ6.out; have := HJ25.out; have := HJ43.out; first | omega | exact Nat.le_refl _⟩, ⟨by repeat (first | (with_reducible first | exact HB.out | apply below_alloc | apply pw_below_drewN | apply below_drew1) | exact HB.out)⟩⟩
                      · replace c55 := Bool.eq_false_iff.mpr c55
                        subst c55
                        have H1 : (bournelaw10_CurveOrders.j3 kj43 l0 l1 a3 t299 false t307 t308 false) = some r := by rw [if_neg (show ¬ (false = true) by decide)] at H; exact H
                        clear H
                        have H := H1
                        clear H1
                        have H' := Aside0.mk H
                        clear H
                        go_wp2
                        go_meet
                        case rel => exact ⟨_, (false), (by first | rfl | (simp; done) | (simp [*]; done)), H', ⟨by have := HJ6.out; have := HJ25.out; have := HJ43.out; first | omega | exact Nat.le_refl _⟩, ⟨by repeat (first | (with_reducible first | exact HB.out | apply below_alloc | apply pw_below_drewN | apply below_drew1) | exact HB.out)⟩⟩
                    case rest =>
                      clear HC54
                      try clear c1
                      try clear c2
                      try clear p2
                      try clear c3
                      try clear c4
                      try clear c5
                      try clear c6
                      try clear c8
                      try clear c9
                      try clear c9b0
                      try clear c9b1
                      try clear c10
                      try clear c10b0
                      try clear c10b1
                      try clear c11
                      try clear c11b0
                      try clear c11b1
                      try clear c13
                      try clear c15
                      try clear c17
                      try clear c23
                      try clear c30
                      try clear c31
                      try clear c32
                      try clear c39
                      try clear c49
                      try clear c50
                      try clear c50b0
                      try clear c51
                      try clear c52
                      try clear c53
                      try clear c55
                      try clear c57
                      try clear c58
                      try clear c58b0
                      try clear c58b1
                      try clear c59
                      try clear c59b0
                      try clear c59b1
                      try clear c59b2
                      try clear p2
                      obtain ⟨kq, x132_53, rfl, HA, HJ53, HB⟩ := hcut
                      cases kq with
                      | zero => exact absurd HA.out (by simp [bournelaw10_CurveOrders.j3])
                      | succ kj53 =>
                        have H := HA.out
                        clear HA
                        simp only [bournelaw10_CurveOrders.j3] at H
                        by_cases c64 : x132_53 = true
                        · subst c64
                          have H1 : (some false) = some r := by rw [if_pos rfl] at H; exact H
                          clear H
                          have H := H1
                          clear H1
                          exact absurd (H.trans (congrArg some hT.out)) (by simp)
                        · replace c64 := Bool.eq_false_iff.mpr c64
                          subst c64
                          have H1 : ((curve_Band.f kj53 l0 l1 a3).bind fun bt314 => (if t299 = true then (if bt314.1 = (mn t307 t308) then (if bt314.2 = (mx t307 t308) then (if t303 = true then (some (bt314.1 == t307 && (bt314.2 == t308))) else (some true)) else (some false)) else (some false)) else (some false))) = some r := by rw [if_neg (show ¬ (false = true) by decide)] at H; exact H
                          clear H
                          have H := H1
                          clear H1
                          replace H := Option.bind_eq_some_iff.mp H
                          obtain ⟨⟨t314, t315⟩, A650, H⟩ := H
                          dsimp only at H
                          have A65 := Aside0.mk A650
                          clear A650
                          by_cases c66 : t299 = true
                          · subst c66
                            have H1 : (if t314 = (mn t307 t308) then (if t315 = (mx t307 t308) then (if t303 = true then (some (t314 == t307 && (t315 == t308))) else (some true)) else (some false)) else (some false)) = some r := by rw [if_pos rfl] at H; exact H
                            clear H
                            have H := H1
                            clear H1
                            obtain ⟨ji67, hji67⟩ : ∃ j_ : Int, (mn t307 t308) = j_ := ⟨_, rfl⟩
                            replace H : (if t314 = (ji67) then (if t315 = (mx t307 t308) then (if t303 = true then (some (t314 == t307 && (t315 == t308))) else (some true)) else (some false)) else (some false)) = some r := by first | (rw [hji67] at H; exact H) | (simp only [hji67] at H ⊢; exact H)
                            (try rw [hji67] at A65)
                            have hji67_ : (if t308 < t307 then t308 else t307) = ji67 := hji67
                            by_cases c68 : t314 = (ji67)
                            · rw [if_pos c68] at H
                              have c68b0 : (t314 == (ji67)) = true := beq_iff_eq.mpr c68
                              have c68b1 : (t314 != (ji67)) = false := bne_eq_false_iff_eq.mpr c68
                              clear c68
                              obtain ⟨ji69, hji69⟩ : ∃ j_ : Int, (mx t307 t308) = j_ := ⟨_, rfl⟩
                              replace H : (if t315 = (ji69) then (if t303 = true then (some (t314 == t307 && (t315 == t308))) else (some true)) else (some false)) = some r := by first | (rw [hji69] at H; exact H) | (simp only [hji69] at H ⊢; exact H)
                              (try rw [hji69] at A65)
                              have hji69_ : (if t307 < t308 then t308 else t307) = ji69 := hji69
                              by_cases c70 : t315 = (ji69)
                              · rw [if_pos c70] at H
                                have c70b0 : (t315 == (ji69)) = true := beq_iff_eq.mpr c70
                                have c70b1 : (t315 != (ji69)) = false := bne_eq_false_iff_eq.mpr c70
                                clear c70
                                by_cases c71 : t303 = true
                                · subst c71
                                  have H1 : (some (t314 == t307 && (t315 == t308))) = some r := by rw [if_pos rfl] at H; exact H
                                  clear H
                                  have H := H1
                                  clear H1
                                  obtain rfl := Option.some.inj H
                                  go_wp2_with (first | ((with_reducible refine gate_callee (f := 19) rfl ?_); refine goesL_ (some 137) rfl rfl Try.func19 (by kernel_rfl) rfl #[.agg #[.slice A0 l0.length c0, .slice A1 l1.length c1], .int .i64 a3] rfl (by (try simp only [List.map_toArray, List.map_cons, List.map_nil]); first | done | rfl | (simp only [List.length_drop, List.length_take]; rfl)) ?_; (with_reducible refine (curve_Band.calls kj53 _ _ l0 _ _ l1 a3 t314 t315 _ ?side1 ?side2 ?side3 ?side4 A65.out).mono ?_); (case side1 => repeat (first | exact (Kd.C_below HR0.out HB.out) | (with_reducible refine Kd.C_alloc ?_ _) | (with_reducible refine Kd.C_drewN ?_ _) | (with_reducible refine Kd.C_drew ?_))); (case side2 => exact HC0.out); (case side3 => repeat (first | exact (Kd.C_below HR1.out HB.out) | (with_reducible refine Kd.C_alloc ?_ _) | (with_reducible refine Kd.C_drewN ?_ _) | (with_reducible refine Kd.C_drew ?_))); (case side4 => exact HC1.out); rintro e w72 ⟨rfl, hb⟩; refine ⟨_, rfl, ?_⟩; have n0_ := Aside0.mk (below_step (by repeat (first | (with_reducible first | exact HB.out | apply below_alloc | apply pw_below_drewN | apply below_drew1) | exact HB.out)) hb); clear HB; have HB := n0_; clear n0_; (try clear hb); (try clear hb2); (try clear hk); (try clear hi)) | ((with_reducible refine gate_dst (N := 20) rfl ?_); (try (refine gate_guard (by rfl) ?_; dsimp only)); refine box_event ?hg (N := 20) ?hd (cs := #[.int .i64 0, .int .i64 0]) (t := 33) ?hr ?_; (case hd => rfl); (case hg => rfl); (case hr => first | (go_simp; done) | (go_simp; rfl)); intro gb316 hg w73 hbox hb; have n0_ := Aside0.mk (below_step (by repeat (first | (with_reducible first | exact HB.out | apply below_alloc | apply pw_below_drewN | apply below_drew1) | exact HB.out)) hb); have n1_ := Aside0.mk (hbox); have n2_ := Aside0.mk ((by rw [hg]; exact (below_size (by repeat (first | (with_reducible first | exact HB.out | apply below_alloc | apply pw_below_drewN | apply below_drew1) | exact HB.out))) : w.heap.size ≤ gb316)); have n3_ := Aside0.mk ((by rw [hg]; exact (below_size (by repeat (first | (with_reducible first | exact HB.out | apply below_alloc | apply pw_below_drewN | apply below_drew1) | exact HB.out))) : w.heap.size ≤ gb316)); clear HB; have HB := n0_; have BK316 := n1_; have GW316 := n2_; have GE316 := n3_; clear n0_ n1_ n2_ n3_; clear hb hbox hg; have hcz74_0 : w73.cell? ⟨gb316, 0, none⟩ = some (.int .i64 0) := (blk_cell BK316.out 0).trans rfl; have hcz74_1 : w73.cell? ⟨gb316, 1, none⟩ = some (.int .i64 0) := (blk_cell BK316.out 1).trans rfl; have hfz74_0 := blk_frozen BK316.out 0; have hfz74_1 := blk_frozen BK316.out 1))
                                  go_ret
                                  exact ⟨by first | rfl | (simp [errW_none, errW_some] <;> rfl) | (simp only [← hji67, ← hji69]; first | rfl | (simp [errW_none, errW_some] <;> rfl)) | (simp [*, errW_none, errW_some] <;> rfl), by repeat (first | (with_reducible first | exact HB.out | apply below_alloc | apply pw_below_drewN | apply below_drew1 | refine below_set ?_ GE316.out) | exact HB.out)⟩
                                · replace c71 := Bool.eq_false_iff.mpr c71
                                  subst c71
                                  have H1 : (some true) = some r := by rw [if_neg (show ¬ (false = true) by decide)] at H; exact H
                                  clear H
                                  have H := H1
                                  clear H1
                                  obtain rfl := Option.some.inj H
                                  go_wp2_with (first | ((with_reducible refine gate_callee (f := 19) rfl ?_); refine goesL_ (some 137) rfl rfl Try.func19 (by kernel_rfl) rfl #[.agg #[.slice A0 l0.length c0, .slice A1 l1.length c1], .int .i64 a3] rfl (by (try simp only [List.map_toArray, List.map_cons, List.map_nil]); first | done | rfl | (simp only [List.length_drop, List.length_take]; rfl)) ?_; (with_reducible refine (curve_Band.calls kj53 _ _ l0 _ _ l1 a3 t314 t315 _ ?side1 ?side2 ?side3 ?side4 A65.out).mono ?_); (case side1 => repeat (first | exact (Kd.C_below HR0.out HB.out) | (with_reducible refine Kd.C_alloc ?_ _) | (with_reducible refine Kd.C_drewN ?_ _) | (with_reducible refine Kd.C_drew ?_))); (case side2 => exact HC0.out); (case side3 => repeat (first | exact (Kd.C_below HR1.out HB.out) | (with_reducible refine Kd.C_alloc ?_ _) | (with_reducible refine Kd.C_drewN ?_ _) | (with_reducible refine Kd.C_drew ?_))); (case side4 => exact HC1.out); rintro e w75 ⟨rfl, hb⟩; refine ⟨_, rfl, ?_⟩; have n0_ := Aside0.mk (below_step (by repeat (first | (with_reducible first | exact HB.out | apply below_alloc | apply pw_below_drewN | apply below_drew1) | exact HB.out)) hb); clear HB; have HB := n0_; clear n0_; (try clear hb); (try clear hb2); (try clear hk); (try clear hi)) | ((with_reducible refine gate_dst (N := 20) rfl ?_); (try (refine gate_guard (by rfl) ?_; dsimp only)); refine box_event ?hg (N := 20) ?hd (cs := #[.int .i64 0, .int .i64 0]) (t := 33) ?hr ?_; (case hd => rfl); (case hg => rfl); (case hr => first | (go_simp; done) | (go_simp; rfl)); intro gb316 hg w76 hbox hb; have n0_ := Aside0.mk (below_step (by repeat (first | (with_reducible first | exact HB.out | apply below_alloc | apply pw_below_drewN | apply below_drew1) | exact HB.out)) hb); have n1_ := Aside0.mk (hbox); have n2_ := Aside0.mk ((by rw [hg]; exact (below_size (by repeat (first | (with_reducible first | exact HB.out | apply below_alloc | apply pw_below_drewN | apply below_drew1) | exact HB.out))) : w.heap.size ≤ gb316)); have n3_ := Aside0.mk ((by rw [hg]; exact (below_size (by repeat (first | (with_reducible first | exact HB.out | apply below_alloc | apply pw_below_drewN | apply below_drew1) | exact HB.out))) : w.heap.size ≤ gb316)); clear HB; have HB := n0_; have BK316 := n1_; have GW316 := n2_; have GE316 := n3_; clear n0_ n1_ n2_ n3_; clear hb hbox hg; have hcz77_0 : w76.cell? ⟨gb316, 0, none⟩ = some (.int .i64 0) := (blk_cell BK316.out 0).trans rfl; have hcz77_1 : w76.cell? ⟨gb316, 1, none⟩ = some (.int .i64 0) := (blk_cell BK316.out 1).trans rfl; have hfz77_0 := blk_frozen BK316.out 0; have hfz77_1 := blk_frozen BK316.out 1))
                                  go_ret
                                  exact ⟨by first | rfl | (simp [errW_none, errW_some] <;> rfl) | (simp only [← hji67, ← hji69]; first | rfl | (simp [errW_none, errW_some] <;> rfl)) | (simp [*, errW_none, errW_some] <;> rfl), by repeat (first | (with_reducible first | exact HB.out | apply below_alloc | apply pw_below_drewN | apply below_drew1 | refine below_set ?_ GE316.out) | exact HB.out)⟩
                              · rw [if_neg c70] at H
                                have c70b0 : (t315 == (ji69)) = false := beq_eq_false_iff_ne.mpr c70
                                have c70b1 : (t315 != (ji69)) = true := bne_iff_ne.mpr c70
                                exact absurd (H.trans (congrArg some hT.out)) (by simp)
                            · rw [if_neg c68] at H
                              have c68b0 : (t314 == (ji67)) = false := beq_eq_false_iff_ne.mpr c68
                              have c68b1 : (t314 != (ji67)) = true := bne_iff_ne.mpr c68
                              exact absurd (H.trans (congrArg some hT.out)) (by simp)
                          · replace c66 := Bool.eq_false_iff.mpr c66
                            subst c66
                            have H1 : (some false) = some r := by rw [if_neg (show ¬ (false = true) by decide)] at H; exact H
                            clear H
                            have H := H1
                            clear H1
                            exact absurd (H.trans (congrArg some hT.out)) (by simp)
def bournelaw10_CurveOrders.Pure : Prop := ∀ (l0 : List (S37)) (l1 : List (S37)) (l2 : List (S37)) (a3 : Int) (a4 : Int), l0.length ≤ maxLen → (∀ y, y ∈ l0 → w37 y) → l1.length ≤ maxLen → (∀ y, y ∈ l1 → w37 y) → l2.length ≤ maxLen → (∀ y, y ∈ l2 → w37 y) → (Lit.int .i64 a3).wf = true → (Lit.int .i64 a4).wf = true → ∃ k, bournelaw10_CurveOrders.f k l0 l1 l2 a3 a4 = some true
theorem bournelaw10_CurveOrders.walk (P_ : bournelaw10_CurveOrders.Pure) (A0 : Option Addr) (c0 : Nat) (l0 : List (S37)) (A1 : Option Addr) (c1 : Nat) (l1 : List (S37)) (A2 : Option Addr) (c2 : Nat) (l2 : List (S37)) (a3 : Int) (a4 : Int) (w : World) (hr0 : Kd.C k37 w A0 l0.length l0) (hc0 : l0.length ≤ c0) (hr1 : Kd.C k37 w A1 l1.length l1) (hc1 : l1.length ≤ c1) (hr2 : Kd.C k37 w A2 l2.length l2) (hc2 : l2.length ≤ c2) (y0 : l0.length ≤ maxLen) (y1 : (∀ y, y ∈ l0 → w37 y)) (y2 : l1.length ≤ maxLen) (y3 : (∀ y, y ∈ l1 → w37 y)) (y4 : l2.length ≤ maxLen) (y5 : (∀ y, y ∈ l2 → w37 y)) (y6 : (Lit.int .i64 a3).wf = true) (y7 : (Lit.int .i64 a4).wf = true) :
    Calls Try.prog 6 #[.slice A0 l0.length c0, .slice A1 l1.length c1, .slice A2 l2.length c2, .int .i64 a3, .int .i64 a4] w fun e w' => e = .returned (.bool true) ∧ Below w.heap.size w w' := by
  obtain ⟨k, h⟩ := P_ l0 l1 l2 a3 a4 y0 y1 y2 y3 y4 y5 y6 y7
  refine (bournelaw10_CurveOrders.calls k A0 c0 l0 A1 c1 l1 A2 c2 l2 a3 a4 true w hr0 hc0 hr1 hc1 hr2 hc2 ⟨rfl⟩ h).mono ?_
  rintro e w' ⟨rfl, hd⟩
  exact ⟨rfl, hd⟩

end Go.Proofs.Ytmkekbehipaopaa.Fn
