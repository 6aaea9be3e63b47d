-- written by this session's program myprint.py out of the translation; Lean checks it
import Derived.Test.YtmkekbehipaopaaFn0
import Derived.Test.YtmkekbehipaopaaRdT
import Derived.Test.YtmkekbehipaopaaFn2
import Derived.Test.YtmkekbehipaopaaFn7
import Derived.Test.YtmkekbehipaopaaFn8
namespace Go.Proofs.Ytmkekbehipaopaa.Fn
open Go.Proofs.Ytmkekbehipaopaa.Rd (w37)
open Go.RowKit Go.Proofs.YtmkekbehipaopaaW.PrintWords Go.Proofs.YtmkekbehipaopaaW.PrintLast Go.Proofs.YtmkekbehipaopaaW.PrintMore
open World renaming block_lt_of_cell? → wL
open Bool renaming true → T, false → F
open List renaming setIfInBounds_toArray → lA, set_cons_zero → lZ, set_cons_succ → lS
open Go.Proofs.YtmkekbehipaopaaW.PrintWords renaming pw_below_drewN → bW, below_drew1 → b1, below_alloc → bL, below_step → bP, below_size → bZ
attribute [local go_sem] max2_int min2_int max_two min_two max_three min_three max_four min_four
set_option linter.unusedVariables false
set_option linter.unusedSimpArgs false
mutual
def bournelaw10_CurvePoints.j0 : Nat → List (S37) → List (S37) → Int → Int → Int → Bool → Bool → Option (Bool)
 | 0, _, _, _, _, _, _, _ => none
 | k + 1, x0, x1, x2, x3, x4, x11, x55 => if x55 = true then (some x11) else (bournelaw10_CurvePoints.l0 k x0 x1 x2 x3 x4 x11 ([] : List (S37)) 0)
def bournelaw10_CurvePoints.l0 : Nat → List (S37) → List (S37) → Int → Int → Int → Bool → List (S37) → Int → Option (Bool)
 | 0, _, _, _, _, _, _, _, _ => none
 | k + 1, x0, x1, x2, x3, x4, x11, x12, x13 => if x13 < (x0.length : Int) then (if 0 ≤ x13 then (if x12.length < 8796093022208 then (bournelaw10_CurvePoints.l0 k x0 x1 x2 x3 x4 x11 (x12 ++ [(⟨(rd_T37 x0 x13).f0, wrap64 (((rd_T37 x0 x13).f1) + x4)⟩ : S37)]) (wrap64 (x13 + 1))) else (none)) else (none)) else ((curve_At.f k x12 x2).bind fun t326 => ((curve_At.f k x0 x2).bind fun t327 => (if t326 = (wrap64 (t327 + x4)) then ((curve_Under.f k x0 x12).bind fun t328 => (if t328 = true then (if x4 > 0 then ((curve_Under.f k x12 x0).bind fun t329 => (bournelaw10_CurvePoints.j2 k x0 x1 x2 x3 x11 t329)) else (bournelaw10_CurvePoints.j2 k x0 x1 x2 x3 x11 false)) else (bournelaw10_CurvePoints.j2 k x0 x1 x2 x3 x11 true))) else (bournelaw10_CurvePoints.j2 k x0 x1 x2 x3 x11 true))))
def bournelaw10_CurvePoints.j2 : Nat → List (S37) → List (S37) → Int → Int → Bool → Bool → Option (Bool)
 | 0, _, _, _, _, _, _ => none
 | k + 1, x0, x1, x2, x3, x11, x102 => if x102 = true then (some false) else (if x3 < 0 then (bournelaw10_CurvePoints.j3 k x0 x1 x2 x3 x11 true) else (if x3 ≥ (wrap64 ((x0.length : Int) - 1)) then (bournelaw10_CurvePoints.j3 k x0 x1 x2 x3 x11 true) else (if 0 ≤ (wrap64 (x3 + 1)) then (if (wrap64 (x3 + 1)) < (x0.length : Int) then (if 0 ≤ x3 then (if x3 < (x0.length : Int) then (if ((rd_T37 x0 (wrap64 (x3 + 1))).f1) = ((rd_T37 x0 x3).f1) then (bournelaw10_CurvePoints.j3 k x0 x1 x2 x3 x11 (decide ((wrap64 (((rd_T37 x0 (wrap64 (x3 + 1))).f0) - ((rd_T37 x0 x3).f0))) < 2))) else (bournelaw10_CurvePoints.j3 k x0 x1 x2 x3 x11 true)) else (none)) else (none)) else (none)) else (none))))
def bournelaw10_CurvePoints.j3 : Nat → List (S37) → List (S37) → Int → Int → Bool → Bool → Option (Bool)
 | 0, _, _, _, _, _, _ => none
 | k + 1, x0, x1, x2, x3, x11, x140 => if x140 = true then (some x11) else (bournelaw10_CurvePoints.l1 k x0 x1 x2 x3 x11 ([] : List (S37)) 0)
def bournelaw10_CurvePoints.l1 : Nat → List (S37) → List (S37) → Int → Int → Bool → List (S37) → Int → Option (Bool)
 | 0, _, _, _, _, _, _, _ => none
 | k + 1, x0, x1, x2, x3, x11, x14, x15 => if x15 < (x0.length : Int) then (if 0 ≤ x15 then (if x14.length < 8796093022208 then ((some (x14 ++ [(⟨(rd_T37 x0 x15).f0, (rd_T37 x0 x15).f1⟩ : S37)] : List (S37))).bind fun y335 => (if x15 = x3 then (if 0 ≤ x3 then (if x3 < (x0.length : Int) then (if y335.length < 8796093022208 then (bournelaw10_CurvePoints.l1 k x0 x1 x2 x3 x11 (y335 ++ [(⟨wrap64 (((rd_T37 x0 x3).f0) + 1), (rd_T37 x0 x3).f1⟩ : S37)]) (wrap64 (x15 + 1))) else (none)) else (none)) else (none)) else (bournelaw10_CurvePoints.l1 k x0 x1 x2 x3 x11 y335 (wrap64 (x15 + 1))))) else (none)) else (none)) else ((curve_At.f k x14 x2).bind fun t343 => ((curve_At.f k x0 x2).bind fun t344 => (if t343 = t344 then ((curve_Under.f k x14 x0).bind fun t345 => (if t345 = true then ((curve_Under.f k x0 x14).bind fun t346 => (bournelaw10_CurvePoints.j5 k x0 x1 x11 x14 t346)) else (bournelaw10_CurvePoints.j5 k x0 x1 x11 x14 false))) else (bournelaw10_CurvePoints.j5 k x0 x1 x11 x14 false))))
def bournelaw10_CurvePoints.j5 : Nat → List (S37) → List (S37) → Bool → List (S37) → Bool → Option (Bool)
 | 0, _, _, _, _, _ => none
 | k + 1, x0, x1, x11, x14, x16 => if x11 = true then (if x16 = true then ((curve_Under.f k x14 x1).bind fun t347 => ((curve_Under.f k x0 x1).bind fun t348 => (if (t347 == t348) = true then ((curve_Under.f k x1 x14).bind fun t349 => ((curve_Under.f k x1 x0).bind fun t350 => (some (t349 == t350)))) else (some false)))) else (some false)) else (some false)
end
def bournelaw10_CurvePoints.f (k : Nat) (l0 : List (S37)) (l1 : List (S37)) (a2 : Int) (a3 : Int) (a4 : Int) : Option (Bool) := (bournelaw10_small.f k).bind fun t317 => (if (l0.length : Int) > 31 then (bournelaw10_CurvePoints.j0 k l0 l1 a2 a3 a4 t317 true) else ((curve_Right.f k l0).bind fun t318 => (if t318 = true then (if (l1.length : Int) > 40 then (bournelaw10_CurvePoints.j0 k l0 l1 a2 a3 a4 t317 true) else ((curve_Right.f k l1).bind fun t319 => (if t319 = true then (if a4 < 0 then (bournelaw10_CurvePoints.j0 k l0 l1 a2 a3 a4 t317 true) else (if a4 > 1000 then (bournelaw10_CurvePoints.j0 k l0 l1 a2 a3 a4 t317 true) else (if 0 ≤ (wrap64 ((l0.length : Int) - 1)) then (if (wrap64 ((l0.length : Int) - 1)) < (l0.length : Int) then (bournelaw10_CurvePoints.j0 k l0 l1 a2 a3 a4 t317 (decide ((wrap64 (((rd_T37 l0 (wrap64 ((l0.length : Int) - 1))).f1) + a4)) > 1125899906842624))) else (none)) else (none)))) else (bournelaw10_CurvePoints.j0 k l0 l1 a2 a3 a4 t317 true)))) else (bournelaw10_CurvePoints.j0 k l0 l1 a2 a3 a4 t317 true))))
theorem bournelaw10_CurvePoints.mono_l : ∀ k, (∀ y0 y1 y2 y3 y4 y5 y6, LeO (bournelaw10_CurvePoints.j0 k y0 y1 y2 y3 y4 y5 y6) (bournelaw10_CurvePoints.j0 (k + 1) y0 y1 y2 y3 y4 y5 y6)) ∧ (∀ y0 y1 y2 y3 y4 y5 y6 y7, LeO (bournelaw10_CurvePoints.l0 k y0 y1 y2 y3 y4 y5 y6 y7) (bournelaw10_CurvePoints.l0 (k + 1) y0 y1 y2 y3 y4 y5 y6 y7)) ∧ (∀ y0 y1 y2 y3 y4 y5, LeO (bournelaw10_CurvePoints.j2 k y0 y1 y2 y3 y4 y5) (bournelaw10_CurvePoints.j2 (k + 1) y0 y1 y2 y3 y4 y5)) ∧ (∀ y0 y1 y2 y3 y4 y5, LeO (bournelaw10_CurvePoints.j3 k y0 y1 y2 y3 y4 y5) (bournelaw10_CurvePoints.j3 (k + 1) y0 y1 y2 y3 y4 y5)) ∧ (∀ y0 y1 y2 y3 y4 y5 y6, LeO (bournelaw10_CurvePoints.l1 k y0 y1 y2 y3 y4 y5 y6) (bournelaw10_CurvePoints.l1 (k + 1) y0 y1 y2 y3 y4 y5 y6)) ∧ (∀ y0 y1 y2 y3 y4, LeO (bournelaw10_CurvePoints.j5 k y0 y1 y2 y3 y4) (bournelaw10_CurvePoints.j5 (k + 1) y0 y1 y2 y3 y4))
 | 0 => ⟨fun _ _ _ _ _ _ _ r h => by simp [bournelaw10_CurvePoints.j0] at h, fun _ _ _ _ _ _ _ _ r h => by simp [bournelaw10_CurvePoints.l0] at h, fun _ _ _ _ _ _ r h => by simp [bournelaw10_CurvePoints.j2] at h, fun _ _ _ _ _ _ r h => by simp [bournelaw10_CurvePoints.j3] at h, fun _ _ _ _ _ _ _ r h => by simp [bournelaw10_CurvePoints.l1] at h, fun _ _ _ _ _ r h => by simp [bournelaw10_CurvePoints.j5] at h⟩
 | k + 1 => by
  obtain ⟨ih0, ih1, ih2, ih3, ih4, ih5⟩ := bournelaw10_CurvePoints.mono_l k
  refine ⟨?_, ?_, ?_, ?_, ?_, ?_⟩
  ·
   intro y0 y1 y2 y3 y4 y5 y6; unfold bournelaw10_CurvePoints.j0
   repeat' first
   | (with_reducible exact ih0 _ _ _ _ _ _ _)
   | (with_reducible exact ih1 _ _ _ _ _ _ _ _)
   | (with_reducible exact ih2 _ _ _ _ _ _)
   | (with_reducible exact ih3 _ _ _ _ _ _)
   | (with_reducible exact ih4 _ _ _ _ _ _ _)
   | (with_reducible exact ih5 _ _ _ _ _)
   | (with_reducible exact bournelaw10_small.mono _)
   | (with_reducible exact curve_At.mono _ _ _)
   | (with_reducible exact curve_Right.mono _ _)
   | (with_reducible exact curve_Under.mono _ _ _)
   | (with_reducible exact LeO.refl _)
   | (with_reducible exact LeO.none _)
   | (with_reducible refine LeO.ite ?_ ?_)
   | (with_reducible refine LeO.bind ?_ (fun _ => ?_))
   | exact ih0 _ _ _ _ _ _ _
   | exact ih1 _ _ _ _ _ _ _ _
   | exact ih2 _ _ _ _ _ _
   | exact ih3 _ _ _ _ _ _
   | exact ih4 _ _ _ _ _ _ _
   | exact ih5 _ _ _ _ _
   | exact bournelaw10_small.mono _
   | exact curve_At.mono _ _ _
   | exact curve_Right.mono _ _
   | exact curve_Under.mono _ _ _
   | exact LeO.none _
   | refine LeO.ite ?_ ?_
   | refine LeO.bind ?_ (fun _ => ?_)
  ·
   intro y0 y1 y2 y3 y4 y5 y6 y7; unfold bournelaw10_CurvePoints.l0
   repeat' first
   | (with_reducible exact ih0 _ _ _ _ _ _ _)
   | (with_reducible exact ih1 _ _ _ _ _ _ _ _)
   | (with_reducible exact ih2 _ _ _ _ _ _)
   | (with_reducible exact ih3 _ _ _ _ _ _)
   | (with_reducible exact ih4 _ _ _ _ _ _ _)
   | (with_reducible exact ih5 _ _ _ _ _)
   | (with_reducible exact bournelaw10_small.mono _)
   | (with_reducible exact curve_At.mono _ _ _)
   | (with_reducible exact curve_Right.mono _ _)
   | (with_reducible exact curve_Under.mono _ _ _)
   | (with_reducible exact LeO.refl _)
   | (with_reducible exact LeO.none _)
   | (with_reducible refine LeO.ite ?_ ?_)
   | (with_reducible refine LeO.bind ?_ (fun _ => ?_))
   | exact ih0 _ _ _ _ _ _ _
   | exact ih1 _ _ _ _ _ _ _ _
   | exact ih2 _ _ _ _ _ _
   | exact ih3 _ _ _ _ _ _
   | exact ih4 _ _ _ _ _ _ _
   | exact ih5 _ _ _ _ _
   | exact bournelaw10_small.mono _
   | exact curve_At.mono _ _ _
   | exact curve_Right.mono _ _
   | exact curve_Under.mono _ _ _
   | exact LeO.none _
   | refine LeO.ite ?_ ?_
   | refine LeO.bind ?_ (fun _ => ?_)
  ·
   intro y0 y1 y2 y3 y4 y5; unfold bournelaw10_CurvePoints.j2
   repeat' first
   | (with_reducible exact ih0 _ _ _ _ _ _ _)
   | (with_reducible exact ih1 _ _ _ _ _ _ _ _)
   | (with_reducible exact ih2 _ _ _ _ _ _)
   | (with_reducible exact ih3 _ _ _ _ _ _)
   | (with_reducible exact ih4 _ _ _ _ _ _ _)
   | (with_reducible exact ih5 _ _ _ _ _)
   | (with_reducible exact bournelaw10_small.mono _)
   | (with_reducible exact curve_At.mono _ _ _)
   | (with_reducible exact curve_Right.mono _ _)
   | (with_reducible exact curve_Under.mono _ _ _)
   | (with_reducible exact LeO.refl _)
   | (with_reducible exact LeO.none _)
   | (with_reducible refine LeO.ite ?_ ?_)
   | (with_reducible refine LeO.bind ?_ (fun _ => ?_))
   | exact ih0 _ _ _ _ _ _ _
   | exact ih1 _ _ _ _ _ _ _ _
   | exact ih2 _ _ _ _ _ _
   | exact ih3 _ _ _ _ _ _
   | exact ih4 _ _ _ _ _ _ _
   | exact ih5 _ _ _ _ _
   | exact bournelaw10_small.mono _
   | exact curve_At.mono _ _ _
   | exact curve_Right.mono _ _
   | exact curve_Under.mono _ _ _
   | exact LeO.none _
   | refine LeO.ite ?_ ?_
   | refine LeO.bind ?_ (fun _ => ?_)
  ·
   intro y0 y1 y2 y3 y4 y5; unfold bournelaw10_CurvePoints.j3
   repeat' first
   | (with_reducible exact ih0 _ _ _ _ _ _ _)
   | (with_reducible exact ih1 _ _ _ _ _ _ _ _)
   | (with_reducible exact ih2 _ _ _ _ _ _)
   | (with_reducible exact ih3 _ _ _ _ _ _)
   | (with_reducible exact ih4 _ _ _ _ _ _ _)
   | (with_reducible exact ih5 _ _ _ _ _)
   | (with_reducible exact bournelaw10_small.mono _)
   | (with_reducible exact curve_At.mono _ _ _)
   | (with_reducible exact curve_Right.mono _ _)
   | (with_reducible exact curve_Under.mono _ _ _)
   | (with_reducible exact LeO.refl _)
   | (with_reducible exact LeO.none _)
   | (with_reducible refine LeO.ite ?_ ?_)
   | (with_reducible refine LeO.bind ?_ (fun _ => ?_))
   | exact ih0 _ _ _ _ _ _ _
   | exact ih1 _ _ _ _ _ _ _ _
   | exact ih2 _ _ _ _ _ _
   | exact ih3 _ _ _ _ _ _
   | exact ih4 _ _ _ _ _ _ _
   | exact ih5 _ _ _ _ _
   | exact bournelaw10_small.mono _
   | exact curve_At.mono _ _ _
   | exact curve_Right.mono _ _
   | exact curve_Under.mono _ _ _
   | exact LeO.none _
   | refine LeO.ite ?_ ?_
   | refine LeO.bind ?_ (fun _ => ?_)
  ·
   intro y0 y1 y2 y3 y4 y5 y6; unfold bournelaw10_CurvePoints.l1
   repeat' first
   | (with_reducible exact ih0 _ _ _ _ _ _ _)
   | (with_reducible exact ih1 _ _ _ _ _ _ _ _)
   | (with_reducible exact ih2 _ _ _ _ _ _)
   | (with_reducible exact ih3 _ _ _ _ _ _)
   | (with_reducible exact ih4 _ _ _ _ _ _ _)
   | (with_reducible exact ih5 _ _ _ _ _)
   | (with_reducible exact bournelaw10_small.mono _)
   | (with_reducible exact curve_At.mono _ _ _)
   | (with_reducible exact curve_Right.mono _ _)
   | (with_reducible exact curve_Under.mono _ _ _)
   | (with_reducible exact LeO.refl _)
   | (with_reducible exact LeO.none _)
   | (with_reducible refine LeO.ite ?_ ?_)
   | (with_reducible refine LeO.bind ?_ (fun _ => ?_))
   | exact ih0 _ _ _ _ _ _ _
   | exact ih1 _ _ _ _ _ _ _ _
   | exact ih2 _ _ _ _ _ _
   | exact ih3 _ _ _ _ _ _
   | exact ih4 _ _ _ _ _ _ _
   | exact ih5 _ _ _ _ _
   | exact bournelaw10_small.mono _
   | exact curve_At.mono _ _ _
   | exact curve_Right.mono _ _
   | exact curve_Under.mono _ _ _
   | exact LeO.none _
   | refine LeO.ite ?_ ?_
   | refine LeO.bind ?_ (fun _ => ?_)
  ·
   intro y0 y1 y2 y3 y4; unfold bournelaw10_CurvePoints.j5
   repeat' first
   | (with_reducible exact ih0 _ _ _ _ _ _ _)
   | (with_reducible exact ih1 _ _ _ _ _ _ _ _)
   | (with_reducible exact ih2 _ _ _ _ _ _)
   | (with_reducible exact ih3 _ _ _ _ _ _)
   | (with_reducible exact ih4 _ _ _ _ _ _ _)
   | (with_reducible exact ih5 _ _ _ _ _)
   | (with_reducible exact bournelaw10_small.mono _)
   | (with_reducible exact curve_At.mono _ _ _)
   | (with_reducible exact curve_Right.mono _ _)
   | (with_reducible exact curve_Under.mono _ _ _)
   | (with_reducible exact LeO.refl _)
   | (with_reducible exact LeO.none _)
   | (with_reducible refine LeO.ite ?_ ?_)
   | (with_reducible refine LeO.bind ?_ (fun _ => ?_))
   | exact ih0 _ _ _ _ _ _ _
   | exact ih1 _ _ _ _ _ _ _ _
   | exact ih2 _ _ _ _ _ _
   | exact ih3 _ _ _ _ _ _
   | exact ih4 _ _ _ _ _ _ _
   | exact ih5 _ _ _ _ _
   | exact bournelaw10_small.mono _
   | exact curve_At.mono _ _ _
   | exact curve_Right.mono _ _
   | exact curve_Under.mono _ _ _
   | exact LeO.none _
   | refine LeO.ite ?_ ?_
   | refine LeO.bind ?_ (fun _ => ?_)
theorem bournelaw10_CurvePoints.mono : ∀ a0 a1 a2 a3 a4 k, LeO (bournelaw10_CurvePoints.f k a0 a1 a2 a3 a4) (bournelaw10_CurvePoints.f (k + 1) a0 a1 a2 a3 a4) := by
 intro a0 a1 a2 a3 a4 k; obtain ⟨ih0, ih1, ih2, ih3, ih4, ih5⟩ := bournelaw10_CurvePoints.mono_l k
 unfold bournelaw10_CurvePoints.f
 repeat' first
   | (with_reducible exact ih0 _ _ _ _ _ _ _)
   | (with_reducible exact ih1 _ _ _ _ _ _ _ _)
   | (with_reducible exact ih2 _ _ _ _ _ _)
   | (with_reducible exact ih3 _ _ _ _ _ _)
   | (with_reducible exact ih4 _ _ _ _ _ _ _)
   | (with_reducible exact ih5 _ _ _ _ _)
   | (with_reducible exact bournelaw10_small.mono _)
   | (with_reducible exact curve_At.mono _ _ _)
   | (with_reducible exact curve_Right.mono _ _)
   | (with_reducible exact curve_Under.mono _ _ _)
   | (with_reducible exact LeO.refl _)
   | (with_reducible exact LeO.none _)
   | (with_reducible refine LeO.ite ?_ ?_)
   | (with_reducible refine LeO.bind ?_ (fun _ => ?_))
   | exact ih0 _ _ _ _ _ _ _
   | exact ih1 _ _ _ _ _ _ _ _
   | exact ih2 _ _ _ _ _ _
   | exact ih3 _ _ _ _ _ _
   | exact ih4 _ _ _ _ _ _ _
   | exact ih5 _ _ _ _ _
   | exact bournelaw10_small.mono _
   | exact curve_At.mono _ _ _
   | exact curve_Right.mono _ _
   | exact curve_Under.mono _ _ _
   | exact LeO.none _
   | refine LeO.ite ?_ ?_
   | refine LeO.bind ?_ (fun _ => ?_)
def bournelaw10_CurvePoints.T8 : Bool × List (List Nat × List Nat) := (true, [([], []), ([], []), ([], []), ([1, 2], [1, 2]), ([3], [3]), ([4], [4]), ([], []), ([], []), ([6, 7], [6, 7]), ([8], [8]), ([9], [9]), ([], []), ([10, 11], [10, 11]), ([5, 12], [5, 12]), ([13], [13]), ([0, 14], [0, 14]), ([15, 15, 0, 1, 2, 3, 4, 5, 6, 7, 8, 9, 10, 11, 12, 13, 14, 15], [0, 15])])
def bournelaw10_CurvePoints.B8 : List Nat := [0, 0, 0, 6, 14, 30, 0, 0, 192, 448, 960, 0, 4032, 8190, 16382, 32767, 65535]
theorem bournelaw10_CurvePoints.tab8 : rtab .any (opsOf Try.f7 8) = bournelaw10_CurvePoints.T8 := by kernel_rfl
theorem bournelaw10_CurvePoints.bits8 : waitsOk bournelaw10_CurvePoints.T8.2 bournelaw10_CurvePoints.B8 = true := by kernel_rfl
def bournelaw10_CurvePoints.T11 : Bool × List (List Nat × List Nat) := (true, [([], []), ([0], [0]), ([1], [1]), ([2], [2]), ([2], [2]), ([4, 2], [2, 4]), ([5, 2], [2, 5]), ([3, 6, 2], [2, 3, 6]), ([2, 7], [2, 7]), ([8, 2], [8]), ([9], [9]), ([9], [9]), ([11, 9], [9, 11]), ([10, 12, 9], [9, 10, 12]), ([13, 9], [9, 13]), ([14, 9], [9, 14]), ([9], [9]), ([9], [9]), ([16, 17, 9], [9, 16, 17]), ([18, 9], [9, 18]), ([19, 9], [9, 19]), ([15, 20, 9], [9, 15, 20]), ([9, 21], [9, 21]), ([22, 9], [22]), ([23], [23]), ([23], [23]), ([25, 23], [23, 25]), ([24, 26, 23], [23, 24, 26]), ([27, 23], [23, 27]), ([28, 23], [23, 28]), ([23], [23]), ([23], [23]), ([30, 31, 23], [23, 30, 31]), ([32, 23], [23, 32]), ([33, 23], [23, 33]), ([29, 34, 23], [23, 29, 34]), ([35, 23], [23, 35]), ([23, 36], [23, 36])])
def bournelaw10_CurvePoints.B11 : List Nat := [0, 1, 3, 7, 7, 23, 55, 127, 255, 511, 1023, 1023, 3071, 8191, 16383, 32767, 1023, 1023, 197631, 459775, 984063, 2097151, 4194303, 8388607, 16777215, 16777215, 50331647, 134217727, 268435455, 536870911, 16777215, 16777215, 3238002687, 7532969983, 16122904575, 34359738367, 68719476735, 137438953471]
theorem bournelaw10_CurvePoints.tab11 : rtab .any (opsOf Try.f7 11) = bournelaw10_CurvePoints.T11 := by kernel_rfl
theorem bournelaw10_CurvePoints.bits11 : waitsOk bournelaw10_CurvePoints.T11.2 bournelaw10_CurvePoints.B11 = true := by kernel_rfl
def bournelaw10_CurvePoints.T19 : Bool × List (List Nat × List Nat) := (true, [([], []), ([], []), ([], []), ([1, 2], [1, 2]), ([3], [3]), ([4], [4]), ([5], [5]), ([], []), ([], []), ([7, 8], [7, 8]), ([9], [9]), ([10], [10]), ([6, 11], [6, 11]), ([12], [12]), ([0, 13], [0, 13]), ([14, 14, 0, 1, 2, 3, 4, 5, 6, 7, 8, 9, 10, 11, 12, 13, 14], [0, 14])])
def bournelaw10_CurvePoints.B19 : List Nat := [0, 0, 0, 6, 14, 30, 62, 0, 0, 384, 896, 1920, 4094, 8190, 16383, 32767]
theorem bournelaw10_CurvePoints.tab19 : rtab .any (opsOf Try.f7 19) = bournelaw10_CurvePoints.T19 := by kernel_rfl
theorem bournelaw10_CurvePoints.bits19 : waitsOk bournelaw10_CurvePoints.T19.2 bournelaw10_CurvePoints.B19 = true := by kernel_rfl
set_option maxHeartbeats 8000000 in
set_option maxRecDepth 100000 in
theorem bournelaw10_CurvePoints.calls (k : Nat) (A0 : Option Addr) (c0 : Nat) (l0 : List (S37)) (A1 : Option Addr) (c1 : Nat) (l1 : List (S37)) (a2 : Int) (a3 : Int) (a4 : Int) (r : Bool) (w : World) (hr0 : Kd.C k37 w A0 l0.length l0) (hc0 : l0.length ≤ c0) (hr1 : Kd.C k37 w A1 l1.length l1) (hc1 : l1.length ≤ c1) (hT : Aside0 (r = true)) (h : bournelaw10_CurvePoints.f k l0 l1 a2 a3 a4 = some r) :
  Calls Try.prog 7 #[.slice A0 l0.length c0, .slice A1 l1.length c1, .int .i64 a2, .int .i64 a3, .int .i64 a4] w fun e w' => e = .returned (.bool r) ∧ Below w.heap.size w w' := by
 have hu37 := Try.underlying37
 have HR0 := Aside0.mk hr0
 have HC0 := Aside0.mk hc0
 clear hr0 hc0; have HR1 := Aside0.mk hr1
 have HC1 := Aside0.mk hc1
 clear hr1 hc1; have HB := Aside0.mk (Below.refl w.heap.size w)
 have H : ((bournelaw10_small.f k).bind fun t317 => (if (l0.length : Int) > 31 then (bournelaw10_CurvePoints.j0 k l0 l1 a2 a3 a4 t317 true) else ((curve_Right.f k l0).bind fun t318 => (if t318 = true then (if (l1.length : Int) > 40 then (bournelaw10_CurvePoints.j0 k l0 l1 a2 a3 a4 t317 true) else ((curve_Right.f k l1).bind fun t319 => (if t319 = true then (if a4 < 0 then (bournelaw10_CurvePoints.j0 k l0 l1 a2 a3 a4 t317 true) else (if a4 > 1000 then (bournelaw10_CurvePoints.j0 k l0 l1 a2 a3 a4 t317 true) else (if 0 ≤ (wrap64 ((l0.length : Int) - 1)) then (if (wrap64 ((l0.length : Int) - 1)) < (l0.length : Int) then (bournelaw10_CurvePoints.j0 k l0 l1 a2 a3 a4 t317 (decide ((wrap64 (((rd_T37 l0 (wrap64 ((l0.length : Int) - 1))).f1) + a4)) > 1125899906842624))) else (none)) else (none)))) else (bournelaw10_CurvePoints.j0 k l0 l1 a2 a3 a4 t317 true)))) else (bournelaw10_CurvePoints.j0 k l0 l1 a2 a3 a4 t317 true))))) = some r := h
 clear h; replace H := Option.bind_eq_some_iff.mp H
 obtain ⟨t317, A60, H⟩ := H
 have A6 := Aside0.mk A60
 clear A60; have HC7 := Aside0.mk H
 clear H; go_enter Try.func7, Try.ntmps7
 (try simp only [List.append_eq, List.cons_append, List.nil_append]); go_upto_region 2 with (first | ((with_reducible refine gate_callee (f := 8) rfl ?_); refine goesL_ (some 17) rfl rfl Try.func8 (by kernel_rfl) rfl #[] rfl (by (try simp only [List.map_toArray, List.map_cons, List.map_nil]); first | done | rfl | (simp only [List.length_drop, List.length_take]; rfl)) ?_; (with_reducible refine (bournelaw10_small.calls k  t317 _ A6.out).mono ?_); rintro e w8 ⟨rfl, hb⟩; refine ⟨_, rfl, ?_⟩; have n0_ := Aside0.mk (bP (by repeat (first | (with_reducible first | exact HB.out | apply bL | apply bW | apply b1) | exact HB.out)) hb); clear HB; have HB := n0_; clear n0_; (try clear hb); (try clear hb2); (try clear hk); (try clear hi)))
 (try simp only [Act.put, lA, lZ, lS]); go_cut [55] (fun v55 wc => ∃ (kq : Nat) (x55_6 : Bool), v55 = .bool x55_6 ∧ Aside0 (bournelaw10_CurvePoints.j0 kq l0 l1 a2 a3 a4 t317 x55_6 = some r) ∧ Aside0 (kq ≤ k) ∧ Aside0 (Below w.heap.size w wc))
 case first =>
  have H := HC7.out
  clear HC7; by_cases c9 : (l0.length : Int) > 31
  ·
   rw [if_pos c9] at H; have c9b0 : decide (31 < (l0.length : Int)) = true := decide_eq_true c9
   have c9b1 : decide (31 < l0.length) = true := decide_eq_true (by omega)
   clear c9; (first | rw [c9b0] | (simp only [i64_w, i32_w]; rw [c9b0]) | skip)
   have H' := Aside0.mk H
   clear H
   as_aux_lemma =>
    go_wp2
    go_meet
    case rel => exact ⟨_, (true), (by first | rfl | (simp; done) | (simp [*]; done)), H', ⟨by first | omega | exact Nat.le_refl _⟩, ⟨by repeat (first | (with_reducible first | exact HB.out | apply bL | apply bW | apply b1) | exact HB.out)⟩⟩
  ·
   rw [if_neg c9] at H; have c9b0 : decide (31 < (l0.length : Int)) = false := decide_eq_false c9
   have c9b1 : decide (31 < l0.length) = false := decide_eq_false (by omega)
   clear c9; (first | rw [c9b0] | (simp only [i64_w, i32_w]; rw [c9b0]) | skip)
   replace H := Option.bind_eq_some_iff.mp H
   obtain ⟨t318, A100, H⟩ := H
   have A10 := Aside0.mk A100
   clear A100; by_cases c11 : t318 = true
   ·
    subst c11; have H1 : (if (l1.length : Int) > 40 then (bournelaw10_CurvePoints.j0 k l0 l1 a2 a3 a4 t317 true) else ((curve_Right.f k l1).bind fun t319 => (if t319 = true then (if a4 < 0 then (bournelaw10_CurvePoints.j0 k l0 l1 a2 a3 a4 t317 true) else (if a4 > 1000 then (bournelaw10_CurvePoints.j0 k l0 l1 a2 a3 a4 t317 true) else (if 0 ≤ (wrap64 ((l0.length : Int) - 1)) then (if (wrap64 ((l0.length : Int) - 1)) < (l0.length : Int) then (bournelaw10_CurvePoints.j0 k l0 l1 a2 a3 a4 t317 (decide ((wrap64 (((rd_T37 l0 (wrap64 ((l0.length : Int) - 1))).f1) + a4)) > 1125899906842624))) else (none)) else (none)))) else (bournelaw10_CurvePoints.j0 k l0 l1 a2 a3 a4 t317 true)))) = some r := by rw [if_pos rfl] at H; exact H
    clear H; have H := H1
    clear H1; by_cases c12 : (l1.length : Int) > 40
    ·
     rw [if_pos c12] at H; have c12b0 : decide (40 < (l1.length : Int)) = true := decide_eq_true c12
     have c12b1 : decide (40 < l1.length) = true := decide_eq_true (by omega)
     clear c12; have H' := Aside0.mk H
     clear H
     as_aux_lemma =>
      go_wp2_with (first | (go_at_call 11; (with_reducible refine (curve_Right.calls k _ _ l0 true _ ?side1 ?side2 A10.out).mono ?_); (case side1 => repeat (first | exact (Kd.C_below HR0.out HB.out) | (with_reducible refine Kd.C_alloc ?_ _) | (with_reducible refine Kd.C_drewN ?_ _) | (with_reducible refine Kd.C_drew ?_))); (case side2 => exact HC0.out); rintro e w13 ⟨rfl, hb⟩; (try clear A10); have n0_ := Aside0.mk (bP (by repeat (first | (with_reducible first | exact HB.out | apply bL | apply bW | apply b1) | exact HB.out)) hb); clear HB; have HB := n0_; clear n0_; (try clear hb); (try clear hb2); (try clear hk); (try clear hi)))
      go_meet
      case rel => exact ⟨_, (true), (by first | rfl | (simp; done) | (simp [*]; done)), H', ⟨by first | omega | exact Nat.le_refl _⟩, ⟨by repeat (first | (with_reducible first | exact HB.out | apply bL | apply bW | apply b1) | exact HB.out)⟩⟩
    ·
     rw [if_neg c12] at H; have c12b0 : decide (40 < (l1.length : Int)) = false := decide_eq_false c12
     have c12b1 : decide (40 < l1.length) = false := decide_eq_false (by omega)
     clear c12; replace H := Option.bind_eq_some_iff.mp H
     obtain ⟨t319, A140, H⟩ := H
     have A14 := Aside0.mk A140
     clear A140; by_cases c15 : t319 = true
     ·
      subst c15; have H1 : (if a4 < 0 then (bournelaw10_CurvePoints.j0 k l0 l1 a2 a3 a4 t317 true) else (if a4 > 1000 then (bournelaw10_CurvePoints.j0 k l0 l1 a2 a3 a4 t317 true) else (if 0 ≤ (wrap64 ((l0.length : Int) - 1)) then (if (wrap64 ((l0.length : Int) - 1)) < (l0.length : Int) then (bournelaw10_CurvePoints.j0 k l0 l1 a2 a3 a4 t317 (decide ((wrap64 (((rd_T37 l0 (wrap64 ((l0.length : Int) - 1))).f1) + a4)) > 1125899906842624))) else (none)) else (none)))) = some r := by rw [if_pos rfl] at H; exact H
      clear H; have H := H1
      clear H1; by_cases c16 : a4 < 0
      ·
       rw [if_pos c16] at H; have c16b0 : decide (a4 < 0) = true := decide_eq_true c16
       clear c16; have H' := Aside0.mk H
       clear H
       as_aux_lemma =>
        go_wp2_with (first | (go_at_call 11; (with_reducible refine (curve_Right.calls k _ _ l0 true _ ?side1 ?side2 A10.out).mono ?_); (case side1 => repeat (first | exact (Kd.C_below HR0.out HB.out) | (with_reducible refine Kd.C_alloc ?_ _) | (with_reducible refine Kd.C_drewN ?_ _) | (with_reducible refine Kd.C_drew ?_))); (case side2 => exact HC0.out); rintro e w17 ⟨rfl, hb⟩; (try clear A10); have n0_ := Aside0.mk (bP (by repeat (first | (with_reducible first | exact HB.out | apply bL | apply bW | apply b1) | exact HB.out)) hb); clear HB; have HB := n0_; clear n0_; (try clear hb); (try clear hb2); (try clear hk); (try clear hi)) | (go_at_call 11; (with_reducible refine (curve_Right.calls k _ _ l1 true _ ?side1 ?side2 A14.out).mono ?_); (case side1 => repeat (first | exact (Kd.C_below HR1.out HB.out) | (with_reducible refine Kd.C_alloc ?_ _) | (with_reducible refine Kd.C_drewN ?_ _) | (with_reducible refine Kd.C_drew ?_))); (case side2 => exact HC1.out); rintro e w18 ⟨rfl, hb⟩; (try clear A14); have n0_ := Aside0.mk (bP (by repeat (first | (with_reducible first | exact HB.out | apply bL | apply bW | apply b1) | exact HB.out)) hb); clear HB; have HB := n0_; clear n0_; (try clear hb); (try clear hb2); (try clear hk); (try clear hi)))
        go_meet
        case rel => exact ⟨_, (true), (by first | rfl | (simp; done) | (simp [*]; done)), H', ⟨by first | omega | exact Nat.le_refl _⟩, ⟨by repeat (first | (with_reducible first | exact HB.out | apply bL | apply bW | apply b1) | exact HB.out)⟩⟩
      ·
       rw [if_neg c16] at H; have c16b0 : decide (a4 < 0) = false := decide_eq_false c16
       clear c16; by_cases c19 : a4 > 1000
       ·
        rw [if_pos c19] at H; have c19b0 : decide (1000 < a4) = true := decide_eq_true c19
        clear c19; have H' := Aside0.mk H
        clear H
        as_aux_lemma =>
         go_wp2_with (first | (go_at_call 11; (with_reducible refine (curve_Right.calls k _ _ l0 true _ ?side1 ?side2 A10.out).mono ?_); (case side1 => repeat (first | exact (Kd.C_below HR0.out HB.out) | (with_reducible refine Kd.C_alloc ?_ _) | (with_reducible refine Kd.C_drewN ?_ _) | (with_reducible refine Kd.C_drew ?_))); (case side2 => exact HC0.out); rintro e w20 ⟨rfl, hb⟩; (try clear A10); have n0_ := Aside0.mk (bP (by repeat (first | (with_reducible first | exact HB.out | apply bL | apply bW | apply b1) | exact HB.out)) hb); clear HB; have HB := n0_; clear n0_; (try clear hb); (try clear hb2); (try clear hk); (try clear hi)) | (go_at_call 11; (with_reducible refine (curve_Right.calls k _ _ l1 true _ ?side1 ?side2 A14.out).mono ?_); (case side1 => repeat (first | exact (Kd.C_below HR1.out HB.out) | (with_reducible refine Kd.C_alloc ?_ _) | (with_reducible refine Kd.C_drewN ?_ _) | (with_reducible refine Kd.C_drew ?_))); (case side2 => exact HC1.out); rintro e w21 ⟨rfl, hb⟩; (try clear A14); have n0_ := Aside0.mk (bP (by repeat (first | (with_reducible first | exact HB.out | apply bL | apply bW | apply b1) | exact HB.out)) hb); clear HB; have HB := n0_; clear n0_; (try clear hb); (try clear hb2); (try clear hk); (try clear hi)))
         go_meet
         case rel => exact ⟨_, (true), (by first | rfl | (simp; done) | (simp [*]; done)), H', ⟨by first | omega | exact Nat.le_refl _⟩, ⟨by repeat (first | (with_reducible first | exact HB.out | apply bL | apply bW | apply b1) | exact HB.out)⟩⟩
       ·
        rw [if_neg c19] at H; have c19b0 : decide (1000 < a4) = false := decide_eq_false c19
        clear c19; obtain ⟨ji22, hji22⟩ : ∃ j_ : Int, (wrap64 ((l0.length : Int) - 1)) = j_ := ⟨_, rfl⟩
        replace H : (if 0 ≤ (ji22) then (if (ji22) < (l0.length : Int) then (bournelaw10_CurvePoints.j0 k l0 l1 a2 a3 a4 t317 (decide ((wrap64 (((rd_T37 l0 (ji22)).f1) + a4)) > 1125899906842624))) else (none)) else (none)) = some r := by first | (rw [hji22] at H; exact H) | (simp only [hji22] at H ⊢; exact H)
        (try rw [hji22] at A10); (try rw [hji22] at A14); have hji22w : (IntKind.i64.wrap ((l0.length : Int) - 1)) = ji22 := (i64_w _).trans hji22
        by_cases c23 : 0 ≤ (ji22)
        ·
         rw [if_pos c23] at H; have c23b0 : decide (0 ≤ (ji22)) = true := decide_eq_true c23
         clear c23; by_cases c24 : (ji22) < (l0.length : Int)
         ·
          rw [if_pos c24] at H; have c24b0 : decide ((ji22) < (l0.length : Int)) = true := decide_eq_true c24
          clear c24; have H' := Aside0.mk H
          clear H
          as_aux_lemma =>
           go_wp2_with (first | (go_at_call 11; (with_reducible refine (curve_Right.calls k _ _ l0 true _ ?side1 ?side2 A10.out).mono ?_); (case side1 => repeat (first | exact (Kd.C_below HR0.out HB.out) | (with_reducible refine Kd.C_alloc ?_ _) | (with_reducible refine Kd.C_drewN ?_ _) | (with_reducible refine Kd.C_drew ?_))); (case side2 => exact HC0.out); rintro e w25 ⟨rfl, hb⟩; (try clear A10); have n0_ := Aside0.mk (bP (by repeat (first | (with_reducible first | exact HB.out | apply bL | apply bW | apply b1) | exact HB.out)) hb); clear HB; have HB := n0_; clear n0_; (try clear hb); (try clear hb2); (try clear hk); (try clear hi)) | (go_at_call 11; (with_reducible refine (curve_Right.calls k _ _ l1 true _ ?side1 ?side2 A14.out).mono ?_); (case side1 => repeat (first | exact (Kd.C_below HR1.out HB.out) | (with_reducible refine Kd.C_alloc ?_ _) | (with_reducible refine Kd.C_drewN ?_ _) | (with_reducible refine Kd.C_drew ?_))); (case side2 => exact HC1.out); rintro e w26 ⟨rfl, hb⟩; (try clear A14); have n0_ := Aside0.mk (bP (by repeat (first | (with_reducible first | exact HB.out | apply bL | apply bW | apply b1) | exact HB.out)) hb); clear HB; have HB := n0_; clear n0_; (try clear hb); (try clear hb2); (try clear hk); (try clear hi); have p320 : 0 ≤ ((ji22) : Int) := of_decide_eq_true (by first | (with_reducible assumption) | assumption); have q320 : (ji22) < (l0.length : Int) := of_decide_eq_true (by first | (with_reducible assumption) | assumption); obtain ⟨ad320, e320, hx320_0, hx320_1⟩ := at_T37 HR0.out (ji22) p320 q320; cases e320; replace hx320_0 := (HB.out.cell (wL w _ hx320_0)).trans hx320_0; replace hx320_1 := (HB.out.cell (wL w _ hx320_1)).trans hx320_1; replace p320 := eq_true p320; replace q320 := eq_true q320))
           go_meet
           case rel => exact ⟨_, (decide ((wrap64 (((rd_T37 l0 (ji22)).f1) + a4)) > 1125899906842624)), (by first | rfl | (simp; done) | (simp only [← hji22] <;> (first | rfl | simp)) | (simp [*]; done)), H', ⟨by first | omega | exact Nat.le_refl _⟩, ⟨by repeat (first | (with_reducible first | exact HB.out | apply bL | apply bW | apply b1) | exact HB.out)⟩⟩
         ·
          rw [if_neg c24] at H; exact absurd H (by simp)
        ·
         rw [if_neg c23] at H; exact absurd H (by simp)
     ·
      replace c15 := Bool.eq_false_iff.mpr c15
      subst c15; have H1 : (bournelaw10_CurvePoints.j0 k l0 l1 a2 a3 a4 t317 true) = some r := by rw [if_neg (show ¬ (false = true) by decide)] at H; exact H
      clear H; have H := H1
      clear H1; have H' := Aside0.mk H
      clear H
      as_aux_lemma =>
       go_wp2_with (first | (go_at_call 11; (with_reducible refine (curve_Right.calls k _ _ l0 true _ ?side1 ?side2 A10.out).mono ?_); (case side1 => repeat (first | exact (Kd.C_below HR0.out HB.out) | (with_reducible refine Kd.C_alloc ?_ _) | (with_reducible refine Kd.C_drewN ?_ _) | (with_reducible refine Kd.C_drew ?_))); (case side2 => exact HC0.out); rintro e w27 ⟨rfl, hb⟩; (try clear A10); have n0_ := Aside0.mk (bP (by repeat (first | (with_reducible first | exact HB.out | apply bL | apply bW | apply b1) | exact HB.out)) hb); clear HB; have HB := n0_; clear n0_; (try clear hb); (try clear hb2); (try clear hk); (try clear hi)) | (go_at_call 11; (with_reducible refine (curve_Right.calls k _ _ l1 false _ ?side1 ?side2 A14.out).mono ?_); (case side1 => repeat (first | exact (Kd.C_below HR1.out HB.out) | (with_reducible refine Kd.C_alloc ?_ _) | (with_reducible refine Kd.C_drewN ?_ _) | (with_reducible refine Kd.C_drew ?_))); (case side2 => exact HC1.out); rintro e w28 ⟨rfl, hb⟩; (try clear A14); have n0_ := Aside0.mk (bP (by repeat (first | (with_reducible first | exact HB.out | apply bL | apply bW | apply b1) | exact HB.out)) hb); clear HB; have HB := n0_; clear n0_; (try clear hb); (try clear hb2); (try clear hk); (try clear hi)))
       go_meet
       case rel => exact ⟨_, (true), (by first | rfl | (simp; done) | (simp [*]; done)), H', ⟨by first | omega | exact Nat.le_refl _⟩, ⟨by repeat (first | (with_reducible first | exact HB.out | apply bL | apply bW | apply b1) | exact HB.out)⟩⟩
   ·
    replace c11 := Bool.eq_false_iff.mpr c11
    subst c11; have H1 : (bournelaw10_CurvePoints.j0 k l0 l1 a2 a3 a4 t317 true) = some r := by rw [if_neg (show ¬ (false = true) by decide)] at H; exact H
    clear H; have H := H1
    clear H1; have H' := Aside0.mk H
    clear H
    as_aux_lemma =>
     go_wp2_with (first | (go_at_call 11; (with_reducible refine (curve_Right.calls k _ _ l0 false _ ?side1 ?side2 A10.out).mono ?_); (case side1 => repeat (first | exact (Kd.C_below HR0.out HB.out) | (with_reducible refine Kd.C_alloc ?_ _) | (with_reducible refine Kd.C_drewN ?_ _) | (with_reducible refine Kd.C_drew ?_))); (case side2 => exact HC0.out); rintro e w29 ⟨rfl, hb⟩; (try clear A10); have n0_ := Aside0.mk (bP (by repeat (first | (with_reducible first | exact HB.out | apply bL | apply bW | apply b1) | exact HB.out)) hb); clear HB; have HB := n0_; clear n0_; (try clear hb); (try clear hb2); (try clear hk); (try clear hi)))
     go_meet
     case rel => exact ⟨_, (true), (by first | rfl | (simp; done) | (simp [*]; done)), H', ⟨by first | omega | exact Nat.le_refl _⟩, ⟨by repeat (first | (with_reducible first | exact HB.out | apply bL | apply bW | apply b1) | exact HB.out)⟩⟩
 case rest =>
  clear HC7; try clear c1
  try clear c2
  try clear p2
  try clear p3
  try clear q3
  try clear hx3
  try clear p6
  try clear c7
  try clear c8
  try clear c9
  try clear c9b0
  try clear c9b1
  try clear c11
  try clear c12
  try clear c12b0
  try clear c12b1
  try clear c15
  try clear c16
  try clear c16b0
  try clear c19
  try clear c19b0
  try clear c23
  try clear c23b0
  try clear c24
  try clear c24b0
  try clear hx320_0
  try clear hx320_1
  try clear p320
  try clear q320
  obtain ⟨kq, x55_6, rfl, HA, HJ6, HB⟩ := hcut
  cases kq with
  | zero => exact absurd HA.out (by simp [bournelaw10_CurvePoints.j0])
  | succ kj6 =>
   have H := HA.out
   clear HA; simp only [bournelaw10_CurvePoints.j0] at H; by_cases c30 : x55_6 = true
   ·
    subst c30; have H1 : (some t317) = some r := by rw [if_pos rfl] at H; exact H
    clear H; have H := H1
    clear H1; obtain rfl := Option.some.inj H
    as_aux_lemma =>
     go_wp2
     go_ret
     exact ⟨by first | rfl | (simp [errW_none, errW_some] <;> rfl) | (simp [*, errW_none, errW_some] <;> rfl), by repeat (first | (with_reducible first | exact HB.out | apply bL | apply bW | apply b1) | exact HB.out)⟩
   ·
    replace c30 := Bool.eq_false_iff.mpr c30
    subst c30; have H1 : (bournelaw10_CurvePoints.l0 kj6 l0 l1 a2 a3 a4 t317 ([] : List (S37)) 0) = some r := by rw [if_neg (show ¬ (false = true) by decide)] at H; exact H
    clear H; have H := H1
    clear H1; have H' := Aside0.mk H
    clear H; go_wp2
    go_loopg [12, 13] kj6 (fun kq v12 v13 w' => ∃ (x12_2 : List (S37)) (x13_2 : Int), v13 = .int .i64 x13_2 ∧ Aside0 (bournelaw10_CurvePoints.l0 kq l0 l1 a2 a3 a4 t317 x12_2 x13_2 = some r) ∧ Aside0 (kq ≤ kj6) ∧ Aside0 (Kd.R k37 37 w' w.heap.size (fun _ => True) v12 x12_2) ∧ Aside0 (Below w.heap.size w w'))
    case atStart => exact ⟨(([] : List (S37))), (0), (by first | rfl | (simp; done) | (simp [*]; done)), H', ⟨Nat.le_refl _⟩, ⟨by first | exact Kd.R_nil _ _ _ _ _ | exact Kd.N_nil _ _ _ _ _ | exact Kd.V_nil _ _ _ _ _ | exact Kd.Q_nil _ _ _ _ _ | exact Kd.S_nil _ _ _ _ _⟩, ⟨by repeat (first | (with_reducible first | exact HB.out | apply bL | apply bW | apply b1) | exact HB.out)⟩⟩
    case round =>
     clear H'; try clear c1
     try clear c2
     try clear p2
     try clear c3
     try clear p3
     try clear q3
     try clear hx3
     try clear p6
     try clear c7
     try clear c8
     try clear c9
     try clear c9b0
     try clear c9b1
     try clear c11
     try clear c12
     try clear c12b0
     try clear c12b1
     try clear c15
     try clear c16
     try clear c16b0
     try clear c19
     try clear c19b0
     try clear c23
     try clear c23b0
     try clear c24
     try clear c24b0
     try clear c30
     try clear hx320_0
     try clear hx320_1
     try clear p2
     try clear p3
     try clear p320
     try clear p6
     try clear q3
     try clear q320
     obtain ⟨x12_2, x13_2, rfl, HA, HK2, HO_12, HB⟩ := hrel
     cases gk with
     | zero => exact absurd HA.out (by simp [bournelaw10_CurvePoints.l0])
     | succ k2 =>
      have H := HA.out
      clear HA; simp only [bournelaw10_CurvePoints.l0] at H; by_cases c31 : x13_2 < (l0.length : Int)
      ·
       rw [if_pos c31] at H; have c31b0 : decide (x13_2 < (l0.length : Int)) = true := decide_eq_true c31
       clear c31; by_cases c32 : 0 ≤ x13_2
       ·
        rw [if_pos c32] at H; have c32b0 : decide (0 ≤ x13_2) = true := decide_eq_true c32
        clear c32; by_cases c33 : x12_2.length < 8796093022208
        ·
         rw [if_pos c33] at H; have LMc33 := Aside0.mk c33
         clear c33; obtain ⟨y323, hy323⟩ : ∃ y_ : List (S37), y_ = (x12_2 ++ [(⟨(rd_T37 l0 x13_2).f0, wrap64 (((rd_T37 l0 x13_2).f1) + a4)⟩ : S37)]) := ⟨_, rfl⟩
         replace H : (bournelaw10_CurvePoints.l0 k2 l0 l1 a2 a3 a4 t317 y323 (wrap64 (x13_2 + 1))) = some r := by first | (rw [hy323]; with_reducible exact H) | (have H2_ := (Option.bind_some _ _).symm.trans H; rw [hy323]; with_reducible exact H2_) | (have H2_ := (Option.bind_some _ _).symm.trans H; with_reducible exact H2_) | with_reducible exact H | (rw [hy323]; exact H) | exact H
         have Ny323 := Aside0.mk hy323
         clear hy323; have H' := Aside0.mk H
         clear H; try go_wp2
         have n0_ := Aside0.mk (Kd.R_drew HO_12.out)
         have n1_ := Aside0.mk (b1 HB.out)
         clear HO_12; clear HB; have HO_12 := n0_
         have HB := n1_
         clear n0_ n1_; have p321 : 0 ≤ (x13_2 : Int) := of_decide_eq_true (by first | (with_reducible assumption) | assumption)
         have q321 : x13_2 < (l0.length : Int) := of_decide_eq_true (by first | (with_reducible assumption) | assumption)
         obtain ⟨ad321, e321, hx321_0, hx321_1⟩ := at_T37 HR0.out x13_2 p321 q321
         have hw321_1 := hx321_1
         have hw321_0 := hx321_0
         cases e321
         replace hx321_0 := (HB.out.cell (wL w _ hx321_0)).trans hx321_0
         replace hx321_1 := (HB.out.cell (wL w _ hx321_1)).trans hx321_1
         replace p321 := eq_true p321
         replace q321 := eq_true q321
         have p322 : 0 ≤ (x13_2 : Int) := of_decide_eq_true (by first | (with_reducible assumption) | assumption)
         have q322 : x13_2 < (l0.length : Int) := of_decide_eq_true (by first | (with_reducible assumption) | assumption)
         obtain ⟨ad322, e322, hx322_0, hx322_1⟩ := at_T37 HR0.out x13_2 p322 q322
         have hw322_1 := hx322_1
         have hw322_0 := hx322_0
         obtain rfl : ad321 = ad322 := (by injection e322)
         replace hx322_0 := (HB.out.cell (wL w _ hx322_0)).trans hx322_0
         replace hx322_1 := (HB.out.cell (wL w _ hx322_1)).trans hx322_1
         replace p322 := eq_true p322
         replace q322 := eq_true q322
         refine start_ (n := 17) (S := fun w' => w'.cell? (ad321.add ((x13_2).toNat * 2)) = some (.int .i64 ((rd_T37 l0 x13_2).f0)) ∧ w'.cell? ⟨(ad321.add ((x13_2).toNat * 2)).block, (ad321.add ((x13_2).toNat * 2)).off + 1, none⟩ = some (.int .i64 ((rd_T37 l0 x13_2).f1)) ∧ w'.cell? (ad321.add ((x13_2).toNat * 2)) = some (.int .i64 ((rd_T37 l0 x13_2).f0)) ∧ w'.cell? ⟨(ad321.add ((x13_2).toNat * 2)).block, (ad321.add ((x13_2).toNat * 2)).off + 1, none⟩ = some (.int .i64 ((rd_T37 l0 x13_2).f1))) (ds := []) #[F,F,F,F,F,F,F,F,F,F,F,F,F,F,F,F,F] (by kernel_rfl) rfl rfl ⟨((HB.out.cell (wL w _ hw321_0)).trans hw321_0), ((HB.out.cell (wL w _ hw321_1)).trans hw321_1), ((HB.out.cell (wL w _ hw322_0)).trans hw322_0), ((HB.out.cell (wL w _ hw322_1)).trans hw322_1)⟩ (fun hHeld => ?_); refine with_tabW bournelaw10_CurvePoints.tab8 bournelaw10_CurvePoints.bits8 (fun HT_ HW_ => ?_)
         generalize wr.drew = w34 at HO_12 HB hx321_0 hx321_1 hx322_0 hx322_1 hHeld ⊢
         refine pure_ (i := 0) (N := some 63) (v := ?_) (a' := ?_) #[T,F,F,F,F,F,F,F,F,F,F,F,F,F,F,F,F] rfl rfl (any_of HT_.out (by kernel_rfl)) (fun _ _ _ h => h) (Or.inl ⟨by rfl, ?_⟩) ?_ ?_
         rotate_left
         ·
          intro w'; go_simp; with_reducible rfl
         rotate_left
         ·
          simp only [Act.put, lA, lZ, lS, i64_w, i32_w]; rfl
         refine pure_ (i := 1) (N := some 64) (v := ?_) (a' := ?_) #[T,T,F,F,F,F,F,F,F,F,F,F,F,F,F,F,F] rfl rfl (any_of HT_.out (by kernel_rfl)) (fun _ _ _ h => h) (Or.inl ⟨by rfl, ?_⟩) ?_ ?_
         rotate_left
         ·
          intro w'; go_simp; with_reducible rfl
         rotate_left
         ·
          simp only [Act.put, lA, lZ, lS, i64_w, i32_w]; rfl
         refine pure_ (i := 2) (N := some 65) (v := ?_) (a' := ?_) #[T,T,T,F,F,F,F,F,F,F,F,F,F,F,F,F,F] rfl rfl (any_of HT_.out (by kernel_rfl)) (fun _ _ _ h => h) (Or.inl ⟨by rfl, ?_⟩) ?_ ?_
         rotate_left
         ·
          intro w'; go_simp; with_reducible rfl
         rotate_left
         ·
          simp only [Act.put, lA, lZ, lS, i64_w, i32_w]; rfl
         refine pure_ (i := 3) (N := some 66) (v := ?_) (a' := ?_) #[T,T,T,T,F,F,F,F,F,F,F,F,F,F,F,F,F] rfl rfl (any_of HT_.out (by kernel_rfl)) (fun _ _ _ h => h) (Or.inl ⟨by rfl, ?_⟩) ?_ ?_
         rotate_left
         ·
          intro w'; go_simp; with_reducible rfl
         rotate_left
         ·
          simp only [Act.put, lA, lZ, lS, i64_w, i32_w]; rfl
         refine pure_ (i := 4) (N := some 67) (v := ?_) (a' := ?_) #[T,T,T,T,T,F,F,F,F,F,F,F,F,F,F,F,F] rfl rfl (any_of HT_.out (by kernel_rfl)) (fun _ _ _ h => h) (Or.inl ⟨by rfl, ?_⟩) ?_ ?_
         rotate_left
         ·
          intro w'; go_simp; with_reducible rfl
         rotate_left
         ·
          simp only [Act.put, lA, lZ, lS, i64_w, i32_w]; rfl
         refine pure_ (i := 6) (N := some 69) (v := ?_) (a' := ?_) #[T,T,T,T,T,F,T,F,F,F,F,F,F,F,F,F,F] rfl rfl (any_of HT_.out (by kernel_rfl)) (fun _ _ _ h => h) (Or.inl ⟨by rfl, ?_⟩) ?_ ?_
         rotate_left
         ·
          intro w'; go_simp; with_reducible rfl
         rotate_left
         ·
          simp only [Act.put, lA, lZ, lS, i64_w, i32_w]; rfl
         refine pure_ (i := 7) (N := some 70) (v := ?_) (a' := ?_) #[T,T,T,T,T,F,T,T,F,F,F,F,F,F,F,F,F] rfl rfl (any_of HT_.out (by kernel_rfl)) (fun _ _ _ h => h) (Or.inl ⟨by rfl, ?_⟩) ?_ ?_
         rotate_left
         ·
          intro w'; go_simp; with_reducible rfl
         rotate_left
         ·
          simp only [Act.put, lA, lZ, lS, i64_w, i32_w]; rfl
         refine pure_ (i := 8) (N := some 71) (v := ?_) (a' := ?_) #[T,T,T,T,T,F,T,T,T,F,F,F,F,F,F,F,F] rfl rfl (any_of HT_.out (by kernel_rfl)) (fun _ _ _ h => h) (Or.inl ⟨by rfl, ?_⟩) ?_ ?_
         rotate_left
         ·
          intro w'; go_simp; with_reducible rfl
         rotate_left
         ·
          simp only [Act.put, lA, lZ, lS, i64_w, i32_w]; rfl
         refine pure_ (i := 9) (N := some 72) (v := ?_) (a' := ?_) #[T,T,T,T,T,F,T,T,T,T,F,F,F,F,F,F,F] rfl rfl (any_of HT_.out (by kernel_rfl)) (fun _ _ _ h => h) (Or.inl ⟨by rfl, ?_⟩) ?_ ?_
         rotate_left
         ·
          intro w'; go_simp; with_reducible rfl
         rotate_left
         ·
          simp only [Act.put, lA, lZ, lS, i64_w, i32_w]; rfl
         refine pure_ (i := 11) (N := some 74) (v := ?_) (a' := ?_) #[T,T,T,T,T,F,T,T,T,T,F,T,F,F,F,F,F] rfl rfl (any_of HT_.out (by kernel_rfl)) (fun _ _ _ h => h) (Or.inl ⟨by rfl, ?_⟩) ?_ ?_
         rotate_left
         ·
          intro w'; go_simp; with_reducible rfl
         rotate_left
         ·
          simp only [Act.put, lA, lZ, lS, i64_w, i32_w]; rfl
         refine take_ (i := 5) (N := some 68) (v := ?_) (a' := ?_) #[T,T,T,T,T,T,T,T,T,T,F,T,F,F,F,F,F] rfl rfl (take_ofW HT_.out HW_.out (by kernel_rfl)) (fun _ _ _ h => h) (Or.inl ⟨by rfl, ?_⟩) hHeld ?_ ?_
         rotate_left
         ·
          rintro w' ⟨s0, s1, s2, s3⟩
          go_simp; with_reducible rfl
         rotate_left
         ·
          simp only [Act.put, lA, lZ, lS, i64_w, i32_w]; rfl
         refine take_ (i := 10) (N := some 73) (v := ?_) (a' := ?_) #[T,T,T,T,T,T,T,T,T,T,T,T,F,F,F,F,F] rfl rfl (take_ofW HT_.out HW_.out (by kernel_rfl)) (fun _ _ _ h => h) (Or.inl ⟨by rfl, ?_⟩) hHeld ?_ ?_
         rotate_left
         ·
          rintro w' ⟨s0, s1, s2, s3⟩
          go_simp; with_reducible rfl
         rotate_left
         ·
          simp only [Act.put, lA, lZ, lS, i64_w, i32_w]; rfl
         refine pure_ (i := 12) (N := some 75) (v := ?_) (a' := ?_) #[T,T,T,T,T,T,T,T,T,T,T,T,T,F,F,F,F] rfl rfl (any_of HT_.out (by kernel_rfl)) (fun _ _ _ h => h) (Or.inl ⟨by rfl, ?_⟩) ?_ ?_
         rotate_left
         ·
          intro w'; go_simp; with_reducible rfl
         rotate_left
         ·
          simp only [Act.put, lA, lZ, lS, i64_w, i32_w]; rfl
         refine pure_ (i := 13) (N := some 76) (v := ?_) (a' := ?_) #[T,T,T,T,T,T,T,T,T,T,T,T,T,T,F,F,F] rfl rfl (any_of HT_.out (by kernel_rfl)) (fun _ _ _ h => h) (Or.inl ⟨by rfl, ?_⟩) ?_ ?_
         rotate_left
         ·
          intro w'; go_simp; with_reducible rfl
         rotate_left
         ·
          simp only [Act.put, lA, lZ, lS, i64_w, i32_w]; rfl
         refine one_ (i := 14) (N := some 77) #[T,T,T,T,T,T,T,T,T,T,T,T,T,T,T,F,F] rfl rfl (one_of HT_.out (by kernel_rfl)) (by decide) (fun K hK => ?_)
         refine value_ (w1 := ?_) (v := ?_) (by rfl) rfl ?_ ?_
         rotate_left 2
         ·
          go_simp; constructor
          ·
           rfl
          ·
           rfl
         refine hK.out _ _ ⟨(World.cell?_alloc_lt _ _ _ (wL _ _ (((HB.out.cell (wL w _ hw321_0)).trans hw321_0)))).trans (((HB.out.cell (wL w _ hw321_0)).trans hw321_0)), (World.cell?_alloc_lt _ _ _ (wL _ _ (((HB.out.cell (wL w _ hw321_1)).trans hw321_1)))).trans (((HB.out.cell (wL w _ hw321_1)).trans hw321_1)), (World.cell?_alloc_lt _ _ _ (wL _ _ (((HB.out.cell (wL w _ hw322_0)).trans hw322_0)))).trans (((HB.out.cell (wL w _ hw322_0)).trans hw322_0)), (World.cell?_alloc_lt _ _ _ (wL _ _ (((HB.out.cell (wL w _ hw322_1)).trans hw322_1)))).trans (((HB.out.cell (wL w _ hw322_1)).trans hw322_1))⟩ (fun hHeld => ?_)
         clear hK K; refine norm_ (a' := ?_) ?_ ?_
         rotate_left
         ·
          show Act.put _ (some 77) _ = _
          simp only [Act.put, lA, lZ, lS, i64_w, i32_w]; rfl
         refine one_ (i := 15) (N := some 78) #[T,T,T,T,T,T,T,T,T,T,T,T,T,T,T,T,F] rfl rfl (one_of HT_.out (by kernel_rfl)) (by decide) (fun K hK => ?_)
         refine Kd.R_append_step k37 (w0 := w) w.heap.size (by rfl) (.tmp 63) (.tmp 77) 22 37 (.agg #[(.int .i64 0), (.int .i64 0)]) 16 rfl Try.underlying22 info37 rfl (by decide) (by omega) u12 x12_2 (⟨(rd_T37 l0 x13_2).f0, wrap64 (((rd_T37 l0 x13_2).f1) + a4)⟩ : S37) [.int .i64 ((rd_T37 l0 x13_2).f0), .int .i64 (wrap64 (((rd_T37 l0 x13_2).f1) + a4))] (fun _ => True) (fun _ => False) rfl rfl ?aP (fun _ hk => hk.elim) ?aF ?aO ?aB ?aS ?aL ?_
         (case aP => exact k37_mkM _ _ _ (⟨(rd_T37 l0 x13_2).f0, wrap64 (((rd_T37 l0 x13_2).f1) + a4)⟩ : S37))
         (case aB => exact (by repeat (first | (with_reducible first | exact HB.out | apply bL | apply bW | apply b1) | exact HB.out)))
         (case aF => exact (fun _ _ => trivial))
         (case aO => exact (by (with_reducible repeat (first | apply Kd.R_alloc | apply Kd.R_drewN | apply Kd.R_drew)); exact HO_12.out))
         (case aS => exact (bZ (by repeat (first | (with_reducible first | exact HB.out | apply bL | apply bW | apply b1) | exact HB.out))))
         (case aL => have := LMc33.out; omega)
         intro v324 w35 ho hb hg hat; rw [← Ny323.out] at ho
         have n0_ := Aside0.mk (hb)
         have n1_ := Aside0.mk (ho)
         clear HB; clear HO_12; have HB := n0_
         have HO325 := n1_
         clear n0_ n1_; clear ho hb hg hat; refine hK.out _ _ ⟨((HB.out.cell (wL w _ hw321_0)).trans hw321_0), ((HB.out.cell (wL w _ hw321_1)).trans hw321_1), ((HB.out.cell (wL w _ hw322_0)).trans hw322_0), ((HB.out.cell (wL w _ hw322_1)).trans hw322_1)⟩ (fun hHeld => ?_)
         clear hK K; refine norm_ (a' := ?_) ?_ ?_
         rotate_left
         ·
          show Act.put _ (some 78) _ = _
          simp only [Act.put, lA, lZ, lS, i64_w, i32_w]; rfl
         refine pure_ (i := 16) (N := some 12) (v := ?_) (a' := ?_) #[T,T,T,T,T,T,T,T,T,T,T,T,T,T,T,T,T] rfl rfl (any_of HT_.out (by kernel_rfl)) (fun _ _ _ h => h) (Or.inl ⟨by rfl, ?_⟩) ?_ ?_
         rotate_left
         ·
          intro w'; go_simp; with_reducible rfl
         rotate_left
         ·
          simp only [Act.put, lA, lZ, lS, i64_w, i32_w]; rfl
         refine done_ (done_of HT_.out (by kernel_rfl)) ?_
         try go_wp2
         go_roundg k2
         case measure => have := HJ6.out; have := HK2.out; omega
         case rel => exact ⟨(y323), (wrap64 (x13_2 + 1)), (by first | rfl | (simp; done) | (simp [*]; done)), H', ⟨by have := HJ6.out; have := HK2.out; omega⟩, ⟨by (with_reducible repeat (first | apply Kd.R_alloc | apply Kd.R_drewN | apply Kd.R_drew)); exact HO325.out⟩, ⟨by repeat (first | (with_reducible first | exact HB.out | apply bL | apply bW | apply b1) | exact HB.out)⟩⟩
        ·
         rw [if_neg c33] at H; exact absurd H (by simp)
       ·
        rw [if_neg c32] at H; exact absurd H (by simp)
      ·
       rw [if_neg c31] at H; have c31b0 : decide (x13_2 < (l0.length : Int)) = false := decide_eq_false c31
       clear c31; have HC36 := Aside0.mk H
       clear H; go_upto_region 9 with (fail)
       go_cut [102] (fun v102 wc => ∃ (kq : Nat) (x102_35 : Bool), v102 = .bool x102_35 ∧ Aside0 (bournelaw10_CurvePoints.j2 kq l0 l1 a2 a3 t317 x102_35 = some r) ∧ Aside0 (kq ≤ k2) ∧ Aside0 (Below w.heap.size w wc))
       case first =>
        have H := HC36.out
        clear HC36; replace H := Option.bind_eq_some_iff.mp H
        obtain ⟨t326, A370, H⟩ := H
        have A37 := Aside0.mk A370
        clear A370; replace H := Option.bind_eq_some_iff.mp H
        obtain ⟨t327, A380, H⟩ := H
        have A38 := Aside0.mk A380
        clear A380; by_cases c39 : t326 = (wrap64 (t327 + a4))
        ·
         rw [if_pos c39] at H; have c39b0 : (t326 == (wrap64 (t327 + a4))) = true := beq_iff_eq.mpr c39
         have c39b1 : (t326 != (wrap64 (t327 + a4))) = false := bne_eq_false_iff_eq.mpr c39
         clear c39; (first | rw [c39b0] | (simp only [i64_w, i32_w]; rw [c39b0]) | skip)
         replace H := Option.bind_eq_some_iff.mp H
         obtain ⟨t328, A400, H⟩ := H
         have A40 := Aside0.mk A400
         clear A400; by_cases c41 : t328 = true
         ·
          subst c41; have H1 : (if a4 > 0 then ((curve_Under.f k2 x12_2 l0).bind fun t329 => (bournelaw10_CurvePoints.j2 k2 l0 l1 a2 a3 t317 t329)) else (bournelaw10_CurvePoints.j2 k2 l0 l1 a2 a3 t317 false)) = some r := by rw [if_pos rfl] at H; exact H
          clear H; have H := H1
          clear H1; by_cases c42 : a4 > 0
          ·
           rw [if_pos c42] at H; have c42b0 : decide (0 < a4) = true := decide_eq_true c42
           clear c42; replace H := Option.bind_eq_some_iff.mp H
           obtain ⟨t329, A430, H⟩ := H
           have A43 := Aside0.mk A430
           clear A430; have H' := Aside0.mk H
           clear H; obtain ⟨Ao44, co44, eo44⟩ := Kd.R_slice HO_12.out
           subst eo44
           as_aux_lemma =>
            go_wp2_with (first | ((with_reducible refine gate_callee (f := 13) rfl ?_); refine goesL_ (some 81) rfl rfl Try.func13 (by kernel_rfl) rfl #[.slice Ao44 x12_2.length co44, .int .i64 a2] rfl (by (try simp only [List.map_toArray, List.map_cons, List.map_nil]); first | done | rfl | (simp only [List.length_drop, List.length_take]; rfl)) ?_; (with_reducible refine (curve_At.calls k2 _ _ x12_2 a2 t326 _ ?side1 ?side2 A37.out).mono ?_); (case side1 => repeat (first | exact (Kd.R_reads' HO_12.out).2.2 | (with_reducible refine Kd.C_alloc ?_ _) | (with_reducible refine Kd.C_drewN ?_ _) | (with_reducible refine Kd.C_drew ?_))); (case side2 => exact (Kd.R_reads' HO_12.out).2.1); rintro e w45 ⟨rfl, hb⟩; refine ⟨_, rfl, ?_⟩; have n0_ := Aside0.mk (Kd.R_below (by (with_reducible repeat (first | apply Kd.R_alloc | apply Kd.R_drewN | apply Kd.R_drew)); exact HO_12.out) hb); have n1_ := Aside0.mk (bP (by repeat (first | (with_reducible first | exact HB.out | apply bL | apply bW | apply b1) | exact HB.out)) hb); clear HO_12; clear HB; have HO_12 := n0_; have HB := n1_; clear n0_ n1_; (try clear hb); (try clear hb2); (try clear hk); (try clear hi)) | ((with_reducible refine gate_callee (f := 13) rfl ?_); refine goesL_ (some 84) rfl rfl Try.func13 (by kernel_rfl) rfl #[.slice A0 l0.length c0, .int .i64 a2] rfl (by (try simp only [List.map_toArray, List.map_cons, List.map_nil]); first | done | rfl | (simp only [List.length_drop, List.length_take]; rfl)) ?_; (with_reducible refine (curve_At.calls k2 _ _ l0 a2 t327 _ ?side1 ?side2 A38.out).mono ?_); (case side1 => repeat (first | exact (Kd.C_below HR0.out HB.out) | (with_reducible refine Kd.C_alloc ?_ _) | (with_reducible refine Kd.C_drewN ?_ _) | (with_reducible refine Kd.C_drew ?_))); (case side2 => exact HC0.out); rintro e w46 ⟨rfl, hb⟩; refine ⟨_, rfl, ?_⟩; have n0_ := Aside0.mk (Kd.R_below (by (with_reducible repeat (first | apply Kd.R_alloc | apply Kd.R_drewN | apply Kd.R_drew)); exact HO_12.out) hb); have n1_ := Aside0.mk (bP (by repeat (first | (with_reducible first | exact HB.out | apply bL | apply bW | apply b1) | exact HB.out)) hb); clear HO_12; clear HB; have HO_12 := n0_; have HB := n1_; clear n0_ n1_; (try clear hb); (try clear hb2); (try clear hk); (try clear hi)) | (go_at_call 17; (with_reducible refine (curve_Under.calls k2 _ _ l0 _ _ x12_2 true _ ?side1 ?side2 ?side3 ?side4 A40.out).mono ?_); (case side1 => repeat (first | exact (Kd.C_below HR0.out HB.out) | (with_reducible refine Kd.C_alloc ?_ _) | (with_reducible refine Kd.C_drewN ?_ _) | (with_reducible refine Kd.C_drew ?_))); (case side2 => exact HC0.out); (case side3 => repeat (first | exact (Kd.R_reads' HO_12.out).2.2 | (with_reducible refine Kd.C_alloc ?_ _) | (with_reducible refine Kd.C_drewN ?_ _) | (with_reducible refine Kd.C_drew ?_))); (case side4 => exact (Kd.R_reads' HO_12.out).2.1); rintro e w47 ⟨rfl, hb⟩; (try clear A40); have n0_ := Aside0.mk (Kd.R_below (by (with_reducible repeat (first | apply Kd.R_alloc | apply Kd.R_drewN | apply Kd.R_drew)); exact HO_12.out) hb); have n1_ := Aside0.mk (bP (by repeat (first | (with_reducible first | exact HB.out | apply bL | apply bW | apply b1) | exact HB.out)) hb); clear HO_12; clear HB; have HO_12 := n0_; have HB := n1_; clear n0_ n1_; (try clear hb); (try clear hb2); (try clear hk); (try clear hi)) | (go_at_call 17; (with_reducible refine (curve_Under.calls k2 _ _ x12_2 _ _ l0 t329 _ ?side1 ?side2 ?side3 ?side4 A43.out).mono ?_); (case side1 => repeat (first | exact (Kd.R_reads' HO_12.out).2.2 | (with_reducible refine Kd.C_alloc ?_ _) | (with_reducible refine Kd.C_drewN ?_ _) | (with_reducible refine Kd.C_drew ?_))); (case side2 => exact (Kd.R_reads' HO_12.out).2.1); (case side3 => repeat (first | exact (Kd.C_below HR0.out HB.out) | (with_reducible refine Kd.C_alloc ?_ _) | (with_reducible refine Kd.C_drewN ?_ _) | (with_reducible refine Kd.C_drew ?_))); (case side4 => exact HC0.out); rintro e w48 ⟨rfl, hb⟩; (try clear A43); have n0_ := Aside0.mk (Kd.R_below (by (with_reducible repeat (first | apply Kd.R_alloc | apply Kd.R_drewN | apply Kd.R_drew)); exact HO_12.out) hb); have n1_ := Aside0.mk (bP (by repeat (first | (with_reducible first | exact HB.out | apply bL | apply bW | apply b1) | exact HB.out)) hb); clear HO_12; clear HB; have HO_12 := n0_; have HB := n1_; clear n0_ n1_; (try clear hb); (try clear hb2); (try clear hk); (try clear hi)))
            go_meet
            case rel => exact ⟨_, (t329), (by first | rfl | (simp; done) | (simp [*]; done)), H', ⟨by have := HJ6.out; have := HK2.out; first | omega | exact Nat.le_refl _⟩, ⟨by repeat (first | (with_reducible first | exact HB.out | apply bL | apply bW | apply b1) | exact HB.out)⟩⟩
          ·
           rw [if_neg c42] at H; have c42b0 : decide (0 < a4) = false := decide_eq_false c42
           clear c42; have H' := Aside0.mk H
           clear H; obtain ⟨Ao49, co49, eo49⟩ := Kd.R_slice HO_12.out
           subst eo49
           as_aux_lemma =>
            go_wp2_with (first | ((with_reducible refine gate_callee (f := 13) rfl ?_); refine goesL_ (some 81) rfl rfl Try.func13 (by kernel_rfl) rfl #[.slice Ao49 x12_2.length co49, .int .i64 a2] rfl (by (try simp only [List.map_toArray, List.map_cons, List.map_nil]); first | done | rfl | (simp only [List.length_drop, List.length_take]; rfl)) ?_; (with_reducible refine (curve_At.calls k2 _ _ x12_2 a2 t326 _ ?side1 ?side2 A37.out).mono ?_); (case side1 => repeat (first | exact (Kd.R_reads' HO_12.out).2.2 | (with_reducible refine Kd.C_alloc ?_ _) | (with_reducible refine Kd.C_drewN ?_ _) | (with_reducible refine Kd.C_drew ?_))); (case side2 => exact (Kd.R_reads' HO_12.out).2.1); rintro e w50 ⟨rfl, hb⟩; refine ⟨_, rfl, ?_⟩; have n0_ := Aside0.mk (Kd.R_below (by (with_reducible repeat (first | apply Kd.R_alloc | apply Kd.R_drewN | apply Kd.R_drew)); exact HO_12.out) hb); have n1_ := Aside0.mk (bP (by repeat (first | (with_reducible first | exact HB.out | apply bL | apply bW | apply b1) | exact HB.out)) hb); clear HO_12; clear HB; have HO_12 := n0_; have HB := n1_; clear n0_ n1_; (try clear hb); (try clear hb2); (try clear hk); (try clear hi)) | ((with_reducible refine gate_callee (f := 13) rfl ?_); refine goesL_ (some 84) rfl rfl Try.func13 (by kernel_rfl) rfl #[.slice A0 l0.length c0, .int .i64 a2] rfl (by (try simp only [List.map_toArray, List.map_cons, List.map_nil]); first | done | rfl | (simp only [List.length_drop, List.length_take]; rfl)) ?_; (with_reducible refine (curve_At.calls k2 _ _ l0 a2 t327 _ ?side1 ?side2 A38.out).mono ?_); (case side1 => repeat (first | exact (Kd.C_below HR0.out HB.out) | (with_reducible refine Kd.C_alloc ?_ _) | (with_reducible refine Kd.C_drewN ?_ _) | (with_reducible refine Kd.C_drew ?_))); (case side2 => exact HC0.out); rintro e w51 ⟨rfl, hb⟩; refine ⟨_, rfl, ?_⟩; have n0_ := Aside0.mk (Kd.R_below (by (with_reducible repeat (first | apply Kd.R_alloc | apply Kd.R_drewN | apply Kd.R_drew)); exact HO_12.out) hb); have n1_ := Aside0.mk (bP (by repeat (first | (with_reducible first | exact HB.out | apply bL | apply bW | apply b1) | exact HB.out)) hb); clear HO_12; clear HB; have HO_12 := n0_; have HB := n1_; clear n0_ n1_; (try clear hb); (try clear hb2); (try clear hk); (try clear hi)) | (go_at_call 17; (with_reducible refine (curve_Under.calls k2 _ _ l0 _ _ x12_2 true _ ?side1 ?side2 ?side3 ?side4 A40.out).mono ?_); (case side1 => repeat (first | exact (Kd.C_below HR0.out HB.out) | (with_reducible refine Kd.C_alloc ?_ _) | (with_reducible refine Kd.C_drewN ?_ _) | (with_reducible refine Kd.C_drew ?_))); (case side2 => exact HC0.out); (case side3 => repeat (first | exact (Kd.R_reads' HO_12.out).2.2 | (with_reducible refine Kd.C_alloc ?_ _) | (with_reducible refine Kd.C_drewN ?_ _) | (with_reducible refine Kd.C_drew ?_))); (case side4 => exact (Kd.R_reads' HO_12.out).2.1); rintro e w52 ⟨rfl, hb⟩; (try clear A40); have n0_ := Aside0.mk (Kd.R_below (by (with_reducible repeat (first | apply Kd.R_alloc | apply Kd.R_drewN | apply Kd.R_drew)); exact HO_12.out) hb); have n1_ := Aside0.mk (bP (by repeat (first | (with_reducible first | exact HB.out | apply bL | apply bW | apply b1) | exact HB.out)) hb); clear HO_12; clear HB; have HO_12 := n0_; have HB := n1_; clear n0_ n1_; (try clear hb); (try clear hb2); (try clear hk); (try clear hi)))
            go_meet
            case rel => exact ⟨_, (false), (by first | rfl | (simp; done) | (simp [*]; done)), H', ⟨by have := HJ6.out; have := HK2.out; first | omega | exact Nat.le_refl _⟩, ⟨by repeat (first | (with_reducible first | exact HB.out | apply bL | apply bW | apply b1) | exact HB.out)⟩⟩
         ·
          replace c41 := Bool.eq_false_iff.mpr c41
          subst c41; have H1 : (bournelaw10_CurvePoints.j2 k2 l0 l1 a2 a3 t317 true) = some r := by rw [if_neg (show ¬ (false = true) by decide)] at H; exact H
          clear H; have H := H1
          clear H1; have H' := Aside0.mk H
          clear H; obtain ⟨Ao53, co53, eo53⟩ := Kd.R_slice HO_12.out
          subst eo53
          as_aux_lemma =>
           go_wp2_with (first | ((with_reducible refine gate_callee (f := 13) rfl ?_); refine goesL_ (some 81) rfl rfl Try.func13 (by kernel_rfl) rfl #[.slice Ao53 x12_2.length co53, .int .i64 a2] rfl (by (try simp only [List.map_toArray, List.map_cons, List.map_nil]); first | done | rfl | (simp only [List.length_drop, List.length_take]; rfl)) ?_; (with_reducible refine (curve_At.calls k2 _ _ x12_2 a2 t326 _ ?side1 ?side2 A37.out).mono ?_); (case side1 => repeat (first | exact (Kd.R_reads' HO_12.out).2.2 | (with_reducible refine Kd.C_alloc ?_ _) | (with_reducible refine Kd.C_drewN ?_ _) | (with_reducible refine Kd.C_drew ?_))); (case side2 => exact (Kd.R_reads' HO_12.out).2.1); rintro e w54 ⟨rfl, hb⟩; refine ⟨_, rfl, ?_⟩; have n0_ := Aside0.mk (Kd.R_below (by (with_reducible repeat (first | apply Kd.R_alloc | apply Kd.R_drewN | apply Kd.R_drew)); exact HO_12.out) hb); have n1_ := Aside0.mk (bP (by repeat (first | (with_reducible first | exact HB.out | apply bL | apply bW | apply b1) | exact HB.out)) hb); clear HO_12; clear HB; have HO_12 := n0_; have HB := n1_; clear n0_ n1_; (try clear hb); (try clear hb2); (try clear hk); (try clear hi)) | ((with_reducible refine gate_callee (f := 13) rfl ?_); refine goesL_ (some 84) rfl rfl Try.func13 (by kernel_rfl) rfl #[.slice A0 l0.length c0, .int .i64 a2] rfl (by (try simp only [List.map_toArray, List.map_cons, List.map_nil]); first | done | rfl | (simp only [List.length_drop, List.length_take]; rfl)) ?_; (with_reducible refine (curve_At.calls k2 _ _ l0 a2 t327 _ ?side1 ?side2 A38.out).mono ?_); (case side1 => repeat (first | exact (Kd.C_below HR0.out HB.out) | (with_reducible refine Kd.C_alloc ?_ _) | (with_reducible refine Kd.C_drewN ?_ _) | (with_reducible refine Kd.C_drew ?_))); (case side2 => exact HC0.out); rintro e w55 ⟨rfl, hb⟩; refine ⟨_, rfl, ?_⟩; have n0_ := Aside0.mk (Kd.R_below (by (with_reducible repeat (first | apply Kd.R_alloc | apply Kd.R_drewN | apply Kd.R_drew)); exact HO_12.out) hb); have n1_ := Aside0.mk (bP (by repeat (first | (with_reducible first | exact HB.out | apply bL | apply bW | apply b1) | exact HB.out)) hb); clear HO_12; clear HB; have HO_12 := n0_; have HB := n1_; clear n0_ n1_; (try clear hb); (try clear hb2); (try clear hk); (try clear hi)) | (go_at_call 17; (with_reducible refine (curve_Under.calls k2 _ _ l0 _ _ x12_2 false _ ?side1 ?side2 ?side3 ?side4 A40.out).mono ?_); (case side1 => repeat (first | exact (Kd.C_below HR0.out HB.out) | (with_reducible refine Kd.C_alloc ?_ _) | (with_reducible refine Kd.C_drewN ?_ _) | (with_reducible refine Kd.C_drew ?_))); (case side2 => exact HC0.out); (case side3 => repeat (first | exact (Kd.R_reads' HO_12.out).2.2 | (with_reducible refine Kd.C_alloc ?_ _) | (with_reducible refine Kd.C_drewN ?_ _) | (with_reducible refine Kd.C_drew ?_))); (case side4 => exact (Kd.R_reads' HO_12.out).2.1); rintro e w56 ⟨rfl, hb⟩; (try clear A40); have n0_ := Aside0.mk (Kd.R_below (by (with_reducible repeat (first | apply Kd.R_alloc | apply Kd.R_drewN | apply Kd.R_drew)); exact HO_12.out) hb); have n1_ := Aside0.mk (bP (by repeat (first | (with_reducible first | exact HB.out | apply bL | apply bW | apply b1) | exact HB.out)) hb); clear HO_12; clear HB; have HO_12 := n0_; have HB := n1_; clear n0_ n1_; (try clear hb); (try clear hb2); (try clear hk); (try clear hi)))
           go_meet
           case rel => exact ⟨_, (true), (by first | rfl | (simp; done) | (simp [*]; done)), H', ⟨by have := HJ6.out; have := HK2.out; first | omega | exact Nat.le_refl _⟩, ⟨by repeat (first | (with_reducible first | exact HB.out | apply bL | apply bW | apply b1) | exact HB.out)⟩⟩
        ·
         rw [if_neg c39] at H; have c39b0 : (t326 == (wrap64 (t327 + a4))) = false := beq_eq_false_iff_ne.mpr c39
         have c39b1 : (t326 != (wrap64 (t327 + a4))) = true := bne_iff_ne.mpr c39
         (first | rw [c39b0] | (simp only [i64_w, i32_w]; rw [c39b0]) | skip)
         have H' := Aside0.mk H
         clear H; obtain ⟨Ao57, co57, eo57⟩ := Kd.R_slice HO_12.out
         subst eo57
         as_aux_lemma =>
          go_wp2_with (first | ((with_reducible refine gate_callee (f := 13) rfl ?_); refine goesL_ (some 81) rfl rfl Try.func13 (by kernel_rfl) rfl #[.slice Ao57 x12_2.length co57, .int .i64 a2] rfl (by (try simp only [List.map_toArray, List.map_cons, List.map_nil]); first | done | rfl | (simp only [List.length_drop, List.length_take]; rfl)) ?_; (with_reducible refine (curve_At.calls k2 _ _ x12_2 a2 t326 _ ?side1 ?side2 A37.out).mono ?_); (case side1 => repeat (first | exact (Kd.R_reads' HO_12.out).2.2 | (with_reducible refine Kd.C_alloc ?_ _) | (with_reducible refine Kd.C_drewN ?_ _) | (with_reducible refine Kd.C_drew ?_))); (case side2 => exact (Kd.R_reads' HO_12.out).2.1); rintro e w58 ⟨rfl, hb⟩; refine ⟨_, rfl, ?_⟩; have n0_ := Aside0.mk (Kd.R_below (by (with_reducible repeat (first | apply Kd.R_alloc | apply Kd.R_drewN | apply Kd.R_drew)); exact HO_12.out) hb); have n1_ := Aside0.mk (bP (by repeat (first | (with_reducible first | exact HB.out | apply bL | apply bW | apply b1) | exact HB.out)) hb); clear HO_12; clear HB; have HO_12 := n0_; have HB := n1_; clear n0_ n1_; (try clear hb); (try clear hb2); (try clear hk); (try clear hi)) | ((with_reducible refine gate_callee (f := 13) rfl ?_); refine goesL_ (some 84) rfl rfl Try.func13 (by kernel_rfl) rfl #[.slice A0 l0.length c0, .int .i64 a2] rfl (by (try simp only [List.map_toArray, List.map_cons, List.map_nil]); first | done | rfl | (simp only [List.length_drop, List.length_take]; rfl)) ?_; (with_reducible refine (curve_At.calls k2 _ _ l0 a2 t327 _ ?side1 ?side2 A38.out).mono ?_); (case side1 => repeat (first | exact (Kd.C_below HR0.out HB.out) | (with_reducible refine Kd.C_alloc ?_ _) | (with_reducible refine Kd.C_drewN ?_ _) | (with_reducible refine Kd.C_drew ?_))); (case side2 => exact HC0.out); rintro e w59 ⟨rfl, hb⟩; refine ⟨_, rfl, ?_⟩; have n0_ := Aside0.mk (Kd.R_below (by (with_reducible repeat (first | apply Kd.R_alloc | apply Kd.R_drewN | apply Kd.R_drew)); exact HO_12.out) hb); have n1_ := Aside0.mk (bP (by repeat (first | (with_reducible first | exact HB.out | apply bL | apply bW | apply b1) | exact HB.out)) hb); clear HO_12; clear HB; have HO_12 := n0_; have HB := n1_; clear n0_ n1_; (try clear hb); (try clear hb2); (try clear hk); (try clear hi)))
          go_meet
          case rel => exact ⟨_, (true), (by first | rfl | (simp; done) | (simp [*]; done)), H', ⟨by have := HJ6.out; have := HK2.out; first | omega | exact Nat.le_refl _⟩, ⟨by repeat (first | (with_reducible first | exact HB.out | apply bL | apply bW | apply b1) | exact HB.out)⟩⟩
       case rest =>
        clear HC36; try clear c1
        try clear c2
        try clear p2
        try clear c3
        try clear p3
        try clear q3
        try clear hx3
        try clear c4
        try clear p6
        try clear c7
        try clear c8
        try clear c9
        try clear c9b0
        try clear c9b1
        try clear c11
        try clear c12
        try clear c12b0
        try clear c12b1
        try clear c13
        try clear c15
        try clear c16
        try clear c16b0
        try clear c19
        try clear c19b0
        try clear c23
        try clear c23b0
        try clear c24
        try clear c24b0
        try clear c30
        try clear c31
        try clear c31b0
        try clear c32
        try clear c32b0
        try clear p32
        try clear q32
        try clear hx32
        try clear c33
        try clear c39
        try clear c39b0
        try clear c39b1
        try clear c41
        try clear c42
        try clear c42b0
        try clear hx320_0
        try clear hx320_1
        try clear hx321_0
        try clear hx321_1
        try clear hx322_0
        try clear hx322_1
        try clear p2
        try clear p3
        try clear p320
        try clear p321
        try clear p322
        try clear p6
        try clear q3
        try clear q320
        try clear q321
        try clear q322
        obtain ⟨kq, x102_35, rfl, HA, HJ35, HB⟩ := hcut
        cases kq with
        | zero => exact absurd HA.out (by simp [bournelaw10_CurvePoints.j2])
        | succ kj35 =>
         have H := HA.out
         clear HA; simp only [bournelaw10_CurvePoints.j2] at H; by_cases c60 : x102_35 = true
         ·
          subst c60; have H1 : (some false) = some r := by rw [if_pos rfl] at H; exact H
          clear H; have H := H1
          clear H1; exact absurd (H.trans (congrArg some hT.out)) (by simp)
         ·
          replace c60 := Bool.eq_false_iff.mpr c60
          subst c60; have H1 : (if a3 < 0 then (bournelaw10_CurvePoints.j3 kj35 l0 l1 a2 a3 t317 true) else (if a3 ≥ (wrap64 ((l0.length : Int) - 1)) then (bournelaw10_CurvePoints.j3 kj35 l0 l1 a2 a3 t317 true) else (if 0 ≤ (wrap64 (a3 + 1)) then (if (wrap64 (a3 + 1)) < (l0.length : Int) then (if 0 ≤ a3 then (if a3 < (l0.length : Int) then (if ((rd_T37 l0 (wrap64 (a3 + 1))).f1) = ((rd_T37 l0 a3).f1) then (bournelaw10_CurvePoints.j3 kj35 l0 l1 a2 a3 t317 (decide ((wrap64 (((rd_T37 l0 (wrap64 (a3 + 1))).f0) - ((rd_T37 l0 a3).f0))) < 2))) else (bournelaw10_CurvePoints.j3 kj35 l0 l1 a2 a3 t317 true)) else (none)) else (none)) else (none)) else (none)))) = some r := by rw [if_neg (show ¬ (false = true) by decide)] at H; exact H
          clear H; have H := H1
          clear H1; have HC61 := Aside0.mk H
          clear H; go_upto_region 11 with (fail)
          go_cut [140] (fun v140 wc => ∃ (kq : Nat) (x140_60 : Bool), v140 = .bool x140_60 ∧ Aside0 (bournelaw10_CurvePoints.j3 kq l0 l1 a2 a3 t317 x140_60 = some r) ∧ Aside0 (kq ≤ kj35) ∧ Aside0 (Below w.heap.size w wc))
          case first =>
           have H := HC61.out
           clear HC61; by_cases c62 : a3 < 0
           ·
            rw [if_pos c62] at H; have c62b0 : decide (a3 < 0) = true := decide_eq_true c62
            clear c62; (first | rw [c62b0] | (simp only [i64_w, i32_w]; rw [c62b0]) | skip)
            have H' := Aside0.mk H
            clear H; try go_wp2
            have n0_ := Aside0.mk (b1 HB.out)
            clear HB; have HB := n0_
            clear n0_; refine start_ (n := 38) (S := fun w' => True) (ds := []) #[F,F,F,F,F,F,F,F,F,F,F,F,F,F,F,F,F,F,F,F,F,F,F,F,F,F,F,F,F,F,F,F,F,F,F,F,F,F] (by kernel_rfl) rfl rfl trivial (fun hHeld => ?_); refine with_tabW bournelaw10_CurvePoints.tab11 bournelaw10_CurvePoints.bits11 (fun HT_ HW_ => ?_)
            generalize wc.drew = w63 at HB hHeld ⊢
            refine pure_ (i := 0) (N := some 103) (v := ?_) (a' := ?_) #[T,F,F,F,F,F,F,F,F,F,F,F,F,F,F,F,F,F,F,F,F,F,F,F,F,F,F,F,F,F,F,F,F,F,F,F,F,F] rfl rfl (any_of HT_.out (by kernel_rfl)) (fun _ _ _ h => h) (Or.inl ⟨by rfl, ?_⟩) ?_ ?_
            rotate_left
            ·
             intro w'; go_simp; with_reducible rfl
            rotate_left
            ·
             simp only [Act.put, lA, lZ, lS, i64_w, i32_w]; rfl
            refine pure_ (i := 1) (N := some 104) (v := ?_) (a' := ?_) #[T,T,F,F,F,F,F,F,F,F,F,F,F,F,F,F,F,F,F,F,F,F,F,F,F,F,F,F,F,F,F,F,F,F,F,F,F,F] rfl rfl (any_of HT_.out (by kernel_rfl)) (fun _ _ _ h => h) (Or.inl ⟨by rfl, ?_⟩) ?_ ?_
            rotate_left
            ·
             intro w'; go_simp; with_reducible rfl
            rotate_left
            ·
             simp only [Act.put, lA, lZ, lS, i64_w, i32_w]; rfl
            refine pure_ (i := 2) (N := some 105) (v := ?_) (a' := ?_) #[T,T,T,F,F,F,F,F,F,F,F,F,F,F,F,F,F,F,F,F,F,F,F,F,F,F,F,F,F,F,F,F,F,F,F,F,F,F] rfl rfl (any_of HT_.out (by kernel_rfl)) (fun _ _ _ h => h) (Or.inl ⟨by rfl, ?_⟩) ?_ ?_
            rotate_left
            ·
             intro w'; go_simp; with_reducible rfl
            rotate_left
            ·
             simp only [Act.put, lA, lZ, lS, i64_w, i32_w]; rfl
            refine pure_ (i := 3) (N := some 106) (v := undef) (a' := ?_) #[T,T,T,T,F,F,F,F,F,F,F,F,F,F,F,F,F,F,F,F,F,F,F,F,F,F,F,F,F,F,F,F,F,F,F,F,F,F] rfl rfl (any_of HT_.out (by kernel_rfl)) (fun _ _ _ h => h) (Or.inr ⟨by rfl, rfl⟩) ?_ ?_
            rotate_left
            ·
             simp only [Act.put, lA, lZ, lS, i64_w, i32_w]; rfl
            refine pure_ (i := 4) (N := some 107) (v := undef) (a' := ?_) #[T,T,T,T,T,F,F,F,F,F,F,F,F,F,F,F,F,F,F,F,F,F,F,F,F,F,F,F,F,F,F,F,F,F,F,F,F,F] rfl rfl (any_of HT_.out (by kernel_rfl)) (fun _ _ _ h => h) (Or.inr ⟨by rfl, rfl⟩) ?_ ?_
            rotate_left
            ·
             simp only [Act.put, lA, lZ, lS, i64_w, i32_w]; rfl
            refine pure_ (i := 5) (N := some 108) (v := undef) (a' := ?_) #[T,T,T,T,T,T,F,F,F,F,F,F,F,F,F,F,F,F,F,F,F,F,F,F,F,F,F,F,F,F,F,F,F,F,F,F,F,F] rfl rfl (any_of HT_.out (by kernel_rfl)) (fun _ _ _ h => h) (Or.inr ⟨by rfl, rfl⟩) ?_ ?_
            rotate_left
            ·
             simp only [Act.put, lA, lZ, lS, i64_w, i32_w]; rfl
            refine pure_ (i := 6) (N := some 109) (v := undef) (a' := ?_) #[T,T,T,T,T,T,T,F,F,F,F,F,F,F,F,F,F,F,F,F,F,F,F,F,F,F,F,F,F,F,F,F,F,F,F,F,F,F] rfl rfl (any_of HT_.out (by kernel_rfl)) (fun _ _ _ h => h) (Or.inr ⟨by rfl, rfl⟩) ?_ ?_
            rotate_left
            ·
             simp only [Act.put, lA, lZ, lS, i64_w, i32_w]; rfl
            refine pure_ (i := 7) (N := some 110) (v := undef) (a' := ?_) #[T,T,T,T,T,T,T,T,F,F,F,F,F,F,F,F,F,F,F,F,F,F,F,F,F,F,F,F,F,F,F,F,F,F,F,F,F,F] rfl rfl (any_of HT_.out (by kernel_rfl)) (fun _ _ _ h => h) (Or.inr ⟨by rfl, rfl⟩) ?_ ?_
            rotate_left
            ·
             simp only [Act.put, lA, lZ, lS, i64_w, i32_w]; rfl
            refine pure_ (i := 8) (N := some 111) (v := ?_) (a' := ?_) #[T,T,T,T,T,T,T,T,T,F,F,F,F,F,F,F,F,F,F,F,F,F,F,F,F,F,F,F,F,F,F,F,F,F,F,F,F,F] rfl rfl (any_of HT_.out (by kernel_rfl)) (fun _ _ _ h => h) (Or.inl ⟨by rfl, ?_⟩) ?_ ?_
            rotate_left
            ·
             intro w'; go_simp; with_reducible rfl
            rotate_left
            ·
             simp only [Act.put, lA, lZ, lS, i64_w, i32_w]; rfl
            refine pure_ (i := 9) (N := some 112) (v := ?_) (a' := ?_) #[T,T,T,T,T,T,T,T,T,T,F,F,F,F,F,F,F,F,F,F,F,F,F,F,F,F,F,F,F,F,F,F,F,F,F,F,F,F] rfl rfl (any_of HT_.out (by kernel_rfl)) (fun _ _ _ h => h) (Or.inl ⟨by rfl, ?_⟩) ?_ ?_
            rotate_left
            ·
             intro w'; go_simp; with_reducible rfl
            rotate_left
            ·
             simp only [Act.put, lA, lZ, lS, i64_w, i32_w]; rfl
            refine pure_ (i := 10) (N := some 113) (v := undef) (a' := ?_) #[T,T,T,T,T,T,T,T,T,T,T,F,F,F,F,F,F,F,F,F,F,F,F,F,F,F,F,F,F,F,F,F,F,F,F,F,F,F] rfl rfl (any_of HT_.out (by kernel_rfl)) (fun _ _ _ h => h) (Or.inr ⟨by rfl, rfl⟩) ?_ ?_
            rotate_left
            ·
             simp only [Act.put, lA, lZ, lS, i64_w, i32_w]; rfl
            refine pure_ (i := 11) (N := some 114) (v := undef) (a' := ?_) #[T,T,T,T,T,T,T,T,T,T,T,T,F,F,F,F,F,F,F,F,F,F,F,F,F,F,F,F,F,F,F,F,F,F,F,F,F,F] rfl rfl (any_of HT_.out (by kernel_rfl)) (fun _ _ _ h => h) (Or.inr ⟨by rfl, rfl⟩) ?_ ?_
            rotate_left
            ·
             simp only [Act.put, lA, lZ, lS, i64_w, i32_w]; rfl
            refine pure_ (i := 12) (N := some 115) (v := undef) (a' := ?_) #[T,T,T,T,T,T,T,T,T,T,T,T,T,F,F,F,F,F,F,F,F,F,F,F,F,F,F,F,F,F,F,F,F,F,F,F,F,F] rfl rfl (any_of HT_.out (by kernel_rfl)) (fun _ _ _ h => h) (Or.inr ⟨by rfl, rfl⟩) ?_ ?_
            rotate_left
            ·
             simp only [Act.put, lA, lZ, lS, i64_w, i32_w]; rfl
            refine pure_ (i := 13) (N := some 116) (v := undef) (a' := ?_) #[T,T,T,T,T,T,T,T,T,T,T,T,T,T,F,F,F,F,F,F,F,F,F,F,F,F,F,F,F,F,F,F,F,F,F,F,F,F] rfl rfl (any_of HT_.out (by kernel_rfl)) (fun _ _ _ h => h) (Or.inr ⟨by rfl, rfl⟩) ?_ ?_
            rotate_left
            ·
             simp only [Act.put, lA, lZ, lS, i64_w, i32_w]; rfl
            refine pure_ (i := 14) (N := some 117) (v := undef) (a' := ?_) #[T,T,T,T,T,T,T,T,T,T,T,T,T,T,T,F,F,F,F,F,F,F,F,F,F,F,F,F,F,F,F,F,F,F,F,F,F,F] rfl rfl (any_of HT_.out (by kernel_rfl)) (fun _ _ _ h => h) (Or.inr ⟨by rfl, rfl⟩) ?_ ?_
            rotate_left
            ·
             simp only [Act.put, lA, lZ, lS, i64_w, i32_w]; rfl
            refine pure_ (i := 15) (N := some 118) (v := undef) (a' := ?_) #[T,T,T,T,T,T,T,T,T,T,T,T,T,T,T,T,F,F,F,F,F,F,F,F,F,F,F,F,F,F,F,F,F,F,F,F,F,F] rfl rfl (any_of HT_.out (by kernel_rfl)) (fun _ _ _ h => h) (Or.inr ⟨by rfl, rfl⟩) ?_ ?_
            rotate_left
            ·
             simp only [Act.put, lA, lZ, lS, i64_w, i32_w]; rfl
            refine pure_ (i := 16) (N := some 119) (v := undef) (a' := ?_) #[T,T,T,T,T,T,T,T,T,T,T,T,T,T,T,T,T,F,F,F,F,F,F,F,F,F,F,F,F,F,F,F,F,F,F,F,F,F] rfl rfl (any_of HT_.out (by kernel_rfl)) (fun _ _ _ h => h) (Or.inr ⟨by rfl, rfl⟩) ?_ ?_
            rotate_left
            ·
             simp only [Act.put, lA, lZ, lS, i64_w, i32_w]; rfl
            refine pure_ (i := 17) (N := some 120) (v := undef) (a' := ?_) #[T,T,T,T,T,T,T,T,T,T,T,T,T,T,T,T,T,T,F,F,F,F,F,F,F,F,F,F,F,F,F,F,F,F,F,F,F,F] rfl rfl (any_of HT_.out (by kernel_rfl)) (fun _ _ _ h => h) (Or.inr ⟨by rfl, rfl⟩) ?_ ?_
            rotate_left
            ·
             simp only [Act.put, lA, lZ, lS, i64_w, i32_w]; rfl
            refine pure_ (i := 18) (N := some 121) (v := undef) (a' := ?_) #[T,T,T,T,T,T,T,T,T,T,T,T,T,T,T,T,T,T,T,F,F,F,F,F,F,F,F,F,F,F,F,F,F,F,F,F,F,F] rfl rfl (any_of HT_.out (by kernel_rfl)) (fun _ _ _ h => h) (Or.inr ⟨by rfl, rfl⟩) ?_ ?_
            rotate_left
            ·
             simp only [Act.put, lA, lZ, lS, i64_w, i32_w]; rfl
            refine pure_ (i := 19) (N := some 122) (v := undef) (a' := ?_) #[T,T,T,T,T,T,T,T,T,T,T,T,T,T,T,T,T,T,T,T,F,F,F,F,F,F,F,F,F,F,F,F,F,F,F,F,F,F] rfl rfl (any_of HT_.out (by kernel_rfl)) (fun _ _ _ h => h) (Or.inr ⟨by rfl, rfl⟩) ?_ ?_
            rotate_left
            ·
             simp only [Act.put, lA, lZ, lS, i64_w, i32_w]; rfl
            refine pure_ (i := 20) (N := some 123) (v := undef) (a' := ?_) #[T,T,T,T,T,T,T,T,T,T,T,T,T,T,T,T,T,T,T,T,T,F,F,F,F,F,F,F,F,F,F,F,F,F,F,F,F,F] rfl rfl (any_of HT_.out (by kernel_rfl)) (fun _ _ _ h => h) (Or.inr ⟨by rfl, rfl⟩) ?_ ?_
            rotate_left
            ·
             simp only [Act.put, lA, lZ, lS, i64_w, i32_w]; rfl
            refine pure_ (i := 21) (N := some 124) (v := undef) (a' := ?_) #[T,T,T,T,T,T,T,T,T,T,T,T,T,T,T,T,T,T,T,T,T,T,F,F,F,F,F,F,F,F,F,F,F,F,F,F,F,F] rfl rfl (any_of HT_.out (by kernel_rfl)) (fun _ _ _ h => h) (Or.inr ⟨by rfl, rfl⟩) ?_ ?_
            rotate_left
            ·
             simp only [Act.put, lA, lZ, lS, i64_w, i32_w]; rfl
            refine pure_ (i := 22) (N := some 125) (v := ?_) (a' := ?_) #[T,T,T,T,T,T,T,T,T,T,T,T,T,T,T,T,T,T,T,T,T,T,T,F,F,F,F,F,F,F,F,F,F,F,F,F,F,F] rfl rfl (any_of HT_.out (by kernel_rfl)) (fun _ _ _ h => h) (Or.inl ⟨by rfl, ?_⟩) ?_ ?_
            rotate_left
            ·
             intro w'; go_simp; with_reducible rfl
            rotate_left
            ·
             simp only [Act.put, lA, lZ, lS, i64_w, i32_w]; rfl
            refine pure_ (i := 23) (N := some 126) (v := ?_) (a' := ?_) #[T,T,T,T,T,T,T,T,T,T,T,T,T,T,T,T,T,T,T,T,T,T,T,T,F,F,F,F,F,F,F,F,F,F,F,F,F,F] rfl rfl (any_of HT_.out (by kernel_rfl)) (fun _ _ _ h => h) (Or.inl ⟨by rfl, ?_⟩) ?_ ?_
            rotate_left
            ·
             intro w'; go_simp; with_reducible rfl
            rotate_left
            ·
             simp only [Act.put, lA, lZ, lS, i64_w, i32_w]; rfl
            refine pure_ (i := 24) (N := some 127) (v := undef) (a' := ?_) #[T,T,T,T,T,T,T,T,T,T,T,T,T,T,T,T,T,T,T,T,T,T,T,T,T,F,F,F,F,F,F,F,F,F,F,F,F,F] rfl rfl (any_of HT_.out (by kernel_rfl)) (fun _ _ _ h => h) (Or.inr ⟨by rfl, rfl⟩) ?_ ?_
            rotate_left
            ·
             simp only [Act.put, lA, lZ, lS, i64_w, i32_w]; rfl
            refine pure_ (i := 25) (N := some 128) (v := undef) (a' := ?_) #[T,T,T,T,T,T,T,T,T,T,T,T,T,T,T,T,T,T,T,T,T,T,T,T,T,T,F,F,F,F,F,F,F,F,F,F,F,F] rfl rfl (any_of HT_.out (by kernel_rfl)) (fun _ _ _ h => h) (Or.inr ⟨by rfl, rfl⟩) ?_ ?_
            rotate_left
            ·
             simp only [Act.put, lA, lZ, lS, i64_w, i32_w]; rfl
            refine pure_ (i := 26) (N := some 129) (v := undef) (a' := ?_) #[T,T,T,T,T,T,T,T,T,T,T,T,T,T,T,T,T,T,T,T,T,T,T,T,T,T,T,F,F,F,F,F,F,F,F,F,F,F] rfl rfl (any_of HT_.out (by kernel_rfl)) (fun _ _ _ h => h) (Or.inr ⟨by rfl, rfl⟩) ?_ ?_
            rotate_left
            ·
             simp only [Act.put, lA, lZ, lS, i64_w, i32_w]; rfl
            refine pure_ (i := 27) (N := some 130) (v := undef) (a' := ?_) #[T,T,T,T,T,T,T,T,T,T,T,T,T,T,T,T,T,T,T,T,T,T,T,T,T,T,T,T,F,F,F,F,F,F,F,F,F,F] rfl rfl (any_of HT_.out (by kernel_rfl)) (fun _ _ _ h => h) (Or.inr ⟨by rfl, rfl⟩) ?_ ?_
            rotate_left
            ·
             simp only [Act.put, lA, lZ, lS, i64_w, i32_w]; rfl
            refine pure_ (i := 28) (N := some 131) (v := undef) (a' := ?_) #[T,T,T,T,T,T,T,T,T,T,T,T,T,T,T,T,T,T,T,T,T,T,T,T,T,T,T,T,T,F,F,F,F,F,F,F,F,F] rfl rfl (any_of HT_.out (by kernel_rfl)) (fun _ _ _ h => h) (Or.inr ⟨by rfl, rfl⟩) ?_ ?_
            rotate_left
            ·
             simp only [Act.put, lA, lZ, lS, i64_w, i32_w]; rfl
            refine pure_ (i := 29) (N := some 132) (v := undef) (a' := ?_) #[T,T,T,T,T,T,T,T,T,T,T,T,T,T,T,T,T,T,T,T,T,T,T,T,T,T,T,T,T,T,F,F,F,F,F,F,F,F] rfl rfl (any_of HT_.out (by kernel_rfl)) (fun _ _ _ h => h) (Or.inr ⟨by rfl, rfl⟩) ?_ ?_
            rotate_left
            ·
             simp only [Act.put, lA, lZ, lS, i64_w, i32_w]; rfl
            refine pure_ (i := 30) (N := some 133) (v := undef) (a' := ?_) #[T,T,T,T,T,T,T,T,T,T,T,T,T,T,T,T,T,T,T,T,T,T,T,T,T,T,T,T,T,T,T,F,F,F,F,F,F,F] rfl rfl (any_of HT_.out (by kernel_rfl)) (fun _ _ _ h => h) (Or.inr ⟨by rfl, rfl⟩) ?_ ?_
            rotate_left
            ·
             simp only [Act.put, lA, lZ, lS, i64_w, i32_w]; rfl
            refine pure_ (i := 31) (N := some 134) (v := undef) (a' := ?_) #[T,T,T,T,T,T,T,T,T,T,T,T,T,T,T,T,T,T,T,T,T,T,T,T,T,T,T,T,T,T,T,T,F,F,F,F,F,F] rfl rfl (any_of HT_.out (by kernel_rfl)) (fun _ _ _ h => h) (Or.inr ⟨by rfl, rfl⟩) ?_ ?_
            rotate_left
            ·
             simp only [Act.put, lA, lZ, lS, i64_w, i32_w]; rfl
            refine pure_ (i := 32) (N := some 135) (v := undef) (a' := ?_) #[T,T,T,T,T,T,T,T,T,T,T,T,T,T,T,T,T,T,T,T,T,T,T,T,T,T,T,T,T,T,T,T,T,F,F,F,F,F] rfl rfl (any_of HT_.out (by kernel_rfl)) (fun _ _ _ h => h) (Or.inr ⟨by rfl, rfl⟩) ?_ ?_
            rotate_left
            ·
             simp only [Act.put, lA, lZ, lS, i64_w, i32_w]; rfl
            refine pure_ (i := 33) (N := some 136) (v := undef) (a' := ?_) #[T,T,T,T,T,T,T,T,T,T,T,T,T,T,T,T,T,T,T,T,T,T,T,T,T,T,T,T,T,T,T,T,T,T,F,F,F,F] rfl rfl (any_of HT_.out (by kernel_rfl)) (fun _ _ _ h => h) (Or.inr ⟨by rfl, rfl⟩) ?_ ?_
            rotate_left
            ·
             simp only [Act.put, lA, lZ, lS, i64_w, i32_w]; rfl
            refine pure_ (i := 34) (N := some 137) (v := undef) (a' := ?_) #[T,T,T,T,T,T,T,T,T,T,T,T,T,T,T,T,T,T,T,T,T,T,T,T,T,T,T,T,T,T,T,T,T,T,T,F,F,F] rfl rfl (any_of HT_.out (by kernel_rfl)) (fun _ _ _ h => h) (Or.inr ⟨by rfl, rfl⟩) ?_ ?_
            rotate_left
            ·
             simp only [Act.put, lA, lZ, lS, i64_w, i32_w]; rfl
            refine pure_ (i := 35) (N := some 138) (v := undef) (a' := ?_) #[T,T,T,T,T,T,T,T,T,T,T,T,T,T,T,T,T,T,T,T,T,T,T,T,T,T,T,T,T,T,T,T,T,T,T,T,F,F] rfl rfl (any_of HT_.out (by kernel_rfl)) (fun _ _ _ h => h) (Or.inr ⟨by rfl, rfl⟩) ?_ ?_
            rotate_left
            ·
             simp only [Act.put, lA, lZ, lS, i64_w, i32_w]; rfl
            refine pure_ (i := 36) (N := some 139) (v := undef) (a' := ?_) #[T,T,T,T,T,T,T,T,T,T,T,T,T,T,T,T,T,T,T,T,T,T,T,T,T,T,T,T,T,T,T,T,T,T,T,T,T,F] rfl rfl (any_of HT_.out (by kernel_rfl)) (fun _ _ _ h => h) (Or.inr ⟨by rfl, rfl⟩) ?_ ?_
            rotate_left
            ·
             simp only [Act.put, lA, lZ, lS, i64_w, i32_w]; rfl
            refine pure_ (i := 37) (N := some 140) (v := ?_) (a' := ?_) #[T,T,T,T,T,T,T,T,T,T,T,T,T,T,T,T,T,T,T,T,T,T,T,T,T,T,T,T,T,T,T,T,T,T,T,T,T,T] rfl rfl (any_of HT_.out (by kernel_rfl)) (fun _ _ _ h => h) (Or.inl ⟨by rfl, ?_⟩) ?_ ?_
            rotate_left
            ·
             intro w'; go_simp; with_reducible rfl
            rotate_left
            ·
             simp only [Act.put, lA, lZ, lS, i64_w, i32_w]; rfl
            refine done_ (done_of HT_.out (by kernel_rfl)) ?_
            try go_wp2
            go_meet
            case rel => exact ⟨_, (true), (by first | rfl | (simp; done) | (simp [*]; done)), H', ⟨by have := HJ6.out; have := HK2.out; have := HJ35.out; first | omega | exact Nat.le_refl _⟩, ⟨by repeat (first | (with_reducible first | exact HB.out | apply bL | apply bW | apply b1) | exact HB.out)⟩⟩
           ·
            rw [if_neg c62] at H; have c62b0 : decide (a3 < 0) = false := decide_eq_false c62
            clear c62; (first | rw [c62b0] | (simp only [i64_w, i32_w]; rw [c62b0]) | skip)
            by_cases c64 : a3 ≥ (wrap64 ((l0.length : Int) - 1))
            ·
             rw [if_pos c64] at H; have c64b0 : decide ((wrap64 ((l0.length : Int) - 1)) ≤ a3) = true := decide_eq_true c64
             clear c64; have H' := Aside0.mk H
             clear H; try go_wp2
             have n0_ := Aside0.mk (b1 HB.out)
             clear HB; have HB := n0_
             clear n0_; refine start_ (n := 38) (S := fun w' => True) (ds := []) #[F,F,F,F,F,F,F,F,F,F,F,F,F,F,F,F,F,F,F,F,F,F,F,F,F,F,F,F,F,F,F,F,F,F,F,F,F,F] (by kernel_rfl) rfl rfl trivial (fun hHeld => ?_); refine with_tabW bournelaw10_CurvePoints.tab11 bournelaw10_CurvePoints.bits11 (fun HT_ HW_ => ?_)
             generalize wc.drew = w65 at HB hHeld ⊢
             refine pure_ (i := 0) (N := some 103) (v := ?_) (a' := ?_) #[T,F,F,F,F,F,F,F,F,F,F,F,F,F,F,F,F,F,F,F,F,F,F,F,F,F,F,F,F,F,F,F,F,F,F,F,F,F] rfl rfl (any_of HT_.out (by kernel_rfl)) (fun _ _ _ h => h) (Or.inl ⟨by rfl, ?_⟩) ?_ ?_
             rotate_left
             ·
              intro w'; go_simp; with_reducible rfl
             rotate_left
             ·
              simp only [Act.put, lA, lZ, lS, i64_w, i32_w]; rfl
             refine pure_ (i := 1) (N := some 104) (v := ?_) (a' := ?_) #[T,T,F,F,F,F,F,F,F,F,F,F,F,F,F,F,F,F,F,F,F,F,F,F,F,F,F,F,F,F,F,F,F,F,F,F,F,F] rfl rfl (any_of HT_.out (by kernel_rfl)) (fun _ _ _ h => h) (Or.inl ⟨by rfl, ?_⟩) ?_ ?_
             rotate_left
             ·
              intro w'; go_simp; with_reducible rfl
             rotate_left
             ·
              simp only [Act.put, lA, lZ, lS, i64_w, i32_w]; rfl
             refine pure_ (i := 2) (N := some 105) (v := ?_) (a' := ?_) #[T,T,T,F,F,F,F,F,F,F,F,F,F,F,F,F,F,F,F,F,F,F,F,F,F,F,F,F,F,F,F,F,F,F,F,F,F,F] rfl rfl (any_of HT_.out (by kernel_rfl)) (fun _ _ _ h => h) (Or.inl ⟨by rfl, ?_⟩) ?_ ?_
             rotate_left
             ·
              intro w'; go_simp; with_reducible rfl
             rotate_left
             ·
              simp only [Act.put, lA, lZ, lS, i64_w, i32_w]; rfl
             refine pure_ (i := 3) (N := some 106) (v := ?_) (a' := ?_) #[T,T,T,T,F,F,F,F,F,F,F,F,F,F,F,F,F,F,F,F,F,F,F,F,F,F,F,F,F,F,F,F,F,F,F,F,F,F] rfl rfl (any_of HT_.out (by kernel_rfl)) (fun _ _ _ h => h) (Or.inl ⟨by rfl, ?_⟩) ?_ ?_
             rotate_left
             ·
              intro w'; go_simp; with_reducible rfl
             rotate_left
             ·
              simp only [Act.put, lA, lZ, lS, i64_w, i32_w]; rfl
             refine pure_ (i := 4) (N := some 107) (v := ?_) (a' := ?_) #[T,T,T,T,T,F,F,F,F,F,F,F,F,F,F,F,F,F,F,F,F,F,F,F,F,F,F,F,F,F,F,F,F,F,F,F,F,F] rfl rfl (any_of HT_.out (by kernel_rfl)) (fun _ _ _ h => h) (Or.inl ⟨by rfl, ?_⟩) ?_ ?_
             rotate_left
             ·
              intro w'; go_simp; with_reducible rfl
             rotate_left
             ·
              simp only [Act.put, lA, lZ, lS, i64_w, i32_w]; rfl
             refine pure_ (i := 5) (N := some 108) (v := ?_) (a' := ?_) #[T,T,T,T,T,T,F,F,F,F,F,F,F,F,F,F,F,F,F,F,F,F,F,F,F,F,F,F,F,F,F,F,F,F,F,F,F,F] rfl rfl (any_of HT_.out (by kernel_rfl)) (fun _ _ _ h => h) (Or.inl ⟨by rfl, ?_⟩) ?_ ?_
             rotate_left
             ·
              intro w'; go_simp; with_reducible rfl
             rotate_left
             ·
              simp only [Act.put, lA, lZ, lS, i64_w, i32_w]; rfl
             refine pure_ (i := 6) (N := some 109) (v := ?_) (a' := ?_) #[T,T,T,T,T,T,T,F,F,F,F,F,F,F,F,F,F,F,F,F,F,F,F,F,F,F,F,F,F,F,F,F,F,F,F,F,F,F] rfl rfl (any_of HT_.out (by kernel_rfl)) (fun _ _ _ h => h) (Or.inl ⟨by rfl, ?_⟩) ?_ ?_
             rotate_left
             ·
              intro w'; go_simp; with_reducible rfl
             rotate_left
             ·
              simp only [Act.put, lA, lZ, lS, i64_w, i32_w]; rfl
             refine pure_ (i := 7) (N := some 110) (v := ?_) (a' := ?_) #[T,T,T,T,T,T,T,T,F,F,F,F,F,F,F,F,F,F,F,F,F,F,F,F,F,F,F,F,F,F,F,F,F,F,F,F,F,F] rfl rfl (any_of HT_.out (by kernel_rfl)) (fun _ _ _ h => h) (Or.inl ⟨by rfl, ?_⟩) ?_ ?_
             rotate_left
             ·
              intro w'; go_simp; with_reducible rfl
             rotate_left
             ·
              simp only [Act.put, lA, lZ, lS, i64_w, i32_w]; rfl
             refine pure_ (i := 8) (N := some 111) (v := ?_) (a' := ?_) #[T,T,T,T,T,T,T,T,T,F,F,F,F,F,F,F,F,F,F,F,F,F,F,F,F,F,F,F,F,F,F,F,F,F,F,F,F,F] rfl rfl (any_of HT_.out (by kernel_rfl)) (fun _ _ _ h => h) (Or.inl ⟨by rfl, ?_⟩) ?_ ?_
             rotate_left
             ·
              intro w'; go_simp; with_reducible rfl
             rotate_left
             ·
              simp only [Act.put, lA, lZ, lS, i64_w, i32_w]; rfl
             refine pure_ (i := 9) (N := some 112) (v := ?_) (a' := ?_) #[T,T,T,T,T,T,T,T,T,T,F,F,F,F,F,F,F,F,F,F,F,F,F,F,F,F,F,F,F,F,F,F,F,F,F,F,F,F] rfl rfl (any_of HT_.out (by kernel_rfl)) (fun _ _ _ h => h) (Or.inl ⟨by rfl, ?_⟩) ?_ ?_
             rotate_left
             ·
              intro w'; go_simp; with_reducible rfl
             rotate_left
             ·
              simp only [Act.put, lA, lZ, lS, i64_w, i32_w]; rfl
             refine pure_ (i := 10) (N := some 113) (v := undef) (a' := ?_) #[T,T,T,T,T,T,T,T,T,T,T,F,F,F,F,F,F,F,F,F,F,F,F,F,F,F,F,F,F,F,F,F,F,F,F,F,F,F] rfl rfl (any_of HT_.out (by kernel_rfl)) (fun _ _ _ h => h) (Or.inr ⟨by rfl, rfl⟩) ?_ ?_
             rotate_left
             ·
              simp only [Act.put, lA, lZ, lS, i64_w, i32_w]; rfl
             refine pure_ (i := 11) (N := some 114) (v := undef) (a' := ?_) #[T,T,T,T,T,T,T,T,T,T,T,T,F,F,F,F,F,F,F,F,F,F,F,F,F,F,F,F,F,F,F,F,F,F,F,F,F,F] rfl rfl (any_of HT_.out (by kernel_rfl)) (fun _ _ _ h => h) (Or.inr ⟨by rfl, rfl⟩) ?_ ?_
             rotate_left
             ·
              simp only [Act.put, lA, lZ, lS, i64_w, i32_w]; rfl
             refine pure_ (i := 12) (N := some 115) (v := undef) (a' := ?_) #[T,T,T,T,T,T,T,T,T,T,T,T,T,F,F,F,F,F,F,F,F,F,F,F,F,F,F,F,F,F,F,F,F,F,F,F,F,F] rfl rfl (any_of HT_.out (by kernel_rfl)) (fun _ _ _ h => h) (Or.inr ⟨by rfl, rfl⟩) ?_ ?_
             rotate_left
             ·
              simp only [Act.put, lA, lZ, lS, i64_w, i32_w]; rfl
             refine pure_ (i := 13) (N := some 116) (v := undef) (a' := ?_) #[T,T,T,T,T,T,T,T,T,T,T,T,T,T,F,F,F,F,F,F,F,F,F,F,F,F,F,F,F,F,F,F,F,F,F,F,F,F] rfl rfl (any_of HT_.out (by kernel_rfl)) (fun _ _ _ h => h) (Or.inr ⟨by rfl, rfl⟩) ?_ ?_
             rotate_left
             ·
              simp only [Act.put, lA, lZ, lS, i64_w, i32_w]; rfl
             refine pure_ (i := 14) (N := some 117) (v := undef) (a' := ?_) #[T,T,T,T,T,T,T,T,T,T,T,T,T,T,T,F,F,F,F,F,F,F,F,F,F,F,F,F,F,F,F,F,F,F,F,F,F,F] rfl rfl (any_of HT_.out (by kernel_rfl)) (fun _ _ _ h => h) (Or.inr ⟨by rfl, rfl⟩) ?_ ?_
             rotate_left
             ·
              simp only [Act.put, lA, lZ, lS, i64_w, i32_w]; rfl
             refine pure_ (i := 15) (N := some 118) (v := undef) (a' := ?_) #[T,T,T,T,T,T,T,T,T,T,T,T,T,T,T,T,F,F,F,F,F,F,F,F,F,F,F,F,F,F,F,F,F,F,F,F,F,F] rfl rfl (any_of HT_.out (by kernel_rfl)) (fun _ _ _ h => h) (Or.inr ⟨by rfl, rfl⟩) ?_ ?_
             rotate_left
             ·
              simp only [Act.put, lA, lZ, lS, i64_w, i32_w]; rfl
             refine pure_ (i := 16) (N := some 119) (v := undef) (a' := ?_) #[T,T,T,T,T,T,T,T,T,T,T,T,T,T,T,T,T,F,F,F,F,F,F,F,F,F,F,F,F,F,F,F,F,F,F,F,F,F] rfl rfl (any_of HT_.out (by kernel_rfl)) (fun _ _ _ h => h) (Or.inr ⟨by rfl, rfl⟩) ?_ ?_
             rotate_left
             ·
              simp only [Act.put, lA, lZ, lS, i64_w, i32_w]; rfl
             refine pure_ (i := 17) (N := some 120) (v := undef) (a' := ?_) #[T,T,T,T,T,T,T,T,T,T,T,T,T,T,T,T,T,T,F,F,F,F,F,F,F,F,F,F,F,F,F,F,F,F,F,F,F,F] rfl rfl (any_of HT_.out (by kernel_rfl)) (fun _ _ _ h => h) (Or.inr ⟨by rfl, rfl⟩) ?_ ?_
             rotate_left
             ·
              simp only [Act.put, lA, lZ, lS, i64_w, i32_w]; rfl
             refine pure_ (i := 18) (N := some 121) (v := undef) (a' := ?_) #[T,T,T,T,T,T,T,T,T,T,T,T,T,T,T,T,T,T,T,F,F,F,F,F,F,F,F,F,F,F,F,F,F,F,F,F,F,F] rfl rfl (any_of HT_.out (by kernel_rfl)) (fun _ _ _ h => h) (Or.inr ⟨by rfl, rfl⟩) ?_ ?_
             rotate_left
             ·
              simp only [Act.put, lA, lZ, lS, i64_w, i32_w]; rfl
             refine pure_ (i := 19) (N := some 122) (v := undef) (a' := ?_) #[T,T,T,T,T,T,T,T,T,T,T,T,T,T,T,T,T,T,T,T,F,F,F,F,F,F,F,F,F,F,F,F,F,F,F,F,F,F] rfl rfl (any_of HT_.out (by kernel_rfl)) (fun _ _ _ h => h) (Or.inr ⟨by rfl, rfl⟩) ?_ ?_
             rotate_left
             ·
              simp only [Act.put, lA, lZ, lS, i64_w, i32_w]; rfl
             refine pure_ (i := 20) (N := some 123) (v := undef) (a' := ?_) #[T,T,T,T,T,T,T,T,T,T,T,T,T,T,T,T,T,T,T,T,T,F,F,F,F,F,F,F,F,F,F,F,F,F,F,F,F,F] rfl rfl (any_of HT_.out (by kernel_rfl)) (fun _ _ _ h => h) (Or.inr ⟨by rfl, rfl⟩) ?_ ?_
             rotate_left
             ·
              simp only [Act.put, lA, lZ, lS, i64_w, i32_w]; rfl
             refine pure_ (i := 21) (N := some 124) (v := undef) (a' := ?_) #[T,T,T,T,T,T,T,T,T,T,T,T,T,T,T,T,T,T,T,T,T,T,F,F,F,F,F,F,F,F,F,F,F,F,F,F,F,F] rfl rfl (any_of HT_.out (by kernel_rfl)) (fun _ _ _ h => h) (Or.inr ⟨by rfl, rfl⟩) ?_ ?_
             rotate_left
             ·
              simp only [Act.put, lA, lZ, lS, i64_w, i32_w]; rfl
             refine pure_ (i := 22) (N := some 125) (v := ?_) (a' := ?_) #[T,T,T,T,T,T,T,T,T,T,T,T,T,T,T,T,T,T,T,T,T,T,T,F,F,F,F,F,F,F,F,F,F,F,F,F,F,F] rfl rfl (any_of HT_.out (by kernel_rfl)) (fun _ _ _ h => h) (Or.inl ⟨by rfl, ?_⟩) ?_ ?_
             rotate_left
             ·
              intro w'; go_simp; with_reducible rfl
             rotate_left
             ·
              simp only [Act.put, lA, lZ, lS, i64_w, i32_w]; rfl
             refine pure_ (i := 23) (N := some 126) (v := ?_) (a' := ?_) #[T,T,T,T,T,T,T,T,T,T,T,T,T,T,T,T,T,T,T,T,T,T,T,T,F,F,F,F,F,F,F,F,F,F,F,F,F,F] rfl rfl (any_of HT_.out (by kernel_rfl)) (fun _ _ _ h => h) (Or.inl ⟨by rfl, ?_⟩) ?_ ?_
             rotate_left
             ·
              intro w'; go_simp; with_reducible rfl
             rotate_left
             ·
              simp only [Act.put, lA, lZ, lS, i64_w, i32_w]; rfl
             refine pure_ (i := 24) (N := some 127) (v := undef) (a' := ?_) #[T,T,T,T,T,T,T,T,T,T,T,T,T,T,T,T,T,T,T,T,T,T,T,T,T,F,F,F,F,F,F,F,F,F,F,F,F,F] rfl rfl (any_of HT_.out (by kernel_rfl)) (fun _ _ _ h => h) (Or.inr ⟨by rfl, rfl⟩) ?_ ?_
             rotate_left
             ·
              simp only [Act.put, lA, lZ, lS, i64_w, i32_w]; rfl
             refine pure_ (i := 25) (N := some 128) (v := undef) (a' := ?_) #[T,T,T,T,T,T,T,T,T,T,T,T,T,T,T,T,T,T,T,T,T,T,T,T,T,T,F,F,F,F,F,F,F,F,F,F,F,F] rfl rfl (any_of HT_.out (by kernel_rfl)) (fun _ _ _ h => h) (Or.inr ⟨by rfl, rfl⟩) ?_ ?_
             rotate_left
             ·
              simp only [Act.put, lA, lZ, lS, i64_w, i32_w]; rfl
             refine pure_ (i := 26) (N := some 129) (v := undef) (a' := ?_) #[T,T,T,T,T,T,T,T,T,T,T,T,T,T,T,T,T,T,T,T,T,T,T,T,T,T,T,F,F,F,F,F,F,F,F,F,F,F] rfl rfl (any_of HT_.out (by kernel_rfl)) (fun _ _ _ h => h) (Or.inr ⟨by rfl, rfl⟩) ?_ ?_
             rotate_left
             ·
              simp only [Act.put, lA, lZ, lS, i64_w, i32_w]; rfl
             refine pure_ (i := 27) (N := some 130) (v := undef) (a' := ?_) #[T,T,T,T,T,T,T,T,T,T,T,T,T,T,T,T,T,T,T,T,T,T,T,T,T,T,T,T,F,F,F,F,F,F,F,F,F,F] rfl rfl (any_of HT_.out (by kernel_rfl)) (fun _ _ _ h => h) (Or.inr ⟨by rfl, rfl⟩) ?_ ?_
             rotate_left
             ·
              simp only [Act.put, lA, lZ, lS, i64_w, i32_w]; rfl
             refine pure_ (i := 28) (N := some 131) (v := undef) (a' := ?_) #[T,T,T,T,T,T,T,T,T,T,T,T,T,T,T,T,T,T,T,T,T,T,T,T,T,T,T,T,T,F,F,F,F,F,F,F,F,F] rfl rfl (any_of HT_.out (by kernel_rfl)) (fun _ _ _ h => h) (Or.inr ⟨by rfl, rfl⟩) ?_ ?_
             rotate_left
             ·
              simp only [Act.put, lA, lZ, lS, i64_w, i32_w]; rfl
             refine pure_ (i := 29) (N := some 132) (v := undef) (a' := ?_) #[T,T,T,T,T,T,T,T,T,T,T,T,T,T,T,T,T,T,T,T,T,T,T,T,T,T,T,T,T,T,F,F,F,F,F,F,F,F] rfl rfl (any_of HT_.out (by kernel_rfl)) (fun _ _ _ h => h) (Or.inr ⟨by rfl, rfl⟩) ?_ ?_
             rotate_left
             ·
              simp only [Act.put, lA, lZ, lS, i64_w, i32_w]; rfl
             refine pure_ (i := 30) (N := some 133) (v := undef) (a' := ?_) #[T,T,T,T,T,T,T,T,T,T,T,T,T,T,T,T,T,T,T,T,T,T,T,T,T,T,T,T,T,T,T,F,F,F,F,F,F,F] rfl rfl (any_of HT_.out (by kernel_rfl)) (fun _ _ _ h => h) (Or.inr ⟨by rfl, rfl⟩) ?_ ?_
             rotate_left
             ·
              simp only [Act.put, lA, lZ, lS, i64_w, i32_w]; rfl
             refine pure_ (i := 31) (N := some 134) (v := undef) (a' := ?_) #[T,T,T,T,T,T,T,T,T,T,T,T,T,T,T,T,T,T,T,T,T,T,T,T,T,T,T,T,T,T,T,T,F,F,F,F,F,F] rfl rfl (any_of HT_.out (by kernel_rfl)) (fun _ _ _ h => h) (Or.inr ⟨by rfl, rfl⟩) ?_ ?_
             rotate_left
             ·
              simp only [Act.put, lA, lZ, lS, i64_w, i32_w]; rfl
             refine pure_ (i := 32) (N := some 135) (v := undef) (a' := ?_) #[T,T,T,T,T,T,T,T,T,T,T,T,T,T,T,T,T,T,T,T,T,T,T,T,T,T,T,T,T,T,T,T,T,F,F,F,F,F] rfl rfl (any_of HT_.out (by kernel_rfl)) (fun _ _ _ h => h) (Or.inr ⟨by rfl, rfl⟩) ?_ ?_
             rotate_left
             ·
              simp only [Act.put, lA, lZ, lS, i64_w, i32_w]; rfl
             refine pure_ (i := 33) (N := some 136) (v := undef) (a' := ?_) #[T,T,T,T,T,T,T,T,T,T,T,T,T,T,T,T,T,T,T,T,T,T,T,T,T,T,T,T,T,T,T,T,T,T,F,F,F,F] rfl rfl (any_of HT_.out (by kernel_rfl)) (fun _ _ _ h => h) (Or.inr ⟨by rfl, rfl⟩) ?_ ?_
             rotate_left
             ·
              simp only [Act.put, lA, lZ, lS, i64_w, i32_w]; rfl
             refine pure_ (i := 34) (N := some 137) (v := undef) (a' := ?_) #[T,T,T,T,T,T,T,T,T,T,T,T,T,T,T,T,T,T,T,T,T,T,T,T,T,T,T,T,T,T,T,T,T,T,T,F,F,F] rfl rfl (any_of HT_.out (by kernel_rfl)) (fun _ _ _ h => h) (Or.inr ⟨by rfl, rfl⟩) ?_ ?_
             rotate_left
             ·
              simp only [Act.put, lA, lZ, lS, i64_w, i32_w]; rfl
             refine pure_ (i := 35) (N := some 138) (v := undef) (a' := ?_) #[T,T,T,T,T,T,T,T,T,T,T,T,T,T,T,T,T,T,T,T,T,T,T,T,T,T,T,T,T,T,T,T,T,T,T,T,F,F] rfl rfl (any_of HT_.out (by kernel_rfl)) (fun _ _ _ h => h) (Or.inr ⟨by rfl, rfl⟩) ?_ ?_
             rotate_left
             ·
              simp only [Act.put, lA, lZ, lS, i64_w, i32_w]; rfl
             refine pure_ (i := 36) (N := some 139) (v := undef) (a' := ?_) #[T,T,T,T,T,T,T,T,T,T,T,T,T,T,T,T,T,T,T,T,T,T,T,T,T,T,T,T,T,T,T,T,T,T,T,T,T,F] rfl rfl (any_of HT_.out (by kernel_rfl)) (fun _ _ _ h => h) (Or.inr ⟨by rfl, rfl⟩) ?_ ?_
             rotate_left
             ·
              simp only [Act.put, lA, lZ, lS, i64_w, i32_w]; rfl
             refine pure_ (i := 37) (N := some 140) (v := ?_) (a' := ?_) #[T,T,T,T,T,T,T,T,T,T,T,T,T,T,T,T,T,T,T,T,T,T,T,T,T,T,T,T,T,T,T,T,T,T,T,T,T,T] rfl rfl (any_of HT_.out (by kernel_rfl)) (fun _ _ _ h => h) (Or.inl ⟨by rfl, ?_⟩) ?_ ?_
             rotate_left
             ·
              intro w'; go_simp; with_reducible rfl
             rotate_left
             ·
              simp only [Act.put, lA, lZ, lS, i64_w, i32_w]; rfl
             refine done_ (done_of HT_.out (by kernel_rfl)) ?_
             try go_wp2
             go_meet
             case rel => exact ⟨_, (true), (by first | rfl | (simp; done) | (simp [*]; done)), H', ⟨by have := HJ6.out; have := HK2.out; have := HJ35.out; first | omega | exact Nat.le_refl _⟩, ⟨by repeat (first | (with_reducible first | exact HB.out | apply bL | apply bW | apply b1) | exact HB.out)⟩⟩
            ·
             rw [if_neg c64] at H; have c64b0 : decide ((wrap64 ((l0.length : Int) - 1)) ≤ a3) = false := decide_eq_false c64
             clear c64; obtain ⟨ji66, hji66⟩ : ∃ j_ : Int, (wrap64 (a3 + 1)) = j_ := ⟨_, rfl⟩
             replace H : (if 0 ≤ (ji66) then (if (ji66) < (l0.length : Int) then (if 0 ≤ a3 then (if a3 < (l0.length : Int) then (if ((rd_T37 l0 (ji66)).f1) = ((rd_T37 l0 a3).f1) then (bournelaw10_CurvePoints.j3 kj35 l0 l1 a2 a3 t317 (decide ((wrap64 (((rd_T37 l0 (ji66)).f0) - ((rd_T37 l0 a3).f0))) < 2))) else (bournelaw10_CurvePoints.j3 kj35 l0 l1 a2 a3 t317 true)) else (none)) else (none)) else (none)) else (none)) = some r := by first | (rw [hji66] at H; exact H) | (simp only [hji66] at H ⊢; exact H)
             have hji66w : (IntKind.i64.wrap (a3 + 1)) = ji66 := (i64_w _).trans hji66
             by_cases c67 : 0 ≤ (ji66)
             ·
              rw [if_pos c67] at H; have c67b0 : decide (0 ≤ (ji66)) = true := decide_eq_true c67
              clear c67; by_cases c68 : (ji66) < (l0.length : Int)
              ·
               rw [if_pos c68] at H; have c68b0 : decide ((ji66) < (l0.length : Int)) = true := decide_eq_true c68
               clear c68; by_cases c69 : 0 ≤ a3
               ·
                rw [if_pos c69] at H; have c69b0 : decide (0 ≤ a3) = true := decide_eq_true c69
                clear c69; by_cases c70 : a3 < (l0.length : Int)
                ·
                 rw [if_pos c70] at H; have c70b0 : decide (a3 < (l0.length : Int)) = true := decide_eq_true c70
                 clear c70; by_cases c71 : ((rd_T37 l0 (ji66)).f1) = ((rd_T37 l0 a3).f1)
                 ·
                  rw [if_pos c71] at H; have c71b0 : (((rd_T37 l0 (ji66)).f1) == ((rd_T37 l0 a3).f1)) = true := beq_iff_eq.mpr c71
                  have c71b1 : (((rd_T37 l0 (ji66)).f1) != ((rd_T37 l0 a3).f1)) = false := bne_eq_false_iff_eq.mpr c71
                  clear c71; have H' := Aside0.mk H
                  clear H; try go_wp2
                  have n0_ := Aside0.mk (b1 HB.out)
                  clear HB; have HB := n0_
                  clear n0_; have p330 : 0 ≤ ((ji66) : Int) := of_decide_eq_true (by first | (with_reducible assumption) | assumption)
                  have q330 : (ji66) < (l0.length : Int) := of_decide_eq_true (by first | (with_reducible assumption) | assumption)
                  obtain ⟨ad330, e330, hx330_0, hx330_1⟩ := at_T37 HR0.out (ji66) p330 q330
                  have hw330_1 := hx330_1
                  have hw330_0 := hx330_0
                  cases e330
                  replace hx330_0 := (HB.out.cell (wL w _ hx330_0)).trans hx330_0
                  replace hx330_1 := (HB.out.cell (wL w _ hx330_1)).trans hx330_1
                  replace p330 := eq_true p330
                  replace q330 := eq_true q330
                  have p331 : 0 ≤ (a3 : Int) := of_decide_eq_true (by first | (with_reducible assumption) | assumption)
                  have q331 : a3 < (l0.length : Int) := of_decide_eq_true (by first | (with_reducible assumption) | assumption)
                  obtain ⟨ad331, e331, hx331_0, hx331_1⟩ := at_T37 HR0.out a3 p331 q331
                  have hw331_1 := hx331_1
                  have hw331_0 := hx331_0
                  obtain rfl : ad330 = ad331 := (by injection e331)
                  replace hx331_0 := (HB.out.cell (wL w _ hx331_0)).trans hx331_0
                  replace hx331_1 := (HB.out.cell (wL w _ hx331_1)).trans hx331_1
                  replace p331 := eq_true p331
                  replace q331 := eq_true q331
                  have p332 : 0 ≤ ((ji66) : Int) := of_decide_eq_true (by first | (with_reducible assumption) | assumption)
                  have q332 : (ji66) < (l0.length : Int) := of_decide_eq_true (by first | (with_reducible assumption) | assumption)
                  obtain ⟨ad332, e332, hx332_0, hx332_1⟩ := at_T37 HR0.out (ji66) p332 q332
                  have hw332_1 := hx332_1
                  have hw332_0 := hx332_0
                  obtain rfl : ad330 = ad332 := (by injection e332)
                  replace hx332_0 := (HB.out.cell (wL w _ hx332_0)).trans hx332_0
                  replace hx332_1 := (HB.out.cell (wL w _ hx332_1)).trans hx332_1
                  replace p332 := eq_true p332
                  replace q332 := eq_true q332
                  have p333 : 0 ≤ (a3 : Int) := of_decide_eq_true (by first | (with_reducible assumption) | assumption)
                  have q333 : a3 < (l0.length : Int) := of_decide_eq_true (by first | (with_reducible assumption) | assumption)
                  obtain ⟨ad333, e333, hx333_0, hx333_1⟩ := at_T37 HR0.out a3 p333 q333
                  have hw333_1 := hx333_1
                  have hw333_0 := hx333_0
                  obtain rfl : ad330 = ad333 := (by injection e333)
                  replace hx333_0 := (HB.out.cell (wL w _ hx333_0)).trans hx333_0
                  replace hx333_1 := (HB.out.cell (wL w _ hx333_1)).trans hx333_1
                  replace p333 := eq_true p333
                  replace q333 := eq_true q333
                  refine start_ (n := 38) (S := fun w' => w'.cell? (ad330.add (((ji66)).toNat * 2)) = some (.int .i64 ((rd_T37 l0 (ji66)).f0)) ∧ w'.cell? ⟨(ad330.add (((ji66)).toNat * 2)).block, (ad330.add (((ji66)).toNat * 2)).off + 1, none⟩ = some (.int .i64 ((rd_T37 l0 (ji66)).f1)) ∧ w'.cell? (ad330.add ((a3).toNat * 2)) = some (.int .i64 ((rd_T37 l0 a3).f0)) ∧ w'.cell? ⟨(ad330.add ((a3).toNat * 2)).block, (ad330.add ((a3).toNat * 2)).off + 1, none⟩ = some (.int .i64 ((rd_T37 l0 a3).f1)) ∧ w'.cell? (ad330.add (((ji66)).toNat * 2)) = some (.int .i64 ((rd_T37 l0 (ji66)).f0)) ∧ w'.cell? ⟨(ad330.add (((ji66)).toNat * 2)).block, (ad330.add (((ji66)).toNat * 2)).off + 1, none⟩ = some (.int .i64 ((rd_T37 l0 (ji66)).f1)) ∧ w'.cell? (ad330.add ((a3).toNat * 2)) = some (.int .i64 ((rd_T37 l0 a3).f0)) ∧ w'.cell? ⟨(ad330.add ((a3).toNat * 2)).block, (ad330.add ((a3).toNat * 2)).off + 1, none⟩ = some (.int .i64 ((rd_T37 l0 a3).f1))) (ds := []) #[F,F,F,F,F,F,F,F,F,F,F,F,F,F,F,F,F,F,F,F,F,F,F,F,F,F,F,F,F,F,F,F,F,F,F,F,F,F] (by kernel_rfl) rfl rfl ⟨((HB.out.cell (wL w _ hw330_0)).trans hw330_0), ((HB.out.cell (wL w _ hw330_1)).trans hw330_1), ((HB.out.cell (wL w _ hw331_0)).trans hw331_0), ((HB.out.cell (wL w _ hw331_1)).trans hw331_1), ((HB.out.cell (wL w _ hw332_0)).trans hw332_0), ((HB.out.cell (wL w _ hw332_1)).trans hw332_1), ((HB.out.cell (wL w _ hw333_0)).trans hw333_0), ((HB.out.cell (wL w _ hw333_1)).trans hw333_1)⟩ (fun hHeld => ?_); refine with_tabW bournelaw10_CurvePoints.tab11 bournelaw10_CurvePoints.bits11 (fun HT_ HW_ => ?_)
                  generalize wc.drew = w72 at HB hx330_0 hx330_1 hx331_0 hx331_1 hx332_0 hx332_1 hx333_0 hx333_1 hHeld ⊢
                  refine pure_ (i := 0) (N := some 103) (v := ?_) (a' := ?_) #[T,F,F,F,F,F,F,F,F,F,F,F,F,F,F,F,F,F,F,F,F,F,F,F,F,F,F,F,F,F,F,F,F,F,F,F,F,F] rfl rfl (any_of HT_.out (by kernel_rfl)) (fun _ _ _ h => h) (Or.inl ⟨by rfl, ?_⟩) ?_ ?_
                  rotate_left
                  ·
                   intro w'; go_simp; with_reducible rfl
                  rotate_left
                  ·
                   simp only [Act.put, lA, lZ, lS, i64_w, i32_w]; rfl
                  refine pure_ (i := 1) (N := some 104) (v := ?_) (a' := ?_) #[T,T,F,F,F,F,F,F,F,F,F,F,F,F,F,F,F,F,F,F,F,F,F,F,F,F,F,F,F,F,F,F,F,F,F,F,F,F] rfl rfl (any_of HT_.out (by kernel_rfl)) (fun _ _ _ h => h) (Or.inl ⟨by rfl, ?_⟩) ?_ ?_
                  rotate_left
                  ·
                   intro w'; go_simp; with_reducible rfl
                  rotate_left
                  ·
                   simp only [Act.put, lA, lZ, lS, i64_w, i32_w]; rfl
                  refine pure_ (i := 2) (N := some 105) (v := ?_) (a' := ?_) #[T,T,T,F,F,F,F,F,F,F,F,F,F,F,F,F,F,F,F,F,F,F,F,F,F,F,F,F,F,F,F,F,F,F,F,F,F,F] rfl rfl (any_of HT_.out (by kernel_rfl)) (fun _ _ _ h => h) (Or.inl ⟨by rfl, ?_⟩) ?_ ?_
                  rotate_left
                  ·
                   intro w'; go_simp; with_reducible rfl
                  rotate_left
                  ·
                   simp only [Act.put, lA, lZ, lS, i64_w, i32_w]; rfl
                  refine pure_ (i := 3) (N := some 106) (v := ?_) (a' := ?_) #[T,T,T,T,F,F,F,F,F,F,F,F,F,F,F,F,F,F,F,F,F,F,F,F,F,F,F,F,F,F,F,F,F,F,F,F,F,F] rfl rfl (any_of HT_.out (by kernel_rfl)) (fun _ _ _ h => h) (Or.inl ⟨by rfl, ?_⟩) ?_ ?_
                  rotate_left
                  ·
                   intro w'; go_simp; with_reducible rfl
                  rotate_left
                  ·
                   simp only [Act.put, lA, lZ, lS, i64_w, i32_w]; rfl
                  refine pure_ (i := 4) (N := some 107) (v := ?_) (a' := ?_) #[T,T,T,T,T,F,F,F,F,F,F,F,F,F,F,F,F,F,F,F,F,F,F,F,F,F,F,F,F,F,F,F,F,F,F,F,F,F] rfl rfl (any_of HT_.out (by kernel_rfl)) (fun _ _ _ h => h) (Or.inl ⟨by rfl, ?_⟩) ?_ ?_
                  rotate_left
                  ·
                   intro w'; go_simp; with_reducible rfl
                  rotate_left
                  ·
                   simp only [Act.put, lA, lZ, lS, i64_w, i32_w]; rfl
                  refine pure_ (i := 5) (N := some 108) (v := ?_) (a' := ?_) #[T,T,T,T,T,T,F,F,F,F,F,F,F,F,F,F,F,F,F,F,F,F,F,F,F,F,F,F,F,F,F,F,F,F,F,F,F,F] rfl rfl (any_of HT_.out (by kernel_rfl)) (fun _ _ _ h => h) (Or.inl ⟨by rfl, ?_⟩) ?_ ?_
                  rotate_left
                  ·
                   intro w'; go_simp; with_reducible rfl
                  rotate_left
                  ·
                   simp only [Act.put, lA, lZ, lS, i64_w, i32_w]; rfl
                  refine pure_ (i := 6) (N := some 109) (v := ?_) (a' := ?_) #[T,T,T,T,T,T,T,F,F,F,F,F,F,F,F,F,F,F,F,F,F,F,F,F,F,F,F,F,F,F,F,F,F,F,F,F,F,F] rfl rfl (any_of HT_.out (by kernel_rfl)) (fun _ _ _ h => h) (Or.inl ⟨by rfl, ?_⟩) ?_ ?_
                  rotate_left
                  ·
                   intro w'; go_simp; with_reducible rfl
                  rotate_left
                  ·
                   simp only [Act.put, lA, lZ, lS, i64_w, i32_w]; rfl
                  refine pure_ (i := 7) (N := some 110) (v := ?_) (a' := ?_) #[T,T,T,T,T,T,T,T,F,F,F,F,F,F,F,F,F,F,F,F,F,F,F,F,F,F,F,F,F,F,F,F,F,F,F,F,F,F] rfl rfl (any_of HT_.out (by kernel_rfl)) (fun _ _ _ h => h) (Or.inl ⟨by rfl, ?_⟩) ?_ ?_
                  rotate_left
                  ·
                   intro w'; go_simp; with_reducible rfl
                  rotate_left
                  ·
                   simp only [Act.put, lA, lZ, lS, i64_w, i32_w]; rfl
                  refine pure_ (i := 8) (N := some 111) (v := ?_) (a' := ?_) #[T,T,T,T,T,T,T,T,T,F,F,F,F,F,F,F,F,F,F,F,F,F,F,F,F,F,F,F,F,F,F,F,F,F,F,F,F,F] rfl rfl (any_of HT_.out (by kernel_rfl)) (fun _ _ _ h => h) (Or.inl ⟨by rfl, ?_⟩) ?_ ?_
                  rotate_left
                  ·
                   intro w'; go_simp; with_reducible rfl
                  rotate_left
                  ·
                   simp only [Act.put, lA, lZ, lS, i64_w, i32_w]; rfl
                  refine pure_ (i := 9) (N := some 112) (v := ?_) (a' := ?_) #[T,T,T,T,T,T,T,T,T,T,F,F,F,F,F,F,F,F,F,F,F,F,F,F,F,F,F,F,F,F,F,F,F,F,F,F,F,F] rfl rfl (any_of HT_.out (by kernel_rfl)) (fun _ _ _ h => h) (Or.inl ⟨by rfl, ?_⟩) ?_ ?_
                  rotate_left
                  ·
                   intro w'; go_simp; with_reducible rfl
                  rotate_left
                  ·
                   simp only [Act.put, lA, lZ, lS, i64_w, i32_w]; rfl
                  refine pure_ (i := 10) (N := some 113) (v := ?_) (a' := ?_) #[T,T,T,T,T,T,T,T,T,T,T,F,F,F,F,F,F,F,F,F,F,F,F,F,F,F,F,F,F,F,F,F,F,F,F,F,F,F] rfl rfl (any_of HT_.out (by kernel_rfl)) (fun _ _ _ h => h) (Or.inl ⟨by rfl, ?_⟩) ?_ ?_
                  rotate_left
                  ·
                   intro w'; go_simp; with_reducible rfl
                  rotate_left
                  ·
                   simp only [Act.put, lA, lZ, lS, i64_w, i32_w]; rfl
                  refine pure_ (i := 11) (N := some 114) (v := ?_) (a' := ?_) #[T,T,T,T,T,T,T,T,T,T,T,T,F,F,F,F,F,F,F,F,F,F,F,F,F,F,F,F,F,F,F,F,F,F,F,F,F,F] rfl rfl (any_of HT_.out (by kernel_rfl)) (fun _ _ _ h => h) (Or.inl ⟨by rfl, ?_⟩) ?_ ?_
                  rotate_left
                  ·
                   intro w'; go_simp; with_reducible rfl
                  rotate_left
                  ·
                   simp only [Act.put, lA, lZ, lS, i64_w, i32_w]; rfl
                  refine pure_ (i := 12) (N := some 115) (v := ?_) (a' := ?_) #[T,T,T,T,T,T,T,T,T,T,T,T,T,F,F,F,F,F,F,F,F,F,F,F,F,F,F,F,F,F,F,F,F,F,F,F,F,F] rfl rfl (any_of HT_.out (by kernel_rfl)) (fun _ _ _ h => h) (Or.inl ⟨by rfl, ?_⟩) ?_ ?_
                  rotate_left
                  ·
                   intro w'; go_simp; with_reducible rfl
                  rotate_left
                  ·
                   simp only [Act.put, lA, lZ, lS, i64_w, i32_w]; rfl
                  refine pure_ (i := 13) (N := some 116) (v := ?_) (a' := ?_) #[T,T,T,T,T,T,T,T,T,T,T,T,T,T,F,F,F,F,F,F,F,F,F,F,F,F,F,F,F,F,F,F,F,F,F,F,F,F] rfl rfl (any_of HT_.out (by kernel_rfl)) (fun _ _ _ h => h) (Or.inl ⟨by rfl, ?_⟩) ?_ ?_
                  rotate_left
                  ·
                   intro w'; go_simp; with_reducible rfl
                  rotate_left
                  ·
                   simp only [Act.put, lA, lZ, lS, i64_w, i32_w]; rfl
                  refine pure_ (i := 14) (N := some 117) (v := ?_) (a' := ?_) #[T,T,T,T,T,T,T,T,T,T,T,T,T,T,T,F,F,F,F,F,F,F,F,F,F,F,F,F,F,F,F,F,F,F,F,F,F,F] rfl rfl (any_of HT_.out (by kernel_rfl)) (fun _ _ _ h => h) (Or.inl ⟨by rfl, ?_⟩) ?_ ?_
                  rotate_left
                  ·
                   intro w'; go_simp; with_reducible rfl
                  rotate_left
                  ·
                   simp only [Act.put, lA, lZ, lS, i64_w, i32_w]; rfl
                  refine pure_ (i := 16) (N := some 119) (v := ?_) (a' := ?_) #[T,T,T,T,T,T,T,T,T,T,T,T,T,T,T,F,T,F,F,F,F,F,F,F,F,F,F,F,F,F,F,F,F,F,F,F,F,F] rfl rfl (any_of HT_.out (by kernel_rfl)) (fun _ _ _ h => h) (Or.inl ⟨by rfl, ?_⟩) ?_ ?_
                  rotate_left
                  ·
                   intro w'; go_simp; with_reducible rfl
                  rotate_left
                  ·
                   simp only [Act.put, lA, lZ, lS, i64_w, i32_w]; rfl
                  refine pure_ (i := 17) (N := some 120) (v := ?_) (a' := ?_) #[T,T,T,T,T,T,T,T,T,T,T,T,T,T,T,F,T,T,F,F,F,F,F,F,F,F,F,F,F,F,F,F,F,F,F,F,F,F] rfl rfl (any_of HT_.out (by kernel_rfl)) (fun _ _ _ h => h) (Or.inl ⟨by rfl, ?_⟩) ?_ ?_
                  rotate_left
                  ·
                   intro w'; go_simp; with_reducible rfl
                  rotate_left
                  ·
                   simp only [Act.put, lA, lZ, lS, i64_w, i32_w]; rfl
                  refine pure_ (i := 18) (N := some 121) (v := ?_) (a' := ?_) #[T,T,T,T,T,T,T,T,T,T,T,T,T,T,T,F,T,T,T,F,F,F,F,F,F,F,F,F,F,F,F,F,F,F,F,F,F,F] rfl rfl (any_of HT_.out (by kernel_rfl)) (fun _ _ _ h => h) (Or.inl ⟨by rfl, ?_⟩) ?_ ?_
                  rotate_left
                  ·
                   intro w'; go_simp; with_reducible rfl
                  rotate_left
                  ·
                   simp only [Act.put, lA, lZ, lS, i64_w, i32_w]; rfl
                  refine pure_ (i := 19) (N := some 122) (v := ?_) (a' := ?_) #[T,T,T,T,T,T,T,T,T,T,T,T,T,T,T,F,T,T,T,T,F,F,F,F,F,F,F,F,F,F,F,F,F,F,F,F,F,F] rfl rfl (any_of HT_.out (by kernel_rfl)) (fun _ _ _ h => h) (Or.inl ⟨by rfl, ?_⟩) ?_ ?_
                  rotate_left
                  ·
                   intro w'; go_simp; with_reducible rfl
                  rotate_left
                  ·
                   simp only [Act.put, lA, lZ, lS, i64_w, i32_w]; rfl
                  refine take_ (i := 15) (N := some 118) (v := ?_) (a' := ?_) #[T,T,T,T,T,T,T,T,T,T,T,T,T,T,T,T,T,T,T,T,F,F,F,F,F,F,F,F,F,F,F,F,F,F,F,F,F,F] rfl rfl (take_ofW HT_.out HW_.out (by kernel_rfl)) (fun _ _ _ h => h) (Or.inl ⟨by rfl, ?_⟩) hHeld ?_ ?_
                  rotate_left
                  ·
                   rintro w' ⟨s0, s1, s2, s3, s4, s5, s6, s7⟩
                   go_simp; with_reducible rfl
                  rotate_left
                  ·
                   simp only [Act.put, lA, lZ, lS, i64_w, i32_w]; rfl
                  refine take_ (i := 20) (N := some 123) (v := ?_) (a' := ?_) #[T,T,T,T,T,T,T,T,T,T,T,T,T,T,T,T,T,T,T,T,T,F,F,F,F,F,F,F,F,F,F,F,F,F,F,F,F,F] rfl rfl (take_ofW HT_.out HW_.out (by kernel_rfl)) (fun _ _ _ h => h) (Or.inl ⟨by rfl, ?_⟩) hHeld ?_ ?_
                  rotate_left
                  ·
                   rintro w' ⟨s0, s1, s2, s3, s4, s5, s6, s7⟩
                   go_simp; with_reducible rfl
                  rotate_left
                  ·
                   simp only [Act.put, lA, lZ, lS, i64_w, i32_w]; rfl
                  refine pure_ (i := 21) (N := some 124) (v := ?_) (a' := ?_) #[T,T,T,T,T,T,T,T,T,T,T,T,T,T,T,T,T,T,T,T,T,T,F,F,F,F,F,F,F,F,F,F,F,F,F,F,F,F] rfl rfl (any_of HT_.out (by kernel_rfl)) (fun _ _ _ h => h) (Or.inl ⟨by rfl, ?_⟩) ?_ ?_
                  rotate_left
                  ·
                   intro w'; go_simp; with_reducible rfl
                  rotate_left
                  ·
                   simp only [Act.put, lA, lZ, lS, i64_w, i32_w]; rfl
                  refine pure_ (i := 22) (N := some 125) (v := ?_) (a' := ?_) #[T,T,T,T,T,T,T,T,T,T,T,T,T,T,T,T,T,T,T,T,T,T,T,F,F,F,F,F,F,F,F,F,F,F,F,F,F,F] rfl rfl (any_of HT_.out (by kernel_rfl)) (fun _ _ _ h => h) (Or.inl ⟨by rfl, ?_⟩) ?_ ?_
                  rotate_left
                  ·
                   intro w'; go_simp; with_reducible rfl
                  rotate_left
                  ·
                   simp only [Act.put, lA, lZ, lS, i64_w, i32_w]; rfl
                  refine pure_ (i := 23) (N := some 126) (v := ?_) (a' := ?_) #[T,T,T,T,T,T,T,T,T,T,T,T,T,T,T,T,T,T,T,T,T,T,T,T,F,F,F,F,F,F,F,F,F,F,F,F,F,F] rfl rfl (any_of HT_.out (by kernel_rfl)) (fun _ _ _ h => h) (Or.inl ⟨by rfl, ?_⟩) ?_ ?_
                  rotate_left
                  ·
                   intro w'; go_simp; with_reducible rfl
                  rotate_left
                  ·
                   simp only [Act.put, lA, lZ, lS, i64_w, i32_w]; rfl
                  refine pure_ (i := 24) (N := some 127) (v := ?_) (a' := ?_) #[T,T,T,T,T,T,T,T,T,T,T,T,T,T,T,T,T,T,T,T,T,T,T,T,T,F,F,F,F,F,F,F,F,F,F,F,F,F] rfl rfl (any_of HT_.out (by kernel_rfl)) (fun _ _ _ h => h) (Or.inl ⟨by rfl, ?_⟩) ?_ ?_
                  rotate_left
                  ·
                   intro w'; go_simp; with_reducible rfl
                  rotate_left
                  ·
                   simp only [Act.put, lA, lZ, lS, i64_w, i32_w]; rfl
                  refine pure_ (i := 25) (N := some 128) (v := ?_) (a' := ?_) #[T,T,T,T,T,T,T,T,T,T,T,T,T,T,T,T,T,T,T,T,T,T,T,T,T,T,F,F,F,F,F,F,F,F,F,F,F,F] rfl rfl (any_of HT_.out (by kernel_rfl)) (fun _ _ _ h => h) (Or.inl ⟨by rfl, ?_⟩) ?_ ?_
                  rotate_left
                  ·
                   intro w'; go_simp; with_reducible rfl
                  rotate_left
                  ·
                   simp only [Act.put, lA, lZ, lS, i64_w, i32_w]; rfl
                  refine pure_ (i := 26) (N := some 129) (v := ?_) (a' := ?_) #[T,T,T,T,T,T,T,T,T,T,T,T,T,T,T,T,T,T,T,T,T,T,T,T,T,T,T,F,F,F,F,F,F,F,F,F,F,F] rfl rfl (any_of HT_.out (by kernel_rfl)) (fun _ _ _ h => h) (Or.inl ⟨by rfl, ?_⟩) ?_ ?_
                  rotate_left
                  ·
                   intro w'; go_simp; with_reducible rfl
                  rotate_left
                  ·
                   simp only [Act.put, lA, lZ, lS, i64_w, i32_w]; rfl
                  refine pure_ (i := 27) (N := some 130) (v := ?_) (a' := ?_) #[T,T,T,T,T,T,T,T,T,T,T,T,T,T,T,T,T,T,T,T,T,T,T,T,T,T,T,T,F,F,F,F,F,F,F,F,F,F] rfl rfl (any_of HT_.out (by kernel_rfl)) (fun _ _ _ h => h) (Or.inl ⟨by rfl, ?_⟩) ?_ ?_
                  rotate_left
                  ·
                   intro w'; go_simp; with_reducible rfl
                  rotate_left
                  ·
                   simp only [Act.put, lA, lZ, lS, i64_w, i32_w]; rfl
                  refine pure_ (i := 28) (N := some 131) (v := ?_) (a' := ?_) #[T,T,T,T,T,T,T,T,T,T,T,T,T,T,T,T,T,T,T,T,T,T,T,T,T,T,T,T,T,F,F,F,F,F,F,F,F,F] rfl rfl (any_of HT_.out (by kernel_rfl)) (fun _ _ _ h => h) (Or.inl ⟨by rfl, ?_⟩) ?_ ?_
                  rotate_left
                  ·
                   intro w'; go_simp; with_reducible rfl
                  rotate_left
                  ·
                   simp only [Act.put, lA, lZ, lS, i64_w, i32_w]; rfl
                  refine pure_ (i := 30) (N := some 133) (v := ?_) (a' := ?_) #[T,T,T,T,T,T,T,T,T,T,T,T,T,T,T,T,T,T,T,T,T,T,T,T,T,T,T,T,T,F,T,F,F,F,F,F,F,F] rfl rfl (any_of HT_.out (by kernel_rfl)) (fun _ _ _ h => h) (Or.inl ⟨by rfl, ?_⟩) ?_ ?_
                  rotate_left
                  ·
                   intro w'; go_simp; with_reducible rfl
                  rotate_left
                  ·
                   simp only [Act.put, lA, lZ, lS, i64_w, i32_w]; rfl
                  refine pure_ (i := 31) (N := some 134) (v := ?_) (a' := ?_) #[T,T,T,T,T,T,T,T,T,T,T,T,T,T,T,T,T,T,T,T,T,T,T,T,T,T,T,T,T,F,T,T,F,F,F,F,F,F] rfl rfl (any_of HT_.out (by kernel_rfl)) (fun _ _ _ h => h) (Or.inl ⟨by rfl, ?_⟩) ?_ ?_
                  rotate_left
                  ·
                   intro w'; go_simp; with_reducible rfl
                  rotate_left
                  ·
                   simp only [Act.put, lA, lZ, lS, i64_w, i32_w]; rfl
                  refine pure_ (i := 32) (N := some 135) (v := ?_) (a' := ?_) #[T,T,T,T,T,T,T,T,T,T,T,T,T,T,T,T,T,T,T,T,T,T,T,T,T,T,T,T,T,F,T,T,T,F,F,F,F,F] rfl rfl (any_of HT_.out (by kernel_rfl)) (fun _ _ _ h => h) (Or.inl ⟨by rfl, ?_⟩) ?_ ?_
                  rotate_left
                  ·
                   intro w'; go_simp; with_reducible rfl
                  rotate_left
                  ·
                   simp only [Act.put, lA, lZ, lS, i64_w, i32_w]; rfl
                  refine pure_ (i := 33) (N := some 136) (v := ?_) (a' := ?_) #[T,T,T,T,T,T,T,T,T,T,T,T,T,T,T,T,T,T,T,T,T,T,T,T,T,T,T,T,T,F,T,T,T,T,F,F,F,F] rfl rfl (any_of HT_.out (by kernel_rfl)) (fun _ _ _ h => h) (Or.inl ⟨by rfl, ?_⟩) ?_ ?_
                  rotate_left
                  ·
                   intro w'; go_simp; with_reducible rfl
                  rotate_left
                  ·
                   simp only [Act.put, lA, lZ, lS, i64_w, i32_w]; rfl
                  refine take_ (i := 29) (N := some 132) (v := ?_) (a' := ?_) #[T,T,T,T,T,T,T,T,T,T,T,T,T,T,T,T,T,T,T,T,T,T,T,T,T,T,T,T,T,T,T,T,T,T,F,F,F,F] rfl rfl (take_ofW HT_.out HW_.out (by kernel_rfl)) (fun _ _ _ h => h) (Or.inl ⟨by rfl, ?_⟩) hHeld ?_ ?_
                  rotate_left
                  ·
                   rintro w' ⟨s0, s1, s2, s3, s4, s5, s6, s7⟩
                   go_simp; with_reducible rfl
                  rotate_left
                  ·
                   simp only [Act.put, lA, lZ, lS, i64_w, i32_w]; rfl
                  refine take_ (i := 34) (N := some 137) (v := ?_) (a' := ?_) #[T,T,T,T,T,T,T,T,T,T,T,T,T,T,T,T,T,T,T,T,T,T,T,T,T,T,T,T,T,T,T,T,T,T,T,F,F,F] rfl rfl (take_ofW HT_.out HW_.out (by kernel_rfl)) (fun _ _ _ h => h) (Or.inl ⟨by rfl, ?_⟩) hHeld ?_ ?_
                  rotate_left
                  ·
                   rintro w' ⟨s0, s1, s2, s3, s4, s5, s6, s7⟩
                   go_simp; with_reducible rfl
                  rotate_left
                  ·
                   simp only [Act.put, lA, lZ, lS, i64_w, i32_w]; rfl
                  refine pure_ (i := 35) (N := some 138) (v := ?_) (a' := ?_) #[T,T,T,T,T,T,T,T,T,T,T,T,T,T,T,T,T,T,T,T,T,T,T,T,T,T,T,T,T,T,T,T,T,T,T,T,F,F] rfl rfl (any_of HT_.out (by kernel_rfl)) (fun _ _ _ h => h) (Or.inl ⟨by rfl, ?_⟩) ?_ ?_
                  rotate_left
                  ·
                   intro w'; go_simp; with_reducible rfl
                  rotate_left
                  ·
                   simp only [Act.put, lA, lZ, lS, i64_w, i32_w]; rfl
                  refine pure_ (i := 36) (N := some 139) (v := ?_) (a' := ?_) #[T,T,T,T,T,T,T,T,T,T,T,T,T,T,T,T,T,T,T,T,T,T,T,T,T,T,T,T,T,T,T,T,T,T,T,T,T,F] rfl rfl (any_of HT_.out (by kernel_rfl)) (fun _ _ _ h => h) (Or.inl ⟨by rfl, ?_⟩) ?_ ?_
                  rotate_left
                  ·
                   intro w'; go_simp; with_reducible rfl
                  rotate_left
                  ·
                   simp only [Act.put, lA, lZ, lS, i64_w, i32_w]; rfl
                  refine pure_ (i := 37) (N := some 140) (v := ?_) (a' := ?_) #[T,T,T,T,T,T,T,T,T,T,T,T,T,T,T,T,T,T,T,T,T,T,T,T,T,T,T,T,T,T,T,T,T,T,T,T,T,T] rfl rfl (any_of HT_.out (by kernel_rfl)) (fun _ _ _ h => h) (Or.inl ⟨by rfl, ?_⟩) ?_ ?_
                  rotate_left
                  ·
                   intro w'; go_simp; with_reducible rfl
                  rotate_left
                  ·
                   simp only [Act.put, lA, lZ, lS, i64_w, i32_w]; rfl
                  refine done_ (done_of HT_.out (by kernel_rfl)) ?_
                  try go_wp2
                  go_meet
                  case rel => exact ⟨_, (decide ((wrap64 (((rd_T37 l0 (ji66)).f0) - ((rd_T37 l0 a3).f0))) < 2)), (by first | rfl | (simp; done) | (simp only [← hji66] <;> (first | rfl | simp)) | (simp [*]; done)), H', ⟨by have := HJ6.out; have := HK2.out; have := HJ35.out; first | omega | exact Nat.le_refl _⟩, ⟨by repeat (first | (with_reducible first | exact HB.out | apply bL | apply bW | apply b1) | exact HB.out)⟩⟩
                 ·
                  rw [if_neg c71] at H; have c71b0 : (((rd_T37 l0 (ji66)).f1) == ((rd_T37 l0 a3).f1)) = false := beq_eq_false_iff_ne.mpr c71
                  have c71b1 : (((rd_T37 l0 (ji66)).f1) != ((rd_T37 l0 a3).f1)) = true := bne_iff_ne.mpr c71
                  have H' := Aside0.mk H
                  clear H; try go_wp2
                  have n0_ := Aside0.mk (b1 HB.out)
                  clear HB; have HB := n0_
                  clear n0_; have p330 : 0 ≤ ((ji66) : Int) := of_decide_eq_true (by first | (with_reducible assumption) | assumption)
                  have q330 : (ji66) < (l0.length : Int) := of_decide_eq_true (by first | (with_reducible assumption) | assumption)
                  obtain ⟨ad330, e330, hx330_0, hx330_1⟩ := at_T37 HR0.out (ji66) p330 q330
                  have hw330_1 := hx330_1
                  have hw330_0 := hx330_0
                  cases e330
                  replace hx330_0 := (HB.out.cell (wL w _ hx330_0)).trans hx330_0
                  replace hx330_1 := (HB.out.cell (wL w _ hx330_1)).trans hx330_1
                  replace p330 := eq_true p330
                  replace q330 := eq_true q330
                  have p331 : 0 ≤ (a3 : Int) := of_decide_eq_true (by first | (with_reducible assumption) | assumption)
                  have q331 : a3 < (l0.length : Int) := of_decide_eq_true (by first | (with_reducible assumption) | assumption)
                  obtain ⟨ad331, e331, hx331_0, hx331_1⟩ := at_T37 HR0.out a3 p331 q331
                  have hw331_1 := hx331_1
                  have hw331_0 := hx331_0
                  obtain rfl : ad330 = ad331 := (by injection e331)
                  replace hx331_0 := (HB.out.cell (wL w _ hx331_0)).trans hx331_0
                  replace hx331_1 := (HB.out.cell (wL w _ hx331_1)).trans hx331_1
                  replace p331 := eq_true p331
                  replace q331 := eq_true q331
                  refine start_ (n := 38) (S := fun w' => w'.cell? (ad330.add (((ji66)).toNat * 2)) = some (.int .i64 ((rd_T37 l0 (ji66)).f0)) ∧ w'.cell? ⟨(ad330.add (((ji66)).toNat * 2)).block, (ad330.add (((ji66)).toNat * 2)).off + 1, none⟩ = some (.int .i64 ((rd_T37 l0 (ji66)).f1)) ∧ w'.cell? (ad330.add ((a3).toNat * 2)) = some (.int .i64 ((rd_T37 l0 a3).f0)) ∧ w'.cell? ⟨(ad330.add ((a3).toNat * 2)).block, (ad330.add ((a3).toNat * 2)).off + 1, none⟩ = some (.int .i64 ((rd_T37 l0 a3).f1))) (ds := []) #[F,F,F,F,F,F,F,F,F,F,F,F,F,F,F,F,F,F,F,F,F,F,F,F,F,F,F,F,F,F,F,F,F,F,F,F,F,F] (by kernel_rfl) rfl rfl ⟨((HB.out.cell (wL w _ hw330_0)).trans hw330_0), ((HB.out.cell (wL w _ hw330_1)).trans hw330_1), ((HB.out.cell (wL w _ hw331_0)).trans hw331_0), ((HB.out.cell (wL w _ hw331_1)).trans hw331_1)⟩ (fun hHeld => ?_); refine with_tabW bournelaw10_CurvePoints.tab11 bournelaw10_CurvePoints.bits11 (fun HT_ HW_ => ?_)
                  generalize wc.drew = w73 at HB hx330_0 hx330_1 hx331_0 hx331_1 hHeld ⊢
                  refine pure_ (i := 0) (N := some 103) (v := ?_) (a' := ?_) #[T,F,F,F,F,F,F,F,F,F,F,F,F,F,F,F,F,F,F,F,F,F,F,F,F,F,F,F,F,F,F,F,F,F,F,F,F,F] rfl rfl (any_of HT_.out (by kernel_rfl)) (fun _ _ _ h => h) (Or.inl ⟨by rfl, ?_⟩) ?_ ?_
                  rotate_left
                  ·
                   intro w'; go_simp; with_reducible rfl
                  rotate_left
                  ·
                   simp only [Act.put, lA, lZ, lS, i64_w, i32_w]; rfl
                  refine pure_ (i := 1) (N := some 104) (v := ?_) (a' := ?_) #[T,T,F,F,F,F,F,F,F,F,F,F,F,F,F,F,F,F,F,F,F,F,F,F,F,F,F,F,F,F,F,F,F,F,F,F,F,F] rfl rfl (any_of HT_.out (by kernel_rfl)) (fun _ _ _ h => h) (Or.inl ⟨by rfl, ?_⟩) ?_ ?_
                  rotate_left
                  ·
                   intro w'; go_simp; with_reducible rfl
                  rotate_left
                  ·
                   simp only [Act.put, lA, lZ, lS, i64_w, i32_w]; rfl
                  refine pure_ (i := 2) (N := some 105) (v := ?_) (a' := ?_) #[T,T,T,F,F,F,F,F,F,F,F,F,F,F,F,F,F,F,F,F,F,F,F,F,F,F,F,F,F,F,F,F,F,F,F,F,F,F] rfl rfl (any_of HT_.out (by kernel_rfl)) (fun _ _ _ h => h) (Or.inl ⟨by rfl, ?_⟩) ?_ ?_
                  rotate_left
                  ·
                   intro w'; go_simp; with_reducible rfl
                  rotate_left
                  ·
                   simp only [Act.put, lA, lZ, lS, i64_w, i32_w]; rfl
                  refine pure_ (i := 3) (N := some 106) (v := ?_) (a' := ?_) #[T,T,T,T,F,F,F,F,F,F,F,F,F,F,F,F,F,F,F,F,F,F,F,F,F,F,F,F,F,F,F,F,F,F,F,F,F,F] rfl rfl (any_of HT_.out (by kernel_rfl)) (fun _ _ _ h => h) (Or.inl ⟨by rfl, ?_⟩) ?_ ?_
                  rotate_left
                  ·
                   intro w'; go_simp; with_reducible rfl
                  rotate_left
                  ·
                   simp only [Act.put, lA, lZ, lS, i64_w, i32_w]; rfl
                  refine pure_ (i := 4) (N := some 107) (v := ?_) (a' := ?_) #[T,T,T,T,T,F,F,F,F,F,F,F,F,F,F,F,F,F,F,F,F,F,F,F,F,F,F,F,F,F,F,F,F,F,F,F,F,F] rfl rfl (any_of HT_.out (by kernel_rfl)) (fun _ _ _ h => h) (Or.inl ⟨by rfl, ?_⟩) ?_ ?_
                  rotate_left
                  ·
                   intro w'; go_simp; with_reducible rfl
                  rotate_left
                  ·
                   simp only [Act.put, lA, lZ, lS, i64_w, i32_w]; rfl
                  refine pure_ (i := 5) (N := some 108) (v := ?_) (a' := ?_) #[T,T,T,T,T,T,F,F,F,F,F,F,F,F,F,F,F,F,F,F,F,F,F,F,F,F,F,F,F,F,F,F,F,F,F,F,F,F] rfl rfl (any_of HT_.out (by kernel_rfl)) (fun _ _ _ h => h) (Or.inl ⟨by rfl, ?_⟩) ?_ ?_
                  rotate_left
                  ·
                   intro w'; go_simp; with_reducible rfl
                  rotate_left
                  ·
                   simp only [Act.put, lA, lZ, lS, i64_w, i32_w]; rfl
                  refine pure_ (i := 6) (N := some 109) (v := ?_) (a' := ?_) #[T,T,T,T,T,T,T,F,F,F,F,F,F,F,F,F,F,F,F,F,F,F,F,F,F,F,F,F,F,F,F,F,F,F,F,F,F,F] rfl rfl (any_of HT_.out (by kernel_rfl)) (fun _ _ _ h => h) (Or.inl ⟨by rfl, ?_⟩) ?_ ?_
                  rotate_left
                  ·
                   intro w'; go_simp; with_reducible rfl
                  rotate_left
                  ·
                   simp only [Act.put, lA, lZ, lS, i64_w, i32_w]; rfl
                  refine pure_ (i := 7) (N := some 110) (v := ?_) (a' := ?_) #[T,T,T,T,T,T,T,T,F,F,F,F,F,F,F,F,F,F,F,F,F,F,F,F,F,F,F,F,F,F,F,F,F,F,F,F,F,F] rfl rfl (any_of HT_.out (by kernel_rfl)) (fun _ _ _ h => h) (Or.inl ⟨by rfl, ?_⟩) ?_ ?_
                  rotate_left
                  ·
                   intro w'; go_simp; with_reducible rfl
                  rotate_left
                  ·
                   simp only [Act.put, lA, lZ, lS, i64_w, i32_w]; rfl
                  refine pure_ (i := 8) (N := some 111) (v := ?_) (a' := ?_) #[T,T,T,T,T,T,T,T,T,F,F,F,F,F,F,F,F,F,F,F,F,F,F,F,F,F,F,F,F,F,F,F,F,F,F,F,F,F] rfl rfl (any_of HT_.out (by kernel_rfl)) (fun _ _ _ h => h) (Or.inl ⟨by rfl, ?_⟩) ?_ ?_
                  rotate_left
                  ·
                   intro w'; go_simp; with_reducible rfl
                  rotate_left
                  ·
                   simp only [Act.put, lA, lZ, lS, i64_w, i32_w]; rfl
                  refine pure_ (i := 9) (N := some 112) (v := ?_) (a' := ?_) #[T,T,T,T,T,T,T,T,T,T,F,F,F,F,F,F,F,F,F,F,F,F,F,F,F,F,F,F,F,F,F,F,F,F,F,F,F,F] rfl rfl (any_of HT_.out (by kernel_rfl)) (fun _ _ _ h => h) (Or.inl ⟨by rfl, ?_⟩) ?_ ?_
                  rotate_left
                  ·
                   intro w'; go_simp; with_reducible rfl
                  rotate_left
                  ·
                   simp only [Act.put, lA, lZ, lS, i64_w, i32_w]; rfl
                  refine pure_ (i := 10) (N := some 113) (v := ?_) (a' := ?_) #[T,T,T,T,T,T,T,T,T,T,T,F,F,F,F,F,F,F,F,F,F,F,F,F,F,F,F,F,F,F,F,F,F,F,F,F,F,F] rfl rfl (any_of HT_.out (by kernel_rfl)) (fun _ _ _ h => h) (Or.inl ⟨by rfl, ?_⟩) ?_ ?_
                  rotate_left
                  ·
                   intro w'; go_simp; with_reducible rfl
                  rotate_left
                  ·
                   simp only [Act.put, lA, lZ, lS, i64_w, i32_w]; rfl
                  refine pure_ (i := 11) (N := some 114) (v := ?_) (a' := ?_) #[T,T,T,T,T,T,T,T,T,T,T,T,F,F,F,F,F,F,F,F,F,F,F,F,F,F,F,F,F,F,F,F,F,F,F,F,F,F] rfl rfl (any_of HT_.out (by kernel_rfl)) (fun _ _ _ h => h) (Or.inl ⟨by rfl, ?_⟩) ?_ ?_
                  rotate_left
                  ·
                   intro w'; go_simp; with_reducible rfl
                  rotate_left
                  ·
                   simp only [Act.put, lA, lZ, lS, i64_w, i32_w]; rfl
                  refine pure_ (i := 12) (N := some 115) (v := ?_) (a' := ?_) #[T,T,T,T,T,T,T,T,T,T,T,T,T,F,F,F,F,F,F,F,F,F,F,F,F,F,F,F,F,F,F,F,F,F,F,F,F,F] rfl rfl (any_of HT_.out (by kernel_rfl)) (fun _ _ _ h => h) (Or.inl ⟨by rfl, ?_⟩) ?_ ?_
                  rotate_left
                  ·
                   intro w'; go_simp; with_reducible rfl
                  rotate_left
                  ·
                   simp only [Act.put, lA, lZ, lS, i64_w, i32_w]; rfl
                  refine pure_ (i := 13) (N := some 116) (v := ?_) (a' := ?_) #[T,T,T,T,T,T,T,T,T,T,T,T,T,T,F,F,F,F,F,F,F,F,F,F,F,F,F,F,F,F,F,F,F,F,F,F,F,F] rfl rfl (any_of HT_.out (by kernel_rfl)) (fun _ _ _ h => h) (Or.inl ⟨by rfl, ?_⟩) ?_ ?_
                  rotate_left
                  ·
                   intro w'; go_simp; with_reducible rfl
                  rotate_left
                  ·
                   simp only [Act.put, lA, lZ, lS, i64_w, i32_w]; rfl
                  refine pure_ (i := 14) (N := some 117) (v := ?_) (a' := ?_) #[T,T,T,T,T,T,T,T,T,T,T,T,T,T,T,F,F,F,F,F,F,F,F,F,F,F,F,F,F,F,F,F,F,F,F,F,F,F] rfl rfl (any_of HT_.out (by kernel_rfl)) (fun _ _ _ h => h) (Or.inl ⟨by rfl, ?_⟩) ?_ ?_
                  rotate_left
                  ·
                   intro w'; go_simp; with_reducible rfl
                  rotate_left
                  ·
                   simp only [Act.put, lA, lZ, lS, i64_w, i32_w]; rfl
                  refine pure_ (i := 16) (N := some 119) (v := ?_) (a' := ?_) #[T,T,T,T,T,T,T,T,T,T,T,T,T,T,T,F,T,F,F,F,F,F,F,F,F,F,F,F,F,F,F,F,F,F,F,F,F,F] rfl rfl (any_of HT_.out (by kernel_rfl)) (fun _ _ _ h => h) (Or.inl ⟨by rfl, ?_⟩) ?_ ?_
                  rotate_left
                  ·
                   intro w'; go_simp; with_reducible rfl
                  rotate_left
                  ·
                   simp only [Act.put, lA, lZ, lS, i64_w, i32_w]; rfl
                  refine pure_ (i := 17) (N := some 120) (v := ?_) (a' := ?_) #[T,T,T,T,T,T,T,T,T,T,T,T,T,T,T,F,T,T,F,F,F,F,F,F,F,F,F,F,F,F,F,F,F,F,F,F,F,F] rfl rfl (any_of HT_.out (by kernel_rfl)) (fun _ _ _ h => h) (Or.inl ⟨by rfl, ?_⟩) ?_ ?_
                  rotate_left
                  ·
                   intro w'; go_simp; with_reducible rfl
                  rotate_left
                  ·
                   simp only [Act.put, lA, lZ, lS, i64_w, i32_w]; rfl
                  refine pure_ (i := 18) (N := some 121) (v := ?_) (a' := ?_) #[T,T,T,T,T,T,T,T,T,T,T,T,T,T,T,F,T,T,T,F,F,F,F,F,F,F,F,F,F,F,F,F,F,F,F,F,F,F] rfl rfl (any_of HT_.out (by kernel_rfl)) (fun _ _ _ h => h) (Or.inl ⟨by rfl, ?_⟩) ?_ ?_
                  rotate_left
                  ·
                   intro w'; go_simp; with_reducible rfl
                  rotate_left
                  ·
                   simp only [Act.put, lA, lZ, lS, i64_w, i32_w]; rfl
                  refine pure_ (i := 19) (N := some 122) (v := ?_) (a' := ?_) #[T,T,T,T,T,T,T,T,T,T,T,T,T,T,T,F,T,T,T,T,F,F,F,F,F,F,F,F,F,F,F,F,F,F,F,F,F,F] rfl rfl (any_of HT_.out (by kernel_rfl)) (fun _ _ _ h => h) (Or.inl ⟨by rfl, ?_⟩) ?_ ?_
                  rotate_left
                  ·
                   intro w'; go_simp; with_reducible rfl
                  rotate_left
                  ·
                   simp only [Act.put, lA, lZ, lS, i64_w, i32_w]; rfl
                  refine take_ (i := 15) (N := some 118) (v := ?_) (a' := ?_) #[T,T,T,T,T,T,T,T,T,T,T,T,T,T,T,T,T,T,T,T,F,F,F,F,F,F,F,F,F,F,F,F,F,F,F,F,F,F] rfl rfl (take_ofW HT_.out HW_.out (by kernel_rfl)) (fun _ _ _ h => h) (Or.inl ⟨by rfl, ?_⟩) hHeld ?_ ?_
                  rotate_left
                  ·
                   rintro w' ⟨s0, s1, s2, s3⟩
                   go_simp; with_reducible rfl
                  rotate_left
                  ·
                   simp only [Act.put, lA, lZ, lS, i64_w, i32_w]; rfl
                  refine take_ (i := 20) (N := some 123) (v := ?_) (a' := ?_) #[T,T,T,T,T,T,T,T,T,T,T,T,T,T,T,T,T,T,T,T,T,F,F,F,F,F,F,F,F,F,F,F,F,F,F,F,F,F] rfl rfl (take_ofW HT_.out HW_.out (by kernel_rfl)) (fun _ _ _ h => h) (Or.inl ⟨by rfl, ?_⟩) hHeld ?_ ?_
                  rotate_left
                  ·
                   rintro w' ⟨s0, s1, s2, s3⟩
                   go_simp; with_reducible rfl
                  rotate_left
                  ·
                   simp only [Act.put, lA, lZ, lS, i64_w, i32_w]; rfl
                  refine pure_ (i := 21) (N := some 124) (v := ?_) (a' := ?_) #[T,T,T,T,T,T,T,T,T,T,T,T,T,T,T,T,T,T,T,T,T,T,F,F,F,F,F,F,F,F,F,F,F,F,F,F,F,F] rfl rfl (any_of HT_.out (by kernel_rfl)) (fun _ _ _ h => h) (Or.inl ⟨by rfl, ?_⟩) ?_ ?_
                  rotate_left
                  ·
                   intro w'; go_simp; with_reducible rfl
                  rotate_left
                  ·
                   simp only [Act.put, lA, lZ, lS, i64_w, i32_w]; rfl
                  refine pure_ (i := 22) (N := some 125) (v := ?_) (a' := ?_) #[T,T,T,T,T,T,T,T,T,T,T,T,T,T,T,T,T,T,T,T,T,T,T,F,F,F,F,F,F,F,F,F,F,F,F,F,F,F] rfl rfl (any_of HT_.out (by kernel_rfl)) (fun _ _ _ h => h) (Or.inl ⟨by rfl, ?_⟩) ?_ ?_
                  rotate_left
                  ·
                   intro w'; go_simp; with_reducible rfl
                  rotate_left
                  ·
                   simp only [Act.put, lA, lZ, lS, i64_w, i32_w]; rfl
                  refine pure_ (i := 23) (N := some 126) (v := ?_) (a' := ?_) #[T,T,T,T,T,T,T,T,T,T,T,T,T,T,T,T,T,T,T,T,T,T,T,T,F,F,F,F,F,F,F,F,F,F,F,F,F,F] rfl rfl (any_of HT_.out (by kernel_rfl)) (fun _ _ _ h => h) (Or.inl ⟨by rfl, ?_⟩) ?_ ?_
                  rotate_left
                  ·
                   intro w'; go_simp; with_reducible rfl
                  rotate_left
                  ·
                   simp only [Act.put, lA, lZ, lS, i64_w, i32_w]; rfl
                  refine pure_ (i := 24) (N := some 127) (v := undef) (a' := ?_) #[T,T,T,T,T,T,T,T,T,T,T,T,T,T,T,T,T,T,T,T,T,T,T,T,T,F,F,F,F,F,F,F,F,F,F,F,F,F] rfl rfl (any_of HT_.out (by kernel_rfl)) (fun _ _ _ h => h) (Or.inr ⟨by rfl, rfl⟩) ?_ ?_
                  rotate_left
                  ·
                   simp only [Act.put, lA, lZ, lS, i64_w, i32_w]; rfl
                  refine pure_ (i := 25) (N := some 128) (v := undef) (a' := ?_) #[T,T,T,T,T,T,T,T,T,T,T,T,T,T,T,T,T,T,T,T,T,T,T,T,T,T,F,F,F,F,F,F,F,F,F,F,F,F] rfl rfl (any_of HT_.out (by kernel_rfl)) (fun _ _ _ h => h) (Or.inr ⟨by rfl, rfl⟩) ?_ ?_
                  rotate_left
                  ·
                   simp only [Act.put, lA, lZ, lS, i64_w, i32_w]; rfl
                  refine pure_ (i := 26) (N := some 129) (v := undef) (a' := ?_) #[T,T,T,T,T,T,T,T,T,T,T,T,T,T,T,T,T,T,T,T,T,T,T,T,T,T,T,F,F,F,F,F,F,F,F,F,F,F] rfl rfl (any_of HT_.out (by kernel_rfl)) (fun _ _ _ h => h) (Or.inr ⟨by rfl, rfl⟩) ?_ ?_
                  rotate_left
                  ·
                   simp only [Act.put, lA, lZ, lS, i64_w, i32_w]; rfl
                  refine pure_ (i := 27) (N := some 130) (v := undef) (a' := ?_) #[T,T,T,T,T,T,T,T,T,T,T,T,T,T,T,T,T,T,T,T,T,T,T,T,T,T,T,T,F,F,F,F,F,F,F,F,F,F] rfl rfl (any_of HT_.out (by kernel_rfl)) (fun _ _ _ h => h) (Or.inr ⟨by rfl, rfl⟩) ?_ ?_
                  rotate_left
                  ·
                   simp only [Act.put, lA, lZ, lS, i64_w, i32_w]; rfl
                  refine pure_ (i := 28) (N := some 131) (v := undef) (a' := ?_) #[T,T,T,T,T,T,T,T,T,T,T,T,T,T,T,T,T,T,T,T,T,T,T,T,T,T,T,T,T,F,F,F,F,F,F,F,F,F] rfl rfl (any_of HT_.out (by kernel_rfl)) (fun _ _ _ h => h) (Or.inr ⟨by rfl, rfl⟩) ?_ ?_
                  rotate_left
                  ·
                   simp only [Act.put, lA, lZ, lS, i64_w, i32_w]; rfl
                  refine pure_ (i := 29) (N := some 132) (v := undef) (a' := ?_) #[T,T,T,T,T,T,T,T,T,T,T,T,T,T,T,T,T,T,T,T,T,T,T,T,T,T,T,T,T,T,F,F,F,F,F,F,F,F] rfl rfl (any_of HT_.out (by kernel_rfl)) (fun _ _ _ h => h) (Or.inr ⟨by rfl, rfl⟩) ?_ ?_
                  rotate_left
                  ·
                   simp only [Act.put, lA, lZ, lS, i64_w, i32_w]; rfl
                  refine pure_ (i := 30) (N := some 133) (v := undef) (a' := ?_) #[T,T,T,T,T,T,T,T,T,T,T,T,T,T,T,T,T,T,T,T,T,T,T,T,T,T,T,T,T,T,T,F,F,F,F,F,F,F] rfl rfl (any_of HT_.out (by kernel_rfl)) (fun _ _ _ h => h) (Or.inr ⟨by rfl, rfl⟩) ?_ ?_
                  rotate_left
                  ·
                   simp only [Act.put, lA, lZ, lS, i64_w, i32_w]; rfl
                  refine pure_ (i := 31) (N := some 134) (v := undef) (a' := ?_) #[T,T,T,T,T,T,T,T,T,T,T,T,T,T,T,T,T,T,T,T,T,T,T,T,T,T,T,T,T,T,T,T,F,F,F,F,F,F] rfl rfl (any_of HT_.out (by kernel_rfl)) (fun _ _ _ h => h) (Or.inr ⟨by rfl, rfl⟩) ?_ ?_
                  rotate_left
                  ·
                   simp only [Act.put, lA, lZ, lS, i64_w, i32_w]; rfl
                  refine pure_ (i := 32) (N := some 135) (v := undef) (a' := ?_) #[T,T,T,T,T,T,T,T,T,T,T,T,T,T,T,T,T,T,T,T,T,T,T,T,T,T,T,T,T,T,T,T,T,F,F,F,F,F] rfl rfl (any_of HT_.out (by kernel_rfl)) (fun _ _ _ h => h) (Or.inr ⟨by rfl, rfl⟩) ?_ ?_
                  rotate_left
                  ·
                   simp only [Act.put, lA, lZ, lS, i64_w, i32_w]; rfl
                  refine pure_ (i := 33) (N := some 136) (v := undef) (a' := ?_) #[T,T,T,T,T,T,T,T,T,T,T,T,T,T,T,T,T,T,T,T,T,T,T,T,T,T,T,T,T,T,T,T,T,T,F,F,F,F] rfl rfl (any_of HT_.out (by kernel_rfl)) (fun _ _ _ h => h) (Or.inr ⟨by rfl, rfl⟩) ?_ ?_
                  rotate_left
                  ·
                   simp only [Act.put, lA, lZ, lS, i64_w, i32_w]; rfl
                  refine pure_ (i := 34) (N := some 137) (v := undef) (a' := ?_) #[T,T,T,T,T,T,T,T,T,T,T,T,T,T,T,T,T,T,T,T,T,T,T,T,T,T,T,T,T,T,T,T,T,T,T,F,F,F] rfl rfl (any_of HT_.out (by kernel_rfl)) (fun _ _ _ h => h) (Or.inr ⟨by rfl, rfl⟩) ?_ ?_
                  rotate_left
                  ·
                   simp only [Act.put, lA, lZ, lS, i64_w, i32_w]; rfl
                  refine pure_ (i := 35) (N := some 138) (v := undef) (a' := ?_) #[T,T,T,T,T,T,T,T,T,T,T,T,T,T,T,T,T,T,T,T,T,T,T,T,T,T,T,T,T,T,T,T,T,T,T,T,F,F] rfl rfl (any_of HT_.out (by kernel_rfl)) (fun _ _ _ h => h) (Or.inr ⟨by rfl, rfl⟩) ?_ ?_
                  rotate_left
                  ·
                   simp only [Act.put, lA, lZ, lS, i64_w, i32_w]; rfl
                  refine pure_ (i := 36) (N := some 139) (v := undef) (a' := ?_) #[T,T,T,T,T,T,T,T,T,T,T,T,T,T,T,T,T,T,T,T,T,T,T,T,T,T,T,T,T,T,T,T,T,T,T,T,T,F] rfl rfl (any_of HT_.out (by kernel_rfl)) (fun _ _ _ h => h) (Or.inr ⟨by rfl, rfl⟩) ?_ ?_
                  rotate_left
                  ·
                   simp only [Act.put, lA, lZ, lS, i64_w, i32_w]; rfl
                  refine pure_ (i := 37) (N := some 140) (v := ?_) (a' := ?_) #[T,T,T,T,T,T,T,T,T,T,T,T,T,T,T,T,T,T,T,T,T,T,T,T,T,T,T,T,T,T,T,T,T,T,T,T,T,T] rfl rfl (any_of HT_.out (by kernel_rfl)) (fun _ _ _ h => h) (Or.inl ⟨by rfl, ?_⟩) ?_ ?_
                  rotate_left
                  ·
                   intro w'; go_simp; with_reducible rfl
                  rotate_left
                  ·
                   simp only [Act.put, lA, lZ, lS, i64_w, i32_w]; rfl
                  refine done_ (done_of HT_.out (by kernel_rfl)) ?_
                  try go_wp2
                  go_meet
                  case rel => exact ⟨_, (true), (by first | rfl | (simp; done) | (simp [*]; done)), H', ⟨by have := HJ6.out; have := HK2.out; have := HJ35.out; first | omega | exact Nat.le_refl _⟩, ⟨by repeat (first | (with_reducible first | exact HB.out | apply bL | apply bW | apply b1) | exact HB.out)⟩⟩
                ·
                 rw [if_neg c70] at H; exact absurd H (by simp)
               ·
                rw [if_neg c69] at H; exact absurd H (by simp)
              ·
               rw [if_neg c68] at H; exact absurd H (by simp)
             ·
              rw [if_neg c67] at H; exact absurd H (by simp)
          case rest =>
           clear HC61; try clear p2
           try clear p3
           try clear q3
           try clear hx3
           try clear c6
           try clear p6
           try clear c7
           try clear p33
           try clear q33
           try clear hx33
           try clear p64
           try clear c67
           try clear c68
           try clear c69
           try clear c70
           try clear c71
           try clear c71b0
           try clear c71b1
           try clear hx330_0
           try clear hx330_1
           try clear hx331_0
           try clear hx331_1
           try clear p330
           try clear p331
           try clear q330
           try clear q331
           obtain ⟨kq, x140_60, rfl, HA, HJ60, HB⟩ := hcut
           cases kq with
           | zero => exact absurd HA.out (by simp [bournelaw10_CurvePoints.j3])
           | succ kj60 =>
            have H := HA.out
            clear HA; simp only [bournelaw10_CurvePoints.j3] at H; by_cases c74 : x140_60 = true
            ·
             subst c74; have H1 : (some t317) = some r := by rw [if_pos rfl] at H; exact H
             clear H; have H := H1
             clear H1; obtain rfl := Option.some.inj H
             as_aux_lemma =>
              go_wp2
              go_ret
              exact ⟨by first | rfl | (simp [errW_none, errW_some] <;> rfl) | (simp [*, errW_none, errW_some] <;> rfl), by repeat (first | (with_reducible first | exact HB.out | apply bL | apply bW | apply b1) | exact HB.out)⟩
            ·
             replace c74 := Bool.eq_false_iff.mpr c74
             subst c74; have H1 : (bournelaw10_CurvePoints.l1 kj60 l0 l1 a2 a3 t317 ([] : List (S37)) 0) = some r := by rw [if_neg (show ¬ (false = true) by decide)] at H; exact H
             clear H; have H := H1
             clear H1; have H' := Aside0.mk H
             clear H; go_wp2
             go_loopg [14, 15] kj60 (fun kq v14 v15 w' => ∃ (x14_5 : List (S37)) (x15_5 : Int), v15 = .int .i64 x15_5 ∧ Aside0 (bournelaw10_CurvePoints.l1 kq l0 l1 a2 a3 t317 x14_5 x15_5 = some r) ∧ Aside0 (kq ≤ kj60) ∧ Aside0 (Kd.R k37 37 w' w.heap.size (fun _ => True) v14 x14_5) ∧ Aside0 (Below w.heap.size w w'))
             case atStart => exact ⟨(([] : List (S37))), (0), (by first | rfl | (simp; done) | (simp [*]; done)), H', ⟨Nat.le_refl _⟩, ⟨by first | exact Kd.R_nil _ _ _ _ _ | exact Kd.N_nil _ _ _ _ _ | exact Kd.V_nil _ _ _ _ _ | exact Kd.Q_nil _ _ _ _ _ | exact Kd.S_nil _ _ _ _ _⟩, ⟨by repeat (first | (with_reducible first | exact HB.out | apply bL | apply bW | apply b1) | exact HB.out)⟩⟩
             case round =>
              clear H'; try clear p2
              try clear p3
              try clear q3
              try clear hx3
              try clear c6
              try clear p6
              try clear c7
              try clear p33
              try clear q33
              try clear hx33
              try clear p64
              try clear c67
              try clear c68
              try clear c69
              try clear c70
              try clear c71
              try clear c71b0
              try clear c71b1
              try clear c74
              try clear hx330_0
              try clear hx330_1
              try clear hx331_0
              try clear hx331_1
              try clear p2
              try clear p3
              try clear p33
              try clear p330
              try clear p331
              try clear p6
              try clear p64
              try clear q3
              try clear q33
              try clear q330
              try clear q331
              obtain ⟨x14_5, x15_5, rfl, HA, HK5, HO_14, HB⟩ := hrel
              cases gk with
              | zero => exact absurd HA.out (by simp [bournelaw10_CurvePoints.l1])
              | succ k5 =>
               have H := HA.out
               clear HA; simp only [bournelaw10_CurvePoints.l1] at H; by_cases c75 : x15_5 < (l0.length : Int)
               ·
                rw [if_pos c75] at H; have c75b0 : decide (x15_5 < (l0.length : Int)) = true := decide_eq_true c75
                clear c75; by_cases c76 : 0 ≤ x15_5
                ·
                 rw [if_pos c76] at H; have c76b0 : decide (0 ≤ x15_5) = true := decide_eq_true c76
                 clear c76; by_cases c77 : x14_5.length < 8796093022208
                 ·
                  rw [if_pos c77] at H; have LMc77 := Aside0.mk c77
                  clear c77; obtain ⟨y335, hy335⟩ : ∃ y_ : List (S37), y_ = (x14_5 ++ [(⟨(rd_T37 l0 x15_5).f0, (rd_T37 l0 x15_5).f1⟩ : S37)]) := ⟨_, rfl⟩
                  replace H : (if x15_5 = a3 then (if 0 ≤ a3 then (if a3 < (l0.length : Int) then (if y335.length < 8796093022208 then (bournelaw10_CurvePoints.l1 k5 l0 l1 a2 a3 t317 (y335 ++ [(⟨wrap64 (((rd_T37 l0 a3).f0) + 1), (rd_T37 l0 a3).f1⟩ : S37)]) (wrap64 (x15_5 + 1))) else (none)) else (none)) else (none)) else (bournelaw10_CurvePoints.l1 k5 l0 l1 a2 a3 t317 y335 (wrap64 (x15_5 + 1)))) = some r := by first | (rw [hy335]; with_reducible exact H) | (have H2_ := (Option.bind_some _ _).symm.trans H; rw [hy335]; with_reducible exact H2_) | (have H2_ := (Option.bind_some _ _).symm.trans H; with_reducible exact H2_) | with_reducible exact H | (rw [hy335]; exact H) | exact H
                  have Ny335 := Aside0.mk hy335
                  clear hy335; by_cases c78 : x15_5 = a3
                  ·
                   rw [if_pos c78] at H; have c78b0 : (x15_5 == a3) = true := beq_iff_eq.mpr c78
                   have c78b1 : (x15_5 != a3) = false := bne_eq_false_iff_eq.mpr c78
                   clear c78; by_cases c79 : 0 ≤ a3
                   ·
                    rw [if_pos c79] at H; have c79b0 : decide (0 ≤ a3) = true := decide_eq_true c79
                    clear c79; by_cases c80 : a3 < (l0.length : Int)
                    ·
                     rw [if_pos c80] at H; have c80b0 : decide (a3 < (l0.length : Int)) = true := decide_eq_true c80
                     clear c80; by_cases c81 : y335.length < 8796093022208
                     ·
                      rw [if_pos c81] at H; have LMc81 := Aside0.mk c81
                      clear c81; obtain ⟨y340, hy340⟩ : ∃ y_ : List (S37), y_ = (y335 ++ [(⟨wrap64 (((rd_T37 l0 a3).f0) + 1), (rd_T37 l0 a3).f1⟩ : S37)]) := ⟨_, rfl⟩
                      replace H : (bournelaw10_CurvePoints.l1 k5 l0 l1 a2 a3 t317 y340 (wrap64 (x15_5 + 1))) = some r := by first | (rw [hy340]; with_reducible exact H) | (have H2_ := (Option.bind_some _ _).symm.trans H; rw [hy340]; with_reducible exact H2_) | (have H2_ := (Option.bind_some _ _).symm.trans H; with_reducible exact H2_) | with_reducible exact H | (rw [hy340]; exact H) | exact H
                      have Ny340 := Aside0.mk hy340
                      clear hy340; have H' := Aside0.mk H
                      clear H; have p334 : 0 ≤ (x15_5 : Int) := of_decide_eq_true (by first | (with_reducible assumption) | assumption)
                      have q334 : x15_5 < (l0.length : Int) := of_decide_eq_true (by first | (with_reducible assumption) | assumption)
                      obtain ⟨ad334, e334, hx334_0, hx334_1⟩ := at_T37 HR0.out x15_5 p334 q334
                      cases e334
                      replace hx334_0 := (HB.out.cell (wL w _ hx334_0)).trans hx334_0
                      replace hx334_1 := (HB.out.cell (wL w _ hx334_1)).trans hx334_1
                      replace p334 := eq_true p334
                      replace q334 := eq_true q334
                      try go_wp2_with (first | ((with_reducible refine gate_builtin (b := .append) (xs := #[.tmp 148, .tmp 153]) rfl ?_); (try (refine gate_guard (by rfl) ?_; dsimp only)); at_builtin; refine Kd.R_append k37 (w0 := w) w.heap.size rfl (.tmp 148) (.tmp 153) 22 37 (.agg #[(.int .i64 0), (.int .i64 0)]) 16 rfl Try.underlying22 info37 rfl (by decide) (by omega) u14 x14_5 (⟨(rd_T37 l0 x15_5).f0, (rd_T37 l0 x15_5).f1⟩ : S37) [.int .i64 ((rd_T37 l0 x15_5).f0), .int .i64 ((rd_T37 l0 x15_5).f1)] (fun _ => True) (fun _ => False) rfl rfl ?aP (fun _ hk => hk.elim) ?aF ?aO ?aB ?aS ?aL ?_; (case aP => exact k37_mkM _ _ _ (⟨(rd_T37 l0 x15_5).f0, (rd_T37 l0 x15_5).f1⟩ : S37)); (case aB => exact (by repeat (first | (with_reducible first | exact HB.out | apply bL | apply bW | apply b1) | exact HB.out))); (case aF => exact (fun _ _ => trivial)); (case aO => exact (by (with_reducible repeat (first | apply Kd.R_alloc | apply Kd.R_drewN | apply Kd.R_drew)); exact HO_14.out)); (case aS => exact (bZ (by repeat (first | (with_reducible first | exact HB.out | apply bL | apply bW | apply b1) | exact HB.out)))); (case aL => have := LMc77.out; omega); intro v336 w82 ho hb hg hat; rw [← Ny335.out] at ho; have n0_ := Aside0.mk (hb); have n1_ := Aside0.mk (ho); clear HB; clear HO_14; have HB := n0_; have HO337 := n1_; clear n0_ n1_; clear ho hb hg hat))
                      have n0_ := Aside0.mk (Kd.R_drew HO337.out)
                      have n1_ := Aside0.mk (b1 HB.out)
                      clear HO337; clear HB; have HO337 := n0_
                      have HB := n1_
                      clear n0_ n1_; have p338 : 0 ≤ (a3 : Int) := of_decide_eq_true (by first | (with_reducible assumption) | assumption)
                      have q338 : a3 < (l0.length : Int) := of_decide_eq_true (by first | (with_reducible assumption) | assumption)
                      obtain ⟨ad338, e338, hx338_0, hx338_1⟩ := at_T37 HR0.out a3 p338 q338
                      have hw338_1 := hx338_1
                      have hw338_0 := hx338_0
                      obtain rfl : ad334 = ad338 := (by injection e338)
                      replace hx338_0 := (HB.out.cell (wL w _ hx338_0)).trans hx338_0
                      replace hx338_1 := (HB.out.cell (wL w _ hx338_1)).trans hx338_1
                      replace p338 := eq_true p338
                      replace q338 := eq_true q338
                      have p339 : 0 ≤ (a3 : Int) := of_decide_eq_true (by first | (with_reducible assumption) | assumption)
                      have q339 : a3 < (l0.length : Int) := of_decide_eq_true (by first | (with_reducible assumption) | assumption)
                      obtain ⟨ad339, e339, hx339_0, hx339_1⟩ := at_T37 HR0.out a3 p339 q339
                      have hw339_1 := hx339_1
                      have hw339_0 := hx339_0
                      obtain rfl : ad334 = ad339 := (by injection e339)
                      replace hx339_0 := (HB.out.cell (wL w _ hx339_0)).trans hx339_0
                      replace hx339_1 := (HB.out.cell (wL w _ hx339_1)).trans hx339_1
                      replace p339 := eq_true p339
                      replace q339 := eq_true q339
                      refine start_ (n := 16) (S := fun w' => w'.cell? (ad334.add ((a3).toNat * 2)) = some (.int .i64 ((rd_T37 l0 a3).f0)) ∧ w'.cell? ⟨(ad334.add ((a3).toNat * 2)).block, (ad334.add ((a3).toNat * 2)).off + 1, none⟩ = some (.int .i64 ((rd_T37 l0 a3).f1)) ∧ w'.cell? (ad334.add ((a3).toNat * 2)) = some (.int .i64 ((rd_T37 l0 a3).f0)) ∧ w'.cell? ⟨(ad334.add ((a3).toNat * 2)).block, (ad334.add ((a3).toNat * 2)).off + 1, none⟩ = some (.int .i64 ((rd_T37 l0 a3).f1))) (ds := []) #[F,F,F,F,F,F,F,F,F,F,F,F,F,F,F,F] (by kernel_rfl) rfl rfl ⟨((HB.out.cell (wL w _ hw338_0)).trans hw338_0), ((HB.out.cell (wL w _ hw338_1)).trans hw338_1), ((HB.out.cell (wL w _ hw339_0)).trans hw339_0), ((HB.out.cell (wL w _ hw339_1)).trans hw339_1)⟩ (fun hHeld => ?_); refine with_tabW bournelaw10_CurvePoints.tab19 bournelaw10_CurvePoints.bits19 (fun HT_ HW_ => ?_)
                      generalize w82.drew = w83 at HO337 HB hx338_0 hx338_1 hx339_0 hx339_1 hHeld ⊢
                      refine pure_ (i := 0) (N := some 158) (v := ?_) (a' := ?_) #[T,F,F,F,F,F,F,F,F,F,F,F,F,F,F,F] rfl rfl (any_of HT_.out (by kernel_rfl)) (fun _ _ _ h => h) (Or.inl ⟨by rfl, ?_⟩) ?_ ?_
                      rotate_left
                      ·
                       intro w'; go_simp; with_reducible rfl
                      rotate_left
                      ·
                       simp only [Act.put, lA, lZ, lS, i64_w, i32_w]; rfl
                      refine pure_ (i := 1) (N := some 159) (v := ?_) (a' := ?_) #[T,T,F,F,F,F,F,F,F,F,F,F,F,F,F,F] rfl rfl (any_of HT_.out (by kernel_rfl)) (fun _ _ _ h => h) (Or.inl ⟨by rfl, ?_⟩) ?_ ?_
                      rotate_left
                      ·
                       intro w'; go_simp; with_reducible rfl
                      rotate_left
                      ·
                       simp only [Act.put, lA, lZ, lS, i64_w, i32_w]; rfl
                      refine pure_ (i := 2) (N := some 160) (v := ?_) (a' := ?_) #[T,T,T,F,F,F,F,F,F,F,F,F,F,F,F,F] rfl rfl (any_of HT_.out (by kernel_rfl)) (fun _ _ _ h => h) (Or.inl ⟨by rfl, ?_⟩) ?_ ?_
                      rotate_left
                      ·
                       intro w'; go_simp; with_reducible rfl
                      rotate_left
                      ·
                       simp only [Act.put, lA, lZ, lS, i64_w, i32_w]; rfl
                      refine pure_ (i := 3) (N := some 161) (v := ?_) (a' := ?_) #[T,T,T,T,F,F,F,F,F,F,F,F,F,F,F,F] rfl rfl (any_of HT_.out (by kernel_rfl)) (fun _ _ _ h => h) (Or.inl ⟨by rfl, ?_⟩) ?_ ?_
                      rotate_left
                      ·
                       intro w'; go_simp; with_reducible rfl
                      rotate_left
                      ·
                       simp only [Act.put, lA, lZ, lS, i64_w, i32_w]; rfl
                      refine pure_ (i := 4) (N := some 162) (v := ?_) (a' := ?_) #[T,T,T,T,T,F,F,F,F,F,F,F,F,F,F,F] rfl rfl (any_of HT_.out (by kernel_rfl)) (fun _ _ _ h => h) (Or.inl ⟨by rfl, ?_⟩) ?_ ?_
                      rotate_left
                      ·
                       intro w'; go_simp; with_reducible rfl
                      rotate_left
                      ·
                       simp only [Act.put, lA, lZ, lS, i64_w, i32_w]; rfl
                      refine pure_ (i := 7) (N := some 165) (v := ?_) (a' := ?_) #[T,T,T,T,T,F,F,T,F,F,F,F,F,F,F,F] rfl rfl (any_of HT_.out (by kernel_rfl)) (fun _ _ _ h => h) (Or.inl ⟨by rfl, ?_⟩) ?_ ?_
                      rotate_left
                      ·
                       intro w'; go_simp; with_reducible rfl
                      rotate_left
                      ·
                       simp only [Act.put, lA, lZ, lS, i64_w, i32_w]; rfl
                      refine pure_ (i := 8) (N := some 166) (v := ?_) (a' := ?_) #[T,T,T,T,T,F,F,T,T,F,F,F,F,F,F,F] rfl rfl (any_of HT_.out (by kernel_rfl)) (fun _ _ _ h => h) (Or.inl ⟨by rfl, ?_⟩) ?_ ?_
                      rotate_left
                      ·
                       intro w'; go_simp; with_reducible rfl
                      rotate_left
                      ·
                       simp only [Act.put, lA, lZ, lS, i64_w, i32_w]; rfl
                      refine pure_ (i := 9) (N := some 167) (v := ?_) (a' := ?_) #[T,T,T,T,T,F,F,T,T,T,F,F,F,F,F,F] rfl rfl (any_of HT_.out (by kernel_rfl)) (fun _ _ _ h => h) (Or.inl ⟨by rfl, ?_⟩) ?_ ?_
                      rotate_left
                      ·
                       intro w'; go_simp; with_reducible rfl
                      rotate_left
                      ·
                       simp only [Act.put, lA, lZ, lS, i64_w, i32_w]; rfl
                      refine pure_ (i := 10) (N := some 168) (v := ?_) (a' := ?_) #[T,T,T,T,T,F,F,T,T,T,T,F,F,F,F,F] rfl rfl (any_of HT_.out (by kernel_rfl)) (fun _ _ _ h => h) (Or.inl ⟨by rfl, ?_⟩) ?_ ?_
                      rotate_left
                      ·
                       intro w'; go_simp; with_reducible rfl
                      rotate_left
                      ·
                       simp only [Act.put, lA, lZ, lS, i64_w, i32_w]; rfl
                      refine take_ (i := 5) (N := some 163) (v := ?_) (a' := ?_) #[T,T,T,T,T,T,F,T,T,T,T,F,F,F,F,F] rfl rfl (take_ofW HT_.out HW_.out (by kernel_rfl)) (fun _ _ _ h => h) (Or.inl ⟨by rfl, ?_⟩) hHeld ?_ ?_
                      rotate_left
                      ·
                       rintro w' ⟨s0, s1, s2, s3⟩
                       go_simp; with_reducible rfl
                      rotate_left
                      ·
                       simp only [Act.put, lA, lZ, lS, i64_w, i32_w]; rfl
                      refine pure_ (i := 6) (N := some 164) (v := ?_) (a' := ?_) #[T,T,T,T,T,T,T,T,T,T,T,F,F,F,F,F] rfl rfl (any_of HT_.out (by kernel_rfl)) (fun _ _ _ h => h) (Or.inl ⟨by rfl, ?_⟩) ?_ ?_
                      rotate_left
                      ·
                       intro w'; go_simp; with_reducible rfl
                      rotate_left
                      ·
                       simp only [Act.put, lA, lZ, lS, i64_w, i32_w]; rfl
                      refine take_ (i := 11) (N := some 169) (v := ?_) (a' := ?_) #[T,T,T,T,T,T,T,T,T,T,T,T,F,F,F,F] rfl rfl (take_ofW HT_.out HW_.out (by kernel_rfl)) (fun _ _ _ h => h) (Or.inl ⟨by rfl, ?_⟩) hHeld ?_ ?_
                      rotate_left
                      ·
                       rintro w' ⟨s0, s1, s2, s3⟩
                       go_simp; with_reducible rfl
                      rotate_left
                      ·
                       simp only [Act.put, lA, lZ, lS, i64_w, i32_w]; rfl
                      refine pure_ (i := 12) (N := some 170) (v := ?_) (a' := ?_) #[T,T,T,T,T,T,T,T,T,T,T,T,T,F,F,F] rfl rfl (any_of HT_.out (by kernel_rfl)) (fun _ _ _ h => h) (Or.inl ⟨by rfl, ?_⟩) ?_ ?_
                      rotate_left
                      ·
                       intro w'; go_simp; with_reducible rfl
                      rotate_left
                      ·
                       simp only [Act.put, lA, lZ, lS, i64_w, i32_w]; rfl
                      refine one_ (i := 13) (N := some 171) #[T,T,T,T,T,T,T,T,T,T,T,T,T,T,F,F] rfl rfl (one_of HT_.out (by kernel_rfl)) (by decide) (fun K hK => ?_)
                      refine value_ (w1 := ?_) (v := ?_) (by rfl) rfl ?_ ?_
                      rotate_left 2
                      ·
                       go_simp; constructor
                       ·
                        rfl
                       ·
                        rfl
                      refine hK.out _ _ ⟨(World.cell?_alloc_lt _ _ _ (wL _ _ (((HB.out.cell (wL w _ hw338_0)).trans hw338_0)))).trans (((HB.out.cell (wL w _ hw338_0)).trans hw338_0)), (World.cell?_alloc_lt _ _ _ (wL _ _ (((HB.out.cell (wL w _ hw338_1)).trans hw338_1)))).trans (((HB.out.cell (wL w _ hw338_1)).trans hw338_1)), (World.cell?_alloc_lt _ _ _ (wL _ _ (((HB.out.cell (wL w _ hw339_0)).trans hw339_0)))).trans (((HB.out.cell (wL w _ hw339_0)).trans hw339_0)), (World.cell?_alloc_lt _ _ _ (wL _ _ (((HB.out.cell (wL w _ hw339_1)).trans hw339_1)))).trans (((HB.out.cell (wL w _ hw339_1)).trans hw339_1))⟩ (fun hHeld => ?_)
                      clear hK K; refine norm_ (a' := ?_) ?_ ?_
                      rotate_left
                      ·
                       show Act.put _ (some 171) _ = _
                       simp only [Act.put, lA, lZ, lS, i64_w, i32_w]; rfl
                      refine one_ (i := 14) (N := some 172) #[T,T,T,T,T,T,T,T,T,T,T,T,T,T,T,F] rfl rfl (one_of HT_.out (by kernel_rfl)) (by decide) (fun K hK => ?_)
                      refine Kd.R_append_step k37 (w0 := w) w.heap.size (by rfl) (.tmp 158) (.tmp 171) 22 37 (.agg #[(.int .i64 0), (.int .i64 0)]) 16 rfl Try.underlying22 info37 rfl (by decide) (by omega) v336 y335 (⟨wrap64 (((rd_T37 l0 a3).f0) + 1), (rd_T37 l0 a3).f1⟩ : S37) [.int .i64 (wrap64 (((rd_T37 l0 a3).f0) + 1)), .int .i64 ((rd_T37 l0 a3).f1)] (fun _ => True) (fun _ => False) rfl rfl ?aP (fun _ hk => hk.elim) ?aF ?aO ?aB ?aS ?aL ?_
                      (case aP => exact k37_mkM _ _ _ (⟨wrap64 (((rd_T37 l0 a3).f0) + 1), (rd_T37 l0 a3).f1⟩ : S37))
                      (case aB => exact (by repeat (first | (with_reducible first | exact HB.out | apply bL | apply bW | apply b1) | exact HB.out)))
                      (case aF => exact (fun _ _ => trivial))
                      (case aO => exact (by (with_reducible repeat (first | apply Kd.R_alloc | apply Kd.R_drewN | apply Kd.R_drew)); exact HO337.out))
                      (case aS => exact (bZ (by repeat (first | (with_reducible first | exact HB.out | apply bL | apply bW | apply b1) | exact HB.out))))
                      (case aL => have := LMc81.out; omega)
                      intro v341 w84 ho hb hg hat; rw [← Ny340.out] at ho
                      have n0_ := Aside0.mk (hb)
                      have n1_ := Aside0.mk (ho)
                      clear HB; clear HO337; have HB := n0_
                      have HO342 := n1_
                      clear n0_ n1_; clear ho hb hg hat; refine hK.out _ _ ⟨((HB.out.cell (wL w _ hw338_0)).trans hw338_0), ((HB.out.cell (wL w _ hw338_1)).trans hw338_1), ((HB.out.cell (wL w _ hw339_0)).trans hw339_0), ((HB.out.cell (wL w _ hw339_1)).trans hw339_1)⟩ (fun hHeld => ?_)
                      clear hK K; refine norm_ (a' := ?_) ?_ ?_
                      rotate_left
                      ·
                       show Act.put _ (some 172) _ = _
                       simp only [Act.put, lA, lZ, lS, i64_w, i32_w]; rfl
                      refine pure_ (i := 15) (N := some 14) (v := ?_) (a' := ?_) #[T,T,T,T,T,T,T,T,T,T,T,T,T,T,T,T] rfl rfl (any_of HT_.out (by kernel_rfl)) (fun _ _ _ h => h) (Or.inl ⟨by rfl, ?_⟩) ?_ ?_
                      rotate_left
                      ·
                       intro w'; go_simp; with_reducible rfl
                      rotate_left
                      ·
                       simp only [Act.put, lA, lZ, lS, i64_w, i32_w]; rfl
                      refine done_ (done_of HT_.out (by kernel_rfl)) ?_
                      try go_wp2
                      go_roundg k5
                      case measure => have := HJ6.out; have := HK2.out; have := HJ35.out; have := HJ60.out; have := HK5.out; omega
                      case rel => exact ⟨(y340), (wrap64 (x15_5 + 1)), (by first | rfl | (simp; done) | (simp [*]; done)), H', ⟨by have := HJ6.out; have := HK2.out; have := HJ35.out; have := HJ60.out; have := HK5.out; omega⟩, ⟨by (with_reducible repeat (first | apply Kd.R_alloc | apply Kd.R_drewN | apply Kd.R_drew)); exact HO342.out⟩, ⟨by repeat (first | (with_reducible first | exact HB.out | apply bL | apply bW | apply b1) | exact HB.out)⟩⟩
                     ·
                      rw [if_neg c81] at H; exact absurd H (by simp)
                    ·
                     rw [if_neg c80] at H; exact absurd H (by simp)
                   ·
                    rw [if_neg c79] at H; exact absurd H (by simp)
                  ·
                   rw [if_neg c78] at H; have c78b0 : (x15_5 == a3) = false := beq_eq_false_iff_ne.mpr c78
                   have c78b1 : (x15_5 != a3) = true := bne_iff_ne.mpr c78
                   have H' := Aside0.mk H
                   clear H; have p334 : 0 ≤ (x15_5 : Int) := of_decide_eq_true (by first | (with_reducible assumption) | assumption)
                   have q334 : x15_5 < (l0.length : Int) := of_decide_eq_true (by first | (with_reducible assumption) | assumption)
                   obtain ⟨ad334, e334, hx334_0, hx334_1⟩ := at_T37 HR0.out x15_5 p334 q334
                   cases e334
                   replace hx334_0 := (HB.out.cell (wL w _ hx334_0)).trans hx334_0
                   replace hx334_1 := (HB.out.cell (wL w _ hx334_1)).trans hx334_1
                   replace p334 := eq_true p334
                   replace q334 := eq_true q334
                   go_wp2_with (first | ((with_reducible refine gate_builtin (b := .append) (xs := #[.tmp 148, .tmp 153]) rfl ?_); (try (refine gate_guard (by rfl) ?_; dsimp only)); at_builtin; refine Kd.R_append k37 (w0 := w) w.heap.size rfl (.tmp 148) (.tmp 153) 22 37 (.agg #[(.int .i64 0), (.int .i64 0)]) 16 rfl Try.underlying22 info37 rfl (by decide) (by omega) u14 x14_5 (⟨(rd_T37 l0 x15_5).f0, (rd_T37 l0 x15_5).f1⟩ : S37) [.int .i64 ((rd_T37 l0 x15_5).f0), .int .i64 ((rd_T37 l0 x15_5).f1)] (fun _ => True) (fun _ => False) rfl rfl ?aP (fun _ hk => hk.elim) ?aF ?aO ?aB ?aS ?aL ?_; (case aP => exact k37_mkM _ _ _ (⟨(rd_T37 l0 x15_5).f0, (rd_T37 l0 x15_5).f1⟩ : S37)); (case aB => exact (by repeat (first | (with_reducible first | exact HB.out | apply bL | apply bW | apply b1) | exact HB.out))); (case aF => exact (fun _ _ => trivial)); (case aO => exact (by (with_reducible repeat (first | apply Kd.R_alloc | apply Kd.R_drewN | apply Kd.R_drew)); exact HO_14.out)); (case aS => exact (bZ (by repeat (first | (with_reducible first | exact HB.out | apply bL | apply bW | apply b1) | exact HB.out)))); (case aL => have := LMc77.out; omega); intro v336 w85 ho hb hg hat; rw [← Ny335.out] at ho; have n0_ := Aside0.mk (hb); have n1_ := Aside0.mk (ho); clear HB; clear HO_14; have HB := n0_; have HO337 := n1_; clear n0_ n1_; clear ho hb hg hat))
                   go_roundg k5
                   case measure => have := HJ6.out; have := HK2.out; have := HJ35.out; have := HJ60.out; have := HK5.out; omega
                   case rel => exact ⟨(y335), (wrap64 (x15_5 + 1)), (by first | rfl | (simp; done) | (simp [*]; done)), H', ⟨by have := HJ6.out; have := HK2.out; have := HJ35.out; have := HJ60.out; have := HK5.out; omega⟩, ⟨by (with_reducible repeat (first | apply Kd.R_alloc | apply Kd.R_drewN | apply Kd.R_drew)); exact HO337.out⟩, ⟨by repeat (first | (with_reducible first | exact HB.out | apply bL | apply bW | apply b1) | exact HB.out)⟩⟩
                 ·
                  rw [if_neg c77] at H; exact absurd H (by simp)
                ·
                 rw [if_neg c76] at H; exact absurd H (by simp)
               ·
                rw [if_neg c75] at H; have c75b0 : decide (x15_5 < (l0.length : Int)) = false := decide_eq_false c75
                clear c75; have HC86 := Aside0.mk H
                clear H; go_upto_region 20 with (fail)
                go_cut [16] (fun v16 wc => ∃ (kq : Nat) (x16_85 : Bool), v16 = .bool x16_85 ∧ Aside0 (bournelaw10_CurvePoints.j5 kq l0 l1 t317 x14_5 x16_85 = some r) ∧ Aside0 (kq ≤ k5) ∧ Aside0 (Kd.R k37 37 wc w.heap.size (fun _ => True) u14 x14_5) ∧ Aside0 (Below w.heap.size w wc))
                case first =>
                 have H := HC86.out
                 clear HC86; replace H := Option.bind_eq_some_iff.mp H
                 obtain ⟨t343, A870, H⟩ := H
                 have A87 := Aside0.mk A870
                 clear A870; replace H := Option.bind_eq_some_iff.mp H
                 obtain ⟨t344, A880, H⟩ := H
                 have A88 := Aside0.mk A880
                 clear A880; by_cases c89 : t343 = t344
                 ·
                  rw [if_pos c89] at H; have c89b0 : (t343 == t344) = true := beq_iff_eq.mpr c89
                  have c89b1 : (t343 != t344) = false := bne_eq_false_iff_eq.mpr c89
                  clear c89; (first | rw [c89b0] | (simp only [i64_w, i32_w]; rw [c89b0]) | skip)
                  replace H := Option.bind_eq_some_iff.mp H
                  obtain ⟨t345, A900, H⟩ := H
                  have A90 := Aside0.mk A900
                  clear A900; by_cases c91 : t345 = true
                  ·
                   subst c91; have H1 : ((curve_Under.f k5 l0 x14_5).bind fun t346 => (bournelaw10_CurvePoints.j5 k5 l0 l1 t317 x14_5 t346)) = some r := by rw [if_pos rfl] at H; exact H
                   clear H; have H := H1
                   clear H1; replace H := Option.bind_eq_some_iff.mp H
                   obtain ⟨t346, A920, H⟩ := H
                   have A92 := Aside0.mk A920
                   clear A920; have H' := Aside0.mk H
                   clear H; obtain ⟨Ao93, co93, eo93⟩ := Kd.R_slice HO_14.out
                   subst eo93
                   as_aux_lemma =>
                    go_wp2_with (first | ((with_reducible refine gate_callee (f := 13) rfl ?_); refine goesL_ (some 175) rfl rfl Try.func13 (by kernel_rfl) rfl #[.slice Ao93 x14_5.length co93, .int .i64 a2] rfl (by (try simp only [List.map_toArray, List.map_cons, List.map_nil]); first | done | rfl | (simp only [List.length_drop, List.length_take]; rfl)) ?_; (with_reducible refine (curve_At.calls k5 _ _ x14_5 a2 t343 _ ?side1 ?side2 A87.out).mono ?_); (case side1 => repeat (first | exact (Kd.R_reads' HO_14.out).2.2 | (with_reducible refine Kd.C_alloc ?_ _) | (with_reducible refine Kd.C_drewN ?_ _) | (with_reducible refine Kd.C_drew ?_))); (case side2 => exact (Kd.R_reads' HO_14.out).2.1); rintro e w94 ⟨rfl, hb⟩; refine ⟨_, rfl, ?_⟩; have n0_ := Aside0.mk (Kd.R_below (by (with_reducible repeat (first | apply Kd.R_alloc | apply Kd.R_drewN | apply Kd.R_drew)); exact HO_14.out) hb); have n1_ := Aside0.mk (bP (by repeat (first | (with_reducible first | exact HB.out | apply bL | apply bW | apply b1) | exact HB.out)) hb); clear HO_14; clear HB; have HO_14 := n0_; have HB := n1_; clear n0_ n1_; (try clear hb); (try clear hb2); (try clear hk); (try clear hi)) | ((with_reducible refine gate_callee (f := 13) rfl ?_); refine goesL_ (some 178) rfl rfl Try.func13 (by kernel_rfl) rfl #[.slice A0 l0.length c0, .int .i64 a2] rfl (by (try simp only [List.map_toArray, List.map_cons, List.map_nil]); first | done | rfl | (simp only [List.length_drop, List.length_take]; rfl)) ?_; (with_reducible refine (curve_At.calls k5 _ _ l0 a2 t344 _ ?side1 ?side2 A88.out).mono ?_); (case side1 => repeat (first | exact (Kd.C_below HR0.out HB.out) | (with_reducible refine Kd.C_alloc ?_ _) | (with_reducible refine Kd.C_drewN ?_ _) | (with_reducible refine Kd.C_drew ?_))); (case side2 => exact HC0.out); rintro e w95 ⟨rfl, hb⟩; refine ⟨_, rfl, ?_⟩; have n0_ := Aside0.mk (Kd.R_below (by (with_reducible repeat (first | apply Kd.R_alloc | apply Kd.R_drewN | apply Kd.R_drew)); exact HO_14.out) hb); have n1_ := Aside0.mk (bP (by repeat (first | (with_reducible first | exact HB.out | apply bL | apply bW | apply b1) | exact HB.out)) hb); clear HO_14; clear HB; have HO_14 := n0_; have HB := n1_; clear n0_ n1_; (try clear hb); (try clear hb2); (try clear hk); (try clear hi)) | (go_at_call 17; (with_reducible refine (curve_Under.calls k5 _ _ x14_5 _ _ l0 true _ ?side1 ?side2 ?side3 ?side4 A90.out).mono ?_); (case side1 => repeat (first | exact (Kd.R_reads' HO_14.out).2.2 | (with_reducible refine Kd.C_alloc ?_ _) | (with_reducible refine Kd.C_drewN ?_ _) | (with_reducible refine Kd.C_drew ?_))); (case side2 => exact (Kd.R_reads' HO_14.out).2.1); (case side3 => repeat (first | exact (Kd.C_below HR0.out HB.out) | (with_reducible refine Kd.C_alloc ?_ _) | (with_reducible refine Kd.C_drewN ?_ _) | (with_reducible refine Kd.C_drew ?_))); (case side4 => exact HC0.out); rintro e w96 ⟨rfl, hb⟩; (try clear A90); have n0_ := Aside0.mk (Kd.R_below (by (with_reducible repeat (first | apply Kd.R_alloc | apply Kd.R_drewN | apply Kd.R_drew)); exact HO_14.out) hb); have n1_ := Aside0.mk (bP (by repeat (first | (with_reducible first | exact HB.out | apply bL | apply bW | apply b1) | exact HB.out)) hb); clear HO_14; clear HB; have HO_14 := n0_; have HB := n1_; clear n0_ n1_; (try clear hb); (try clear hb2); (try clear hk); (try clear hi)) | (go_at_call 17; (with_reducible refine (curve_Under.calls k5 _ _ l0 _ _ x14_5 t346 _ ?side1 ?side2 ?side3 ?side4 A92.out).mono ?_); (case side1 => repeat (first | exact (Kd.C_below HR0.out HB.out) | (with_reducible refine Kd.C_alloc ?_ _) | (with_reducible refine Kd.C_drewN ?_ _) | (with_reducible refine Kd.C_drew ?_))); (case side2 => exact HC0.out); (case side3 => repeat (first | exact (Kd.R_reads' HO_14.out).2.2 | (with_reducible refine Kd.C_alloc ?_ _) | (with_reducible refine Kd.C_drewN ?_ _) | (with_reducible refine Kd.C_drew ?_))); (case side4 => exact (Kd.R_reads' HO_14.out).2.1); rintro e w97 ⟨rfl, hb⟩; (try clear A92); have n0_ := Aside0.mk (Kd.R_below (by (with_reducible repeat (first | apply Kd.R_alloc | apply Kd.R_drewN | apply Kd.R_drew)); exact HO_14.out) hb); have n1_ := Aside0.mk (bP (by repeat (first | (with_reducible first | exact HB.out | apply bL | apply bW | apply b1) | exact HB.out)) hb); clear HO_14; clear HB; have HO_14 := n0_; have HB := n1_; clear n0_ n1_; (try clear hb); (try clear hb2); (try clear hk); (try clear hi)))
                    go_meet
                    case rel => exact ⟨_, (t346), (by first | rfl | (simp; done) | (simp [*]; done)), H', ⟨by have := HJ6.out; have := HK2.out; have := HJ35.out; have := HJ60.out; have := HK5.out; first | omega | exact Nat.le_refl _⟩, ⟨by (with_reducible repeat (first | apply Kd.R_alloc | apply Kd.R_drewN | apply Kd.R_drew)); exact HO_14.out⟩, ⟨by repeat (first | (with_reducible first | exact HB.out | apply bL | apply bW | apply b1) | exact HB.out)⟩⟩
                  ·
                   replace c91 := Bool.eq_false_iff.mpr c91
                   subst c91; have H1 : (bournelaw10_CurvePoints.j5 k5 l0 l1 t317 x14_5 false) = some r := by rw [if_neg (show ¬ (false = true) by decide)] at H; exact H
                   clear H; have H := H1
                   clear H1; have H' := Aside0.mk H
                   clear H; obtain ⟨Ao98, co98, eo98⟩ := Kd.R_slice HO_14.out
                   subst eo98
                   as_aux_lemma =>
                    go_wp2_with (first | ((with_reducible refine gate_callee (f := 13) rfl ?_); refine goesL_ (some 175) rfl rfl Try.func13 (by kernel_rfl) rfl #[.slice Ao98 x14_5.length co98, .int .i64 a2] rfl (by (try simp only [List.map_toArray, List.map_cons, List.map_nil]); first | done | rfl | (simp only [List.length_drop, List.length_take]; rfl)) ?_; (with_reducible refine (curve_At.calls k5 _ _ x14_5 a2 t343 _ ?side1 ?side2 A87.out).mono ?_); (case side1 => repeat (first | exact (Kd.R_reads' HO_14.out).2.2 | (with_reducible refine Kd.C_alloc ?_ _) | (with_reducible refine Kd.C_drewN ?_ _) | (with_reducible refine Kd.C_drew ?_))); (case side2 => exact (Kd.R_reads' HO_14.out).2.1); rintro e w99 ⟨rfl, hb⟩; refine ⟨_, rfl, ?_⟩; have n0_ := Aside0.mk (Kd.R_below (by (with_reducible repeat (first | apply Kd.R_alloc | apply Kd.R_drewN | apply Kd.R_drew)); exact HO_14.out) hb); have n1_ := Aside0.mk (bP (by repeat (first | (with_reducible first | exact HB.out | apply bL | apply bW | apply b1) | exact HB.out)) hb); clear HO_14; clear HB; have HO_14 := n0_; have HB := n1_; clear n0_ n1_; (try clear hb); (try clear hb2); (try clear hk); (try clear hi)) | ((with_reducible refine gate_callee (f := 13) rfl ?_); refine goesL_ (some 178) rfl rfl Try.func13 (by kernel_rfl) rfl #[.slice A0 l0.length c0, .int .i64 a2] rfl (by (try simp only [List.map_toArray, List.map_cons, List.map_nil]); first | done | rfl | (simp only [List.length_drop, List.length_take]; rfl)) ?_; (with_reducible refine (curve_At.calls k5 _ _ l0 a2 t344 _ ?side1 ?side2 A88.out).mono ?_); (case side1 => repeat (first | exact (Kd.C_below HR0.out HB.out) | (with_reducible refine Kd.C_alloc ?_ _) | (with_reducible refine Kd.C_drewN ?_ _) | (with_reducible refine Kd.C_drew ?_))); (case side2 => exact HC0.out); rintro e w100 ⟨rfl, hb⟩; refine ⟨_, rfl, ?_⟩; have n0_ := Aside0.mk (Kd.R_below (by (with_reducible repeat (first | apply Kd.R_alloc | apply Kd.R_drewN | apply Kd.R_drew)); exact HO_14.out) hb); have n1_ := Aside0.mk (bP (by repeat (first | (with_reducible first | exact HB.out | apply bL | apply bW | apply b1) | exact HB.out)) hb); clear HO_14; clear HB; have HO_14 := n0_; have HB := n1_; clear n0_ n1_; (try clear hb); (try clear hb2); (try clear hk); (try clear hi)) | (go_at_call 17; (with_reducible refine (curve_Under.calls k5 _ _ x14_5 _ _ l0 false _ ?side1 ?side2 ?side3 ?side4 A90.out).mono ?_); (case side1 => repeat (first | exact (Kd.R_reads' HO_14.out).2.2 | (with_reducible refine Kd.C_alloc ?_ _) | (with_reducible refine Kd.C_drewN ?_ _) | (with_reducible refine Kd.C_drew ?_))); (case side2 => exact (Kd.R_reads' HO_14.out).2.1); (case side3 => repeat (first | exact (Kd.C_below HR0.out HB.out) | (with_reducible refine Kd.C_alloc ?_ _) | (with_reducible refine Kd.C_drewN ?_ _) | (with_reducible refine Kd.C_drew ?_))); (case side4 => exact HC0.out); rintro e w101 ⟨rfl, hb⟩; (try clear A90); have n0_ := Aside0.mk (Kd.R_below (by (with_reducible repeat (first | apply Kd.R_alloc | apply Kd.R_drewN | apply Kd.R_drew)); exact HO_14.out) hb); have n1_ := Aside0.mk (bP (by repeat (first | (with_reducible first | exact HB.out | apply bL | apply bW | apply b1) | exact HB.out)) hb); clear HO_14; clear HB; have HO_14 := n0_; have HB := n1_; clear n0_ n1_; (try clear hb); (try clear hb2); (try clear hk); (try clear hi)))
                    go_meet
                    case rel => exact ⟨_, (false), (by first | rfl | (simp; done) | (simp [*]; done)), H', ⟨by have := HJ6.out; have := HK2.out; have := HJ35.out; have := HJ60.out; have := HK5.out; first | omega | exact Nat.le_refl _⟩, ⟨by (with_reducible repeat (first | apply Kd.R_alloc | apply Kd.R_drewN | apply Kd.R_drew)); exact HO_14.out⟩, ⟨by repeat (first | (with_reducible first | exact HB.out | apply bL | apply bW | apply b1) | exact HB.out)⟩⟩
                 ·
                  rw [if_neg c89] at H; have c89b0 : (t343 == t344) = false := beq_eq_false_iff_ne.mpr c89
                  have c89b1 : (t343 != t344) = true := bne_iff_ne.mpr c89
                  (first | rw [c89b0] | (simp only [i64_w, i32_w]; rw [c89b0]) | skip)
                  have H' := Aside0.mk H
                  clear H; obtain ⟨Ao102, co102, eo102⟩ := Kd.R_slice HO_14.out
                  subst eo102
                  as_aux_lemma =>
                   go_wp2_with (first | ((with_reducible refine gate_callee (f := 13) rfl ?_); refine goesL_ (some 175) rfl rfl Try.func13 (by kernel_rfl) rfl #[.slice Ao102 x14_5.length co102, .int .i64 a2] rfl (by (try simp only [List.map_toArray, List.map_cons, List.map_nil]); first | done | rfl | (simp only [List.length_drop, List.length_take]; rfl)) ?_; (with_reducible refine (curve_At.calls k5 _ _ x14_5 a2 t343 _ ?side1 ?side2 A87.out).mono ?_); (case side1 => repeat (first | exact (Kd.R_reads' HO_14.out).2.2 | (with_reducible refine Kd.C_alloc ?_ _) | (with_reducible refine Kd.C_drewN ?_ _) | (with_reducible refine Kd.C_drew ?_))); (case side2 => exact (Kd.R_reads' HO_14.out).2.1); rintro e w103 ⟨rfl, hb⟩; refine ⟨_, rfl, ?_⟩; have n0_ := Aside0.mk (Kd.R_below (by (with_reducible repeat (first | apply Kd.R_alloc | apply Kd.R_drewN | apply Kd.R_drew)); exact HO_14.out) hb); have n1_ := Aside0.mk (bP (by repeat (first | (with_reducible first | exact HB.out | apply bL | apply bW | apply b1) | exact HB.out)) hb); clear HO_14; clear HB; have HO_14 := n0_; have HB := n1_; clear n0_ n1_; (try clear hb); (try clear hb2); (try clear hk); (try clear hi)) | ((with_reducible refine gate_callee (f := 13) rfl ?_); refine goesL_ (some 178) rfl rfl Try.func13 (by kernel_rfl) rfl #[.slice A0 l0.length c0, .int .i64 a2] rfl (by (try simp only [List.map_toArray, List.map_cons, List.map_nil]); first | done | rfl | (simp only [List.length_drop, List.length_take]; rfl)) ?_; (with_reducible refine (curve_At.calls k5 _ _ l0 a2 t344 _ ?side1 ?side2 A88.out).mono ?_); (case side1 => repeat (first | exact (Kd.C_below HR0.out HB.out) | (with_reducible refine Kd.C_alloc ?_ _) | (with_reducible refine Kd.C_drewN ?_ _) | (with_reducible refine Kd.C_drew ?_))); (case side2 => exact HC0.out); rintro e w104 ⟨rfl, hb⟩; refine ⟨_, rfl, ?_⟩; have n0_ := Aside0.mk (Kd.R_below (by (with_reducible repeat (first | apply Kd.R_alloc | apply Kd.R_drewN | apply Kd.R_drew)); exact HO_14.out) hb); have n1_ := Aside0.mk (bP (by repeat (first | (with_reducible first | exact HB.out | apply bL | apply bW | apply b1) | exact HB.out)) hb); clear HO_14; clear HB; have HO_14 := n0_; have HB := n1_; clear n0_ n1_; (try clear hb); (try clear hb2); (try clear hk); (try clear hi)))
                   go_meet
                   case rel => exact ⟨_, (false), (by first | rfl | (simp; done) | (simp [*]; done)), H', ⟨by have := HJ6.out; have := HK2.out; have := HJ35.out; have := HJ60.out; have := HK5.out; first | omega | exact Nat.le_refl _⟩, ⟨by (with_reducible repeat (first | apply Kd.R_alloc | apply Kd.R_drewN | apply Kd.R_drew)); exact HO_14.out⟩, ⟨by repeat (first | (with_reducible first | exact HB.out | apply bL | apply bW | apply b1) | exact HB.out)⟩⟩
                case rest =>
                 clear HC86; try clear c1
                 try clear p2
                 try clear p3
                 try clear q3
                 try clear hx3
                 try clear c6
                 try clear p6
                 try clear c7
                 try clear c8
                 try clear c9
                 try clear c13
                 try clear p33
                 try clear q33
                 try clear hx33
                 try clear p64
                 try clear c67
                 try clear c68
                 try clear c69
                 try clear c70
                 try clear c71
                 try clear c71b0
                 try clear c71b1
                 try clear c74
                 try clear c75
                 try clear c75b0
                 try clear c76
                 try clear c76b0
                 try clear c77
                 try clear c78
                 try clear c78b0
                 try clear c78b1
                 try clear c79
                 try clear c79b0
                 try clear c80
                 try clear c80b0
                 try clear c81
                 try clear c89
                 try clear c89b0
                 try clear c89b1
                 try clear c91
                 try clear hx330_0
                 try clear hx330_1
                 try clear hx331_0
                 try clear hx331_1
                 try clear hx334_0
                 try clear hx334_1
                 try clear hx338_0
                 try clear hx338_1
                 try clear hx339_0
                 try clear hx339_1
                 try clear p2
                 try clear p3
                 try clear p33
                 try clear p330
                 try clear p331
                 try clear p334
                 try clear p338
                 try clear p339
                 try clear p6
                 try clear p64
                 try clear q3
                 try clear q33
                 try clear q330
                 try clear q331
                 try clear q334
                 try clear q338
                 try clear q339
                 obtain ⟨kq, x16_85, rfl, HA, HJ85, HO_14, HB⟩ := hcut
                 cases kq with
                 | zero => exact absurd HA.out (by simp [bournelaw10_CurvePoints.j5])
                 | succ kj85 =>
                  have H := HA.out
                  clear HA; simp only [bournelaw10_CurvePoints.j5] at H; by_cases c105 : t317 = true
                  ·
                   subst c105; have H1 : (if x16_85 = true then ((curve_Under.f kj85 x14_5 l1).bind fun t347 => ((curve_Under.f kj85 l0 l1).bind fun t348 => (if (t347 == t348) = true then ((curve_Under.f kj85 l1 x14_5).bind fun t349 => ((curve_Under.f kj85 l1 l0).bind fun t350 => (some (t349 == t350)))) else (some false)))) else (some false)) = some r := by rw [if_pos rfl] at H; exact H
                   clear H; have H := H1
                   clear H1; by_cases c106 : x16_85 = true
                   ·
                    subst c106; have H1 : ((curve_Under.f kj85 x14_5 l1).bind fun t347 => ((curve_Under.f kj85 l0 l1).bind fun t348 => (if (t347 == t348) = true then ((curve_Under.f kj85 l1 x14_5).bind fun t349 => ((curve_Under.f kj85 l1 l0).bind fun t350 => (some (t349 == t350)))) else (some false)))) = some r := by rw [if_pos rfl] at H; exact H
                    clear H; have H := H1
                    clear H1; replace H := Option.bind_eq_some_iff.mp H
                    obtain ⟨t347, A1070, H⟩ := H
                    have A107 := Aside0.mk A1070
                    clear A1070; replace H := Option.bind_eq_some_iff.mp H
                    obtain ⟨t348, A1080, H⟩ := H
                    have A108 := Aside0.mk A1080
                    clear A1080; by_cases c109 : (t347 == t348) = true
                    ·
                     rw [if_pos c109] at H; have c109b0 : (t347 == t348) = true := c109
                     (try (have c109b1 : decide (t347 = t348) = true := by simpa using c109))
                     (try (have c109b2 : (t347 == t348) = true := by simpa using c109))
                     clear c109; replace H := Option.bind_eq_some_iff.mp H
                     obtain ⟨t349, A1100, H⟩ := H
                     have A110 := Aside0.mk A1100
                     clear A1100; replace H := Option.bind_eq_some_iff.mp H
                     obtain ⟨t350, A1110, H⟩ := H
                     have A111 := Aside0.mk A1110
                     clear A1110; obtain rfl := Option.some.inj H
                     obtain ⟨Ao112, co112, eo112⟩ := Kd.R_slice HO_14.out
                     subst eo112
                     as_aux_lemma =>
                      go_wp2_with (first | (go_at_call 17; (with_reducible refine (curve_Under.calls kj85 _ _ x14_5 _ _ l1 t347 _ ?side1 ?side2 ?side3 ?side4 A107.out).mono ?_); (case side1 => repeat (first | exact (Kd.R_reads' HO_14.out).2.2 | (with_reducible refine Kd.C_alloc ?_ _) | (with_reducible refine Kd.C_drewN ?_ _) | (with_reducible refine Kd.C_drew ?_))); (case side2 => exact (Kd.R_reads' HO_14.out).2.1); (case side3 => repeat (first | exact (Kd.C_below HR1.out HB.out) | (with_reducible refine Kd.C_alloc ?_ _) | (with_reducible refine Kd.C_drewN ?_ _) | (with_reducible refine Kd.C_drew ?_))); (case side4 => exact HC1.out); rintro e w113 ⟨rfl, hb⟩; (try clear A107); have n0_ := Aside0.mk (Kd.R_below (by (with_reducible repeat (first | apply Kd.R_alloc | apply Kd.R_drewN | apply Kd.R_drew)); exact HO_14.out) hb); have n1_ := Aside0.mk (bP (by repeat (first | (with_reducible first | exact HB.out | apply bL | apply bW | apply b1) | exact HB.out)) hb); clear HO_14; clear HB; have HO_14 := n0_; have HB := n1_; clear n0_ n1_; (try clear hb); (try clear hb2); (try clear hk); (try clear hi)) | (go_at_call 17; (with_reducible refine (curve_Under.calls kj85 _ _ l0 _ _ l1 t348 _ ?side1 ?side2 ?side3 ?side4 A108.out).mono ?_); (case side1 => repeat (first | exact (Kd.C_below HR0.out HB.out) | (with_reducible refine Kd.C_alloc ?_ _) | (with_reducible refine Kd.C_drewN ?_ _) | (with_reducible refine Kd.C_drew ?_))); (case side2 => exact HC0.out); (case side3 => repeat (first | exact (Kd.C_below HR1.out HB.out) | (with_reducible refine Kd.C_alloc ?_ _) | (with_reducible refine Kd.C_drewN ?_ _) | (with_reducible refine Kd.C_drew ?_))); (case side4 => exact HC1.out); rintro e w114 ⟨rfl, hb⟩; (try clear A108); have n0_ := Aside0.mk (Kd.R_below (by (with_reducible repeat (first | apply Kd.R_alloc | apply Kd.R_drewN | apply Kd.R_drew)); exact HO_14.out) hb); have n1_ := Aside0.mk (bP (by repeat (first | (with_reducible first | exact HB.out | apply bL | apply bW | apply b1) | exact HB.out)) hb); clear HO_14; clear HB; have HO_14 := n0_; have HB := n1_; clear n0_ n1_; (try clear hb); (try clear hb2); (try clear hk); (try clear hi)) | (go_at_call 17; (with_reducible refine (curve_Under.calls kj85 _ _ l1 _ _ x14_5 t349 _ ?side1 ?side2 ?side3 ?side4 A110.out).mono ?_); (case side1 => repeat (first | exact (Kd.C_below HR1.out HB.out) | (with_reducible refine Kd.C_alloc ?_ _) | (with_reducible refine Kd.C_drewN ?_ _) | (with_reducible refine Kd.C_drew ?_))); (case side2 => exact HC1.out); (case side3 => repeat (first | exact (Kd.R_reads' HO_14.out).2.2 | (with_reducible refine Kd.C_alloc ?_ _) | (with_reducible refine Kd.C_drewN ?_ _) | (with_reducible refine Kd.C_drew ?_))); (case side4 => exact (Kd.R_reads' HO_14.out).2.1); rintro e w115 ⟨rfl, hb⟩; (try clear A110); have n0_ := Aside0.mk (Kd.R_below (by (with_reducible repeat (first | apply Kd.R_alloc | apply Kd.R_drewN | apply Kd.R_drew)); exact HO_14.out) hb); have n1_ := Aside0.mk (bP (by repeat (first | (with_reducible first | exact HB.out | apply bL | apply bW | apply b1) | exact HB.out)) hb); clear HO_14; clear HB; have HO_14 := n0_; have HB := n1_; clear n0_ n1_; (try clear hb); (try clear hb2); (try clear hk); (try clear hi)) | (go_at_call 17; (with_reducible refine (curve_Under.calls kj85 _ _ l1 _ _ l0 t350 _ ?side1 ?side2 ?side3 ?side4 A111.out).mono ?_); (case side1 => repeat (first | exact (Kd.C_below HR1.out HB.out) | (with_reducible refine Kd.C_alloc ?_ _) | (with_reducible refine Kd.C_drewN ?_ _) | (with_reducible refine Kd.C_drew ?_))); (case side2 => exact HC1.out); (case side3 => repeat (first | exact (Kd.C_below HR0.out HB.out) | (with_reducible refine Kd.C_alloc ?_ _) | (with_reducible refine Kd.C_drewN ?_ _) | (with_reducible refine Kd.C_drew ?_))); (case side4 => exact HC0.out); rintro e w116 ⟨rfl, hb⟩; (try clear A111); have n0_ := Aside0.mk (Kd.R_below (by (with_reducible repeat (first | apply Kd.R_alloc | apply Kd.R_drewN | apply Kd.R_drew)); exact HO_14.out) hb); have n1_ := Aside0.mk (bP (by repeat (first | (with_reducible first | exact HB.out | apply bL | apply bW | apply b1) | exact HB.out)) hb); clear HO_14; clear HB; have HO_14 := n0_; have HB := n1_; clear n0_ n1_; (try clear hb); (try clear hb2); (try clear hk); (try clear hi)))
                      go_ret
                      exact ⟨by first | rfl | (simp [errW_none, errW_some] <;> rfl) | (simp [*, errW_none, errW_some] <;> rfl), by repeat (first | (with_reducible first | exact HB.out | apply bL | apply bW | apply b1) | exact HB.out)⟩
                    ·
                     rw [if_neg c109] at H; have c109b0 : (t347 == t348) = false := by simpa using c109
                     (try (have c109b1 : decide (t347 = t348) = false := by simpa using c109))
                     (try (have c109b2 : (t347 == t348) = false := by simpa using c109))
                     (try (have c109b3 : ¬ (t347 = t348) := by simpa using c109))
                     clear c109; exact absurd (H.trans (congrArg some hT.out)) (by simp)
                   ·
                    replace c106 := Bool.eq_false_iff.mpr c106
                    subst c106; have H1 : (some false) = some r := by rw [if_neg (show ¬ (false = true) by decide)] at H; exact H
                    clear H; have H := H1
                    clear H1; exact absurd (H.trans (congrArg some hT.out)) (by simp)
                  ·
                   replace c105 := Bool.eq_false_iff.mpr c105
                   subst c105; have H1 : (some false) = some r := by rw [if_neg (show ¬ (false = true) by decide)] at H; exact H
                   clear H; have H := H1
                   clear H1; exact absurd (H.trans (congrArg some hT.out)) (by simp)
def bournelaw10_CurvePoints.Pure : Prop := ∀ (l0 : List (S37)) (l1 : List (S37)) (a2 : Int) (a3 : Int) (a4 : Int), l0.length ≤ maxLen → (∀ y, y ∈ l0 → w37 y) → l1.length ≤ maxLen → (∀ y, y ∈ l1 → w37 y) → (Lit.int .i64 a2).wf = true → (Lit.int .i64 a3).wf = true → (Lit.int .i64 a4).wf = true → ∃ k, bournelaw10_CurvePoints.f k l0 l1 a2 a3 a4 = some true
theorem bournelaw10_CurvePoints.walk (P_ : bournelaw10_CurvePoints.Pure) (A0 : Option Addr) (c0 : Nat) (l0 : List (S37)) (A1 : Option Addr) (c1 : Nat) (l1 : List (S37)) (a2 : Int) (a3 : Int) (a4 : Int) (w : World) (hr0 : Kd.C k37 w A0 l0.length l0) (hc0 : l0.length ≤ c0) (hr1 : Kd.C k37 w A1 l1.length l1) (hc1 : l1.length ≤ c1) (y0 : l0.length ≤ maxLen) (y1 : (∀ y, y ∈ l0 → w37 y)) (y2 : l1.length ≤ maxLen) (y3 : (∀ y, y ∈ l1 → w37 y)) (y4 : (Lit.int .i64 a2).wf = true) (y5 : (Lit.int .i64 a3).wf = true) (y6 : (Lit.int .i64 a4).wf = true) :
  Calls Try.prog 7 #[.slice A0 l0.length c0, .slice A1 l1.length c1, .int .i64 a2, .int .i64 a3, .int .i64 a4] w fun e w' => e = .returned (.bool true) ∧ Below w.heap.size w w' := by
 obtain ⟨k, h⟩ := P_ l0 l1 a2 a3 a4 y0 y1 y2 y3 y4 y5 y6
 refine (bournelaw10_CurvePoints.calls k A0 c0 l0 A1 c1 l1 a2 a3 a4 true w hr0 hc0 hr1 hc1 ⟨rfl⟩ h).mono ?_
 rintro e w' ⟨rfl, hd⟩
 exact ⟨rfl, hd⟩
end Go.Proofs.Ytmkekbehipaopaa.Fn
