-- written by this session's program myprint.py out of the translation; Lean checks it
import Derived.Test.YtmkekbehipaopaaFn0
import Derived.Test.YtmkekbehipaopaaRdT
import Derived.Test.YtmkekbehipaopaaFn1
import Derived.Test.YtmkekbehipaopaaFn2
import Derived.Test.YtmkekbehipaopaaFn4
import Derived.Test.YtmkekbehipaopaaFn7
import Derived.Test.YtmkekbehipaopaaFn8
import Derived.Test.YtmkekbehipaopaaFn9
import Derived.Test.YtmkekbehipaopaaFn11
import Derived.Test.YtmkekbehipaopaaFn12
import Derived.Test.YtmkekbehipaopaaFn13
namespace Go.Proofs.Ytmkekbehipaopaa.Fn
open Go.Proofs.Ytmkekbehipaopaa.Rd (w37)
open Go.RowKit Go.Proofs.YtmkekbehipaopaaW.PrintWords Go.Proofs.YtmkekbehipaopaaW.PrintLast Go.Proofs.YtmkekbehipaopaaW.PrintMore
open Bool renaming true → T, false → F
open List renaming setIfInBounds_toArray → lA, set_cons_zero → lZ, set_cons_succ → lS
open Go.Proofs.YtmkekbehipaopaaW.PrintWords renaming blk_drewN → bN, blk_drew → bD, blk_alloc → bA, below_set → bS, blk_cell → bC, blk_below → bB, blk_frozen → bF, pw_below_drewN → bW, below_drew1 → b1, below_alloc → bL, below_step → bP, below_size → bZ, blk_put → bU
attribute [local go_sem] max2_int min2_int max_two min_two max_three min_three max_four min_four
set_option linter.unusedVariables false
set_option linter.unusedSimpArgs false
attribute [local go_sem high] eqA33
mutual
def bournelaw10_CurveTells.j0 : Nat → List (S37) → List (S37) → Int → Int → Int → Int → Bool → Bool → Option (Bool)
 | 0, _, _, _, _, _, _, _, _ => none
 | k + 1, x0, x1, x2, x3, x4, x5, x13, x27 => if x27 = true then (some x13) else ((curve_Least.f k x0 x3).bind fun bt246 => ((bourneref10_Least.f k x0 x3).bind fun bt248 => (if bt246.1 = bt248.1 then (if (bt246.2 != bt248.2) = true then (bournelaw10_CurveTells.j1 k x0 x1 x2 x4 x5 x13 true) else ((curve_Right.f k x0).bind fun t250 => ((bourneref10_Right.f k x0).bind fun t251 => (if (t250 != t251) = true then (bournelaw10_CurveTells.j1 k x0 x1 x2 x4 x5 x13 true) else ((curve_At.f k x0 x2).bind fun t252 => ((bourneref10_At.f k x0 x2).bind fun t253 => (bournelaw10_CurveTells.j1 k x0 x1 x2 x4 x5 x13 (t252 != t253)))))))) else (bournelaw10_CurveTells.j1 k x0 x1 x2 x4 x5 x13 true))))
def bournelaw10_CurveTells.j1 : Nat → List (S37) → List (S37) → Int → Int → Int → Bool → Bool → Option (Bool)
 | 0, _, _, _, _, _, _, _ => none
 | k + 1, x0, x1, x2, x4, x5, x13, x64 => if x64 = true then (some false) else (if x13 = true then ((curve_Slope.f k x0 x4 x5).bind fun t255 => ((bourneref10_Slope.f k x0 x4 x5).bind fun t256 => (if (t255 == t256) = true then ((curve_Under.f k x0 x1).bind fun t257 => ((bourneref10_Under.f k x0 x1).bind fun t258 => (if (t257 == t258) = true then ((curve_Band.f k x0 x1 x2).bind fun bt259 => ((bourneref10_Band.f k x0 x1 x2).bind fun bt261 => (some (bt259.1 == bt261.1 && (bt259.2 == bt261.2))))) else (some false)))) else (some false)))) else (some false))
end
def bournelaw10_CurveTells.f (k : Nat) (l0 : List (S37)) (l1 : List (S37)) (a2 : Int) (a3 : Int) (a4 : Int) (a5 : Int) : Option (Bool) := (bournelaw10_small.f k).bind fun t245 => (if (l0.length : Int) > 40 then (bournelaw10_CurveTells.j0 k l0 l1 a2 a3 a4 a5 t245 true) else (bournelaw10_CurveTells.j0 k l0 l1 a2 a3 a4 a5 t245 (decide ((l1.length : Int) > 40))))
theorem bournelaw10_CurveTells.mono_l : ∀ k, (∀ y0 y1 y2 y3 y4 y5 y6 y7, LeO (bournelaw10_CurveTells.j0 k y0 y1 y2 y3 y4 y5 y6 y7) (bournelaw10_CurveTells.j0 (k + 1) y0 y1 y2 y3 y4 y5 y6 y7)) ∧ (∀ y0 y1 y2 y3 y4 y5 y6, LeO (bournelaw10_CurveTells.j1 k y0 y1 y2 y3 y4 y5 y6) (bournelaw10_CurveTells.j1 (k + 1) y0 y1 y2 y3 y4 y5 y6))
 | 0 => ⟨fun _ _ _ _ _ _ _ _ r h => by simp [bournelaw10_CurveTells.j0] at h, fun _ _ _ _ _ _ _ r h => by simp [bournelaw10_CurveTells.j1] at h⟩
 | k + 1 => by
  obtain ⟨ih0, ih1⟩ := bournelaw10_CurveTells.mono_l k
  refine ⟨?_, ?_⟩
  ·
   intro y0 y1 y2 y3 y4 y5 y6 y7; unfold bournelaw10_CurveTells.j0
   repeat' first
   | (with_reducible exact ih0 _ _ _ _ _ _ _ _)
   | (with_reducible exact ih1 _ _ _ _ _ _ _)
   | (with_reducible exact bournelaw10_small.mono _)
   | (with_reducible exact bourneref10_At.mono _ _ _)
   | (with_reducible exact bourneref10_Band.mono _ _ _ _)
   | (with_reducible exact bourneref10_Least.mono _ _ _)
   | (with_reducible exact bourneref10_Right.mono _ _)
   | (with_reducible exact bourneref10_Slope.mono _ _ _ _)
   | (with_reducible exact bourneref10_Under.mono _ _ _)
   | (with_reducible exact curve_At.mono _ _ _)
   | (with_reducible exact curve_Band.mono _ _ _ _)
   | (with_reducible exact curve_Least.mono _ _ _)
   | (with_reducible exact curve_Right.mono _ _)
   | (with_reducible exact curve_Slope.mono _ _ _ _)
   | (with_reducible exact curve_Under.mono _ _ _)
   | (with_reducible exact LeO.refl _)
   | (with_reducible exact LeO.none _)
   | (with_reducible refine LeO.ite ?_ ?_)
   | (with_reducible refine LeO.bind ?_ (fun _ => ?_))
   | exact ih0 _ _ _ _ _ _ _ _
   | exact ih1 _ _ _ _ _ _ _
   | exact bournelaw10_small.mono _
   | exact bourneref10_At.mono _ _ _
   | exact bourneref10_Band.mono _ _ _ _
   | exact bourneref10_Least.mono _ _ _
   | exact bourneref10_Right.mono _ _
   | exact bourneref10_Slope.mono _ _ _ _
   | exact bourneref10_Under.mono _ _ _
   | exact curve_At.mono _ _ _
   | exact curve_Band.mono _ _ _ _
   | exact curve_Least.mono _ _ _
   | exact curve_Right.mono _ _
   | exact curve_Slope.mono _ _ _ _
   | exact curve_Under.mono _ _ _
   | exact LeO.none _
   | refine LeO.ite ?_ ?_
   | refine LeO.bind ?_ (fun _ => ?_)
  ·
   intro y0 y1 y2 y3 y4 y5 y6; unfold bournelaw10_CurveTells.j1
   repeat' first
   | (with_reducible exact ih0 _ _ _ _ _ _ _ _)
   | (with_reducible exact ih1 _ _ _ _ _ _ _)
   | (with_reducible exact bournelaw10_small.mono _)
   | (with_reducible exact bourneref10_At.mono _ _ _)
   | (with_reducible exact bourneref10_Band.mono _ _ _ _)
   | (with_reducible exact bourneref10_Least.mono _ _ _)
   | (with_reducible exact bourneref10_Right.mono _ _)
   | (with_reducible exact bourneref10_Slope.mono _ _ _ _)
   | (with_reducible exact bourneref10_Under.mono _ _ _)
   | (with_reducible exact curve_At.mono _ _ _)
   | (with_reducible exact curve_Band.mono _ _ _ _)
   | (with_reducible exact curve_Least.mono _ _ _)
   | (with_reducible exact curve_Right.mono _ _)
   | (with_reducible exact curve_Slope.mono _ _ _ _)
   | (with_reducible exact curve_Under.mono _ _ _)
   | (with_reducible exact LeO.refl _)
   | (with_reducible exact LeO.none _)
   | (with_reducible refine LeO.ite ?_ ?_)
   | (with_reducible refine LeO.bind ?_ (fun _ => ?_))
   | exact ih0 _ _ _ _ _ _ _ _
   | exact ih1 _ _ _ _ _ _ _
   | exact bournelaw10_small.mono _
   | exact bourneref10_At.mono _ _ _
   | exact bourneref10_Band.mono _ _ _ _
   | exact bourneref10_Least.mono _ _ _
   | exact bourneref10_Right.mono _ _
   | exact bourneref10_Slope.mono _ _ _ _
   | exact bourneref10_Under.mono _ _ _
   | exact curve_At.mono _ _ _
   | exact curve_Band.mono _ _ _ _
   | exact curve_Least.mono _ _ _
   | exact curve_Right.mono _ _
   | exact curve_Slope.mono _ _ _ _
   | exact curve_Under.mono _ _ _
   | exact LeO.none _
   | refine LeO.ite ?_ ?_
   | refine LeO.bind ?_ (fun _ => ?_)
theorem bournelaw10_CurveTells.mono : ∀ a0 a1 a2 a3 a4 a5 k, LeO (bournelaw10_CurveTells.f k a0 a1 a2 a3 a4 a5) (bournelaw10_CurveTells.f (k + 1) a0 a1 a2 a3 a4 a5) := by
 intro a0 a1 a2 a3 a4 a5 k; obtain ⟨ih0, ih1⟩ := bournelaw10_CurveTells.mono_l k
 unfold bournelaw10_CurveTells.f
 repeat' first
   | (with_reducible exact ih0 _ _ _ _ _ _ _ _)
   | (with_reducible exact ih1 _ _ _ _ _ _ _)
   | (with_reducible exact bournelaw10_small.mono _)
   | (with_reducible exact bourneref10_At.mono _ _ _)
   | (with_reducible exact bourneref10_Band.mono _ _ _ _)
   | (with_reducible exact bourneref10_Least.mono _ _ _)
   | (with_reducible exact bourneref10_Right.mono _ _)
   | (with_reducible exact bourneref10_Slope.mono _ _ _ _)
   | (with_reducible exact bourneref10_Under.mono _ _ _)
   | (with_reducible exact curve_At.mono _ _ _)
   | (with_reducible exact curve_Band.mono _ _ _ _)
   | (with_reducible exact curve_Least.mono _ _ _)
   | (with_reducible exact curve_Right.mono _ _)
   | (with_reducible exact curve_Slope.mono _ _ _ _)
   | (with_reducible exact curve_Under.mono _ _ _)
   | (with_reducible exact LeO.refl _)
   | (with_reducible exact LeO.none _)
   | (with_reducible refine LeO.ite ?_ ?_)
   | (with_reducible refine LeO.bind ?_ (fun _ => ?_))
   | exact ih0 _ _ _ _ _ _ _ _
   | exact ih1 _ _ _ _ _ _ _
   | exact bournelaw10_small.mono _
   | exact bourneref10_At.mono _ _ _
   | exact bourneref10_Band.mono _ _ _ _
   | exact bourneref10_Least.mono _ _ _
   | exact bourneref10_Right.mono _ _
   | exact bourneref10_Slope.mono _ _ _ _
   | exact bourneref10_Under.mono _ _ _
   | exact curve_At.mono _ _ _
   | exact curve_Band.mono _ _ _ _
   | exact curve_Least.mono _ _ _
   | exact curve_Right.mono _ _
   | exact curve_Slope.mono _ _ _ _
   | exact curve_Under.mono _ _ _
   | exact LeO.none _
   | refine LeO.ite ?_ ?_
   | refine LeO.bind ?_ (fun _ => ?_)
def bournelaw10_CurveTells.T9 : Bool × List (List Nat × List Nat) := (true, [([], []), ([0], [0]), ([1], [1]), ([1], [1]), ([1], [1]), ([2, 3, 4, 1, 1], [1, 2, 3, 4]), ([1], [1]), ([1], [1]), ([1], [1]), ([6, 7, 8, 5, 1], [1, 6, 7, 8]), ([5, 9, 1], [1, 5, 9]), ([1, 10], [1, 10]), ([11, 9], [11]), ([12], [12]), ([12], [12]), ([13, 14, 12, 12], [12, 13, 14]), ([12], [12]), ([12], [12]), ([16, 17, 15, 12], [12, 16, 17]), ([15, 18, 12], [12, 15, 18]), ([12, 19], [12, 19]), ([20, 18], [20]), ([21], [21]), ([21], [21]), ([22, 23, 21, 21], [21, 22, 23]), ([21], [21]), ([21], [21]), ([25, 26, 24, 21], [21, 25, 26]), ([24, 27, 21], [21, 24, 27]), ([21, 28], [21, 28]), ([29, 27, 0, 1, 2, 3, 4, 5, 6, 7, 8, 9, 10, 11, 12, 13, 14, 15, 16, 17, 18, 19, 20, 21, 22, 23, 24, 25, 26, 27, 28, 29], [29])])
def bournelaw10_CurveTells.B9 : List Nat := [0, 1, 3, 3, 3, 31, 3, 3, 3, 511, 1023, 2047, 4095, 8191, 8191, 32767, 8191, 8191, 262143, 524287, 1048575, 2097151, 4194303, 4194303, 16777215, 4194303, 4194303, 134217727, 268435455, 536870911, 1073741823]
theorem bournelaw10_CurveTells.tab9 : rtab .any (opsOf Try.f3 9) = bournelaw10_CurveTells.T9 := by kernel_rfl
theorem bournelaw10_CurveTells.bits9 : waitsOk bournelaw10_CurveTells.T9.2 bournelaw10_CurveTells.B9 = true := by kernel_rfl
set_option maxHeartbeats 8000000 in
set_option maxRecDepth 100000 in
theorem bournelaw10_CurveTells.calls (k : Nat) (A0 : Option Addr) (c0 : Nat) (l0 : List (S37)) (A1 : Option Addr) (c1 : Nat) (l1 : List (S37)) (a2 : Int) (a3 : Int) (a4 : Int) (a5 : Int) (r : Bool) (w : World) (hr0 : Kd.C k37 w A0 l0.length l0) (hc0 : l0.length ≤ c0) (hr1 : Kd.C k37 w A1 l1.length l1) (hc1 : l1.length ≤ c1) (hT : Aside0 (r = true)) (h : bournelaw10_CurveTells.f k l0 l1 a2 a3 a4 a5 = some r) :
  Calls Try.prog 3 #[.slice A0 l0.length c0, .slice A1 l1.length c1, .int .i64 a2, .int .i64 a3, .int .i64 a4, .int .i64 a5] w fun e w' => e = .returned (.bool r) ∧ Below w.heap.size w w' := by
 have hu29 := Try.underlying29
 have HR0 := Aside0.mk hr0
 have HC0 := Aside0.mk hc0
 clear hr0 hc0; have HR1 := Aside0.mk hr1
 have HC1 := Aside0.mk hc1
 clear hr1 hc1; have HB := Aside0.mk (Below.refl w.heap.size w)
 have H : ((bournelaw10_small.f k).bind fun t245 => (if (l0.length : Int) > 40 then (bournelaw10_CurveTells.j0 k l0 l1 a2 a3 a4 a5 t245 true) else (bournelaw10_CurveTells.j0 k l0 l1 a2 a3 a4 a5 t245 (decide ((l1.length : Int) > 40))))) = some r := h
 clear h; replace H := Option.bind_eq_some_iff.mp H
 obtain ⟨t245, A70, H⟩ := H
 have A7 := Aside0.mk A70
 clear A70; have HC8 := Aside0.mk H
 clear H; go_enter Try.func3, Try.ntmps3
 (try simp only [List.append_eq, List.cons_append, List.nil_append]); go_upto_region 2 with (first | ((with_reducible refine gate_callee (f := 8) rfl ?_); refine goesL_ (some 19) rfl rfl Try.func8 (by kernel_rfl) rfl #[] rfl (by (try simp only [List.map_toArray, List.map_cons, List.map_nil]); first | done | rfl | (simp only [List.length_drop, List.length_take]; rfl)) ?_; (with_reducible refine (bournelaw10_small.calls k  t245 _ A7.out).mono ?_); rintro e w9 ⟨rfl, hb⟩; refine ⟨_, rfl, ?_⟩; have n0_ := Aside0.mk (bP (by repeat (first | (with_reducible first | exact HB.out | apply bL | apply bW | apply b1) | exact HB.out)) hb); clear HB; have HB := n0_; clear n0_; (try clear hb); (try clear hb2); (try clear hk); (try clear hi)))
 (try simp only [Act.put, lA, lZ, lS]); go_cut [27] (fun v27 wc => ∃ (kq : Nat) (x27_7 : Bool), v27 = .bool x27_7 ∧ Aside0 (bournelaw10_CurveTells.j0 kq l0 l1 a2 a3 a4 a5 t245 x27_7 = some r) ∧ Aside0 (kq ≤ k) ∧ Aside0 (Below w.heap.size w wc))
 case first =>
  have H := HC8.out
  clear HC8; by_cases c10 : (l0.length : Int) > 40
  ·
   rw [if_pos c10] at H; have c10b0 : decide (40 < (l0.length : Int)) = true := decide_eq_true c10
   have c10b1 : decide (40 < l0.length) = true := decide_eq_true (by omega)
   clear c10; (first | rw [c10b0] | (simp only [i64_w, i32_w]; rw [c10b0]) | skip)
   have H' := Aside0.mk H
   clear H; go_wp2
   go_meet
   case rel => exact ⟨_, (true), (by first | rfl | (simp; done) | (simp [*]; done)), H', ⟨by first | omega | exact Nat.le_refl _⟩, ⟨by repeat (first | (with_reducible first | exact HB.out | apply bL | apply bW | apply b1) | exact HB.out)⟩⟩
  ·
   rw [if_neg c10] at H; have c10b0 : decide (40 < (l0.length : Int)) = false := decide_eq_false c10
   have c10b1 : decide (40 < l0.length) = false := decide_eq_false (by omega)
   clear c10; (first | rw [c10b0] | (simp only [i64_w, i32_w]; rw [c10b0]) | skip)
   have H' := Aside0.mk H
   clear H; go_wp2
   go_meet
   case rel => exact ⟨_, (decide ((l1.length : Int) > 40)), (by first | rfl | (simp; done) | (simp [*]; done)), H', ⟨by first | omega | exact Nat.le_refl _⟩, ⟨by repeat (first | (with_reducible first | exact HB.out | apply bL | apply bW | apply b1) | exact HB.out)⟩⟩
 case rest =>
  clear HC8; try clear c1
  try clear p2
  try clear c3
  try clear c8
  try clear c10
  try clear c10b0
  try clear c10b1
  obtain ⟨kq, x27_7, rfl, HA, HJ7, HB⟩ := hcut
  cases kq with
  | zero => exact absurd HA.out (by simp [bournelaw10_CurveTells.j0])
  | succ kj7 =>
   have H := HA.out
   clear HA; simp only [bournelaw10_CurveTells.j0] at H; by_cases c11 : x27_7 = true
   ·
    subst c11; have H1 : (some t245) = some r := by rw [if_pos rfl] at H; exact H
    clear H; have H := H1
    clear H1; obtain rfl := Option.some.inj H
    go_wp2
    go_ret
    exact ⟨by first | rfl | (simp [errW_none, errW_some] <;> rfl) | (simp [*, errW_none, errW_some] <;> rfl), by repeat (first | (with_reducible first | exact HB.out | apply bL | apply bW | apply b1) | exact HB.out)⟩
   ·
    replace c11 := Bool.eq_false_iff.mpr c11
    subst c11; have H1 : ((curve_Least.f kj7 l0 a3).bind fun bt246 => ((bourneref10_Least.f kj7 l0 a3).bind fun bt248 => (if bt246.1 = bt248.1 then (if (bt246.2 != bt248.2) = true then (bournelaw10_CurveTells.j1 kj7 l0 l1 a2 a4 a5 t245 true) else ((curve_Right.f kj7 l0).bind fun t250 => ((bourneref10_Right.f kj7 l0).bind fun t251 => (if (t250 != t251) = true then (bournelaw10_CurveTells.j1 kj7 l0 l1 a2 a4 a5 t245 true) else ((curve_At.f kj7 l0 a2).bind fun t252 => ((bourneref10_At.f kj7 l0 a2).bind fun t253 => (bournelaw10_CurveTells.j1 kj7 l0 l1 a2 a4 a5 t245 (t252 != t253)))))))) else (bournelaw10_CurveTells.j1 kj7 l0 l1 a2 a4 a5 t245 true)))) = some r := by rw [if_neg (show ¬ (false = true) by decide)] at H; exact H
    clear H; have H := H1
    clear H1; replace H := Option.bind_eq_some_iff.mp H
    obtain ⟨⟨t246, t247⟩, A120, H⟩ := H
    dsimp only at H
    have A12 := Aside0.mk A120
    clear A120; replace H := Option.bind_eq_some_iff.mp H
    obtain ⟨⟨t248, t249⟩, A130, H⟩ := H
    dsimp only at H
    have A13 := Aside0.mk A130
    clear A130; have HC14 := Aside0.mk H
    clear H; go_upto_region 6 with (first | ((with_reducible refine gate_callee (f := 9) rfl ?_); refine goesL_ (some 32) rfl rfl Try.func9 (by kernel_rfl) rfl #[.slice A0 l0.length c0, .int .i64 a3] rfl (by (try simp only [List.map_toArray, List.map_cons, List.map_nil]); first | done | rfl | (simp only [List.length_drop, List.length_take]; rfl)) ?_; (with_reducible refine (curve_Least.calls kj7 _ _ l0 a3 t246 t247 _ ?side1 ?side2 A12.out).mono ?_); (case side1 => repeat (first | exact (Kd.C_below HR0.out HB.out) | (with_reducible refine Kd.C_alloc ?_ _) | (with_reducible refine Kd.C_drewN ?_ _) | (with_reducible refine Kd.C_drew ?_))); (case side2 => exact HC0.out); rintro e w15 ⟨rfl, hb⟩; refine ⟨_, rfl, ?_⟩; have n0_ := Aside0.mk (bP (by repeat (first | (with_reducible first | exact HB.out | apply bL | apply bW | apply b1) | exact HB.out)) hb); clear HB; have HB := n0_; clear n0_; (try clear hb); (try clear hb2); (try clear hk); (try clear hi)) | ((with_reducible refine gate_callee (f := 10) rfl ?_); refine goesL_ (some 38) rfl rfl Try.func10 (by kernel_rfl) rfl #[.slice A0 l0.length c0, .int .i64 a3] rfl (by (try simp only [List.map_toArray, List.map_cons, List.map_nil]); first | done | rfl | (simp only [List.length_drop, List.length_take]; rfl)) ?_; (with_reducible refine (bourneref10_Least.calls kj7 _ _ l0 a3 t248 t249 _ ?side1 ?side2 A13.out).mono ?_); (case side1 => repeat (first | exact (Kd.C_below HR0.out HB.out) | (with_reducible refine Kd.C_alloc ?_ _) | (with_reducible refine Kd.C_drewN ?_ _) | (with_reducible refine Kd.C_drew ?_))); (case side2 => exact HC0.out); rintro e w16 ⟨rfl, hb⟩; refine ⟨_, rfl, ?_⟩; have n0_ := Aside0.mk (bP (by repeat (first | (with_reducible first | exact HB.out | apply bL | apply bW | apply b1) | exact HB.out)) hb); clear HB; have HB := n0_; clear n0_; (try clear hb); (try clear hb2); (try clear hk); (try clear hi)))
    (try simp only [Act.put, lA, lZ, lS]); go_cut [64] (fun v64 wc => ∃ (kq : Nat) (x64_13 : Bool), v64 = .bool x64_13 ∧ Aside0 (bournelaw10_CurveTells.j1 kq l0 l1 a2 a4 a5 t245 x64_13 = some r) ∧ Aside0 (kq ≤ kj7) ∧ Aside0 (Below w.heap.size w wc))
    case first =>
     have H := HC14.out
     clear HC14; by_cases c17 : t246 = t248
     ·
      rw [if_pos c17] at H; have c17b0 : (t246 == t248) = true := beq_iff_eq.mpr c17
      have c17b1 : (t246 != t248) = false := bne_eq_false_iff_eq.mpr c17
      clear c17; (first | rw [c17b0] | (simp only [i64_w, i32_w]; rw [c17b0]) | skip)
      by_cases c18 : (t247 != t249) = true
      ·
       rw [if_pos c18] at H; have c18b0 : (t247 != t249) = true := c18
       (try (have c18b1 : decide (t247 = t249) = false := by simpa using c18))
       (try (have c18b2 : (t247 == t249) = false := by simpa using c18))
       (try (have c18b3 : ¬ (t247 = t249) := by simpa using c18))
       clear c18; have H' := Aside0.mk H
       clear H; go_wp2
       go_meet
       case rel => exact ⟨_, (true), (by first | rfl | (simp; done) | (simp [*]; done)), H', ⟨by have := HJ7.out; first | omega | exact Nat.le_refl _⟩, ⟨by repeat (first | (with_reducible first | exact HB.out | apply bL | apply bW | apply b1) | exact HB.out)⟩⟩
      ·
       rw [if_neg c18] at H; have c18b0 : (t247 != t249) = false := by simpa using c18
       (try (have c18b1 : decide (t247 = t249) = true := by simpa using c18))
       (try (have c18b2 : (t247 == t249) = true := by simpa using c18))
       clear c18; replace H := Option.bind_eq_some_iff.mp H
       obtain ⟨t250, A190, H⟩ := H
       have A19 := Aside0.mk A190
       clear A190; replace H := Option.bind_eq_some_iff.mp H
       obtain ⟨t251, A200, H⟩ := H
       have A20 := Aside0.mk A200
       clear A200; by_cases c21 : (t250 != t251) = true
       ·
        rw [if_pos c21] at H; have c21b0 : (t250 != t251) = true := c21
        (try (have c21b1 : decide (t250 = t251) = false := by simpa using c21))
        (try (have c21b2 : (t250 == t251) = false := by simpa using c21))
        (try (have c21b3 : ¬ (t250 = t251) := by simpa using c21))
        clear c21; have H' := Aside0.mk H
        clear H; go_wp2_with (first | (go_at_call 11; (with_reducible refine (curve_Right.calls kj7 _ _ l0 t250 _ ?side1 ?side2 A19.out).mono ?_); (case side1 => repeat (first | exact (Kd.C_below HR0.out HB.out) | (with_reducible refine Kd.C_alloc ?_ _) | (with_reducible refine Kd.C_drewN ?_ _) | (with_reducible refine Kd.C_drew ?_))); (case side2 => exact HC0.out); rintro e w22 ⟨rfl, hb⟩; (try clear A19); have n0_ := Aside0.mk (bP (by repeat (first | (with_reducible first | exact HB.out | apply bL | apply bW | apply b1) | exact HB.out)) hb); clear HB; have HB := n0_; clear n0_; (try clear hb); (try clear hb2); (try clear hk); (try clear hi)) | (go_at_call 12; (with_reducible refine (bourneref10_Right.calls kj7 _ _ l0 t251 _ ?side1 ?side2 A20.out).mono ?_); (case side1 => repeat (first | exact (Kd.C_below HR0.out HB.out) | (with_reducible refine Kd.C_alloc ?_ _) | (with_reducible refine Kd.C_drewN ?_ _) | (with_reducible refine Kd.C_drew ?_))); (case side2 => exact HC0.out); rintro e w23 ⟨rfl, hb⟩; (try clear A20); have n0_ := Aside0.mk (bP (by repeat (first | (with_reducible first | exact HB.out | apply bL | apply bW | apply b1) | exact HB.out)) hb); clear HB; have HB := n0_; clear n0_; (try clear hb); (try clear hb2); (try clear hk); (try clear hi)))
        go_meet
        case rel => exact ⟨_, (true), (by first | rfl | (simp; done) | (simp [*]; done)), H', ⟨by have := HJ7.out; first | omega | exact Nat.le_refl _⟩, ⟨by repeat (first | (with_reducible first | exact HB.out | apply bL | apply bW | apply b1) | exact HB.out)⟩⟩
       ·
        rw [if_neg c21] at H; have c21b0 : (t250 != t251) = false := by simpa using c21
        (try (have c21b1 : decide (t250 = t251) = true := by simpa using c21))
        (try (have c21b2 : (t250 == t251) = true := by simpa using c21))
        clear c21; replace H := Option.bind_eq_some_iff.mp H
        obtain ⟨t252, A240, H⟩ := H
        have A24 := Aside0.mk A240
        clear A240; replace H := Option.bind_eq_some_iff.mp H
        obtain ⟨t253, A250, H⟩ := H
        have A25 := Aside0.mk A250
        clear A250; have H' := Aside0.mk H
        clear H; go_wp2_with (first | (go_at_call 11; (with_reducible refine (curve_Right.calls kj7 _ _ l0 t250 _ ?side1 ?side2 A19.out).mono ?_); (case side1 => repeat (first | exact (Kd.C_below HR0.out HB.out) | (with_reducible refine Kd.C_alloc ?_ _) | (with_reducible refine Kd.C_drewN ?_ _) | (with_reducible refine Kd.C_drew ?_))); (case side2 => exact HC0.out); rintro e w26 ⟨rfl, hb⟩; (try clear A19); have n0_ := Aside0.mk (bP (by repeat (first | (with_reducible first | exact HB.out | apply bL | apply bW | apply b1) | exact HB.out)) hb); clear HB; have HB := n0_; clear n0_; (try clear hb); (try clear hb2); (try clear hk); (try clear hi)) | (go_at_call 12; (with_reducible refine (bourneref10_Right.calls kj7 _ _ l0 t251 _ ?side1 ?side2 A20.out).mono ?_); (case side1 => repeat (first | exact (Kd.C_below HR0.out HB.out) | (with_reducible refine Kd.C_alloc ?_ _) | (with_reducible refine Kd.C_drewN ?_ _) | (with_reducible refine Kd.C_drew ?_))); (case side2 => exact HC0.out); rintro e w27 ⟨rfl, hb⟩; (try clear A20); have n0_ := Aside0.mk (bP (by repeat (first | (with_reducible first | exact HB.out | apply bL | apply bW | apply b1) | exact HB.out)) hb); clear HB; have HB := n0_; clear n0_; (try clear hb); (try clear hb2); (try clear hk); (try clear hi)) | (go_at_call 13; (with_reducible refine (curve_At.calls kj7 _ _ l0 a2 t252 _ ?side1 ?side2 A24.out).mono ?_); (case side1 => repeat (first | exact (Kd.C_below HR0.out HB.out) | (with_reducible refine Kd.C_alloc ?_ _) | (with_reducible refine Kd.C_drewN ?_ _) | (with_reducible refine Kd.C_drew ?_))); (case side2 => exact HC0.out); rintro e w28 ⟨rfl, hb⟩; (try clear A24); have n0_ := Aside0.mk (bP (by repeat (first | (with_reducible first | exact HB.out | apply bL | apply bW | apply b1) | exact HB.out)) hb); clear HB; have HB := n0_; clear n0_; (try clear hb); (try clear hb2); (try clear hk); (try clear hi)) | (go_at_call 14; (with_reducible refine (bourneref10_At.calls kj7 _ _ l0 a2 t253 _ ?side1 ?side2 A25.out).mono ?_); (case side1 => repeat (first | exact (Kd.C_below HR0.out HB.out) | (with_reducible refine Kd.C_alloc ?_ _) | (with_reducible refine Kd.C_drewN ?_ _) | (with_reducible refine Kd.C_drew ?_))); (case side2 => exact HC0.out); rintro e w29 ⟨rfl, hb⟩; (try clear A25); have n0_ := Aside0.mk (bP (by repeat (first | (with_reducible first | exact HB.out | apply bL | apply bW | apply b1) | exact HB.out)) hb); clear HB; have HB := n0_; clear n0_; (try clear hb); (try clear hb2); (try clear hk); (try clear hi)))
        go_meet
        case rel => exact ⟨_, ((t252 != t253)), (by first | rfl | (simp; done) | (simp [*]; done)), H', ⟨by have := HJ7.out; first | omega | exact Nat.le_refl _⟩, ⟨by repeat (first | (with_reducible first | exact HB.out | apply bL | apply bW | apply b1) | exact HB.out)⟩⟩
     ·
      rw [if_neg c17] at H; have c17b0 : (t246 == t248) = false := beq_eq_false_iff_ne.mpr c17
      have c17b1 : (t246 != t248) = true := bne_iff_ne.mpr c17
      (first | rw [c17b0] | (simp only [i64_w, i32_w]; rw [c17b0]) | skip)
      have H' := Aside0.mk H
      clear H; go_wp2
      go_meet
      case rel => exact ⟨_, (true), (by first | rfl | (simp; done) | (simp [*]; done)), H', ⟨by have := HJ7.out; first | omega | exact Nat.le_refl _⟩, ⟨by repeat (first | (with_reducible first | exact HB.out | apply bL | apply bW | apply b1) | exact HB.out)⟩⟩
    case rest =>
     clear HC14; try clear c1
     try clear c2
     try clear p2
     try clear c3
     try clear c8
     try clear c9
     try clear c10
     try clear c10b0
     try clear c10b1
     try clear c11
     try clear c17
     try clear c17b0
     try clear c17b1
     try clear c18
     try clear c18b0
     try clear c18b1
     try clear c18b2
     try clear c21
     try clear c21b0
     try clear c21b1
     try clear c21b2
     try clear p2
     obtain ⟨kq, x64_13, rfl, HA, HJ13, HB⟩ := hcut
     cases kq with
     | zero => exact absurd HA.out (by simp [bournelaw10_CurveTells.j1])
     | succ kj13 =>
      have H := HA.out
      clear HA; simp only [bournelaw10_CurveTells.j1] at H; by_cases c30 : x64_13 = true
      ·
       subst c30; have H1 : (some false) = some r := by rw [if_pos rfl] at H; exact H
       clear H; have H := H1
       clear H1; exact absurd (H.trans (congrArg some hT.out)) (by simp)
      ·
       replace c30 := Bool.eq_false_iff.mpr c30
       subst c30; have H1 : (if t245 = true then ((curve_Slope.f kj13 l0 a4 a5).bind fun t255 => ((bourneref10_Slope.f kj13 l0 a4 a5).bind fun t256 => (if (t255 == t256) = true then ((curve_Under.f kj13 l0 l1).bind fun t257 => ((bourneref10_Under.f kj13 l0 l1).bind fun t258 => (if (t257 == t258) = true then ((curve_Band.f kj13 l0 l1 a2).bind fun bt259 => ((bourneref10_Band.f kj13 l0 l1 a2).bind fun bt261 => (some (bt259.1 == bt261.1 && (bt259.2 == bt261.2))))) else (some false)))) else (some false)))) else (some false)) = some r := by rw [if_neg (show ¬ (false = true) by decide)] at H; exact H
       clear H; have H := H1
       clear H1; by_cases c31 : t245 = true
       ·
        subst c31; have H1 : ((curve_Slope.f kj13 l0 a4 a5).bind fun t255 => ((bourneref10_Slope.f kj13 l0 a4 a5).bind fun t256 => (if (t255 == t256) = true then ((curve_Under.f kj13 l0 l1).bind fun t257 => ((bourneref10_Under.f kj13 l0 l1).bind fun t258 => (if (t257 == t258) = true then ((curve_Band.f kj13 l0 l1 a2).bind fun bt259 => ((bourneref10_Band.f kj13 l0 l1 a2).bind fun bt261 => (some (bt259.1 == bt261.1 && (bt259.2 == bt261.2))))) else (some false)))) else (some false)))) = some r := by rw [if_pos rfl] at H; exact H
        clear H; have H := H1
        clear H1; replace H := Option.bind_eq_some_iff.mp H
        obtain ⟨t255, A320, H⟩ := H
        have A32 := Aside0.mk A320
        clear A320; replace H := Option.bind_eq_some_iff.mp H
        obtain ⟨t256, A330, H⟩ := H
        have A33 := Aside0.mk A330
        clear A330; by_cases c34 : (t255 == t256) = true
        ·
         rw [if_pos c34] at H; have c34b0 : (t255 == t256) = true := c34
         (try (have c34b1 : decide (t255 = t256) = true := by simpa using c34))
         (try (have c34b2 : (t255 == t256) = true := by simpa using c34))
         clear c34; replace H := Option.bind_eq_some_iff.mp H
         obtain ⟨t257, A350, H⟩ := H
         have A35 := Aside0.mk A350
         clear A350; replace H := Option.bind_eq_some_iff.mp H
         obtain ⟨t258, A360, H⟩ := H
         have A36 := Aside0.mk A360
         clear A360; by_cases c37 : (t257 == t258) = true
         ·
          rw [if_pos c37] at H; have c37b0 : (t257 == t258) = true := c37
          (try (have c37b1 : decide (t257 = t258) = true := by simpa using c37))
          (try (have c37b2 : (t257 == t258) = true := by simpa using c37))
          clear c37; replace H := Option.bind_eq_some_iff.mp H
          obtain ⟨⟨t259, t260⟩, A380, H⟩ := H
          dsimp only at H
          have A38 := Aside0.mk A380
          clear A380; replace H := Option.bind_eq_some_iff.mp H
          obtain ⟨⟨t261, t262⟩, A390, H⟩ := H
          dsimp only at H
          have A39 := Aside0.mk A390
          clear A390; obtain rfl := Option.some.inj H
          try go_wp2_with (first | ((with_reducible refine gate_dst (N := 18) rfl ?_); (try (refine gate_guard (by rfl) ?_; dsimp only)); refine box_event ?hg (N := 18) ?hd (cs := #[.slice none 0 0, .slice none 0 0]) (t := 29) ?hr ?_; (case hd => rfl); (case hg => rfl); (case hr => first | (go_simp; done) | (go_simp; rfl)); intro gb254 hg w40 hbox hb; have n0_ := Aside0.mk (bP (by repeat (first | (with_reducible first | exact HB.out | apply bL | apply bW | apply b1) | exact HB.out)) hb); have n1_ := Aside0.mk (hbox); have n2_ := Aside0.mk ((by rw [hg]; exact (bZ (by repeat (first | (with_reducible first | exact HB.out | apply bL | apply bW | apply b1) | exact HB.out))) : w.heap.size ≤ gb254)); have n3_ := Aside0.mk ((by rw [hg]; exact (bZ (by repeat (first | (with_reducible first | exact HB.out | apply bL | apply bW | apply b1) | exact HB.out))) : w.heap.size ≤ gb254)); clear HB; have HB := n0_; have BK254 := n1_; have GW254 := n2_; have GE254 := n3_; clear n0_ n1_ n2_ n3_; clear hb hbox hg; have hcz41_0 : w40.cell? ⟨gb254, 0, none⟩ = some (.slice none 0 0) := (bC BK254.out 0).trans rfl; have hcz41_1 : w40.cell? ⟨gb254, 1, none⟩ = some (.slice none 0 0) := (bC BK254.out 1).trans rfl; have hfz41_0 := bF BK254.out 0; have hfz41_1 := bF BK254.out 1))
          have n0_ : Aside0 (((w40.setCell ⟨gb254, 0, none⟩ (.slice A0 l0.length c0)).setCell ⟨gb254, 1, none⟩ (.slice A1 l1.length c1)).heap[gb254]? = some (.cells #[.slice A0 l0.length c0, .slice A1 l1.length c1] 29 (0, 0))) := ⟨by (with_reducible repeat (first | refine bN ?_ _ | refine bD ?_ | refine bA ?_ _)); refine bU (cs := #[.slice A0 l0.length c0, .slice none 0 0]) ?_ 1 _ rfl; (with_reducible repeat (first | refine bN ?_ _ | refine bD ?_ | refine bA ?_ _)); refine bU (cs := #[.slice none 0 0, .slice none 0 0]) ?_ 0 _ rfl; (with_reducible repeat (first | refine bN ?_ _ | refine bD ?_ | refine bA ?_ _)); exact BK254.out⟩
          have n1_ : Aside0 (Below w.heap.size w ((w40.setCell ⟨gb254, 0, none⟩ (.slice A0 l0.length c0)).setCell ⟨gb254, 1, none⟩ (.slice A1 l1.length c1))) := ⟨by repeat (first | (with_reducible first | exact HB.out | apply bL | apply bW | apply b1 | refine bS ?_ GE254.out) | exact HB.out)⟩
          (try clear BK254); (try clear HB); generalize ((w40.setCell ⟨gb254, 0, none⟩ (.slice A0 l0.length c0)).setCell ⟨gb254, 1, none⟩ (.slice A1 l1.length c1)) = w42 at n0_ n1_ ⊢
          have BK254 := n0_
          have HB := n1_
          clear n0_ n1_; have n0_ := Aside0.mk (bD BK254.out)
          have n1_ := Aside0.mk (b1 HB.out)
          clear BK254; clear HB; have BK254 := n0_
          have HB := n1_
          clear n0_ n1_; refine start_ (n := 31) (S := fun w' => w'.cell? ⟨gb254, 0, none⟩ = some (.slice A0 l0.length c0) ∧ w'.cell? ⟨gb254, 1, none⟩ = some (.slice A1 l1.length c1)) (ds := []) #[F,F,F,F,F,F,F,F,F,F,F,F,F,F,F,F,F,F,F,F,F,F,F,F,F,F,F,F,F,F,F] (by kernel_rfl) rfl rfl ⟨(bC BK254.out 0).trans rfl, (bC BK254.out 1).trans rfl⟩ (fun hHeld => ?_); refine with_tabW bournelaw10_CurveTells.tab9 bournelaw10_CurveTells.bits9 (fun HT_ HW_ => ?_)
          generalize w42.drew = w43 at BK254 HB hHeld ⊢
          refine pure_ (i := 0) (N := some 68) (v := ?_) (a' := ?_) #[T,F,F,F,F,F,F,F,F,F,F,F,F,F,F,F,F,F,F,F,F,F,F,F,F,F,F,F,F,F,F] rfl rfl (any_of HT_.out (by kernel_rfl)) (fun _ _ _ h => h) (Or.inl ⟨by rfl, ?_⟩) ?_ ?_
          rotate_left
          ·
           intro w'; go_simp; with_reducible rfl
          rotate_left
          ·
           simp only [Act.put, lA, lZ, lS, i64_w, i32_w]; rfl
          refine pure_ (i := 1) (N := some 69) (v := ?_) (a' := ?_) #[T,T,F,F,F,F,F,F,F,F,F,F,F,F,F,F,F,F,F,F,F,F,F,F,F,F,F,F,F,F,F] rfl rfl (any_of HT_.out (by kernel_rfl)) (fun _ _ _ h => h) (Or.inl ⟨by rfl, ?_⟩) ?_ ?_
          rotate_left
          ·
           intro w'; go_simp; with_reducible rfl
          rotate_left
          ·
           simp only [Act.put, lA, lZ, lS, i64_w, i32_w]; rfl
          refine pure_ (i := 2) (N := some 70) (v := ?_) (a' := ?_) #[T,T,T,F,F,F,F,F,F,F,F,F,F,F,F,F,F,F,F,F,F,F,F,F,F,F,F,F,F,F,F] rfl rfl (any_of HT_.out (by kernel_rfl)) (fun _ _ _ h => h) (Or.inl ⟨by rfl, ?_⟩) ?_ ?_
          rotate_left
          ·
           intro w'; go_simp; with_reducible rfl
          rotate_left
          ·
           simp only [Act.put, lA, lZ, lS, i64_w, i32_w]; rfl
          refine pure_ (i := 3) (N := some 71) (v := ?_) (a' := ?_) #[T,T,T,T,F,F,F,F,F,F,F,F,F,F,F,F,F,F,F,F,F,F,F,F,F,F,F,F,F,F,F] rfl rfl (any_of HT_.out (by kernel_rfl)) (fun _ _ _ h => h) (Or.inl ⟨by rfl, ?_⟩) ?_ ?_
          rotate_left
          ·
           intro w'; go_simp; with_reducible rfl
          rotate_left
          ·
           simp only [Act.put, lA, lZ, lS, i64_w, i32_w]; rfl
          refine pure_ (i := 4) (N := some 72) (v := ?_) (a' := ?_) #[T,T,T,T,T,F,F,F,F,F,F,F,F,F,F,F,F,F,F,F,F,F,F,F,F,F,F,F,F,F,F] rfl rfl (any_of HT_.out (by kernel_rfl)) (fun _ _ _ h => h) (Or.inl ⟨by rfl, ?_⟩) ?_ ?_
          rotate_left
          ·
           intro w'; go_simp; with_reducible rfl
          rotate_left
          ·
           simp only [Act.put, lA, lZ, lS, i64_w, i32_w]; rfl
          refine pure_ (i := 6) (N := some 74) (v := ?_) (a' := ?_) #[T,T,T,T,T,F,T,F,F,F,F,F,F,F,F,F,F,F,F,F,F,F,F,F,F,F,F,F,F,F,F] rfl rfl (any_of HT_.out (by kernel_rfl)) (fun _ _ _ h => h) (Or.inl ⟨by rfl, ?_⟩) ?_ ?_
          rotate_left
          ·
           intro w'; go_simp; with_reducible rfl
          rotate_left
          ·
           simp only [Act.put, lA, lZ, lS, i64_w, i32_w]; rfl
          refine pure_ (i := 7) (N := some 75) (v := ?_) (a' := ?_) #[T,T,T,T,T,F,T,T,F,F,F,F,F,F,F,F,F,F,F,F,F,F,F,F,F,F,F,F,F,F,F] rfl rfl (any_of HT_.out (by kernel_rfl)) (fun _ _ _ h => h) (Or.inl ⟨by rfl, ?_⟩) ?_ ?_
          rotate_left
          ·
           intro w'; go_simp; with_reducible rfl
          rotate_left
          ·
           simp only [Act.put, lA, lZ, lS, i64_w, i32_w]; rfl
          refine pure_ (i := 8) (N := some 76) (v := ?_) (a' := ?_) #[T,T,T,T,T,F,T,T,T,F,F,F,F,F,F,F,F,F,F,F,F,F,F,F,F,F,F,F,F,F,F] rfl rfl (any_of HT_.out (by kernel_rfl)) (fun _ _ _ h => h) (Or.inl ⟨by rfl, ?_⟩) ?_ ?_
          rotate_left
          ·
           intro w'; go_simp; with_reducible rfl
          rotate_left
          ·
           simp only [Act.put, lA, lZ, lS, i64_w, i32_w]; rfl
          refine one_ (i := 5) (N := some 73) #[T,T,T,T,T,T,T,T,T,F,F,F,F,F,F,F,F,F,F,F,F,F,F,F,F,F,F,F,F,F,F] rfl rfl (one_of HT_.out (by kernel_rfl)) (by decide) (fun K hK => ?_)
          refine goes_ Try.func15 (by kernel_rfl) rfl #[.slice A0 l0.length c0, .int .i64 a4, .int .i64 a5] (by rfl) rfl rfl (by (try simp only [List.map_toArray, List.map_cons, List.map_nil]); first | done | rfl | (simp only [List.length_drop, List.length_take]; rfl)) ?_
          with_reducible refine (curve_Slope.calls kj13 _ _ l0 a4 a5 t255 _ ?side1 ?side2 A32.out).mono ?_
          (case side1 => repeat (first | exact (Kd.C_below HR0.out HB.out) | (with_reducible refine Kd.C_alloc ?_ _) | (with_reducible refine Kd.C_drewN ?_ _) | (with_reducible refine Kd.C_drew ?_)))
          (case side2 => exact HC0.out)
          rintro e w44 ⟨rfl, hb⟩
          refine ⟨_, rfl, ?_⟩
          have n0_ := Aside0.mk (bB (g := gb254) (o := .cells #[.slice A0 l0.length c0, .slice A1 l1.length c1] 29 (0, 0)) (by (with_reducible repeat (first | refine bN ?_ _ | refine bD ?_ | refine bA ?_ _)); exact BK254.out) hb)
          have n1_ := Aside0.mk (bP (by repeat (first | (with_reducible first | exact HB.out | apply bL | apply bW | apply b1 | refine bS ?_ GE254.out) | exact HB.out)) hb)
          clear BK254; clear HB; have BK254 := n0_
          have HB := n1_
          clear n0_ n1_; (try clear hb); (try clear hb2); (try clear hk); (try clear hi); refine hK.out _ _ ⟨(bC BK254.out 0).trans rfl, (bC BK254.out 1).trans rfl⟩ (fun hHeld => ?_)
          clear hK K; refine norm_ (a' := ?_) ?_ ?_
          rotate_left
          ·
           show Act.put _ (some 73) _ = _
           simp only [Act.put, lA, lZ, lS, i64_w, i32_w]; rfl
          refine one_ (i := 9) (N := some 77) #[T,T,T,T,T,T,T,T,T,T,F,F,F,F,F,F,F,F,F,F,F,F,F,F,F,F,F,F,F,F,F] rfl rfl (one_of HT_.out (by kernel_rfl)) (by decide) (fun K hK => ?_)
          refine goes_ Try.func16 (by kernel_rfl) rfl #[.slice A0 l0.length c0, .int .i64 a4, .int .i64 a5] (by rfl) rfl rfl (by (try simp only [List.map_toArray, List.map_cons, List.map_nil]); first | done | rfl | (simp only [List.length_drop, List.length_take]; rfl)) ?_
          with_reducible refine (bourneref10_Slope.calls kj13 _ _ l0 a4 a5 t256 _ ?side1 ?side2 A33.out).mono ?_
          (case side1 => repeat (first | exact (Kd.C_below HR0.out HB.out) | (with_reducible refine Kd.C_alloc ?_ _) | (with_reducible refine Kd.C_drewN ?_ _) | (with_reducible refine Kd.C_drew ?_)))
          (case side2 => exact HC0.out)
          rintro e w45 ⟨rfl, hb⟩
          refine ⟨_, rfl, ?_⟩
          have n0_ := Aside0.mk (bB (g := gb254) (o := .cells #[.slice A0 l0.length c0, .slice A1 l1.length c1] 29 (0, 0)) (by (with_reducible repeat (first | refine bN ?_ _ | refine bD ?_ | refine bA ?_ _)); exact BK254.out) hb)
          have n1_ := Aside0.mk (bP (by repeat (first | (with_reducible first | exact HB.out | apply bL | apply bW | apply b1 | refine bS ?_ GE254.out) | exact HB.out)) hb)
          clear BK254; clear HB; have BK254 := n0_
          have HB := n1_
          clear n0_ n1_; (try clear hb); (try clear hb2); (try clear hk); (try clear hi); refine hK.out _ _ ⟨(bC BK254.out 0).trans rfl, (bC BK254.out 1).trans rfl⟩ (fun hHeld => ?_)
          clear hK K; refine norm_ (a' := ?_) ?_ ?_
          rotate_left
          ·
           show Act.put _ (some 77) _ = _
           simp only [Act.put, lA, lZ, lS, i64_w, i32_w]; rfl
          refine pure_ (i := 10) (N := some 78) (v := ?_) (a' := ?_) #[T,T,T,T,T,T,T,T,T,T,T,F,F,F,F,F,F,F,F,F,F,F,F,F,F,F,F,F,F,F,F] rfl rfl (any_of HT_.out (by kernel_rfl)) (fun _ _ _ h => h) (Or.inl ⟨by rfl, ?_⟩) ?_ ?_
          rotate_left
          ·
           intro w'; go_simp; with_reducible rfl
          rotate_left
          ·
           simp only [Act.put, lA, lZ, lS, i64_w, i32_w]; rfl
          refine pure_ (i := 11) (N := some 79) (v := ?_) (a' := ?_) #[T,T,T,T,T,T,T,T,T,T,T,T,F,F,F,F,F,F,F,F,F,F,F,F,F,F,F,F,F,F,F] rfl rfl (any_of HT_.out (by kernel_rfl)) (fun _ _ _ h => h) (Or.inl ⟨by rfl, ?_⟩) ?_ ?_
          rotate_left
          ·
           intro w'; go_simp; with_reducible rfl
          rotate_left
          ·
           simp only [Act.put, lA, lZ, lS, i64_w, i32_w]; rfl
          refine pure_ (i := 12) (N := some 80) (v := ?_) (a' := ?_) #[T,T,T,T,T,T,T,T,T,T,T,T,T,F,F,F,F,F,F,F,F,F,F,F,F,F,F,F,F,F,F] rfl rfl (any_of HT_.out (by kernel_rfl)) (fun _ _ _ h => h) (Or.inl ⟨by rfl, ?_⟩) ?_ ?_
          rotate_left
          ·
           intro w'; go_simp; with_reducible rfl
          rotate_left
          ·
           simp only [Act.put, lA, lZ, lS, i64_w, i32_w]; rfl
          refine pure_ (i := 13) (N := some 81) (v := ?_) (a' := ?_) #[T,T,T,T,T,T,T,T,T,T,T,T,T,T,F,F,F,F,F,F,F,F,F,F,F,F,F,F,F,F,F] rfl rfl (any_of HT_.out (by kernel_rfl)) (fun _ _ _ h => h) (Or.inl ⟨by rfl, ?_⟩) ?_ ?_
          rotate_left
          ·
           intro w'; go_simp; with_reducible rfl
          rotate_left
          ·
           simp only [Act.put, lA, lZ, lS, i64_w, i32_w]; rfl
          refine pure_ (i := 14) (N := some 82) (v := ?_) (a' := ?_) #[T,T,T,T,T,T,T,T,T,T,T,T,T,T,T,F,F,F,F,F,F,F,F,F,F,F,F,F,F,F,F] rfl rfl (any_of HT_.out (by kernel_rfl)) (fun _ _ _ h => h) (Or.inl ⟨by rfl, ?_⟩) ?_ ?_
          rotate_left
          ·
           intro w'; go_simp; with_reducible rfl
          rotate_left
          ·
           simp only [Act.put, lA, lZ, lS, i64_w, i32_w]; rfl
          refine pure_ (i := 16) (N := some 84) (v := ?_) (a' := ?_) #[T,T,T,T,T,T,T,T,T,T,T,T,T,T,T,F,T,F,F,F,F,F,F,F,F,F,F,F,F,F,F] rfl rfl (any_of HT_.out (by kernel_rfl)) (fun _ _ _ h => h) (Or.inl ⟨by rfl, ?_⟩) ?_ ?_
          rotate_left
          ·
           intro w'; go_simp; with_reducible rfl
          rotate_left
          ·
           simp only [Act.put, lA, lZ, lS, i64_w, i32_w]; rfl
          refine pure_ (i := 17) (N := some 85) (v := ?_) (a' := ?_) #[T,T,T,T,T,T,T,T,T,T,T,T,T,T,T,F,T,T,F,F,F,F,F,F,F,F,F,F,F,F,F] rfl rfl (any_of HT_.out (by kernel_rfl)) (fun _ _ _ h => h) (Or.inl ⟨by rfl, ?_⟩) ?_ ?_
          rotate_left
          ·
           intro w'; go_simp; with_reducible rfl
          rotate_left
          ·
           simp only [Act.put, lA, lZ, lS, i64_w, i32_w]; rfl
          refine one_ (i := 15) (N := some 83) #[T,T,T,T,T,T,T,T,T,T,T,T,T,T,T,T,T,T,F,F,F,F,F,F,F,F,F,F,F,F,F] rfl rfl (one_of HT_.out (by kernel_rfl)) (by decide) (fun K hK => ?_)
          refine goes_ Try.func17 (by kernel_rfl) rfl #[.slice A0 l0.length c0, .slice A1 l1.length c1] (by rfl) rfl rfl (by (try simp only [List.map_toArray, List.map_cons, List.map_nil]); first | done | rfl | (simp only [List.length_drop, List.length_take]; rfl)) ?_
          with_reducible refine (curve_Under.calls kj13 _ _ l0 _ _ l1 t257 _ ?side1 ?side2 ?side3 ?side4 A35.out).mono ?_
          (case side1 => repeat (first | exact (Kd.C_below HR0.out HB.out) | (with_reducible refine Kd.C_alloc ?_ _) | (with_reducible refine Kd.C_drewN ?_ _) | (with_reducible refine Kd.C_drew ?_)))
          (case side2 => exact HC0.out)
          (case side3 => repeat (first | exact (Kd.C_below HR1.out HB.out) | (with_reducible refine Kd.C_alloc ?_ _) | (with_reducible refine Kd.C_drewN ?_ _) | (with_reducible refine Kd.C_drew ?_)))
          (case side4 => exact HC1.out)
          rintro e w46 ⟨rfl, hb⟩
          refine ⟨_, rfl, ?_⟩
          have n0_ := Aside0.mk (bB (g := gb254) (o := .cells #[.slice A0 l0.length c0, .slice A1 l1.length c1] 29 (0, 0)) (by (with_reducible repeat (first | refine bN ?_ _ | refine bD ?_ | refine bA ?_ _)); exact BK254.out) hb)
          have n1_ := Aside0.mk (bP (by repeat (first | (with_reducible first | exact HB.out | apply bL | apply bW | apply b1 | refine bS ?_ GE254.out) | exact HB.out)) hb)
          clear BK254; clear HB; have BK254 := n0_
          have HB := n1_
          clear n0_ n1_; (try clear hb); (try clear hb2); (try clear hk); (try clear hi); refine hK.out _ _ ⟨(bC BK254.out 0).trans rfl, (bC BK254.out 1).trans rfl⟩ (fun hHeld => ?_)
          clear hK K; refine norm_ (a' := ?_) ?_ ?_
          rotate_left
          ·
           show Act.put _ (some 83) _ = _
           simp only [Act.put, lA, lZ, lS, i64_w, i32_w]; rfl
          refine one_ (i := 18) (N := some 86) #[T,T,T,T,T,T,T,T,T,T,T,T,T,T,T,T,T,T,T,F,F,F,F,F,F,F,F,F,F,F,F] rfl rfl (one_of HT_.out (by kernel_rfl)) (by decide) (fun K hK => ?_)
          refine goes_ Try.func18 (by kernel_rfl) rfl #[.slice A0 l0.length c0, .slice A1 l1.length c1] (by rfl) rfl rfl (by (try simp only [List.map_toArray, List.map_cons, List.map_nil]); first | done | rfl | (simp only [List.length_drop, List.length_take]; rfl)) ?_
          with_reducible refine (bourneref10_Under.calls kj13 _ _ l0 _ _ l1 t258 _ ?side1 ?side2 ?side3 ?side4 A36.out).mono ?_
          (case side1 => repeat (first | exact (Kd.C_below HR0.out HB.out) | (with_reducible refine Kd.C_alloc ?_ _) | (with_reducible refine Kd.C_drewN ?_ _) | (with_reducible refine Kd.C_drew ?_)))
          (case side2 => exact HC0.out)
          (case side3 => repeat (first | exact (Kd.C_below HR1.out HB.out) | (with_reducible refine Kd.C_alloc ?_ _) | (with_reducible refine Kd.C_drewN ?_ _) | (with_reducible refine Kd.C_drew ?_)))
          (case side4 => exact HC1.out)
          rintro e w47 ⟨rfl, hb⟩
          refine ⟨_, rfl, ?_⟩
          have n0_ := Aside0.mk (bB (g := gb254) (o := .cells #[.slice A0 l0.length c0, .slice A1 l1.length c1] 29 (0, 0)) (by (with_reducible repeat (first | refine bN ?_ _ | refine bD ?_ | refine bA ?_ _)); exact BK254.out) hb)
          have n1_ := Aside0.mk (bP (by repeat (first | (with_reducible first | exact HB.out | apply bL | apply bW | apply b1 | refine bS ?_ GE254.out) | exact HB.out)) hb)
          clear BK254; clear HB; have BK254 := n0_
          have HB := n1_
          clear n0_ n1_; (try clear hb); (try clear hb2); (try clear hk); (try clear hi); refine hK.out _ _ ⟨(bC BK254.out 0).trans rfl, (bC BK254.out 1).trans rfl⟩ (fun hHeld => ?_)
          clear hK K; refine norm_ (a' := ?_) ?_ ?_
          rotate_left
          ·
           show Act.put _ (some 86) _ = _
           simp only [Act.put, lA, lZ, lS, i64_w, i32_w]; rfl
          refine pure_ (i := 19) (N := some 87) (v := ?_) (a' := ?_) #[T,T,T,T,T,T,T,T,T,T,T,T,T,T,T,T,T,T,T,T,F,F,F,F,F,F,F,F,F,F,F] rfl rfl (any_of HT_.out (by kernel_rfl)) (fun _ _ _ h => h) (Or.inl ⟨by rfl, ?_⟩) ?_ ?_
          rotate_left
          ·
           intro w'; go_simp; with_reducible rfl
          rotate_left
          ·
           simp only [Act.put, lA, lZ, lS, i64_w, i32_w]; rfl
          refine pure_ (i := 20) (N := some 88) (v := ?_) (a' := ?_) #[T,T,T,T,T,T,T,T,T,T,T,T,T,T,T,T,T,T,T,T,T,F,F,F,F,F,F,F,F,F,F] rfl rfl (any_of HT_.out (by kernel_rfl)) (fun _ _ _ h => h) (Or.inl ⟨by rfl, ?_⟩) ?_ ?_
          rotate_left
          ·
           intro w'; go_simp; with_reducible rfl
          rotate_left
          ·
           simp only [Act.put, lA, lZ, lS, i64_w, i32_w]; rfl
          refine pure_ (i := 21) (N := some 89) (v := ?_) (a' := ?_) #[T,T,T,T,T,T,T,T,T,T,T,T,T,T,T,T,T,T,T,T,T,T,F,F,F,F,F,F,F,F,F] rfl rfl (any_of HT_.out (by kernel_rfl)) (fun _ _ _ h => h) (Or.inl ⟨by rfl, ?_⟩) ?_ ?_
          rotate_left
          ·
           intro w'; go_simp; with_reducible rfl
          rotate_left
          ·
           simp only [Act.put, lA, lZ, lS, i64_w, i32_w]; rfl
          refine pure_ (i := 23) (N := some 91) (v := ?_) (a' := ?_) #[T,T,T,T,T,T,T,T,T,T,T,T,T,T,T,T,T,T,T,T,T,T,F,T,F,F,F,F,F,F,F] rfl rfl (any_of HT_.out (by kernel_rfl)) (fun _ _ _ h => h) (Or.inl ⟨by rfl, ?_⟩) ?_ ?_
          rotate_left
          ·
           intro w'; go_simp; with_reducible rfl
          rotate_left
          ·
           simp only [Act.put, lA, lZ, lS, i64_w, i32_w]; rfl
          refine pure_ (i := 26) (N := some 94) (v := ?_) (a' := ?_) #[T,T,T,T,T,T,T,T,T,T,T,T,T,T,T,T,T,T,T,T,T,T,F,T,F,F,T,F,F,F,F] rfl rfl (any_of HT_.out (by kernel_rfl)) (fun _ _ _ h => h) (Or.inl ⟨by rfl, ?_⟩) ?_ ?_
          rotate_left
          ·
           intro w'; go_simp; with_reducible rfl
          rotate_left
          ·
           simp only [Act.put, lA, lZ, lS, i64_w, i32_w]; rfl
          refine take_ (i := 22) (N := some 90) (v := ?_) (a' := ?_) #[T,T,T,T,T,T,T,T,T,T,T,T,T,T,T,T,T,T,T,T,T,T,T,T,F,F,T,F,F,F,F] rfl rfl (take_ofW HT_.out HW_.out (by kernel_rfl)) (fun _ _ _ h => h) (Or.inl ⟨by rfl, ?_⟩) hHeld ?_ ?_
          rotate_left
          ·
           rintro w' ⟨s0, s1⟩
           go_simp; with_reducible rfl
          rotate_left
          ·
           simp only [Act.put, lA, lZ, lS, i64_w, i32_w]; rfl
          refine take_ (i := 25) (N := some 93) (v := ?_) (a' := ?_) #[T,T,T,T,T,T,T,T,T,T,T,T,T,T,T,T,T,T,T,T,T,T,T,T,F,T,T,F,F,F,F] rfl rfl (take_ofW HT_.out HW_.out (by kernel_rfl)) (fun _ _ _ h => h) (Or.inl ⟨by rfl, ?_⟩) hHeld ?_ ?_
          rotate_left
          ·
           rintro w' ⟨s0, s1⟩
           go_simp; with_reducible rfl
          rotate_left
          ·
           simp only [Act.put, lA, lZ, lS, i64_w, i32_w]; rfl
          refine one_ (i := 24) (N := some 92) #[T,T,T,T,T,T,T,T,T,T,T,T,T,T,T,T,T,T,T,T,T,T,T,T,T,T,T,F,F,F,F] rfl rfl (one_of HT_.out (by kernel_rfl)) (by decide) (fun K hK => ?_)
          refine goes_ Try.func19 (by kernel_rfl) rfl #[.agg #[.slice A0 l0.length c0, .slice A1 l1.length c1], .int .i64 a2] (by rfl) rfl rfl (by (try simp only [List.map_toArray, List.map_cons, List.map_nil]); first | done | rfl | (simp only [List.length_drop, List.length_take]; rfl)) ?_
          with_reducible refine (curve_Band.calls kj13 _ _ l0 _ _ l1 a2 t259 t260 _ ?side1 ?side2 ?side3 ?side4 A38.out).mono ?_
          (case side1 => repeat (first | exact (Kd.C_below HR0.out HB.out) | (with_reducible refine Kd.C_alloc ?_ _) | (with_reducible refine Kd.C_drewN ?_ _) | (with_reducible refine Kd.C_drew ?_)))
          (case side2 => exact HC0.out)
          (case side3 => repeat (first | exact (Kd.C_below HR1.out HB.out) | (with_reducible refine Kd.C_alloc ?_ _) | (with_reducible refine Kd.C_drewN ?_ _) | (with_reducible refine Kd.C_drew ?_)))
          (case side4 => exact HC1.out)
          rintro e w48 ⟨rfl, hb⟩
          refine ⟨_, rfl, ?_⟩
          have n0_ := Aside0.mk (bB (g := gb254) (o := .cells #[.slice A0 l0.length c0, .slice A1 l1.length c1] 29 (0, 0)) (by (with_reducible repeat (first | refine bN ?_ _ | refine bD ?_ | refine bA ?_ _)); exact BK254.out) hb)
          have n1_ := Aside0.mk (bP (by repeat (first | (with_reducible first | exact HB.out | apply bL | apply bW | apply b1 | refine bS ?_ GE254.out) | exact HB.out)) hb)
          clear BK254; clear HB; have BK254 := n0_
          have HB := n1_
          clear n0_ n1_; (try clear hb); (try clear hb2); (try clear hk); (try clear hi); refine hK.out _ _ ⟨(bC BK254.out 0).trans rfl, (bC BK254.out 1).trans rfl⟩ (fun hHeld => ?_)
          clear hK K; refine norm_ (a' := ?_) ?_ ?_
          rotate_left
          ·
           show Act.put _ (some 92) _ = _
           simp only [Act.put, lA, lZ, lS, i64_w, i32_w]; rfl
          refine one_ (i := 27) (N := some 95) #[T,T,T,T,T,T,T,T,T,T,T,T,T,T,T,T,T,T,T,T,T,T,T,T,T,T,T,T,F,F,F] rfl rfl (one_of HT_.out (by kernel_rfl)) (by decide) (fun K hK => ?_)
          refine goes_ Try.func20 (by kernel_rfl) rfl #[.agg #[.slice A0 l0.length c0, .slice A1 l1.length c1], .int .i64 a2] (by rfl) rfl rfl (by (try simp only [List.map_toArray, List.map_cons, List.map_nil]); first | done | rfl | (simp only [List.length_drop, List.length_take]; rfl)) ?_
          with_reducible refine (bourneref10_Band.calls kj13 _ _ l0 _ _ l1 a2 t261 t262 _ ?side1 ?side2 ?side3 ?side4 A39.out).mono ?_
          (case side1 => repeat (first | exact (Kd.C_below HR0.out HB.out) | (with_reducible refine Kd.C_alloc ?_ _) | (with_reducible refine Kd.C_drewN ?_ _) | (with_reducible refine Kd.C_drew ?_)))
          (case side2 => exact HC0.out)
          (case side3 => repeat (first | exact (Kd.C_below HR1.out HB.out) | (with_reducible refine Kd.C_alloc ?_ _) | (with_reducible refine Kd.C_drewN ?_ _) | (with_reducible refine Kd.C_drew ?_)))
          (case side4 => exact HC1.out)
          rintro e w49 ⟨rfl, hb⟩
          refine ⟨_, rfl, ?_⟩
          have n0_ := Aside0.mk (bB (g := gb254) (o := .cells #[.slice A0 l0.length c0, .slice A1 l1.length c1] 29 (0, 0)) (by (with_reducible repeat (first | refine bN ?_ _ | refine bD ?_ | refine bA ?_ _)); exact BK254.out) hb)
          have n1_ := Aside0.mk (bP (by repeat (first | (with_reducible first | exact HB.out | apply bL | apply bW | apply b1 | refine bS ?_ GE254.out) | exact HB.out)) hb)
          clear BK254; clear HB; have BK254 := n0_
          have HB := n1_
          clear n0_ n1_; (try clear hb); (try clear hb2); (try clear hk); (try clear hi); refine hK.out _ _ ⟨(bC BK254.out 0).trans rfl, (bC BK254.out 1).trans rfl⟩ (fun hHeld => ?_)
          clear hK K; refine norm_ (a' := ?_) ?_ ?_
          rotate_left
          ·
           show Act.put _ (some 95) _ = _
           simp only [Act.put, lA, lZ, lS, i64_w, i32_w]; rfl
          refine pure_ (i := 28) (N := some 96) (v := ?_) (a' := ?_) #[T,T,T,T,T,T,T,T,T,T,T,T,T,T,T,T,T,T,T,T,T,T,T,T,T,T,T,T,T,F,F] rfl rfl (any_of HT_.out (by kernel_rfl)) (fun _ _ _ h => h) (Or.inl ⟨by rfl, ?_⟩) ?_ ?_
          rotate_left
          ·
           intro w'; go_simp; with_reducible rfl
          rotate_left
          ·
           simp only [Act.put, lA, lZ, lS, i64_w, i32_w]; rfl
          refine pure_ (i := 29) (N := some 97) (v := ?_) (a' := ?_) #[T,T,T,T,T,T,T,T,T,T,T,T,T,T,T,T,T,T,T,T,T,T,T,T,T,T,T,T,T,T,F] rfl rfl (any_of HT_.out (by kernel_rfl)) (fun _ _ _ h => h) (Or.inl ⟨by rfl, ?_⟩) ?_ ?_
          rotate_left
          ·
           intro w'; go_simp; with_reducible rfl
          rotate_left
          ·
           simp only [Act.put, lA, lZ, lS, i64_w, i32_w]; rfl
          refine pure_ (i := 30) (N := some 12) (v := ?_) (a' := ?_) #[T,T,T,T,T,T,T,T,T,T,T,T,T,T,T,T,T,T,T,T,T,T,T,T,T,T,T,T,T,T,T] rfl rfl (any_of HT_.out (by kernel_rfl)) (fun _ _ _ h => h) (Or.inl ⟨by rfl, ?_⟩) ?_ ?_
          rotate_left
          ·
           intro w'; go_simp; with_reducible rfl
          rotate_left
          ·
           simp only [Act.put, lA, lZ, lS, i64_w, i32_w]; rfl
          refine done_ (done_of HT_.out (by kernel_rfl)) ?_
          try go_wp2
          go_ret
          exact ⟨by first | rfl | (simp [errW_none, errW_some] <;> rfl) | (simp [*, errW_none, errW_some] <;> rfl), by repeat (first | (with_reducible first | exact HB.out | apply bL | apply bW | apply b1 | refine bS ?_ GE254.out) | exact HB.out)⟩
         ·
          rw [if_neg c37] at H; have c37b0 : (t257 == t258) = false := by simpa using c37
          (try (have c37b1 : decide (t257 = t258) = false := by simpa using c37))
          (try (have c37b2 : (t257 == t258) = false := by simpa using c37))
          (try (have c37b3 : ¬ (t257 = t258) := by simpa using c37))
          clear c37; exact absurd (H.trans (congrArg some hT.out)) (by simp)
        ·
         rw [if_neg c34] at H; have c34b0 : (t255 == t256) = false := by simpa using c34
         (try (have c34b1 : decide (t255 = t256) = false := by simpa using c34))
         (try (have c34b2 : (t255 == t256) = false := by simpa using c34))
         (try (have c34b3 : ¬ (t255 = t256) := by simpa using c34))
         clear c34; exact absurd (H.trans (congrArg some hT.out)) (by simp)
       ·
        replace c31 := Bool.eq_false_iff.mpr c31
        subst c31; have H1 : (some false) = some r := by rw [if_neg (show ¬ (false = true) by decide)] at H; exact H
        clear H; have H := H1
        clear H1; exact absurd (H.trans (congrArg some hT.out)) (by simp)
def bournelaw10_CurveTells.Pure : Prop := ∀ (l0 : List (S37)) (l1 : List (S37)) (a2 : Int) (a3 : Int) (a4 : Int) (a5 : Int), l0.length ≤ maxLen → (∀ y, y ∈ l0 → w37 y) → l1.length ≤ maxLen → (∀ y, y ∈ l1 → w37 y) → (Lit.int .i64 a2).wf = true → (Lit.int .i64 a3).wf = true → (Lit.int .i64 a4).wf = true → (Lit.int .i64 a5).wf = true → ∃ k, bournelaw10_CurveTells.f k l0 l1 a2 a3 a4 a5 = some true
theorem bournelaw10_CurveTells.walk (P_ : bournelaw10_CurveTells.Pure) (A0 : Option Addr) (c0 : Nat) (l0 : List (S37)) (A1 : Option Addr) (c1 : Nat) (l1 : List (S37)) (a2 : Int) (a3 : Int) (a4 : Int) (a5 : Int) (w : World) (hr0 : Kd.C k37 w A0 l0.length l0) (hc0 : l0.length ≤ c0) (hr1 : Kd.C k37 w A1 l1.length l1) (hc1 : l1.length ≤ c1) (y0 : l0.length ≤ maxLen) (y1 : (∀ y, y ∈ l0 → w37 y)) (y2 : l1.length ≤ maxLen) (y3 : (∀ y, y ∈ l1 → w37 y)) (y4 : (Lit.int .i64 a2).wf = true) (y5 : (Lit.int .i64 a3).wf = true) (y6 : (Lit.int .i64 a4).wf = true) (y7 : (Lit.int .i64 a5).wf = true) :
  Calls Try.prog 3 #[.slice A0 l0.length c0, .slice A1 l1.length c1, .int .i64 a2, .int .i64 a3, .int .i64 a4, .int .i64 a5] w fun e w' => e = .returned (.bool true) ∧ Below w.heap.size w w' := by
 obtain ⟨k, h⟩ := P_ l0 l1 a2 a3 a4 a5 y0 y1 y2 y3 y4 y5 y6 y7
 refine (bournelaw10_CurveTells.calls k A0 c0 l0 A1 c1 l1 a2 a3 a4 a5 true w hr0 hc0 hr1 hc1 ⟨rfl⟩ h).mono ?_
 rintro e w' ⟨rfl, hd⟩
 exact ⟨rfl, hd⟩
end Go.Proofs.Ytmkekbehipaopaa.Fn
