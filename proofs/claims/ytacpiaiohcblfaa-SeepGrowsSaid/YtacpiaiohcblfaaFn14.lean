-- written by this session's program myprint.py out of the translation; Lean checks it
import Derived.Test.YtacpiaiohcblfaaFn0
import Derived.Test.YtacpiaiohcblfaaBox
import Derived.Test.YtacpiaiohcblfaaRdT
import Derived.Test.YtacpiaiohcblfaaFn5
import Derived.Test.YtacpiaiohcblfaaFnM
import Derived.Test.YtacpiaiohcblfaaFn13
namespace Go.Proofs.Ytacpiaiohcblfaa.Fn
open Go.Proofs.Ytacpiaiohcblfaa.Rd (w90)
open Go.RowKit Go.Proofs.YtacpiaiohcblfaaW.PrintWords Go.Proofs.YtacpiaiohcblfaaW.PrintLast Go.Proofs.YtacpiaiohcblfaaW.PrintMore
open Bool renaming true → t_, false → f_
open List renaming setIfInBounds_toArray → lA, set_cons_zero → lZ, set_cons_succ → lS
open Go.Proofs.YtacpiaiohcblfaaW.PrintWords renaming blk_drewN → bN, blk_drew → bD, blk_alloc → bA, below_set → bS, blk_cell → bC, blk_below → bB, blk_frozen → bF, pw_below_drewN → bW, below_drew1 → b1, below_alloc → bL, below_step → bP, below_size → bZ, blk_far → bR, blk_put → bU, blk_lt → bT
attribute [local go_sem] max2_int min2_int max_two min_two max_three min_three max_four min_four   -- for this text's walks alone
set_option linter.unusedVariables false
set_option linter.unusedSimpArgs false

/-! ### bournelaw20_SeepGrows: function 6 -/
mutual
def bournelaw20_SeepGrows.j0 : Nat → Bool → Bool → ByteArray → Int → Int → Int → List (S90) → List (S90) → List (S90) → Int → Int → Int → Int → Int → Int → Int → Int → Int → Int → Int → Int → Int → Int → Int → Int → Int → Option (Bool)
 | 0, _, _, _, _, _, _, _, _, _, _, _, _, _, _, _, _, _, _, _, _, _, _, _, _, _, _ => none
 | k + 1, x9, x59, x241000, x241001, x241002, x241003, x241004, x241005, x241006, x241007, x241008, x241009, x241010, x241011, x241012, x241013, x241014, x241015, x241016, x241017, x242000, x242001, x243000, x243001, x244000, x244001 => if x59 = true then (some x9) else ((seep_Ask.f k x241000 x241001 x241002 x241003 x241004 x241005 x241006 x241007 x241008 x241009 x241010 x241011 x241012 x241013 x241014 x241015 x241016 x241017 x242000 x243000).bind fun t248 => ((seep_Ask.f k x241000 x241001 x241002 x241003 x241004 x241005 x241006 x241007 x241008 x241009 x241010 x241011 x241012 x241013 x241014 x241015 x241016 x241017 x242001 x243000).bind fun t249 => (if t248 > t249 then (bournelaw20_SeepGrows.j1 k x9 true x241000 x241001 x241002 x241003 x241004 x241005 x241006 x241007 x241008 x241009 x241010 x241011 x241012 x241013 x241014 x241015 x241016 x241017 x242000 x242001 x243000 x243001 x244000 x244001) else ((seep_Ask.f k x241000 x241001 x241002 x241003 x241004 x241005 x241006 x241007 x241008 x241009 x241010 x241011 x241012 x241013 x241014 x241015 x241016 x241017 x242000 x243000).bind fun t250 => ((seep_Ask.f k x241000 x241001 x241002 x241003 x241004 x241005 x241006 x241007 x241008 x241009 x241010 x241011 x241012 x241013 x241014 x241015 x241016 x241017 x242000 x243001).bind fun t251 => (bournelaw20_SeepGrows.j1 k x9 (decide (t250 < t251)) x241000 x241001 x241002 x241003 x241004 x241005 x241006 x241007 x241008 x241009 x241010 x241011 x241012 x241013 x241014 x241015 x241016 x241017 x242000 x242001 x243000 x243001 x244000 x244001))))))
def bournelaw20_SeepGrows.j1 : Nat → Bool → Bool → ByteArray → Int → Int → Int → List (S90) → List (S90) → List (S90) → Int → Int → Int → Int → Int → Int → Int → Int → Int → Int → Int → Int → Int → Int → Int → Int → Int → Option (Bool)
 | 0, _, _, _, _, _, _, _, _, _, _, _, _, _, _, _, _, _, _, _, _, _, _, _, _, _, _ => none
 | k + 1, x9, x88, x241000, x241001, x241002, x241003, x241004, x241005, x241006, x241007, x241008, x241009, x241010, x241011, x241012, x241013, x241014, x241015, x241016, x241017, x242000, x242001, x243000, x243001, x244000, x244001 => if x88 = true then (some false) else ((span_Meet.f x242000 x242001 x244000 x244001).bind fun bt252 => (if bt252.2.2 = true then (if x9 = true then ((seep_Bounds.f k x241000 x241001 x241002 x241003 x241004 x241005 x241006 x241007 x241008 x241009 x241010 x241011 x241012 x241013 x241014 x241015 x241016 x241017 bt252.1 bt252.2.1 x243000 x243001).bind fun bt256 => ((seep_Bounds.f k x241000 x241001 x241002 x241003 x241004 x241005 x241006 x241007 x241008 x241009 x241010 x241011 x241012 x241013 x241014 x241015 x241016 x241017 x242000 x242001 x243000 x243001).bind fun bt258 => ((span_Within.f bt256.1 bt256.2 bt258.1 bt258.2).bind fun t260 => (if t260 = true then ((seep_Bounds.f k x241000 x241001 x241002 x241003 x241004 x241005 x241006 x241007 x241008 x241009 x241010 x241011 x241012 x241013 x241014 x241015 x241016 x241017 x243000 x243001 bt252.1 bt252.2.1).bind fun bt261 => ((seep_Bounds.f k x241000 x241001 x241002 x241003 x241004 x241005 x241006 x241007 x241008 x241009 x241010 x241011 x241012 x241013 x241014 x241015 x241016 x241017 x243000 x243001 x244000 x244001).bind fun bt263 => ((span_Within.f bt261.1 bt261.2 bt263.1 bt263.2).bind fun t265 => (some t265)))) else (some false))))) else (some false)) else (some x9)))
end
def bournelaw20_SeepGrows.f (k : Nat) (a0_0 : ByteArray) (a0_1 : Int) (a0_2 : Int) (a0_3 : Int) (l0_4 : List (S90)) (l0_5 : List (S90)) (l0_6 : List (S90)) (a0_7 : Int) (a0_8 : Int) (a0_9 : Int) (a0_10 : Int) (a0_11 : Int) (a0_12 : Int) (a0_13 : Int) (a0_14 : Int) (a0_15 : Int) (a0_16 : Int) (a0_17 : Int) (a1_0 : Int) (a1_1 : Int) (a2_0 : Int) (a2_1 : Int) (a3_0 : Int) (a3_1 : Int) : Option (Bool) := (bournelaw20_small.f k).bind fun t244 => ((bournelaw20_within.f a1_0 a1_1).bind fun t245 => (if t245 = true then ((bournelaw20_within.f a2_0 a2_1).bind fun t246 => (if t246 = true then ((bournelaw20_within.f a3_0 a3_1).bind fun t247 => (if t247 = true then (if a0_11 < 0 then (bournelaw20_SeepGrows.j0 k t244 true a0_0 a0_1 a0_2 a0_3 l0_4 l0_5 l0_6 a0_7 a0_8 a0_9 a0_10 a0_11 a0_12 a0_13 a0_14 a0_15 a0_16 a0_17 a1_0 a1_1 a2_0 a2_1 a3_0 a3_1) else (if a0_15 < 0 then (bournelaw20_SeepGrows.j0 k t244 true a0_0 a0_1 a0_2 a0_3 l0_4 l0_5 l0_6 a0_7 a0_8 a0_9 a0_10 a0_11 a0_12 a0_13 a0_14 a0_15 a0_16 a0_17 a1_0 a1_1 a2_0 a2_1 a3_0 a3_1) else (if a0_11 > a0_12 then (bournelaw20_SeepGrows.j0 k t244 true a0_0 a0_1 a0_2 a0_3 l0_4 l0_5 l0_6 a0_7 a0_8 a0_9 a0_10 a0_11 a0_12 a0_13 a0_14 a0_15 a0_16 a0_17 a1_0 a1_1 a2_0 a2_1 a3_0 a3_1) else (if a0_15 > a0_16 then (bournelaw20_SeepGrows.j0 k t244 true a0_0 a0_1 a0_2 a0_3 l0_4 l0_5 l0_6 a0_7 a0_8 a0_9 a0_10 a0_11 a0_12 a0_13 a0_14 a0_15 a0_16 a0_17 a1_0 a1_1 a2_0 a2_1 a3_0 a3_1) else (if a0_12 > 1125899906842624 then (bournelaw20_SeepGrows.j0 k t244 true a0_0 a0_1 a0_2 a0_3 l0_4 l0_5 l0_6 a0_7 a0_8 a0_9 a0_10 a0_11 a0_12 a0_13 a0_14 a0_15 a0_16 a0_17 a1_0 a1_1 a2_0 a2_1 a3_0 a3_1) else (bournelaw20_SeepGrows.j0 k t244 (decide (a0_16 > 1125899906842624)) a0_0 a0_1 a0_2 a0_3 l0_4 l0_5 l0_6 a0_7 a0_8 a0_9 a0_10 a0_11 a0_12 a0_13 a0_14 a0_15 a0_16 a0_17 a1_0 a1_1 a2_0 a2_1 a3_0 a3_1)))))) else (bournelaw20_SeepGrows.j0 k t244 true a0_0 a0_1 a0_2 a0_3 l0_4 l0_5 l0_6 a0_7 a0_8 a0_9 a0_10 a0_11 a0_12 a0_13 a0_14 a0_15 a0_16 a0_17 a1_0 a1_1 a2_0 a2_1 a3_0 a3_1))) else (bournelaw20_SeepGrows.j0 k t244 true a0_0 a0_1 a0_2 a0_3 l0_4 l0_5 l0_6 a0_7 a0_8 a0_9 a0_10 a0_11 a0_12 a0_13 a0_14 a0_15 a0_16 a0_17 a1_0 a1_1 a2_0 a2_1 a3_0 a3_1))) else (bournelaw20_SeepGrows.j0 k t244 true a0_0 a0_1 a0_2 a0_3 l0_4 l0_5 l0_6 a0_7 a0_8 a0_9 a0_10 a0_11 a0_12 a0_13 a0_14 a0_15 a0_16 a0_17 a1_0 a1_1 a2_0 a2_1 a3_0 a3_1)))
theorem bournelaw20_SeepGrows.mono_l : ∀ k, (∀ y0 y1 y2 y3 y4 y5 y6 y7 y8 y9 y10 y11 y12 y13 y14 y15 y16 y17 y18 y19 y20 y21 y22 y23 y24 y25, LeO (bournelaw20_SeepGrows.j0 k y0 y1 y2 y3 y4 y5 y6 y7 y8 y9 y10 y11 y12 y13 y14 y15 y16 y17 y18 y19 y20 y21 y22 y23 y24 y25) (bournelaw20_SeepGrows.j0 (k + 1) y0 y1 y2 y3 y4 y5 y6 y7 y8 y9 y10 y11 y12 y13 y14 y15 y16 y17 y18 y19 y20 y21 y22 y23 y24 y25)) ∧ (∀ y0 y1 y2 y3 y4 y5 y6 y7 y8 y9 y10 y11 y12 y13 y14 y15 y16 y17 y18 y19 y20 y21 y22 y23 y24 y25, LeO (bournelaw20_SeepGrows.j1 k y0 y1 y2 y3 y4 y5 y6 y7 y8 y9 y10 y11 y12 y13 y14 y15 y16 y17 y18 y19 y20 y21 y22 y23 y24 y25) (bournelaw20_SeepGrows.j1 (k + 1) y0 y1 y2 y3 y4 y5 y6 y7 y8 y9 y10 y11 y12 y13 y14 y15 y16 y17 y18 y19 y20 y21 y22 y23 y24 y25))
 | 0 => ⟨fun _ _ _ _ _ _ _ _ _ _ _ _ _ _ _ _ _ _ _ _ _ _ _ _ _ _ r h => by simp [bournelaw20_SeepGrows.j0] at h, fun _ _ _ _ _ _ _ _ _ _ _ _ _ _ _ _ _ _ _ _ _ _ _ _ _ _ r h => by simp [bournelaw20_SeepGrows.j1] at h⟩
 | k + 1 => by
  obtain ⟨ih0, ih1⟩ := bournelaw20_SeepGrows.mono_l k
  refine ⟨?_, ?_⟩
  ·
   intro y0 y1 y2 y3 y4 y5 y6 y7 y8 y9 y10 y11 y12 y13 y14 y15 y16 y17 y18 y19 y20 y21 y22 y23 y24 y25
   unfold bournelaw20_SeepGrows.j0
   repeat' first
   | (with_reducible exact ih0 _ _ _ _ _ _ _ _ _ _ _ _ _ _ _ _ _ _ _ _ _ _ _ _ _ _)
   | (with_reducible exact ih1 _ _ _ _ _ _ _ _ _ _ _ _ _ _ _ _ _ _ _ _ _ _ _ _ _ _)
   | (with_reducible exact bournelaw20_small.mono _)
   | (with_reducible exact seep_Ask.mono _ _ _ _ _ _ _ _ _ _ _ _ _ _ _ _ _ _ _ _ _)
   | (with_reducible exact seep_Bounds.mono _ _ _ _ _ _ _ _ _ _ _ _ _ _ _ _ _ _ _ _ _ _ _)
   | (with_reducible exact LeO.refl _)
   | (with_reducible exact LeO.none _)
   | (with_reducible refine LeO.ite ?_ ?_)
   | (with_reducible refine LeO.bind ?_ (fun _ => ?_))
   | exact ih0 _ _ _ _ _ _ _ _ _ _ _ _ _ _ _ _ _ _ _ _ _ _ _ _ _ _
   | exact ih1 _ _ _ _ _ _ _ _ _ _ _ _ _ _ _ _ _ _ _ _ _ _ _ _ _ _
   | exact bournelaw20_small.mono _
   | exact seep_Ask.mono _ _ _ _ _ _ _ _ _ _ _ _ _ _ _ _ _ _ _ _ _
   | exact seep_Bounds.mono _ _ _ _ _ _ _ _ _ _ _ _ _ _ _ _ _ _ _ _ _ _ _
   | exact LeO.none _
   | refine LeO.ite ?_ ?_
   | refine LeO.bind ?_ (fun _ => ?_)
  ·
   intro y0 y1 y2 y3 y4 y5 y6 y7 y8 y9 y10 y11 y12 y13 y14 y15 y16 y17 y18 y19 y20 y21 y22 y23 y24 y25
   unfold bournelaw20_SeepGrows.j1
   repeat' first
   | (with_reducible exact ih0 _ _ _ _ _ _ _ _ _ _ _ _ _ _ _ _ _ _ _ _ _ _ _ _ _ _)
   | (with_reducible exact ih1 _ _ _ _ _ _ _ _ _ _ _ _ _ _ _ _ _ _ _ _ _ _ _ _ _ _)
   | (with_reducible exact bournelaw20_small.mono _)
   | (with_reducible exact seep_Ask.mono _ _ _ _ _ _ _ _ _ _ _ _ _ _ _ _ _ _ _ _ _)
   | (with_reducible exact seep_Bounds.mono _ _ _ _ _ _ _ _ _ _ _ _ _ _ _ _ _ _ _ _ _ _ _)
   | (with_reducible exact LeO.refl _)
   | (with_reducible exact LeO.none _)
   | (with_reducible refine LeO.ite ?_ ?_)
   | (with_reducible refine LeO.bind ?_ (fun _ => ?_))
   | exact ih0 _ _ _ _ _ _ _ _ _ _ _ _ _ _ _ _ _ _ _ _ _ _ _ _ _ _
   | exact ih1 _ _ _ _ _ _ _ _ _ _ _ _ _ _ _ _ _ _ _ _ _ _ _ _ _ _
   | exact bournelaw20_small.mono _
   | exact seep_Ask.mono _ _ _ _ _ _ _ _ _ _ _ _ _ _ _ _ _ _ _ _ _
   | exact seep_Bounds.mono _ _ _ _ _ _ _ _ _ _ _ _ _ _ _ _ _ _ _ _ _ _ _
   | exact LeO.none _
   | refine LeO.ite ?_ ?_
   | refine LeO.bind ?_ (fun _ => ?_)
theorem bournelaw20_SeepGrows.mono : ∀ a0 a1 a2 a3 a4 a5 a6 a7 a8 a9 a10 a11 a12 a13 a14 a15 a16 a17 a18 a19 a20 a21 a22 a23 k, LeO (bournelaw20_SeepGrows.f k a0 a1 a2 a3 a4 a5 a6 a7 a8 a9 a10 a11 a12 a13 a14 a15 a16 a17 a18 a19 a20 a21 a22 a23) (bournelaw20_SeepGrows.f (k + 1) a0 a1 a2 a3 a4 a5 a6 a7 a8 a9 a10 a11 a12 a13 a14 a15 a16 a17 a18 a19 a20 a21 a22 a23) := by
 intro a0 a1 a2 a3 a4 a5 a6 a7 a8 a9 a10 a11 a12 a13 a14 a15 a16 a17 a18 a19 a20 a21 a22 a23 k
 obtain ⟨ih0, ih1⟩ := bournelaw20_SeepGrows.mono_l k
 unfold bournelaw20_SeepGrows.f
 repeat' first
   | (with_reducible exact ih0 _ _ _ _ _ _ _ _ _ _ _ _ _ _ _ _ _ _ _ _ _ _ _ _ _ _)
   | (with_reducible exact ih1 _ _ _ _ _ _ _ _ _ _ _ _ _ _ _ _ _ _ _ _ _ _ _ _ _ _)
   | (with_reducible exact bournelaw20_small.mono _)
   | (with_reducible exact seep_Ask.mono _ _ _ _ _ _ _ _ _ _ _ _ _ _ _ _ _ _ _ _ _)
   | (with_reducible exact seep_Bounds.mono _ _ _ _ _ _ _ _ _ _ _ _ _ _ _ _ _ _ _ _ _ _ _)
   | (with_reducible exact LeO.refl _)
   | (with_reducible exact LeO.none _)
   | (with_reducible refine LeO.ite ?_ ?_)
   | (with_reducible refine LeO.bind ?_ (fun _ => ?_))
   | exact ih0 _ _ _ _ _ _ _ _ _ _ _ _ _ _ _ _ _ _ _ _ _ _ _ _ _ _
   | exact ih1 _ _ _ _ _ _ _ _ _ _ _ _ _ _ _ _ _ _ _ _ _ _ _ _ _ _
   | exact bournelaw20_small.mono _
   | exact seep_Ask.mono _ _ _ _ _ _ _ _ _ _ _ _ _ _ _ _ _ _ _ _ _
   | exact seep_Bounds.mono _ _ _ _ _ _ _ _ _ _ _ _ _ _ _ _ _ _ _ _ _ _ _
   | exact LeO.none _
   | refine LeO.ite ?_ ?_
   | refine LeO.bind ?_ (fun _ => ?_)
def bournelaw20_SeepGrows.T4 : Bool × List (List Nat × List Nat) := (true, [([], []), ([], []), ([1], [1]), ([], []), ([3], [3]), ([0, 2, 4], [0, 2, 4]), ([], []), ([], []), ([7], [7]), ([], []), ([9], [9]), ([6, 8, 10, 5], [6, 8, 10]), ([5, 11], [5, 11]), ([12, 11], [12]), ([13], [13]), ([13], [13]), ([15, 13], [13, 15]), ([13], [13]), ([17, 13], [13, 17]), ([14, 16, 18, 13, 13], [13, 14, 16, 18]), ([13], [13]), ([13], [13]), ([21, 13], [13, 21]), ([13], [13]), ([23, 13], [13, 23]), ([20, 22, 24, 19, 13], [13, 20, 22, 24]), ([19, 25, 13], [13, 19, 25]), ([13, 26], [13, 26])])
def bournelaw20_SeepGrows.B4 : List Nat := [0, 0, 2, 0, 8, 31, 0, 0, 128, 0, 512, 2047, 4095, 8191, 16383, 16383, 49151, 16383, 147455, 524287, 16383, 16383, 2113535, 16383, 8404991, 33554431, 67108863, 134217727]
theorem bournelaw20_SeepGrows.tab4 : rtab .any (opsOf Try.f6 4) = bournelaw20_SeepGrows.T4 := by kernel_rfl
theorem bournelaw20_SeepGrows.bits4 : waitsOk bournelaw20_SeepGrows.T4.2 bournelaw20_SeepGrows.B4 = true := by kernel_rfl
def bournelaw20_SeepGrows.T9 : Bool × List (List Nat × List Nat) := (true, [([], []), ([0], [0]), ([1], [1]), ([1], [1]), ([1], [1]), ([2, 3, 4, 1, 1], [1, 2, 3, 4]), ([1], [1]), ([1], [1]), ([1], [1]), ([6, 7, 8, 5, 1], [1, 6, 7, 8]), ([5, 9, 9, 1], [1, 5, 9]), ([1, 10], [1, 10]), ([11, 10], [11]), ([12], [12]), ([12], [12]), ([12], [12]), ([13, 14, 15, 12, 12], [12, 13, 14, 15]), ([12], [12]), ([12], [12]), ([12], [12]), ([17, 18, 19, 16, 12], [12, 17, 18, 19]), ([16, 20, 20, 12], [12, 16, 20]), ([12, 21], [12, 21]), ([22, 21, 0, 1, 2, 3, 4, 5, 6, 7, 8, 9, 10, 11, 12, 13, 14, 15, 16, 17, 18, 19, 20, 21, 22], [22])])
def bournelaw20_SeepGrows.B9 : List Nat := [0, 1, 3, 3, 3, 31, 3, 3, 3, 511, 1023, 2047, 4095, 8191, 8191, 8191, 65535, 8191, 8191, 8191, 1048575, 2097151, 4194303, 8388607]
theorem bournelaw20_SeepGrows.tab9 : rtab .any (opsOf Try.f6 9) = bournelaw20_SeepGrows.T9 := by kernel_rfl
theorem bournelaw20_SeepGrows.bits9 : waitsOk bournelaw20_SeepGrows.T9.2 bournelaw20_SeepGrows.B9 = true := by kernel_rfl
set_option maxHeartbeats 8000000 in
set_option maxRecDepth 100000 in
theorem bournelaw20_SeepGrows.calls (k : Nat) (a0_0 : ByteArray) (a0_1 : Int) (a0_2 : Int) (a0_3 : Int) (A0_4 : Option Addr) (c0_4 : Nat) (l0_4 : List (S90)) (A0_5 : Option Addr) (c0_5 : Nat) (l0_5 : List (S90)) (A0_6 : Option Addr) (c0_6 : Nat) (l0_6 : List (S90)) (a0_7 : Int) (a0_8 : Int) (a0_9 : Int) (a0_10 : Int) (a0_11 : Int) (a0_12 : Int) (a0_13 : Int) (a0_14 : Int) (a0_15 : Int) (a0_16 : Int) (a0_17 : Int) (a1_0 : Int) (a1_1 : Int) (a2_0 : Int) (a2_1 : Int) (a3_0 : Int) (a3_1 : Int) (r : Bool) (w : World) (hr0_4 : Kd.C k90 w A0_4 l0_4.length l0_4) (hc0_4 : l0_4.length ≤ c0_4) (hr0_5 : Kd.C k90 w A0_5 l0_5.length l0_5) (hc0_5 : l0_5.length ≤ c0_5) (hr0_6 : Kd.C k90 w A0_6 l0_6.length l0_6) (hc0_6 : l0_6.length ≤ c0_6) (hT : Aside0 (r = true)) (h : bournelaw20_SeepGrows.f k a0_0 a0_1 a0_2 a0_3 l0_4 l0_5 l0_6 a0_7 a0_8 a0_9 a0_10 a0_11 a0_12 a0_13 a0_14 a0_15 a0_16 a0_17 a1_0 a1_1 a2_0 a2_1 a3_0 a3_1 = some r) :
  Calls Try.prog 6 #[.agg #[.string a0_0, .int .i64 a0_1, .int .i64 a0_2, .int .i64 a0_3, .slice A0_4 l0_4.length c0_4, .slice A0_5 l0_5.length c0_5, .slice A0_6 l0_6.length c0_6, .int .i64 a0_7, .int .i64 a0_8, .int .i64 a0_9, .int .i64 a0_10, .int .i64 a0_11, .int .i64 a0_12, .int .i64 a0_13, .int .i64 a0_14, .int .i64 a0_15, .int .i64 a0_16, .int .i64 a0_17], .agg #[.int .i64 a1_0, .int .i64 a1_1], .agg #[.int .i64 a2_0, .int .i64 a2_1], .agg #[.int .i64 a3_0, .int .i64 a3_1]] w fun e w' => e = .returned (.bool r) ∧ Below w.heap.size w w' := by
 have hu26 := Try.underlying26
 have hi26 : (Try.prog.info? 26).map (·.size) = some 18 := by kernel_rfl
 have hu30 := Try.underlying30
 have HR0_4 := Aside0.mk hr0_4
 have HC0_4 := Aside0.mk hc0_4
 clear hr0_4 hc0_4
 have HR0_5 := Aside0.mk hr0_5
 have HC0_5 := Aside0.mk hc0_5
 clear hr0_5 hc0_5
 have HR0_6 := Aside0.mk hr0_6
 have HC0_6 := Aside0.mk hc0_6
 clear hr0_6 hc0_6
 have HB := Aside0.mk (Below.refl w.heap.size w)
 have H : ((bournelaw20_small.f k).bind fun t244 => ((bournelaw20_within.f a1_0 a1_1).bind fun t245 => (if t245 = true then ((bournelaw20_within.f a2_0 a2_1).bind fun t246 => (if t246 = true then ((bournelaw20_within.f a3_0 a3_1).bind fun t247 => (if t247 = true then (if a0_11 < 0 then (bournelaw20_SeepGrows.j0 k t244 true a0_0 a0_1 a0_2 a0_3 l0_4 l0_5 l0_6 a0_7 a0_8 a0_9 a0_10 a0_11 a0_12 a0_13 a0_14 a0_15 a0_16 a0_17 a1_0 a1_1 a2_0 a2_1 a3_0 a3_1) else (if a0_15 < 0 then (bournelaw20_SeepGrows.j0 k t244 true a0_0 a0_1 a0_2 a0_3 l0_4 l0_5 l0_6 a0_7 a0_8 a0_9 a0_10 a0_11 a0_12 a0_13 a0_14 a0_15 a0_16 a0_17 a1_0 a1_1 a2_0 a2_1 a3_0 a3_1) else (if a0_11 > a0_12 then (bournelaw20_SeepGrows.j0 k t244 true a0_0 a0_1 a0_2 a0_3 l0_4 l0_5 l0_6 a0_7 a0_8 a0_9 a0_10 a0_11 a0_12 a0_13 a0_14 a0_15 a0_16 a0_17 a1_0 a1_1 a2_0 a2_1 a3_0 a3_1) else (if a0_15 > a0_16 then (bournelaw20_SeepGrows.j0 k t244 true a0_0 a0_1 a0_2 a0_3 l0_4 l0_5 l0_6 a0_7 a0_8 a0_9 a0_10 a0_11 a0_12 a0_13 a0_14 a0_15 a0_16 a0_17 a1_0 a1_1 a2_0 a2_1 a3_0 a3_1) else (if a0_12 > 1125899906842624 then (bournelaw20_SeepGrows.j0 k t244 true a0_0 a0_1 a0_2 a0_3 l0_4 l0_5 l0_6 a0_7 a0_8 a0_9 a0_10 a0_11 a0_12 a0_13 a0_14 a0_15 a0_16 a0_17 a1_0 a1_1 a2_0 a2_1 a3_0 a3_1) else (bournelaw20_SeepGrows.j0 k t244 (decide (a0_16 > 1125899906842624)) a0_0 a0_1 a0_2 a0_3 l0_4 l0_5 l0_6 a0_7 a0_8 a0_9 a0_10 a0_11 a0_12 a0_13 a0_14 a0_15 a0_16 a0_17 a1_0 a1_1 a2_0 a2_1 a3_0 a3_1)))))) else (bournelaw20_SeepGrows.j0 k t244 true a0_0 a0_1 a0_2 a0_3 l0_4 l0_5 l0_6 a0_7 a0_8 a0_9 a0_10 a0_11 a0_12 a0_13 a0_14 a0_15 a0_16 a0_17 a1_0 a1_1 a2_0 a2_1 a3_0 a3_1))) else (bournelaw20_SeepGrows.j0 k t244 true a0_0 a0_1 a0_2 a0_3 l0_4 l0_5 l0_6 a0_7 a0_8 a0_9 a0_10 a0_11 a0_12 a0_13 a0_14 a0_15 a0_16 a0_17 a1_0 a1_1 a2_0 a2_1 a3_0 a3_1))) else (bournelaw20_SeepGrows.j0 k t244 true a0_0 a0_1 a0_2 a0_3 l0_4 l0_5 l0_6 a0_7 a0_8 a0_9 a0_10 a0_11 a0_12 a0_13 a0_14 a0_15 a0_16 a0_17 a1_0 a1_1 a2_0 a2_1 a3_0 a3_1)))) = some r := h
 clear h
 replace H := Option.bind_eq_some_iff.mp H
 obtain ⟨t244, A50, H⟩ := H
 have A5 := Aside0.mk A50
 clear A50
 have HC6 := Aside0.mk H
 clear H
 go_enter Try.func6, Try.ntmps6
 (try simp only [List.append_eq, List.cons_append, List.nil_append])
 go_upto_region 2 with (first | ((with_reducible refine gate_dst (N := 4) rfl ?_); refine box_event ?hg (N := 4) ?hd (cs := #[.string a0_0, .int .i64 a0_1, .int .i64 a0_2, .int .i64 a0_3, .slice A0_4 l0_4.length c0_4, .slice A0_5 l0_5.length c0_5, .slice A0_6 l0_6.length c0_6, .int .i64 a0_7, .int .i64 a0_8, .int .i64 a0_9, .int .i64 a0_10, .int .i64 a0_11, .int .i64 a0_12, .int .i64 a0_13, .int .i64 a0_14, .int .i64 a0_15, .int .i64 a0_16, .int .i64 a0_17]) (t := 26) ?hr ?_; (case hd => rfl); (case hg => rfl); (case hr => first | (go_simp; done) | (go_simp; rfl)); intro gb240 hg w7 hbox hb; have n0_ := Aside0.mk (bP (by repeat (first | (with_reducible first | exact HB.out | apply bL | apply bW | apply b1) | exact HB.out)) hb); have n1_ := Aside0.mk (hbox); have n2_ := Aside0.mk ((by rw [hg]; exact (bZ (by repeat (first | (with_reducible first | exact HB.out | apply bL | apply bW | apply b1) | exact HB.out))) : w.heap.size ≤ gb240)); have n3_ := Aside0.mk ((by rw [hg]; exact (bZ (by repeat (first | (with_reducible first | exact HB.out | apply bL | apply bW | apply b1) | exact HB.out))) : w.heap.size ≤ gb240)); clear HB; have HB := n0_; have BK240 := n1_; have GW240 := n2_; have GE240 := n3_; clear n0_ n1_ n2_ n3_; clear hb hbox hg) | ((with_reducible refine gate_dst (N := 5) rfl ?_); refine box_event ?hg (N := 5) ?hd (cs := #[.int .i64 a1_0, .int .i64 a1_1]) (t := 30) ?hr ?_; (case hd => rfl); (case hg => rfl); (case hr => first | (go_simp; done) | (go_simp; rfl)); intro gb241 hg w8 hbox hb; have n0_ := Aside0.mk (bB (g := gb240) (o := .cells #[.string a0_0, .int .i64 a0_1, .int .i64 a0_2, .int .i64 a0_3, .slice A0_4 l0_4.length c0_4, .slice A0_5 l0_5.length c0_5, .slice A0_6 l0_6.length c0_6, .int .i64 a0_7, .int .i64 a0_8, .int .i64 a0_9, .int .i64 a0_10, .int .i64 a0_11, .int .i64 a0_12, .int .i64 a0_13, .int .i64 a0_14, .int .i64 a0_15, .int .i64 a0_16, .int .i64 a0_17] 26 (0, 0)) (by (with_reducible repeat (first | refine bN ?_ _ | refine bD ?_ | refine bA ?_ _)); exact BK240.out) hb); have n1_ := Aside0.mk (bP (by repeat (first | (with_reducible first | exact HB.out | apply bL | apply bW | apply b1 | refine bS ?_ GE240.out) | exact HB.out)) hb); have n2_ := Aside0.mk (hbox); have n3_ := Aside0.mk ((by rw [hg]; exact (bZ (by repeat (first | (with_reducible first | exact HB.out | apply bL | apply bW | apply b1 | refine bS ?_ GE240.out) | exact HB.out))) : w.heap.size ≤ gb241)); have n4_ := Aside0.mk ((by rw [hg]; exact (bZ (by repeat (first | (with_reducible first | exact HB.out | apply bL | apply bW | apply b1 | refine bS ?_ GE240.out) | exact HB.out))) : w.heap.size ≤ gb241)); have n5_ := Aside0.mk ((by rw [hg]; exact Nat.ne_of_lt (bT (g := gb240) (o := .cells #[.string a0_0, .int .i64 a0_1, .int .i64 a0_2, .int .i64 a0_3, .slice A0_4 l0_4.length c0_4, .slice A0_5 l0_5.length c0_5, .slice A0_6 l0_6.length c0_6, .int .i64 a0_7, .int .i64 a0_8, .int .i64 a0_9, .int .i64 a0_10, .int .i64 a0_11, .int .i64 a0_12, .int .i64 a0_13, .int .i64 a0_14, .int .i64 a0_15, .int .i64 a0_16, .int .i64 a0_17] 26 (0, 0)) (by (with_reducible repeat (first | refine bN ?_ _ | refine bD ?_ | refine bA ?_ _)); exact BK240.out)) : gb240 ≠ gb241)); have n6_ := Aside0.mk ((by rw [hg]; exact Nat.ne_of_gt (bT (g := gb240) (o := .cells #[.string a0_0, .int .i64 a0_1, .int .i64 a0_2, .int .i64 a0_3, .slice A0_4 l0_4.length c0_4, .slice A0_5 l0_5.length c0_5, .slice A0_6 l0_6.length c0_6, .int .i64 a0_7, .int .i64 a0_8, .int .i64 a0_9, .int .i64 a0_10, .int .i64 a0_11, .int .i64 a0_12, .int .i64 a0_13, .int .i64 a0_14, .int .i64 a0_15, .int .i64 a0_16, .int .i64 a0_17] 26 (0, 0)) (by (with_reducible repeat (first | refine bN ?_ _ | refine bD ?_ | refine bA ?_ _)); exact BK240.out)) : gb241 ≠ gb240)); clear BK240; clear HB; have BK240 := n0_; have HB := n1_; have BK241 := n2_; have GW241 := n3_; have GE241 := n4_; have NB240_241 := n5_; have NB241_240 := n6_; clear n0_ n1_ n2_ n3_ n4_ n5_ n6_; clear hb hbox hg) | ((with_reducible refine gate_dst (N := 6) rfl ?_); refine box_event ?hg (N := 6) ?hd (cs := #[.int .i64 a2_0, .int .i64 a2_1]) (t := 30) ?hr ?_; (case hd => rfl); (case hg => rfl); (case hr => first | (go_simp; done) | (go_simp; rfl)); intro gb242 hg w9 hbox hb; have n0_ := Aside0.mk (bB (g := gb240) (o := .cells #[.string a0_0, .int .i64 a0_1, .int .i64 a0_2, .int .i64 a0_3, .slice A0_4 l0_4.length c0_4, .slice A0_5 l0_5.length c0_5, .slice A0_6 l0_6.length c0_6, .int .i64 a0_7, .int .i64 a0_8, .int .i64 a0_9, .int .i64 a0_10, .int .i64 a0_11, .int .i64 a0_12, .int .i64 a0_13, .int .i64 a0_14, .int .i64 a0_15, .int .i64 a0_16, .int .i64 a0_17] 26 (0, 0)) (by (with_reducible repeat (first | refine bN ?_ _ | refine bD ?_ | refine bA ?_ _)); exact BK240.out) hb); have n1_ := Aside0.mk (bB (g := gb241) (o := .cells #[.int .i64 a1_0, .int .i64 a1_1] 30 (0, 0)) (by (with_reducible repeat (first | refine bN ?_ _ | refine bD ?_ | refine bA ?_ _)); exact BK241.out) hb); have n2_ := Aside0.mk (bP (by repeat (first | (with_reducible first | exact HB.out | apply bL | apply bW | apply b1 | refine bS ?_ GE240.out | refine bS ?_ GE241.out) | exact HB.out)) hb); have n3_ := Aside0.mk (hbox); have n4_ := Aside0.mk ((by rw [hg]; exact (bZ (by repeat (first | (with_reducible first | exact HB.out | apply bL | apply bW | apply b1 | refine bS ?_ GE240.out | refine bS ?_ GE241.out) | exact HB.out))) : w.heap.size ≤ gb242)); have n5_ := Aside0.mk ((by rw [hg]; exact (bZ (by repeat (first | (with_reducible first | exact HB.out | apply bL | apply bW | apply b1 | refine bS ?_ GE240.out | refine bS ?_ GE241.out) | exact HB.out))) : w.heap.size ≤ gb242)); have n6_ := Aside0.mk ((by rw [hg]; exact Nat.ne_of_lt (bT (g := gb240) (o := .cells #[.string a0_0, .int .i64 a0_1, .int .i64 a0_2, .int .i64 a0_3, .slice A0_4 l0_4.length c0_4, .slice A0_5 l0_5.length c0_5, .slice A0_6 l0_6.length c0_6, .int .i64 a0_7, .int .i64 a0_8, .int .i64 a0_9, .int .i64 a0_10, .int .i64 a0_11, .int .i64 a0_12, .int .i64 a0_13, .int .i64 a0_14, .int .i64 a0_15, .int .i64 a0_16, .int .i64 a0_17] 26 (0, 0)) (by (with_reducible repeat (first | refine bN ?_ _ | refine bD ?_ | refine bA ?_ _)); exact BK240.out)) : gb240 ≠ gb242)); have n7_ := Aside0.mk ((by rw [hg]; exact Nat.ne_of_gt (bT (g := gb240) (o := .cells #[.string a0_0, .int .i64 a0_1, .int .i64 a0_2, .int .i64 a0_3, .slice A0_4 l0_4.length c0_4, .slice A0_5 l0_5.length c0_5, .slice A0_6 l0_6.length c0_6, .int .i64 a0_7, .int .i64 a0_8, .int .i64 a0_9, .int .i64 a0_10, .int .i64 a0_11, .int .i64 a0_12, .int .i64 a0_13, .int .i64 a0_14, .int .i64 a0_15, .int .i64 a0_16, .int .i64 a0_17] 26 (0, 0)) (by (with_reducible repeat (first | refine bN ?_ _ | refine bD ?_ | refine bA ?_ _)); exact BK240.out)) : gb242 ≠ gb240)); have n8_ := Aside0.mk ((by rw [hg]; exact Nat.ne_of_lt (bT (g := gb241) (o := .cells #[.int .i64 a1_0, .int .i64 a1_1] 30 (0, 0)) (by (with_reducible repeat (first | refine bN ?_ _ | refine bD ?_ | refine bA ?_ _)); exact BK241.out)) : gb241 ≠ gb242)); have n9_ := Aside0.mk ((by rw [hg]; exact Nat.ne_of_gt (bT (g := gb241) (o := .cells #[.int .i64 a1_0, .int .i64 a1_1] 30 (0, 0)) (by (with_reducible repeat (first | refine bN ?_ _ | refine bD ?_ | refine bA ?_ _)); exact BK241.out)) : gb242 ≠ gb241)); clear BK240; clear BK241; clear HB; have BK240 := n0_; have BK241 := n1_; have HB := n2_; have BK242 := n3_; have GW242 := n4_; have GE242 := n5_; have NB240_242 := n6_; have NB242_240 := n7_; have NB241_242 := n8_; have NB242_241 := n9_; clear n0_ n1_ n2_ n3_ n4_ n5_ n6_ n7_ n8_ n9_; clear hb hbox hg) | ((with_reducible refine gate_dst (N := 7) rfl ?_); refine box_event ?hg (N := 7) ?hd (cs := #[.int .i64 a3_0, .int .i64 a3_1]) (t := 30) ?hr ?_; (case hd => rfl); (case hg => rfl); (case hr => first | (go_simp; done) | (go_simp; rfl)); intro gb243 hg w10 hbox hb; have n0_ := Aside0.mk (bB (g := gb240) (o := .cells #[.string a0_0, .int .i64 a0_1, .int .i64 a0_2, .int .i64 a0_3, .slice A0_4 l0_4.length c0_4, .slice A0_5 l0_5.length c0_5, .slice A0_6 l0_6.length c0_6, .int .i64 a0_7, .int .i64 a0_8, .int .i64 a0_9, .int .i64 a0_10, .int .i64 a0_11, .int .i64 a0_12, .int .i64 a0_13, .int .i64 a0_14, .int .i64 a0_15, .int .i64 a0_16, .int .i64 a0_17] 26 (0, 0)) (by (with_reducible repeat (first | refine bN ?_ _ | refine bD ?_ | refine bA ?_ _)); exact BK240.out) hb); have n1_ := Aside0.mk (bB (g := gb241) (o := .cells #[.int .i64 a1_0, .int .i64 a1_1] 30 (0, 0)) (by (with_reducible repeat (first | refine bN ?_ _ | refine bD ?_ | refine bA ?_ _)); exact BK241.out) hb); have n2_ := Aside0.mk (bB (g := gb242) (o := .cells #[.int .i64 a2_0, .int .i64 a2_1] 30 (0, 0)) (by (with_reducible repeat (first | refine bN ?_ _ | refine bD ?_ | refine bA ?_ _)); exact BK242.out) hb); have n3_ := Aside0.mk (bP (by repeat (first | (with_reducible first | exact HB.out | apply bL | apply bW | apply b1 | refine bS ?_ GE240.out | refine bS ?_ GE241.out | refine bS ?_ GE242.out) | exact HB.out)) hb); have n4_ := Aside0.mk (hbox); have n5_ := Aside0.mk ((by rw [hg]; exact (bZ (by repeat (first | (with_reducible first | exact HB.out | apply bL | apply bW | apply b1 | refine bS ?_ GE240.out | refine bS ?_ GE241.out | refine bS ?_ GE242.out) | exact HB.out))) : w.heap.size ≤ gb243)); have n6_ := Aside0.mk ((by rw [hg]; exact (bZ (by repeat (first | (with_reducible first | exact HB.out | apply bL | apply bW | apply b1 | refine bS ?_ GE240.out | refine bS ?_ GE241.out | refine bS ?_ GE242.out) | exact HB.out))) : w.heap.size ≤ gb243)); have n7_ := Aside0.mk ((by rw [hg]; exact Nat.ne_of_lt (bT (g := gb240) (o := .cells #[.string a0_0, .int .i64 a0_1, .int .i64 a0_2, .int .i64 a0_3, .slice A0_4 l0_4.length c0_4, .slice A0_5 l0_5.length c0_5, .slice A0_6 l0_6.length c0_6, .int .i64 a0_7, .int .i64 a0_8, .int .i64 a0_9, .int .i64 a0_10, .int .i64 a0_11, .int .i64 a0_12, .int .i64 a0_13, .int .i64 a0_14, .int .i64 a0_15, .int .i64 a0_16, .int .i64 a0_17] 26 (0, 0)) (by (with_reducible repeat (first | refine bN ?_ _ | refine bD ?_ | refine bA ?_ _)); exact BK240.out)) : gb240 ≠ gb243)); have n8_ := Aside0.mk ((by rw [hg]; exact Nat.ne_of_gt (bT (g := gb240) (o := .cells #[.string a0_0, .int .i64 a0_1, .int .i64 a0_2, .int .i64 a0_3, .slice A0_4 l0_4.length c0_4, .slice A0_5 l0_5.length c0_5, .slice A0_6 l0_6.length c0_6, .int .i64 a0_7, .int .i64 a0_8, .int .i64 a0_9, .int .i64 a0_10, .int .i64 a0_11, .int .i64 a0_12, .int .i64 a0_13, .int .i64 a0_14, .int .i64 a0_15, .int .i64 a0_16, .int .i64 a0_17] 26 (0, 0)) (by (with_reducible repeat (first | refine bN ?_ _ | refine bD ?_ | refine bA ?_ _)); exact BK240.out)) : gb243 ≠ gb240)); have n9_ := Aside0.mk ((by rw [hg]; exact Nat.ne_of_lt (bT (g := gb241) (o := .cells #[.int .i64 a1_0, .int .i64 a1_1] 30 (0, 0)) (by (with_reducible repeat (first | refine bN ?_ _ | refine bD ?_ | refine bA ?_ _)); exact BK241.out)) : gb241 ≠ gb243)); have n10_ := Aside0.mk ((by rw [hg]; exact Nat.ne_of_gt (bT (g := gb241) (o := .cells #[.int .i64 a1_0, .int .i64 a1_1] 30 (0, 0)) (by (with_reducible repeat (first | refine bN ?_ _ | refine bD ?_ | refine bA ?_ _)); exact BK241.out)) : gb243 ≠ gb241)); have n11_ := Aside0.mk ((by rw [hg]; exact Nat.ne_of_lt (bT (g := gb242) (o := .cells #[.int .i64 a2_0, .int .i64 a2_1] 30 (0, 0)) (by (with_reducible repeat (first | refine bN ?_ _ | refine bD ?_ | refine bA ?_ _)); exact BK242.out)) : gb242 ≠ gb243)); have n12_ := Aside0.mk ((by rw [hg]; exact Nat.ne_of_gt (bT (g := gb242) (o := .cells #[.int .i64 a2_0, .int .i64 a2_1] 30 (0, 0)) (by (with_reducible repeat (first | refine bN ?_ _ | refine bD ?_ | refine bA ?_ _)); exact BK242.out)) : gb243 ≠ gb242)); clear BK240; clear BK241; clear BK242; clear HB; have BK240 := n0_; have BK241 := n1_; have BK242 := n2_; have HB := n3_; have BK243 := n4_; have GW243 := n5_; have GE243 := n6_; have NB240_243 := n7_; have NB243_240 := n8_; have NB241_243 := n9_; have NB243_241 := n10_; have NB242_243 := n11_; have NB243_242 := n12_; clear n0_ n1_ n2_ n3_ n4_ n5_ n6_ n7_ n8_ n9_ n10_ n11_ n12_; clear hb hbox hg) | ((with_reducible refine gate_callee (f := 9) rfl ?_); refine goesL_ (some 12) rfl rfl Try.func9 (by kernel_rfl) rfl #[] rfl (by (try simp only [List.map_toArray, List.map_cons, List.map_nil]); first | done | rfl | (simp only [List.length_drop, List.length_take]; rfl)) ?_; (with_reducible refine (bournelaw20_small.calls k  t244 _ A5.out).mono ?_); rintro e w11 ⟨rfl, hb⟩; refine ⟨_, rfl, ?_⟩; have n0_ := Aside0.mk (bB (g := gb240) (o := .cells #[.string a0_0, .int .i64 a0_1, .int .i64 a0_2, .int .i64 a0_3, .slice A0_4 l0_4.length c0_4, .slice A0_5 l0_5.length c0_5, .slice A0_6 l0_6.length c0_6, .int .i64 a0_7, .int .i64 a0_8, .int .i64 a0_9, .int .i64 a0_10, .int .i64 a0_11, .int .i64 a0_12, .int .i64 a0_13, .int .i64 a0_14, .int .i64 a0_15, .int .i64 a0_16, .int .i64 a0_17] 26 (0, 0)) (by (with_reducible repeat (first | refine bN ?_ _ | refine bD ?_ | refine bA ?_ _)); exact BK240.out) hb); have n1_ := Aside0.mk (bB (g := gb241) (o := .cells #[.int .i64 a1_0, .int .i64 a1_1] 30 (0, 0)) (by (with_reducible repeat (first | refine bN ?_ _ | refine bD ?_ | refine bA ?_ _)); exact BK241.out) hb); have n2_ := Aside0.mk (bB (g := gb242) (o := .cells #[.int .i64 a2_0, .int .i64 a2_1] 30 (0, 0)) (by (with_reducible repeat (first | refine bN ?_ _ | refine bD ?_ | refine bA ?_ _)); exact BK242.out) hb); have n3_ := Aside0.mk (bB (g := gb243) (o := .cells #[.int .i64 a3_0, .int .i64 a3_1] 30 (0, 0)) (by (with_reducible repeat (first | refine bN ?_ _ | refine bD ?_ | refine bA ?_ _)); exact BK243.out) hb); have n4_ := Aside0.mk (bP (by repeat (first | (with_reducible first | exact HB.out | apply bL | apply bW | apply b1 | refine bS ?_ GE240.out | refine bS ?_ GE241.out | refine bS ?_ GE242.out | refine bS ?_ GE243.out) | exact HB.out)) hb); clear BK240; clear BK241; clear BK242; clear BK243; clear HB; have BK240 := n0_; have BK241 := n1_; have BK242 := n2_; have BK243 := n3_; have HB := n4_; clear n0_ n1_ n2_ n3_ n4_; (try clear hb); (try clear hb2); (try clear hk); (try clear hi)) | ((with_reducible refine gate_load 26 4 rfl ?_); refine box_load (g := gb240) (cs := #[.string a0_0, .int .i64 a0_1, .int .i64 a0_2, .int .i64 a0_3, .slice A0_4 l0_4.length c0_4, .slice A0_5 l0_5.length c0_5, .slice A0_6 l0_6.length c0_6, .int .i64 a0_7, .int .i64 a0_8, .int .i64 a0_9, .int .i64 a0_10, .int .i64 a0_11, .int .i64 a0_12, .int .i64 a0_13, .int .i64 a0_14, .int .i64 a0_15, .int .i64 a0_16, .int .i64 a0_17]) ?hw rfl (by (with_reducible repeat (first | refine bN ?_ _ | refine bD ?_ | refine bA ?_ _)); with_reducible exact BK240.out) ?ha hu26 rfl ?hi ?_; (case hw => first | exact wanted_none rfl | rfl); (case ha => first | rfl | (go_simp; done)); (case hi => first | rfl | kernel_rfl)))
 (try simp only [Act.put, lA, lZ, lS])
 go_cut [59] (fun v59 wc => ∃ (kq : Nat) (x59_5 : Bool), v59 = .bool x59_5 ∧ Aside0 (bournelaw20_SeepGrows.j0 kq t244 x59_5 a0_0 a0_1 a0_2 a0_3 l0_4 l0_5 l0_6 a0_7 a0_8 a0_9 a0_10 a0_11 a0_12 a0_13 a0_14 a0_15 a0_16 a0_17 a1_0 a1_1 a2_0 a2_1 a3_0 a3_1 = some r) ∧ Aside0 (kq ≤ k) ∧ Aside0 (wc.heap[gb240]? = some (.cells #[.string a0_0, .int .i64 a0_1, .int .i64 a0_2, .int .i64 a0_3, (.slice A0_4 l0_4.length c0_4), (.slice A0_5 l0_5.length c0_5), (.slice A0_6 l0_6.length c0_6), .int .i64 a0_7, .int .i64 a0_8, .int .i64 a0_9, .int .i64 a0_10, .int .i64 a0_11, .int .i64 a0_12, .int .i64 a0_13, .int .i64 a0_14, .int .i64 a0_15, .int .i64 a0_16, .int .i64 a0_17] 26 (0, 0))) ∧ Aside0 (wc.heap[gb241]? = some (.cells #[.int .i64 a1_0, .int .i64 a1_1] 30 (0, 0))) ∧ Aside0 (wc.heap[gb242]? = some (.cells #[.int .i64 a2_0, .int .i64 a2_1] 30 (0, 0))) ∧ Aside0 (wc.heap[gb243]? = some (.cells #[.int .i64 a3_0, .int .i64 a3_1] 30 (0, 0))) ∧ Aside0 (Below w.heap.size w wc))
 case first =>
  have H := HC6.out
  clear HC6
  replace H := Option.bind_eq_some_iff.mp H
  obtain ⟨t245, A120, H⟩ := H
  have A12 := Aside0.mk A120
  clear A120
  by_cases c13 : t245 = true
  ·
   subst c13
   have H1 : ((bournelaw20_within.f a2_0 a2_1).bind fun t246 => (if t246 = true then ((bournelaw20_within.f a3_0 a3_1).bind fun t247 => (if t247 = true then (if a0_11 < 0 then (bournelaw20_SeepGrows.j0 k t244 true a0_0 a0_1 a0_2 a0_3 l0_4 l0_5 l0_6 a0_7 a0_8 a0_9 a0_10 a0_11 a0_12 a0_13 a0_14 a0_15 a0_16 a0_17 a1_0 a1_1 a2_0 a2_1 a3_0 a3_1) else (if a0_15 < 0 then (bournelaw20_SeepGrows.j0 k t244 true a0_0 a0_1 a0_2 a0_3 l0_4 l0_5 l0_6 a0_7 a0_8 a0_9 a0_10 a0_11 a0_12 a0_13 a0_14 a0_15 a0_16 a0_17 a1_0 a1_1 a2_0 a2_1 a3_0 a3_1) else (if a0_11 > a0_12 then (bournelaw20_SeepGrows.j0 k t244 true a0_0 a0_1 a0_2 a0_3 l0_4 l0_5 l0_6 a0_7 a0_8 a0_9 a0_10 a0_11 a0_12 a0_13 a0_14 a0_15 a0_16 a0_17 a1_0 a1_1 a2_0 a2_1 a3_0 a3_1) else (if a0_15 > a0_16 then (bournelaw20_SeepGrows.j0 k t244 true a0_0 a0_1 a0_2 a0_3 l0_4 l0_5 l0_6 a0_7 a0_8 a0_9 a0_10 a0_11 a0_12 a0_13 a0_14 a0_15 a0_16 a0_17 a1_0 a1_1 a2_0 a2_1 a3_0 a3_1) else (if a0_12 > 1125899906842624 then (bournelaw20_SeepGrows.j0 k t244 true a0_0 a0_1 a0_2 a0_3 l0_4 l0_5 l0_6 a0_7 a0_8 a0_9 a0_10 a0_11 a0_12 a0_13 a0_14 a0_15 a0_16 a0_17 a1_0 a1_1 a2_0 a2_1 a3_0 a3_1) else (bournelaw20_SeepGrows.j0 k t244 (decide (a0_16 > 1125899906842624)) a0_0 a0_1 a0_2 a0_3 l0_4 l0_5 l0_6 a0_7 a0_8 a0_9 a0_10 a0_11 a0_12 a0_13 a0_14 a0_15 a0_16 a0_17 a1_0 a1_1 a2_0 a2_1 a3_0 a3_1)))))) else (bournelaw20_SeepGrows.j0 k t244 true a0_0 a0_1 a0_2 a0_3 l0_4 l0_5 l0_6 a0_7 a0_8 a0_9 a0_10 a0_11 a0_12 a0_13 a0_14 a0_15 a0_16 a0_17 a1_0 a1_1 a2_0 a2_1 a3_0 a3_1))) else (bournelaw20_SeepGrows.j0 k t244 true a0_0 a0_1 a0_2 a0_3 l0_4 l0_5 l0_6 a0_7 a0_8 a0_9 a0_10 a0_11 a0_12 a0_13 a0_14 a0_15 a0_16 a0_17 a1_0 a1_1 a2_0 a2_1 a3_0 a3_1))) = some r := by rw [if_pos rfl] at H; exact H
   clear H
   have H := H1
   clear H1
   replace H := Option.bind_eq_some_iff.mp H
   obtain ⟨t246, A140, H⟩ := H
   have A14 := Aside0.mk A140
   clear A140
   by_cases c15 : t246 = true
   ·
    subst c15
    have H1 : ((bournelaw20_within.f a3_0 a3_1).bind fun t247 => (if t247 = true then (if a0_11 < 0 then (bournelaw20_SeepGrows.j0 k t244 true a0_0 a0_1 a0_2 a0_3 l0_4 l0_5 l0_6 a0_7 a0_8 a0_9 a0_10 a0_11 a0_12 a0_13 a0_14 a0_15 a0_16 a0_17 a1_0 a1_1 a2_0 a2_1 a3_0 a3_1) else (if a0_15 < 0 then (bournelaw20_SeepGrows.j0 k t244 true a0_0 a0_1 a0_2 a0_3 l0_4 l0_5 l0_6 a0_7 a0_8 a0_9 a0_10 a0_11 a0_12 a0_13 a0_14 a0_15 a0_16 a0_17 a1_0 a1_1 a2_0 a2_1 a3_0 a3_1) else (if a0_11 > a0_12 then (bournelaw20_SeepGrows.j0 k t244 true a0_0 a0_1 a0_2 a0_3 l0_4 l0_5 l0_6 a0_7 a0_8 a0_9 a0_10 a0_11 a0_12 a0_13 a0_14 a0_15 a0_16 a0_17 a1_0 a1_1 a2_0 a2_1 a3_0 a3_1) else (if a0_15 > a0_16 then (bournelaw20_SeepGrows.j0 k t244 true a0_0 a0_1 a0_2 a0_3 l0_4 l0_5 l0_6 a0_7 a0_8 a0_9 a0_10 a0_11 a0_12 a0_13 a0_14 a0_15 a0_16 a0_17 a1_0 a1_1 a2_0 a2_1 a3_0 a3_1) else (if a0_12 > 1125899906842624 then (bournelaw20_SeepGrows.j0 k t244 true a0_0 a0_1 a0_2 a0_3 l0_4 l0_5 l0_6 a0_7 a0_8 a0_9 a0_10 a0_11 a0_12 a0_13 a0_14 a0_15 a0_16 a0_17 a1_0 a1_1 a2_0 a2_1 a3_0 a3_1) else (bournelaw20_SeepGrows.j0 k t244 (decide (a0_16 > 1125899906842624)) a0_0 a0_1 a0_2 a0_3 l0_4 l0_5 l0_6 a0_7 a0_8 a0_9 a0_10 a0_11 a0_12 a0_13 a0_14 a0_15 a0_16 a0_17 a1_0 a1_1 a2_0 a2_1 a3_0 a3_1)))))) else (bournelaw20_SeepGrows.j0 k t244 true a0_0 a0_1 a0_2 a0_3 l0_4 l0_5 l0_6 a0_7 a0_8 a0_9 a0_10 a0_11 a0_12 a0_13 a0_14 a0_15 a0_16 a0_17 a1_0 a1_1 a2_0 a2_1 a3_0 a3_1))) = some r := by rw [if_pos rfl] at H; exact H
    clear H
    have H := H1
    clear H1
    replace H := Option.bind_eq_some_iff.mp H
    obtain ⟨t247, A160, H⟩ := H
    have A16 := Aside0.mk A160
    clear A160
    by_cases c17 : t247 = true
    ·
     subst c17
     have H1 : (if a0_11 < 0 then (bournelaw20_SeepGrows.j0 k t244 true a0_0 a0_1 a0_2 a0_3 l0_4 l0_5 l0_6 a0_7 a0_8 a0_9 a0_10 a0_11 a0_12 a0_13 a0_14 a0_15 a0_16 a0_17 a1_0 a1_1 a2_0 a2_1 a3_0 a3_1) else (if a0_15 < 0 then (bournelaw20_SeepGrows.j0 k t244 true a0_0 a0_1 a0_2 a0_3 l0_4 l0_5 l0_6 a0_7 a0_8 a0_9 a0_10 a0_11 a0_12 a0_13 a0_14 a0_15 a0_16 a0_17 a1_0 a1_1 a2_0 a2_1 a3_0 a3_1) else (if a0_11 > a0_12 then (bournelaw20_SeepGrows.j0 k t244 true a0_0 a0_1 a0_2 a0_3 l0_4 l0_5 l0_6 a0_7 a0_8 a0_9 a0_10 a0_11 a0_12 a0_13 a0_14 a0_15 a0_16 a0_17 a1_0 a1_1 a2_0 a2_1 a3_0 a3_1) else (if a0_15 > a0_16 then (bournelaw20_SeepGrows.j0 k t244 true a0_0 a0_1 a0_2 a0_3 l0_4 l0_5 l0_6 a0_7 a0_8 a0_9 a0_10 a0_11 a0_12 a0_13 a0_14 a0_15 a0_16 a0_17 a1_0 a1_1 a2_0 a2_1 a3_0 a3_1) else (if a0_12 > 1125899906842624 then (bournelaw20_SeepGrows.j0 k t244 true a0_0 a0_1 a0_2 a0_3 l0_4 l0_5 l0_6 a0_7 a0_8 a0_9 a0_10 a0_11 a0_12 a0_13 a0_14 a0_15 a0_16 a0_17 a1_0 a1_1 a2_0 a2_1 a3_0 a3_1) else (bournelaw20_SeepGrows.j0 k t244 (decide (a0_16 > 1125899906842624)) a0_0 a0_1 a0_2 a0_3 l0_4 l0_5 l0_6 a0_7 a0_8 a0_9 a0_10 a0_11 a0_12 a0_13 a0_14 a0_15 a0_16 a0_17 a1_0 a1_1 a2_0 a2_1 a3_0 a3_1)))))) = some r := by rw [if_pos rfl] at H; exact H
     clear H
     have H := H1
     clear H1
     by_cases c18 : a0_11 < 0
     ·
      rw [if_pos c18] at H
      have c18b0 : decide (a0_11 < 0) = true := decide_eq_true c18
      clear c18
      (first | rw [c18b0] | (simp only [i64_w, i32_w]; rw [c18b0]) | skip)
      have H' := Aside0.mk H
      clear H
      have hnb19 := NB241_240.out
      have hnc19 := NB240_241.out
      have hnb20 := NB241_242.out
      have hnc20 := NB242_241.out
      have hnb21 := NB241_243.out
      have hnc21 := NB243_241.out
      have hcz22_0 : w11.cell? ⟨gb241, 0, none⟩ = some (.int .i64 a1_0) := (bC BK241.out 0).trans rfl
      have hcz22_1 : w11.cell? ⟨gb241, 1, none⟩ = some (.int .i64 a1_1) := (bC BK241.out 1).trans rfl
      have hfz22_0 := bF BK241.out 0
      have hfz22_1 := bF BK241.out 1
      as_aux_lemma =>
        go_wp2_with (first | ((with_reducible refine gate_callee (f := 18) rfl ?_); refine goesL_ (some 14) rfl rfl Try.func18 (by kernel_rfl) rfl #[.agg #[.int .i64 a1_0, .int .i64 a1_1]] rfl (by (try simp only [List.map_toArray, List.map_cons, List.map_nil]); first | done | rfl | (simp only [List.length_drop, List.length_take]; rfl)) ?_; (with_reducible refine (bournelaw20_within.calls a1_0 a1_1 true _ A12.out).mono ?_); rintro e w23 ⟨rfl, hb⟩; refine ⟨_, rfl, ?_⟩; have n0_ := Aside0.mk (bB (g := gb240) (o := .cells #[.string a0_0, .int .i64 a0_1, .int .i64 a0_2, .int .i64 a0_3, .slice A0_4 l0_4.length c0_4, .slice A0_5 l0_5.length c0_5, .slice A0_6 l0_6.length c0_6, .int .i64 a0_7, .int .i64 a0_8, .int .i64 a0_9, .int .i64 a0_10, .int .i64 a0_11, .int .i64 a0_12, .int .i64 a0_13, .int .i64 a0_14, .int .i64 a0_15, .int .i64 a0_16, .int .i64 a0_17] 26 (0, 0)) (by (with_reducible repeat (first | refine bN ?_ _ | refine bD ?_ | refine bA ?_ _)); exact BK240.out) hb); have n1_ := Aside0.mk (bB (g := gb241) (o := .cells #[.int .i64 a1_0, .int .i64 a1_1] 30 (0, 0)) (by (with_reducible repeat (first | refine bN ?_ _ | refine bD ?_ | refine bA ?_ _)); exact BK241.out) hb); have n2_ := Aside0.mk (bB (g := gb242) (o := .cells #[.int .i64 a2_0, .int .i64 a2_1] 30 (0, 0)) (by (with_reducible repeat (first | refine bN ?_ _ | refine bD ?_ | refine bA ?_ _)); exact BK242.out) hb); have n3_ := Aside0.mk (bB (g := gb243) (o := .cells #[.int .i64 a3_0, .int .i64 a3_1] 30 (0, 0)) (by (with_reducible repeat (first | refine bN ?_ _ | refine bD ?_ | refine bA ?_ _)); exact BK243.out) hb); have n4_ := Aside0.mk (bP (by repeat (first | (with_reducible first | exact HB.out | apply bL | apply bW | apply b1 | refine bS ?_ GE240.out | refine bS ?_ GE241.out | refine bS ?_ GE242.out | refine bS ?_ GE243.out) | exact HB.out)) hb); clear BK240; clear BK241; clear BK242; clear BK243; clear HB; have BK240 := n0_; have BK241 := n1_; have BK242 := n2_; have BK243 := n3_; have HB := n4_; clear n0_ n1_ n2_ n3_ n4_; (try clear hb); (try clear hb2); (try clear hk); (try clear hi); have hnb24 := NB242_240.out; have hnc24 := NB240_242.out; have hnb25 := NB242_243.out; have hnc25 := NB243_242.out; have hcz26_0 : w23.cell? ⟨gb242, 0, none⟩ = some (.int .i64 a2_0) := (bC BK242.out 0).trans rfl; have hcz26_1 : w23.cell? ⟨gb242, 1, none⟩ = some (.int .i64 a2_1) := (bC BK242.out 1).trans rfl; have hfz26_0 := bF BK242.out 0; have hfz26_1 := bF BK242.out 1) | (go_at_call 18; (with_reducible refine (bournelaw20_within.calls a2_0 a2_1 true _ A14.out).mono ?_); rintro e w27 ⟨rfl, hb⟩; (try clear A14); have n0_ := Aside0.mk (bB (g := gb240) (o := .cells #[.string a0_0, .int .i64 a0_1, .int .i64 a0_2, .int .i64 a0_3, .slice A0_4 l0_4.length c0_4, .slice A0_5 l0_5.length c0_5, .slice A0_6 l0_6.length c0_6, .int .i64 a0_7, .int .i64 a0_8, .int .i64 a0_9, .int .i64 a0_10, .int .i64 a0_11, .int .i64 a0_12, .int .i64 a0_13, .int .i64 a0_14, .int .i64 a0_15, .int .i64 a0_16, .int .i64 a0_17] 26 (0, 0)) (by (with_reducible repeat (first | refine bN ?_ _ | refine bD ?_ | refine bA ?_ _)); exact BK240.out) hb); have n1_ := Aside0.mk (bB (g := gb241) (o := .cells #[.int .i64 a1_0, .int .i64 a1_1] 30 (0, 0)) (by (with_reducible repeat (first | refine bN ?_ _ | refine bD ?_ | refine bA ?_ _)); exact BK241.out) hb); have n2_ := Aside0.mk (bB (g := gb242) (o := .cells #[.int .i64 a2_0, .int .i64 a2_1] 30 (0, 0)) (by (with_reducible repeat (first | refine bN ?_ _ | refine bD ?_ | refine bA ?_ _)); exact BK242.out) hb); have n3_ := Aside0.mk (bB (g := gb243) (o := .cells #[.int .i64 a3_0, .int .i64 a3_1] 30 (0, 0)) (by (with_reducible repeat (first | refine bN ?_ _ | refine bD ?_ | refine bA ?_ _)); exact BK243.out) hb); have n4_ := Aside0.mk (bP (by repeat (first | (with_reducible first | exact HB.out | apply bL | apply bW | apply b1 | refine bS ?_ GE240.out | refine bS ?_ GE241.out | refine bS ?_ GE242.out | refine bS ?_ GE243.out) | exact HB.out)) hb); clear BK240; clear BK241; clear BK242; clear BK243; clear HB; have BK240 := n0_; have BK241 := n1_; have BK242 := n2_; have BK243 := n3_; have HB := n4_; clear n0_ n1_ n2_ n3_ n4_; (try clear hb); (try clear hb2); (try clear hk); (try clear hi); have hnb28 := NB243_240.out; have hnc28 := NB240_243.out; have hcz29_0 : w27.cell? ⟨gb243, 0, none⟩ = some (.int .i64 a3_0) := (bC BK243.out 0).trans rfl; have hcz29_1 : w27.cell? ⟨gb243, 1, none⟩ = some (.int .i64 a3_1) := (bC BK243.out 1).trans rfl; have hfz29_0 := bF BK243.out 0; have hfz29_1 := bF BK243.out 1) | (go_at_call 18; (with_reducible refine (bournelaw20_within.calls a3_0 a3_1 true _ A16.out).mono ?_); rintro e w30 ⟨rfl, hb⟩; (try clear A16); have n0_ := Aside0.mk (bB (g := gb240) (o := .cells #[.string a0_0, .int .i64 a0_1, .int .i64 a0_2, .int .i64 a0_3, .slice A0_4 l0_4.length c0_4, .slice A0_5 l0_5.length c0_5, .slice A0_6 l0_6.length c0_6, .int .i64 a0_7, .int .i64 a0_8, .int .i64 a0_9, .int .i64 a0_10, .int .i64 a0_11, .int .i64 a0_12, .int .i64 a0_13, .int .i64 a0_14, .int .i64 a0_15, .int .i64 a0_16, .int .i64 a0_17] 26 (0, 0)) (by (with_reducible repeat (first | refine bN ?_ _ | refine bD ?_ | refine bA ?_ _)); exact BK240.out) hb); have n1_ := Aside0.mk (bB (g := gb241) (o := .cells #[.int .i64 a1_0, .int .i64 a1_1] 30 (0, 0)) (by (with_reducible repeat (first | refine bN ?_ _ | refine bD ?_ | refine bA ?_ _)); exact BK241.out) hb); have n2_ := Aside0.mk (bB (g := gb242) (o := .cells #[.int .i64 a2_0, .int .i64 a2_1] 30 (0, 0)) (by (with_reducible repeat (first | refine bN ?_ _ | refine bD ?_ | refine bA ?_ _)); exact BK242.out) hb); have n3_ := Aside0.mk (bB (g := gb243) (o := .cells #[.int .i64 a3_0, .int .i64 a3_1] 30 (0, 0)) (by (with_reducible repeat (first | refine bN ?_ _ | refine bD ?_ | refine bA ?_ _)); exact BK243.out) hb); have n4_ := Aside0.mk (bP (by repeat (first | (with_reducible first | exact HB.out | apply bL | apply bW | apply b1 | refine bS ?_ GE240.out | refine bS ?_ GE241.out | refine bS ?_ GE242.out | refine bS ?_ GE243.out) | exact HB.out)) hb); clear BK240; clear BK241; clear BK242; clear BK243; clear HB; have BK240 := n0_; have BK241 := n1_; have BK242 := n2_; have BK243 := n3_; have HB := n4_; clear n0_ n1_ n2_ n3_ n4_; (try clear hb); (try clear hb2); (try clear hk); (try clear hi); have hcz31_0 : w30.cell? ⟨gb240, 0, none⟩ = some (.string a0_0) := (bC BK240.out 0).trans rfl; have hcz31_1 : w30.cell? ⟨gb240, 1, none⟩ = some (.int .i64 a0_1) := (bC BK240.out 1).trans rfl; have hcz31_2 : w30.cell? ⟨gb240, 2, none⟩ = some (.int .i64 a0_2) := (bC BK240.out 2).trans rfl; have hcz31_3 : w30.cell? ⟨gb240, 3, none⟩ = some (.int .i64 a0_3) := (bC BK240.out 3).trans rfl; have hcz31_4 : w30.cell? ⟨gb240, 4, none⟩ = some (.slice A0_4 l0_4.length c0_4) := (bC BK240.out 4).trans rfl; have hcz31_5 : w30.cell? ⟨gb240, 5, none⟩ = some (.slice A0_5 l0_5.length c0_5) := (bC BK240.out 5).trans rfl; have hcz31_6 : w30.cell? ⟨gb240, 6, none⟩ = some (.slice A0_6 l0_6.length c0_6) := (bC BK240.out 6).trans rfl; have hcz31_7 : w30.cell? ⟨gb240, 7, none⟩ = some (.int .i64 a0_7) := (bC BK240.out 7).trans rfl; have hcz31_8 : w30.cell? ⟨gb240, 8, none⟩ = some (.int .i64 a0_8) := (bC BK240.out 8).trans rfl; have hcz31_9 : w30.cell? ⟨gb240, 9, none⟩ = some (.int .i64 a0_9) := (bC BK240.out 9).trans rfl; have hcz31_10 : w30.cell? ⟨gb240, 10, none⟩ = some (.int .i64 a0_10) := (bC BK240.out 10).trans rfl; have hcz31_11 : w30.cell? ⟨gb240, 11, none⟩ = some (.int .i64 a0_11) := (bC BK240.out 11).trans rfl; have hcz31_12 : w30.cell? ⟨gb240, 12, none⟩ = some (.int .i64 a0_12) := (bC BK240.out 12).trans rfl; have hcz31_13 : w30.cell? ⟨gb240, 13, none⟩ = some (.int .i64 a0_13) := (bC BK240.out 13).trans rfl; have hcz31_14 : w30.cell? ⟨gb240, 14, none⟩ = some (.int .i64 a0_14) := (bC BK240.out 14).trans rfl; have hcz31_15 : w30.cell? ⟨gb240, 15, none⟩ = some (.int .i64 a0_15) := (bC BK240.out 15).trans rfl; have hcz31_16 : w30.cell? ⟨gb240, 16, none⟩ = some (.int .i64 a0_16) := (bC BK240.out 16).trans rfl; have hcz31_17 : w30.cell? ⟨gb240, 17, none⟩ = some (.int .i64 a0_17) := (bC BK240.out 17).trans rfl; have hfz31_0 := bF BK240.out 0; have hfz31_1 := bF BK240.out 1; have hfz31_2 := bF BK240.out 2; have hfz31_3 := bF BK240.out 3; have hfz31_4 := bF BK240.out 4; have hfz31_5 := bF BK240.out 5; have hfz31_6 := bF BK240.out 6; have hfz31_7 := bF BK240.out 7; have hfz31_8 := bF BK240.out 8; have hfz31_9 := bF BK240.out 9; have hfz31_10 := bF BK240.out 10; have hfz31_11 := bF BK240.out 11; have hfz31_12 := bF BK240.out 12; have hfz31_13 := bF BK240.out 13; have hfz31_14 := bF BK240.out 14; have hfz31_15 := bF BK240.out 15; have hfz31_16 := bF BK240.out 16; have hfz31_17 := bF BK240.out 17) | ((with_reducible refine gate_load 26 4 rfl ?_); refine box_load (g := gb240) (cs := #[.string a0_0, .int .i64 a0_1, .int .i64 a0_2, .int .i64 a0_3, .slice A0_4 l0_4.length c0_4, .slice A0_5 l0_5.length c0_5, .slice A0_6 l0_6.length c0_6, .int .i64 a0_7, .int .i64 a0_8, .int .i64 a0_9, .int .i64 a0_10, .int .i64 a0_11, .int .i64 a0_12, .int .i64 a0_13, .int .i64 a0_14, .int .i64 a0_15, .int .i64 a0_16, .int .i64 a0_17]) ?hw rfl (by (with_reducible repeat (first | refine bN ?_ _ | refine bD ?_ | refine bA ?_ _)); with_reducible exact BK240.out) ?ha hu26 rfl ?hi ?_; (case hw => first | exact wanted_none rfl | rfl); (case ha => first | rfl | (go_simp; done)); (case hi => first | rfl | kernel_rfl)))
        go_meet
        case rel => exact ⟨_, (true), (by first | rfl | (simp; done) | (simp [*]; done)), H', ⟨by first | omega | exact Nat.le_refl _⟩, ⟨by (with_reducible repeat (first | refine bN ?_ _ | refine bD ?_ | refine bA ?_ _)); exact BK240.out⟩, ⟨by (with_reducible repeat (first | refine bN ?_ _ | refine bD ?_ | refine bA ?_ _)); exact BK241.out⟩, ⟨by (with_reducible repeat (first | refine bN ?_ _ | refine bD ?_ | refine bA ?_ _)); exact BK242.out⟩, ⟨by (with_reducible repeat (first | refine bN ?_ _ | refine bD ?_ | refine bA ?_ _)); exact BK243.out⟩, ⟨by repeat (first | (with_reducible first | exact HB.out | apply bL | apply bW | apply b1 | refine bS ?_ GE240.out | refine bS ?_ GE241.out | refine bS ?_ GE242.out | refine bS ?_ GE243.out) | exact HB.out)⟩⟩
     ·
      rw [if_neg c18] at H
      have c18b0 : decide (a0_11 < 0) = false := decide_eq_false c18
      clear c18
      (first | rw [c18b0] | (simp only [i64_w, i32_w]; rw [c18b0]) | skip)
      by_cases c32 : a0_15 < 0
      ·
       rw [if_pos c32] at H
       have c32b0 : decide (a0_15 < 0) = true := decide_eq_true c32
       clear c32
       have H' := Aside0.mk H
       clear H
       have hnb33 := NB241_240.out
       have hnc33 := NB240_241.out
       have hnb34 := NB241_242.out
       have hnc34 := NB242_241.out
       have hnb35 := NB241_243.out
       have hnc35 := NB243_241.out
       have hcz36_0 : w11.cell? ⟨gb241, 0, none⟩ = some (.int .i64 a1_0) := (bC BK241.out 0).trans rfl
       have hcz36_1 : w11.cell? ⟨gb241, 1, none⟩ = some (.int .i64 a1_1) := (bC BK241.out 1).trans rfl
       have hfz36_0 := bF BK241.out 0
       have hfz36_1 := bF BK241.out 1
       as_aux_lemma =>
         go_wp2_with (first | ((with_reducible refine gate_callee (f := 18) rfl ?_); refine goesL_ (some 14) rfl rfl Try.func18 (by kernel_rfl) rfl #[.agg #[.int .i64 a1_0, .int .i64 a1_1]] rfl (by (try simp only [List.map_toArray, List.map_cons, List.map_nil]); first | done | rfl | (simp only [List.length_drop, List.length_take]; rfl)) ?_; (with_reducible refine (bournelaw20_within.calls a1_0 a1_1 true _ A12.out).mono ?_); rintro e w37 ⟨rfl, hb⟩; refine ⟨_, rfl, ?_⟩; have n0_ := Aside0.mk (bB (g := gb240) (o := .cells #[.string a0_0, .int .i64 a0_1, .int .i64 a0_2, .int .i64 a0_3, .slice A0_4 l0_4.length c0_4, .slice A0_5 l0_5.length c0_5, .slice A0_6 l0_6.length c0_6, .int .i64 a0_7, .int .i64 a0_8, .int .i64 a0_9, .int .i64 a0_10, .int .i64 a0_11, .int .i64 a0_12, .int .i64 a0_13, .int .i64 a0_14, .int .i64 a0_15, .int .i64 a0_16, .int .i64 a0_17] 26 (0, 0)) (by (with_reducible repeat (first | refine bN ?_ _ | refine bD ?_ | refine bA ?_ _)); exact BK240.out) hb); have n1_ := Aside0.mk (bB (g := gb241) (o := .cells #[.int .i64 a1_0, .int .i64 a1_1] 30 (0, 0)) (by (with_reducible repeat (first | refine bN ?_ _ | refine bD ?_ | refine bA ?_ _)); exact BK241.out) hb); have n2_ := Aside0.mk (bB (g := gb242) (o := .cells #[.int .i64 a2_0, .int .i64 a2_1] 30 (0, 0)) (by (with_reducible repeat (first | refine bN ?_ _ | refine bD ?_ | refine bA ?_ _)); exact BK242.out) hb); have n3_ := Aside0.mk (bB (g := gb243) (o := .cells #[.int .i64 a3_0, .int .i64 a3_1] 30 (0, 0)) (by (with_reducible repeat (first | refine bN ?_ _ | refine bD ?_ | refine bA ?_ _)); exact BK243.out) hb); have n4_ := Aside0.mk (bP (by repeat (first | (with_reducible first | exact HB.out | apply bL | apply bW | apply b1 | refine bS ?_ GE240.out | refine bS ?_ GE241.out | refine bS ?_ GE242.out | refine bS ?_ GE243.out) | exact HB.out)) hb); clear BK240; clear BK241; clear BK242; clear BK243; clear HB; have BK240 := n0_; have BK241 := n1_; have BK242 := n2_; have BK243 := n3_; have HB := n4_; clear n0_ n1_ n2_ n3_ n4_; (try clear hb); (try clear hb2); (try clear hk); (try clear hi); have hnb38 := NB242_240.out; have hnc38 := NB240_242.out; have hnb39 := NB242_243.out; have hnc39 := NB243_242.out; have hcz40_0 : w37.cell? ⟨gb242, 0, none⟩ = some (.int .i64 a2_0) := (bC BK242.out 0).trans rfl; have hcz40_1 : w37.cell? ⟨gb242, 1, none⟩ = some (.int .i64 a2_1) := (bC BK242.out 1).trans rfl; have hfz40_0 := bF BK242.out 0; have hfz40_1 := bF BK242.out 1) | (go_at_call 18; (with_reducible refine (bournelaw20_within.calls a2_0 a2_1 true _ A14.out).mono ?_); rintro e w41 ⟨rfl, hb⟩; (try clear A14); have n0_ := Aside0.mk (bB (g := gb240) (o := .cells #[.string a0_0, .int .i64 a0_1, .int .i64 a0_2, .int .i64 a0_3, .slice A0_4 l0_4.length c0_4, .slice A0_5 l0_5.length c0_5, .slice A0_6 l0_6.length c0_6, .int .i64 a0_7, .int .i64 a0_8, .int .i64 a0_9, .int .i64 a0_10, .int .i64 a0_11, .int .i64 a0_12, .int .i64 a0_13, .int .i64 a0_14, .int .i64 a0_15, .int .i64 a0_16, .int .i64 a0_17] 26 (0, 0)) (by (with_reducible repeat (first | refine bN ?_ _ | refine bD ?_ | refine bA ?_ _)); exact BK240.out) hb); have n1_ := Aside0.mk (bB (g := gb241) (o := .cells #[.int .i64 a1_0, .int .i64 a1_1] 30 (0, 0)) (by (with_reducible repeat (first | refine bN ?_ _ | refine bD ?_ | refine bA ?_ _)); exact BK241.out) hb); have n2_ := Aside0.mk (bB (g := gb242) (o := .cells #[.int .i64 a2_0, .int .i64 a2_1] 30 (0, 0)) (by (with_reducible repeat (first | refine bN ?_ _ | refine bD ?_ | refine bA ?_ _)); exact BK242.out) hb); have n3_ := Aside0.mk (bB (g := gb243) (o := .cells #[.int .i64 a3_0, .int .i64 a3_1] 30 (0, 0)) (by (with_reducible repeat (first | refine bN ?_ _ | refine bD ?_ | refine bA ?_ _)); exact BK243.out) hb); have n4_ := Aside0.mk (bP (by repeat (first | (with_reducible first | exact HB.out | apply bL | apply bW | apply b1 | refine bS ?_ GE240.out | refine bS ?_ GE241.out | refine bS ?_ GE242.out | refine bS ?_ GE243.out) | exact HB.out)) hb); clear BK240; clear BK241; clear BK242; clear BK243; clear HB; have BK240 := n0_; have BK241 := n1_; have BK242 := n2_; have BK243 := n3_; have HB := n4_; clear n0_ n1_ n2_ n3_ n4_; (try clear hb); (try clear hb2); (try clear hk); (try clear hi); have hnb42 := NB243_240.out; have hnc42 := NB240_243.out; have hcz43_0 : w41.cell? ⟨gb243, 0, none⟩ = some (.int .i64 a3_0) := (bC BK243.out 0).trans rfl; have hcz43_1 : w41.cell? ⟨gb243, 1, none⟩ = some (.int .i64 a3_1) := (bC BK243.out 1).trans rfl; have hfz43_0 := bF BK243.out 0; have hfz43_1 := bF BK243.out 1) | (go_at_call 18; (with_reducible refine (bournelaw20_within.calls a3_0 a3_1 true _ A16.out).mono ?_); rintro e w44 ⟨rfl, hb⟩; (try clear A16); have n0_ := Aside0.mk (bB (g := gb240) (o := .cells #[.string a0_0, .int .i64 a0_1, .int .i64 a0_2, .int .i64 a0_3, .slice A0_4 l0_4.length c0_4, .slice A0_5 l0_5.length c0_5, .slice A0_6 l0_6.length c0_6, .int .i64 a0_7, .int .i64 a0_8, .int .i64 a0_9, .int .i64 a0_10, .int .i64 a0_11, .int .i64 a0_12, .int .i64 a0_13, .int .i64 a0_14, .int .i64 a0_15, .int .i64 a0_16, .int .i64 a0_17] 26 (0, 0)) (by (with_reducible repeat (first | refine bN ?_ _ | refine bD ?_ | refine bA ?_ _)); exact BK240.out) hb); have n1_ := Aside0.mk (bB (g := gb241) (o := .cells #[.int .i64 a1_0, .int .i64 a1_1] 30 (0, 0)) (by (with_reducible repeat (first | refine bN ?_ _ | refine bD ?_ | refine bA ?_ _)); exact BK241.out) hb); have n2_ := Aside0.mk (bB (g := gb242) (o := .cells #[.int .i64 a2_0, .int .i64 a2_1] 30 (0, 0)) (by (with_reducible repeat (first | refine bN ?_ _ | refine bD ?_ | refine bA ?_ _)); exact BK242.out) hb); have n3_ := Aside0.mk (bB (g := gb243) (o := .cells #[.int .i64 a3_0, .int .i64 a3_1] 30 (0, 0)) (by (with_reducible repeat (first | refine bN ?_ _ | refine bD ?_ | refine bA ?_ _)); exact BK243.out) hb); have n4_ := Aside0.mk (bP (by repeat (first | (with_reducible first | exact HB.out | apply bL | apply bW | apply b1 | refine bS ?_ GE240.out | refine bS ?_ GE241.out | refine bS ?_ GE242.out | refine bS ?_ GE243.out) | exact HB.out)) hb); clear BK240; clear BK241; clear BK242; clear BK243; clear HB; have BK240 := n0_; have BK241 := n1_; have BK242 := n2_; have BK243 := n3_; have HB := n4_; clear n0_ n1_ n2_ n3_ n4_; (try clear hb); (try clear hb2); (try clear hk); (try clear hi); have hcz45_0 : w44.cell? ⟨gb240, 0, none⟩ = some (.string a0_0) := (bC BK240.out 0).trans rfl; have hcz45_1 : w44.cell? ⟨gb240, 1, none⟩ = some (.int .i64 a0_1) := (bC BK240.out 1).trans rfl; have hcz45_2 : w44.cell? ⟨gb240, 2, none⟩ = some (.int .i64 a0_2) := (bC BK240.out 2).trans rfl; have hcz45_3 : w44.cell? ⟨gb240, 3, none⟩ = some (.int .i64 a0_3) := (bC BK240.out 3).trans rfl; have hcz45_4 : w44.cell? ⟨gb240, 4, none⟩ = some (.slice A0_4 l0_4.length c0_4) := (bC BK240.out 4).trans rfl; have hcz45_5 : w44.cell? ⟨gb240, 5, none⟩ = some (.slice A0_5 l0_5.length c0_5) := (bC BK240.out 5).trans rfl; have hcz45_6 : w44.cell? ⟨gb240, 6, none⟩ = some (.slice A0_6 l0_6.length c0_6) := (bC BK240.out 6).trans rfl; have hcz45_7 : w44.cell? ⟨gb240, 7, none⟩ = some (.int .i64 a0_7) := (bC BK240.out 7).trans rfl; have hcz45_8 : w44.cell? ⟨gb240, 8, none⟩ = some (.int .i64 a0_8) := (bC BK240.out 8).trans rfl; have hcz45_9 : w44.cell? ⟨gb240, 9, none⟩ = some (.int .i64 a0_9) := (bC BK240.out 9).trans rfl; have hcz45_10 : w44.cell? ⟨gb240, 10, none⟩ = some (.int .i64 a0_10) := (bC BK240.out 10).trans rfl; have hcz45_11 : w44.cell? ⟨gb240, 11, none⟩ = some (.int .i64 a0_11) := (bC BK240.out 11).trans rfl; have hcz45_12 : w44.cell? ⟨gb240, 12, none⟩ = some (.int .i64 a0_12) := (bC BK240.out 12).trans rfl; have hcz45_13 : w44.cell? ⟨gb240, 13, none⟩ = some (.int .i64 a0_13) := (bC BK240.out 13).trans rfl; have hcz45_14 : w44.cell? ⟨gb240, 14, none⟩ = some (.int .i64 a0_14) := (bC BK240.out 14).trans rfl; have hcz45_15 : w44.cell? ⟨gb240, 15, none⟩ = some (.int .i64 a0_15) := (bC BK240.out 15).trans rfl; have hcz45_16 : w44.cell? ⟨gb240, 16, none⟩ = some (.int .i64 a0_16) := (bC BK240.out 16).trans rfl; have hcz45_17 : w44.cell? ⟨gb240, 17, none⟩ = some (.int .i64 a0_17) := (bC BK240.out 17).trans rfl; have hfz45_0 := bF BK240.out 0; have hfz45_1 := bF BK240.out 1; have hfz45_2 := bF BK240.out 2; have hfz45_3 := bF BK240.out 3; have hfz45_4 := bF BK240.out 4; have hfz45_5 := bF BK240.out 5; have hfz45_6 := bF BK240.out 6; have hfz45_7 := bF BK240.out 7; have hfz45_8 := bF BK240.out 8; have hfz45_9 := bF BK240.out 9; have hfz45_10 := bF BK240.out 10; have hfz45_11 := bF BK240.out 11; have hfz45_12 := bF BK240.out 12; have hfz45_13 := bF BK240.out 13; have hfz45_14 := bF BK240.out 14; have hfz45_15 := bF BK240.out 15; have hfz45_16 := bF BK240.out 16; have hfz45_17 := bF BK240.out 17) | ((with_reducible refine gate_load 26 4 rfl ?_); refine box_load (g := gb240) (cs := #[.string a0_0, .int .i64 a0_1, .int .i64 a0_2, .int .i64 a0_3, .slice A0_4 l0_4.length c0_4, .slice A0_5 l0_5.length c0_5, .slice A0_6 l0_6.length c0_6, .int .i64 a0_7, .int .i64 a0_8, .int .i64 a0_9, .int .i64 a0_10, .int .i64 a0_11, .int .i64 a0_12, .int .i64 a0_13, .int .i64 a0_14, .int .i64 a0_15, .int .i64 a0_16, .int .i64 a0_17]) ?hw rfl (by (with_reducible repeat (first | refine bN ?_ _ | refine bD ?_ | refine bA ?_ _)); with_reducible exact BK240.out) ?ha hu26 rfl ?hi ?_; (case hw => first | exact wanted_none rfl | rfl); (case ha => first | rfl | (go_simp; done)); (case hi => first | rfl | kernel_rfl)))
         go_meet
         case rel => exact ⟨_, (true), (by first | rfl | (simp; done) | (simp [*]; done)), H', ⟨by first | omega | exact Nat.le_refl _⟩, ⟨by (with_reducible repeat (first | refine bN ?_ _ | refine bD ?_ | refine bA ?_ _)); exact BK240.out⟩, ⟨by (with_reducible repeat (first | refine bN ?_ _ | refine bD ?_ | refine bA ?_ _)); exact BK241.out⟩, ⟨by (with_reducible repeat (first | refine bN ?_ _ | refine bD ?_ | refine bA ?_ _)); exact BK242.out⟩, ⟨by (with_reducible repeat (first | refine bN ?_ _ | refine bD ?_ | refine bA ?_ _)); exact BK243.out⟩, ⟨by repeat (first | (with_reducible first | exact HB.out | apply bL | apply bW | apply b1 | refine bS ?_ GE240.out | refine bS ?_ GE241.out | refine bS ?_ GE242.out | refine bS ?_ GE243.out) | exact HB.out)⟩⟩
      ·
       rw [if_neg c32] at H
       have c32b0 : decide (a0_15 < 0) = false := decide_eq_false c32
       clear c32
       by_cases c46 : a0_11 > a0_12
       ·
        rw [if_pos c46] at H
        have c46b0 : decide (a0_12 < a0_11) = true := decide_eq_true c46
        clear c46
        have H' := Aside0.mk H
        clear H
        have hnb47 := NB241_240.out
        have hnc47 := NB240_241.out
        have hnb48 := NB241_242.out
        have hnc48 := NB242_241.out
        have hnb49 := NB241_243.out
        have hnc49 := NB243_241.out
        have hcz50_0 : w11.cell? ⟨gb241, 0, none⟩ = some (.int .i64 a1_0) := (bC BK241.out 0).trans rfl
        have hcz50_1 : w11.cell? ⟨gb241, 1, none⟩ = some (.int .i64 a1_1) := (bC BK241.out 1).trans rfl
        have hfz50_0 := bF BK241.out 0
        have hfz50_1 := bF BK241.out 1
        as_aux_lemma =>
          go_wp2_with (first | ((with_reducible refine gate_callee (f := 18) rfl ?_); refine goesL_ (some 14) rfl rfl Try.func18 (by kernel_rfl) rfl #[.agg #[.int .i64 a1_0, .int .i64 a1_1]] rfl (by (try simp only [List.map_toArray, List.map_cons, List.map_nil]); first | done | rfl | (simp only [List.length_drop, List.length_take]; rfl)) ?_; (with_reducible refine (bournelaw20_within.calls a1_0 a1_1 true _ A12.out).mono ?_); rintro e w51 ⟨rfl, hb⟩; refine ⟨_, rfl, ?_⟩; have n0_ := Aside0.mk (bB (g := gb240) (o := .cells #[.string a0_0, .int .i64 a0_1, .int .i64 a0_2, .int .i64 a0_3, .slice A0_4 l0_4.length c0_4, .slice A0_5 l0_5.length c0_5, .slice A0_6 l0_6.length c0_6, .int .i64 a0_7, .int .i64 a0_8, .int .i64 a0_9, .int .i64 a0_10, .int .i64 a0_11, .int .i64 a0_12, .int .i64 a0_13, .int .i64 a0_14, .int .i64 a0_15, .int .i64 a0_16, .int .i64 a0_17] 26 (0, 0)) (by (with_reducible repeat (first | refine bN ?_ _ | refine bD ?_ | refine bA ?_ _)); exact BK240.out) hb); have n1_ := Aside0.mk (bB (g := gb241) (o := .cells #[.int .i64 a1_0, .int .i64 a1_1] 30 (0, 0)) (by (with_reducible repeat (first | refine bN ?_ _ | refine bD ?_ | refine bA ?_ _)); exact BK241.out) hb); have n2_ := Aside0.mk (bB (g := gb242) (o := .cells #[.int .i64 a2_0, .int .i64 a2_1] 30 (0, 0)) (by (with_reducible repeat (first | refine bN ?_ _ | refine bD ?_ | refine bA ?_ _)); exact BK242.out) hb); have n3_ := Aside0.mk (bB (g := gb243) (o := .cells #[.int .i64 a3_0, .int .i64 a3_1] 30 (0, 0)) (by (with_reducible repeat (first | refine bN ?_ _ | refine bD ?_ | refine bA ?_ _)); exact BK243.out) hb); have n4_ := Aside0.mk (bP (by repeat (first | (with_reducible first | exact HB.out | apply bL | apply bW | apply b1 | refine bS ?_ GE240.out | refine bS ?_ GE241.out | refine bS ?_ GE242.out | refine bS ?_ GE243.out) | exact HB.out)) hb); clear BK240; clear BK241; clear BK242; clear BK243; clear HB; have BK240 := n0_; have BK241 := n1_; have BK242 := n2_; have BK243 := n3_; have HB := n4_; clear n0_ n1_ n2_ n3_ n4_; (try clear hb); (try clear hb2); (try clear hk); (try clear hi); have hnb52 := NB242_240.out; have hnc52 := NB240_242.out; have hnb53 := NB242_243.out; have hnc53 := NB243_242.out; have hcz54_0 : w51.cell? ⟨gb242, 0, none⟩ = some (.int .i64 a2_0) := (bC BK242.out 0).trans rfl; have hcz54_1 : w51.cell? ⟨gb242, 1, none⟩ = some (.int .i64 a2_1) := (bC BK242.out 1).trans rfl; have hfz54_0 := bF BK242.out 0; have hfz54_1 := bF BK242.out 1) | (go_at_call 18; (with_reducible refine (bournelaw20_within.calls a2_0 a2_1 true _ A14.out).mono ?_); rintro e w55 ⟨rfl, hb⟩; (try clear A14); have n0_ := Aside0.mk (bB (g := gb240) (o := .cells #[.string a0_0, .int .i64 a0_1, .int .i64 a0_2, .int .i64 a0_3, .slice A0_4 l0_4.length c0_4, .slice A0_5 l0_5.length c0_5, .slice A0_6 l0_6.length c0_6, .int .i64 a0_7, .int .i64 a0_8, .int .i64 a0_9, .int .i64 a0_10, .int .i64 a0_11, .int .i64 a0_12, .int .i64 a0_13, .int .i64 a0_14, .int .i64 a0_15, .int .i64 a0_16, .int .i64 a0_17] 26 (0, 0)) (by (with_reducible repeat (first | refine bN ?_ _ | refine bD ?_ | refine bA ?_ _)); exact BK240.out) hb); have n1_ := Aside0.mk (bB (g := gb241) (o := .cells #[.int .i64 a1_0, .int .i64 a1_1] 30 (0, 0)) (by (with_reducible repeat (first | refine bN ?_ _ | refine bD ?_ | refine bA ?_ _)); exact BK241.out) hb); have n2_ := Aside0.mk (bB (g := gb242) (o := .cells #[.int .i64 a2_0, .int .i64 a2_1] 30 (0, 0)) (by (with_reducible repeat (first | refine bN ?_ _ | refine bD ?_ | refine bA ?_ _)); exact BK242.out) hb); have n3_ := Aside0.mk (bB (g := gb243) (o := .cells #[.int .i64 a3_0, .int .i64 a3_1] 30 (0, 0)) (by (with_reducible repeat (first | refine bN ?_ _ | refine bD ?_ | refine bA ?_ _)); exact BK243.out) hb); have n4_ := Aside0.mk (bP (by repeat (first | (with_reducible first | exact HB.out | apply bL | apply bW | apply b1 | refine bS ?_ GE240.out | refine bS ?_ GE241.out | refine bS ?_ GE242.out | refine bS ?_ GE243.out) | exact HB.out)) hb); clear BK240; clear BK241; clear BK242; clear BK243; clear HB; have BK240 := n0_; have BK241 := n1_; have BK242 := n2_; have BK243 := n3_; have HB := n4_; clear n0_ n1_ n2_ n3_ n4_; (try clear hb); (try clear hb2); (try clear hk); (try clear hi); have hnb56 := NB243_240.out; have hnc56 := NB240_243.out; have hcz57_0 : w55.cell? ⟨gb243, 0, none⟩ = some (.int .i64 a3_0) := (bC BK243.out 0).trans rfl; have hcz57_1 : w55.cell? ⟨gb243, 1, none⟩ = some (.int .i64 a3_1) := (bC BK243.out 1).trans rfl; have hfz57_0 := bF BK243.out 0; have hfz57_1 := bF BK243.out 1) | (go_at_call 18; (with_reducible refine (bournelaw20_within.calls a3_0 a3_1 true _ A16.out).mono ?_); rintro e w58 ⟨rfl, hb⟩; (try clear A16); have n0_ := Aside0.mk (bB (g := gb240) (o := .cells #[.string a0_0, .int .i64 a0_1, .int .i64 a0_2, .int .i64 a0_3, .slice A0_4 l0_4.length c0_4, .slice A0_5 l0_5.length c0_5, .slice A0_6 l0_6.length c0_6, .int .i64 a0_7, .int .i64 a0_8, .int .i64 a0_9, .int .i64 a0_10, .int .i64 a0_11, .int .i64 a0_12, .int .i64 a0_13, .int .i64 a0_14, .int .i64 a0_15, .int .i64 a0_16, .int .i64 a0_17] 26 (0, 0)) (by (with_reducible repeat (first | refine bN ?_ _ | refine bD ?_ | refine bA ?_ _)); exact BK240.out) hb); have n1_ := Aside0.mk (bB (g := gb241) (o := .cells #[.int .i64 a1_0, .int .i64 a1_1] 30 (0, 0)) (by (with_reducible repeat (first | refine bN ?_ _ | refine bD ?_ | refine bA ?_ _)); exact BK241.out) hb); have n2_ := Aside0.mk (bB (g := gb242) (o := .cells #[.int .i64 a2_0, .int .i64 a2_1] 30 (0, 0)) (by (with_reducible repeat (first | refine bN ?_ _ | refine bD ?_ | refine bA ?_ _)); exact BK242.out) hb); have n3_ := Aside0.mk (bB (g := gb243) (o := .cells #[.int .i64 a3_0, .int .i64 a3_1] 30 (0, 0)) (by (with_reducible repeat (first | refine bN ?_ _ | refine bD ?_ | refine bA ?_ _)); exact BK243.out) hb); have n4_ := Aside0.mk (bP (by repeat (first | (with_reducible first | exact HB.out | apply bL | apply bW | apply b1 | refine bS ?_ GE240.out | refine bS ?_ GE241.out | refine bS ?_ GE242.out | refine bS ?_ GE243.out) | exact HB.out)) hb); clear BK240; clear BK241; clear BK242; clear BK243; clear HB; have BK240 := n0_; have BK241 := n1_; have BK242 := n2_; have BK243 := n3_; have HB := n4_; clear n0_ n1_ n2_ n3_ n4_; (try clear hb); (try clear hb2); (try clear hk); (try clear hi); have hcz59_0 : w58.cell? ⟨gb240, 0, none⟩ = some (.string a0_0) := (bC BK240.out 0).trans rfl; have hcz59_1 : w58.cell? ⟨gb240, 1, none⟩ = some (.int .i64 a0_1) := (bC BK240.out 1).trans rfl; have hcz59_2 : w58.cell? ⟨gb240, 2, none⟩ = some (.int .i64 a0_2) := (bC BK240.out 2).trans rfl; have hcz59_3 : w58.cell? ⟨gb240, 3, none⟩ = some (.int .i64 a0_3) := (bC BK240.out 3).trans rfl; have hcz59_4 : w58.cell? ⟨gb240, 4, none⟩ = some (.slice A0_4 l0_4.length c0_4) := (bC BK240.out 4).trans rfl; have hcz59_5 : w58.cell? ⟨gb240, 5, none⟩ = some (.slice A0_5 l0_5.length c0_5) := (bC BK240.out 5).trans rfl; have hcz59_6 : w58.cell? ⟨gb240, 6, none⟩ = some (.slice A0_6 l0_6.length c0_6) := (bC BK240.out 6).trans rfl; have hcz59_7 : w58.cell? ⟨gb240, 7, none⟩ = some (.int .i64 a0_7) := (bC BK240.out 7).trans rfl; have hcz59_8 : w58.cell? ⟨gb240, 8, none⟩ = some (.int .i64 a0_8) := (bC BK240.out 8).trans rfl; have hcz59_9 : w58.cell? ⟨gb240, 9, none⟩ = some (.int .i64 a0_9) := (bC BK240.out 9).trans rfl; have hcz59_10 : w58.cell? ⟨gb240, 10, none⟩ = some (.int .i64 a0_10) := (bC BK240.out 10).trans rfl; have hcz59_11 : w58.cell? ⟨gb240, 11, none⟩ = some (.int .i64 a0_11) := (bC BK240.out 11).trans rfl; have hcz59_12 : w58.cell? ⟨gb240, 12, none⟩ = some (.int .i64 a0_12) := (bC BK240.out 12).trans rfl; have hcz59_13 : w58.cell? ⟨gb240, 13, none⟩ = some (.int .i64 a0_13) := (bC BK240.out 13).trans rfl; have hcz59_14 : w58.cell? ⟨gb240, 14, none⟩ = some (.int .i64 a0_14) := (bC BK240.out 14).trans rfl; have hcz59_15 : w58.cell? ⟨gb240, 15, none⟩ = some (.int .i64 a0_15) := (bC BK240.out 15).trans rfl; have hcz59_16 : w58.cell? ⟨gb240, 16, none⟩ = some (.int .i64 a0_16) := (bC BK240.out 16).trans rfl; have hcz59_17 : w58.cell? ⟨gb240, 17, none⟩ = some (.int .i64 a0_17) := (bC BK240.out 17).trans rfl; have hfz59_0 := bF BK240.out 0; have hfz59_1 := bF BK240.out 1; have hfz59_2 := bF BK240.out 2; have hfz59_3 := bF BK240.out 3; have hfz59_4 := bF BK240.out 4; have hfz59_5 := bF BK240.out 5; have hfz59_6 := bF BK240.out 6; have hfz59_7 := bF BK240.out 7; have hfz59_8 := bF BK240.out 8; have hfz59_9 := bF BK240.out 9; have hfz59_10 := bF BK240.out 10; have hfz59_11 := bF BK240.out 11; have hfz59_12 := bF BK240.out 12; have hfz59_13 := bF BK240.out 13; have hfz59_14 := bF BK240.out 14; have hfz59_15 := bF BK240.out 15; have hfz59_16 := bF BK240.out 16; have hfz59_17 := bF BK240.out 17) | ((with_reducible refine gate_load 26 4 rfl ?_); refine box_load (g := gb240) (cs := #[.string a0_0, .int .i64 a0_1, .int .i64 a0_2, .int .i64 a0_3, .slice A0_4 l0_4.length c0_4, .slice A0_5 l0_5.length c0_5, .slice A0_6 l0_6.length c0_6, .int .i64 a0_7, .int .i64 a0_8, .int .i64 a0_9, .int .i64 a0_10, .int .i64 a0_11, .int .i64 a0_12, .int .i64 a0_13, .int .i64 a0_14, .int .i64 a0_15, .int .i64 a0_16, .int .i64 a0_17]) ?hw rfl (by (with_reducible repeat (first | refine bN ?_ _ | refine bD ?_ | refine bA ?_ _)); with_reducible exact BK240.out) ?ha hu26 rfl ?hi ?_; (case hw => first | exact wanted_none rfl | rfl); (case ha => first | rfl | (go_simp; done)); (case hi => first | rfl | kernel_rfl)))
          go_meet
          case rel => exact ⟨_, (true), (by first | rfl | (simp; done) | (simp [*]; done)), H', ⟨by first | omega | exact Nat.le_refl _⟩, ⟨by (with_reducible repeat (first | refine bN ?_ _ | refine bD ?_ | refine bA ?_ _)); exact BK240.out⟩, ⟨by (with_reducible repeat (first | refine bN ?_ _ | refine bD ?_ | refine bA ?_ _)); exact BK241.out⟩, ⟨by (with_reducible repeat (first | refine bN ?_ _ | refine bD ?_ | refine bA ?_ _)); exact BK242.out⟩, ⟨by (with_reducible repeat (first | refine bN ?_ _ | refine bD ?_ | refine bA ?_ _)); exact BK243.out⟩, ⟨by repeat (first | (with_reducible first | exact HB.out | apply bL | apply bW | apply b1 | refine bS ?_ GE240.out | refine bS ?_ GE241.out | refine bS ?_ GE242.out | refine bS ?_ GE243.out) | exact HB.out)⟩⟩
       ·
        rw [if_neg c46] at H
        have c46b0 : decide (a0_12 < a0_11) = false := decide_eq_false c46
        clear c46
        by_cases c60 : a0_15 > a0_16
        ·
         rw [if_pos c60] at H
         have c60b0 : decide (a0_16 < a0_15) = true := decide_eq_true c60
         clear c60
         have H' := Aside0.mk H
         clear H
         have hnb61 := NB241_240.out
         have hnc61 := NB240_241.out
         have hnb62 := NB241_242.out
         have hnc62 := NB242_241.out
         have hnb63 := NB241_243.out
         have hnc63 := NB243_241.out
         have hcz64_0 : w11.cell? ⟨gb241, 0, none⟩ = some (.int .i64 a1_0) := (bC BK241.out 0).trans rfl
         have hcz64_1 : w11.cell? ⟨gb241, 1, none⟩ = some (.int .i64 a1_1) := (bC BK241.out 1).trans rfl
         have hfz64_0 := bF BK241.out 0
         have hfz64_1 := bF BK241.out 1
         as_aux_lemma =>
           go_wp2_with (first | ((with_reducible refine gate_callee (f := 18) rfl ?_); refine goesL_ (some 14) rfl rfl Try.func18 (by kernel_rfl) rfl #[.agg #[.int .i64 a1_0, .int .i64 a1_1]] rfl (by (try simp only [List.map_toArray, List.map_cons, List.map_nil]); first | done | rfl | (simp only [List.length_drop, List.length_take]; rfl)) ?_; (with_reducible refine (bournelaw20_within.calls a1_0 a1_1 true _ A12.out).mono ?_); rintro e w65 ⟨rfl, hb⟩; refine ⟨_, rfl, ?_⟩; have n0_ := Aside0.mk (bB (g := gb240) (o := .cells #[.string a0_0, .int .i64 a0_1, .int .i64 a0_2, .int .i64 a0_3, .slice A0_4 l0_4.length c0_4, .slice A0_5 l0_5.length c0_5, .slice A0_6 l0_6.length c0_6, .int .i64 a0_7, .int .i64 a0_8, .int .i64 a0_9, .int .i64 a0_10, .int .i64 a0_11, .int .i64 a0_12, .int .i64 a0_13, .int .i64 a0_14, .int .i64 a0_15, .int .i64 a0_16, .int .i64 a0_17] 26 (0, 0)) (by (with_reducible repeat (first | refine bN ?_ _ | refine bD ?_ | refine bA ?_ _)); exact BK240.out) hb); have n1_ := Aside0.mk (bB (g := gb241) (o := .cells #[.int .i64 a1_0, .int .i64 a1_1] 30 (0, 0)) (by (with_reducible repeat (first | refine bN ?_ _ | refine bD ?_ | refine bA ?_ _)); exact BK241.out) hb); have n2_ := Aside0.mk (bB (g := gb242) (o := .cells #[.int .i64 a2_0, .int .i64 a2_1] 30 (0, 0)) (by (with_reducible repeat (first | refine bN ?_ _ | refine bD ?_ | refine bA ?_ _)); exact BK242.out) hb); have n3_ := Aside0.mk (bB (g := gb243) (o := .cells #[.int .i64 a3_0, .int .i64 a3_1] 30 (0, 0)) (by (with_reducible repeat (first | refine bN ?_ _ | refine bD ?_ | refine bA ?_ _)); exact BK243.out) hb); have n4_ := Aside0.mk (bP (by repeat (first | (with_reducible first | exact HB.out | apply bL | apply bW | apply b1 | refine bS ?_ GE240.out | refine bS ?_ GE241.out | refine bS ?_ GE242.out | refine bS ?_ GE243.out) | exact HB.out)) hb); clear BK240; clear BK241; clear BK242; clear BK243; clear HB; have BK240 := n0_; have BK241 := n1_; have BK242 := n2_; have BK243 := n3_; have HB := n4_; clear n0_ n1_ n2_ n3_ n4_; (try clear hb); (try clear hb2); (try clear hk); (try clear hi); have hnb66 := NB242_240.out; have hnc66 := NB240_242.out; have hnb67 := NB242_243.out; have hnc67 := NB243_242.out; have hcz68_0 : w65.cell? ⟨gb242, 0, none⟩ = some (.int .i64 a2_0) := (bC BK242.out 0).trans rfl; have hcz68_1 : w65.cell? ⟨gb242, 1, none⟩ = some (.int .i64 a2_1) := (bC BK242.out 1).trans rfl; have hfz68_0 := bF BK242.out 0; have hfz68_1 := bF BK242.out 1) | (go_at_call 18; (with_reducible refine (bournelaw20_within.calls a2_0 a2_1 true _ A14.out).mono ?_); rintro e w69 ⟨rfl, hb⟩; (try clear A14); have n0_ := Aside0.mk (bB (g := gb240) (o := .cells #[.string a0_0, .int .i64 a0_1, .int .i64 a0_2, .int .i64 a0_3, .slice A0_4 l0_4.length c0_4, .slice A0_5 l0_5.length c0_5, .slice A0_6 l0_6.length c0_6, .int .i64 a0_7, .int .i64 a0_8, .int .i64 a0_9, .int .i64 a0_10, .int .i64 a0_11, .int .i64 a0_12, .int .i64 a0_13, .int .i64 a0_14, .int .i64 a0_15, .int .i64 a0_16, .int .i64 a0_17] 26 (0, 0)) (by (with_reducible repeat (first | refine bN ?_ _ | refine bD ?_ | refine bA ?_ _)); exact BK240.out) hb); have n1_ := Aside0.mk (bB (g := gb241) (o := .cells #[.int .i64 a1_0, .int .i64 a1_1] 30 (0, 0)) (by (with_reducible repeat (first | refine bN ?_ _ | refine bD ?_ | refine bA ?_ _)); exact BK241.out) hb); have n2_ := Aside0.mk (bB (g := gb242) (o := .cells #[.int .i64 a2_0, .int .i64 a2_1] 30 (0, 0)) (by (with_reducible repeat (first | refine bN ?_ _ | refine bD ?_ | refine bA ?_ _)); exact BK242.out) hb); have n3_ := Aside0.mk (bB (g := gb243) (o := .cells #[.int .i64 a3_0, .int .i64 a3_1] 30 (0, 0)) (by (with_reducible repeat (first | refine bN ?_ _ | refine bD ?_ | refine bA ?_ _)); exact BK243.out) hb); have n4_ := Aside0.mk (bP (by repeat (first | (with_reducible first | exact HB.out | apply bL | apply bW | apply b1 | refine bS ?_ GE240.out | refine bS ?_ GE241.out | refine bS ?_ GE242.out | refine bS ?_ GE243.out) | exact HB.out)) hb); clear BK240; clear BK241; clear BK242; clear BK243; clear HB; have BK240 := n0_; have BK241 := n1_; have BK242 := n2_; have BK243 := n3_; have HB := n4_; clear n0_ n1_ n2_ n3_ n4_; (try clear hb); (try clear hb2); (try clear hk); (try clear hi); have hnb70 := NB243_240.out; have hnc70 := NB240_243.out; have hcz71_0 : w69.cell? ⟨gb243, 0, none⟩ = some (.int .i64 a3_0) := (bC BK243.out 0).trans rfl; have hcz71_1 : w69.cell? ⟨gb243, 1, none⟩ = some (.int .i64 a3_1) := (bC BK243.out 1).trans rfl; have hfz71_0 := bF BK243.out 0; have hfz71_1 := bF BK243.out 1) | (go_at_call 18; (with_reducible refine (bournelaw20_within.calls a3_0 a3_1 true _ A16.out).mono ?_); rintro e w72 ⟨rfl, hb⟩; (try clear A16); have n0_ := Aside0.mk (bB (g := gb240) (o := .cells #[.string a0_0, .int .i64 a0_1, .int .i64 a0_2, .int .i64 a0_3, .slice A0_4 l0_4.length c0_4, .slice A0_5 l0_5.length c0_5, .slice A0_6 l0_6.length c0_6, .int .i64 a0_7, .int .i64 a0_8, .int .i64 a0_9, .int .i64 a0_10, .int .i64 a0_11, .int .i64 a0_12, .int .i64 a0_13, .int .i64 a0_14, .int .i64 a0_15, .int .i64 a0_16, .int .i64 a0_17] 26 (0, 0)) (by (with_reducible repeat (first | refine bN ?_ _ | refine bD ?_ | refine bA ?_ _)); exact BK240.out) hb); have n1_ := Aside0.mk (bB (g := gb241) (o := .cells #[.int .i64 a1_0, .int .i64 a1_1] 30 (0, 0)) (by (with_reducible repeat (first | refine bN ?_ _ | refine bD ?_ | refine bA ?_ _)); exact BK241.out) hb); have n2_ := Aside0.mk (bB (g := gb242) (o := .cells #[.int .i64 a2_0, .int .i64 a2_1] 30 (0, 0)) (by (with_reducible repeat (first | refine bN ?_ _ | refine bD ?_ | refine bA ?_ _)); exact BK242.out) hb); have n3_ := Aside0.mk (bB (g := gb243) (o := .cells #[.int .i64 a3_0, .int .i64 a3_1] 30 (0, 0)) (by (with_reducible repeat (first | refine bN ?_ _ | refine bD ?_ | refine bA ?_ _)); exact BK243.out) hb); have n4_ := Aside0.mk (bP (by repeat (first | (with_reducible first | exact HB.out | apply bL | apply bW | apply b1 | refine bS ?_ GE240.out | refine bS ?_ GE241.out | refine bS ?_ GE242.out | refine bS ?_ GE243.out) | exact HB.out)) hb); clear BK240; clear BK241; clear BK242; clear BK243; clear HB; have BK240 := n0_; have BK241 := n1_; have BK242 := n2_; have BK243 := n3_; have HB := n4_; clear n0_ n1_ n2_ n3_ n4_; (try clear hb); (try clear hb2); (try clear hk); (try clear hi); have hcz73_0 : w72.cell? ⟨gb240, 0, none⟩ = some (.string a0_0) := (bC BK240.out 0).trans rfl; have hcz73_1 : w72.cell? ⟨gb240, 1, none⟩ = some (.int .i64 a0_1) := (bC BK240.out 1).trans rfl; have hcz73_2 : w72.cell? ⟨gb240, 2, none⟩ = some (.int .i64 a0_2) := (bC BK240.out 2).trans rfl; have hcz73_3 : w72.cell? ⟨gb240, 3, none⟩ = some (.int .i64 a0_3) := (bC BK240.out 3).trans rfl; have hcz73_4 : w72.cell? ⟨gb240, 4, none⟩ = some (.slice A0_4 l0_4.length c0_4) := (bC BK240.out 4).trans rfl; have hcz73_5 : w72.cell? ⟨gb240, 5, none⟩ = some (.slice A0_5 l0_5.length c0_5) := (bC BK240.out 5).trans rfl; have hcz73_6 : w72.cell? ⟨gb240, 6, none⟩ = some (.slice A0_6 l0_6.length c0_6) := (bC BK240.out 6).trans rfl; have hcz73_7 : w72.cell? ⟨gb240, 7, none⟩ = some (.int .i64 a0_7) := (bC BK240.out 7).trans rfl; have hcz73_8 : w72.cell? ⟨gb240, 8, none⟩ = some (.int .i64 a0_8) := (bC BK240.out 8).trans rfl; have hcz73_9 : w72.cell? ⟨gb240, 9, none⟩ = some (.int .i64 a0_9) := (bC BK240.out 9).trans rfl; have hcz73_10 : w72.cell? ⟨gb240, 10, none⟩ = some (.int .i64 a0_10) := (bC BK240.out 10).trans rfl; have hcz73_11 : w72.cell? ⟨gb240, 11, none⟩ = some (.int .i64 a0_11) := (bC BK240.out 11).trans rfl; have hcz73_12 : w72.cell? ⟨gb240, 12, none⟩ = some (.int .i64 a0_12) := (bC BK240.out 12).trans rfl; have hcz73_13 : w72.cell? ⟨gb240, 13, none⟩ = some (.int .i64 a0_13) := (bC BK240.out 13).trans rfl; have hcz73_14 : w72.cell? ⟨gb240, 14, none⟩ = some (.int .i64 a0_14) := (bC BK240.out 14).trans rfl; have hcz73_15 : w72.cell? ⟨gb240, 15, none⟩ = some (.int .i64 a0_15) := (bC BK240.out 15).trans rfl; have hcz73_16 : w72.cell? ⟨gb240, 16, none⟩ = some (.int .i64 a0_16) := (bC BK240.out 16).trans rfl; have hcz73_17 : w72.cell? ⟨gb240, 17, none⟩ = some (.int .i64 a0_17) := (bC BK240.out 17).trans rfl; have hfz73_0 := bF BK240.out 0; have hfz73_1 := bF BK240.out 1; have hfz73_2 := bF BK240.out 2; have hfz73_3 := bF BK240.out 3; have hfz73_4 := bF BK240.out 4; have hfz73_5 := bF BK240.out 5; have hfz73_6 := bF BK240.out 6; have hfz73_7 := bF BK240.out 7; have hfz73_8 := bF BK240.out 8; have hfz73_9 := bF BK240.out 9; have hfz73_10 := bF BK240.out 10; have hfz73_11 := bF BK240.out 11; have hfz73_12 := bF BK240.out 12; have hfz73_13 := bF BK240.out 13; have hfz73_14 := bF BK240.out 14; have hfz73_15 := bF BK240.out 15; have hfz73_16 := bF BK240.out 16; have hfz73_17 := bF BK240.out 17) | ((with_reducible refine gate_load 26 4 rfl ?_); refine box_load (g := gb240) (cs := #[.string a0_0, .int .i64 a0_1, .int .i64 a0_2, .int .i64 a0_3, .slice A0_4 l0_4.length c0_4, .slice A0_5 l0_5.length c0_5, .slice A0_6 l0_6.length c0_6, .int .i64 a0_7, .int .i64 a0_8, .int .i64 a0_9, .int .i64 a0_10, .int .i64 a0_11, .int .i64 a0_12, .int .i64 a0_13, .int .i64 a0_14, .int .i64 a0_15, .int .i64 a0_16, .int .i64 a0_17]) ?hw rfl (by (with_reducible repeat (first | refine bN ?_ _ | refine bD ?_ | refine bA ?_ _)); with_reducible exact BK240.out) ?ha hu26 rfl ?hi ?_; (case hw => first | exact wanted_none rfl | rfl); (case ha => first | rfl | (go_simp; done)); (case hi => first | rfl | kernel_rfl)))
           go_meet
           case rel => exact ⟨_, (true), (by first | rfl | (simp; done) | (simp [*]; done)), H', ⟨by first | omega | exact Nat.le_refl _⟩, ⟨by (with_reducible repeat (first | refine bN ?_ _ | refine bD ?_ | refine bA ?_ _)); exact BK240.out⟩, ⟨by (with_reducible repeat (first | refine bN ?_ _ | refine bD ?_ | refine bA ?_ _)); exact BK241.out⟩, ⟨by (with_reducible repeat (first | refine bN ?_ _ | refine bD ?_ | refine bA ?_ _)); exact BK242.out⟩, ⟨by (with_reducible repeat (first | refine bN ?_ _ | refine bD ?_ | refine bA ?_ _)); exact BK243.out⟩, ⟨by repeat (first | (with_reducible first | exact HB.out | apply bL | apply bW | apply b1 | refine bS ?_ GE240.out | refine bS ?_ GE241.out | refine bS ?_ GE242.out | refine bS ?_ GE243.out) | exact HB.out)⟩⟩
        ·
         rw [if_neg c60] at H
         have c60b0 : decide (a0_16 < a0_15) = false := decide_eq_false c60
         clear c60
         by_cases c74 : a0_12 > 1125899906842624
         ·
          rw [if_pos c74] at H
          have c74b0 : decide (1125899906842624 < a0_12) = true := decide_eq_true c74
          clear c74
          have H' := Aside0.mk H
          clear H
          have hnb75 := NB241_240.out
          have hnc75 := NB240_241.out
          have hnb76 := NB241_242.out
          have hnc76 := NB242_241.out
          have hnb77 := NB241_243.out
          have hnc77 := NB243_241.out
          have hcz78_0 : w11.cell? ⟨gb241, 0, none⟩ = some (.int .i64 a1_0) := (bC BK241.out 0).trans rfl
          have hcz78_1 : w11.cell? ⟨gb241, 1, none⟩ = some (.int .i64 a1_1) := (bC BK241.out 1).trans rfl
          have hfz78_0 := bF BK241.out 0
          have hfz78_1 := bF BK241.out 1
          as_aux_lemma =>
            go_wp2_with (first | ((with_reducible refine gate_callee (f := 18) rfl ?_); refine goesL_ (some 14) rfl rfl Try.func18 (by kernel_rfl) rfl #[.agg #[.int .i64 a1_0, .int .i64 a1_1]] rfl (by (try simp only [List.map_toArray, List.map_cons, List.map_nil]); first | done | rfl | (simp only [List.length_drop, List.length_take]; rfl)) ?_; (with_reducible refine (bournelaw20_within.calls a1_0 a1_1 true _ A12.out).mono ?_); rintro e w79 ⟨rfl, hb⟩; refine ⟨_, rfl, ?_⟩; have n0_ := Aside0.mk (bB (g := gb240) (o := .cells #[.string a0_0, .int .i64 a0_1, .int .i64 a0_2, .int .i64 a0_3, .slice A0_4 l0_4.length c0_4, .slice A0_5 l0_5.length c0_5, .slice A0_6 l0_6.length c0_6, .int .i64 a0_7, .int .i64 a0_8, .int .i64 a0_9, .int .i64 a0_10, .int .i64 a0_11, .int .i64 a0_12, .int .i64 a0_13, .int .i64 a0_14, .int .i64 a0_15, .int .i64 a0_16, .int .i64 a0_17] 26 (0, 0)) (by (with_reducible repeat (first | refine bN ?_ _ | refine bD ?_ | refine bA ?_ _)); exact BK240.out) hb); have n1_ := Aside0.mk (bB (g := gb241) (o := .cells #[.int .i64 a1_0, .int .i64 a1_1] 30 (0, 0)) (by (with_reducible repeat (first | refine bN ?_ _ | refine bD ?_ | refine bA ?_ _)); exact BK241.out) hb); have n2_ := Aside0.mk (bB (g := gb242) (o := .cells #[.int .i64 a2_0, .int .i64 a2_1] 30 (0, 0)) (by (with_reducible repeat (first | refine bN ?_ _ | refine bD ?_ | refine bA ?_ _)); exact BK242.out) hb); have n3_ := Aside0.mk (bB (g := gb243) (o := .cells #[.int .i64 a3_0, .int .i64 a3_1] 30 (0, 0)) (by (with_reducible repeat (first | refine bN ?_ _ | refine bD ?_ | refine bA ?_ _)); exact BK243.out) hb); have n4_ := Aside0.mk (bP (by repeat (first | (with_reducible first | exact HB.out | apply bL | apply bW | apply b1 | refine bS ?_ GE240.out | refine bS ?_ GE241.out | refine bS ?_ GE242.out | refine bS ?_ GE243.out) | exact HB.out)) hb); clear BK240; clear BK241; clear BK242; clear BK243; clear HB; have BK240 := n0_; have BK241 := n1_; have BK242 := n2_; have BK243 := n3_; have HB := n4_; clear n0_ n1_ n2_ n3_ n4_; (try clear hb); (try clear hb2); (try clear hk); (try clear hi); have hnb80 := NB242_240.out; have hnc80 := NB240_242.out; have hnb81 := NB242_243.out; have hnc81 := NB243_242.out; have hcz82_0 : w79.cell? ⟨gb242, 0, none⟩ = some (.int .i64 a2_0) := (bC BK242.out 0).trans rfl; have hcz82_1 : w79.cell? ⟨gb242, 1, none⟩ = some (.int .i64 a2_1) := (bC BK242.out 1).trans rfl; have hfz82_0 := bF BK242.out 0; have hfz82_1 := bF BK242.out 1) | (go_at_call 18; (with_reducible refine (bournelaw20_within.calls a2_0 a2_1 true _ A14.out).mono ?_); rintro e w83 ⟨rfl, hb⟩; (try clear A14); have n0_ := Aside0.mk (bB (g := gb240) (o := .cells #[.string a0_0, .int .i64 a0_1, .int .i64 a0_2, .int .i64 a0_3, .slice A0_4 l0_4.length c0_4, .slice A0_5 l0_5.length c0_5, .slice A0_6 l0_6.length c0_6, .int .i64 a0_7, .int .i64 a0_8, .int .i64 a0_9, .int .i64 a0_10, .int .i64 a0_11, .int .i64 a0_12, .int .i64 a0_13, .int .i64 a0_14, .int .i64 a0_15, .int .i64 a0_16, .int .i64 a0_17] 26 (0, 0)) (by (with_reducible repeat (first | refine bN ?_ _ | refine bD ?_ | refine bA ?_ _)); exact BK240.out) hb); have n1_ := Aside0.mk (bB (g := gb241) (o := .cells #[.int .i64 a1_0, .int .i64 a1_1] 30 (0, 0)) (by (with_reducible repeat (first | refine bN ?_ _ | refine bD ?_ | refine bA ?_ _)); exact BK241.out) hb); have n2_ := Aside0.mk (bB (g := gb242) (o := .cells #[.int .i64 a2_0, .int .i64 a2_1] 30 (0, 0)) (by (with_reducible repeat (first | refine bN ?_ _ | refine bD ?_ | refine bA ?_ _)); exact BK242.out) hb); have n3_ := Aside0.mk (bB (g := gb243) (o := .cells #[.int .i64 a3_0, .int .i64 a3_1] 30 (0, 0)) (by (with_reducible repeat (first | refine bN ?_ _ | refine bD ?_ | refine bA ?_ _)); exact BK243.out) hb); have n4_ := Aside0.mk (bP (by repeat (first | (with_reducible first | exact HB.out | apply bL | apply bW | apply b1 | refine bS ?_ GE240.out | refine bS ?_ GE241.out | refine bS ?_ GE242.out | refine bS ?_ GE243.out) | exact HB.out)) hb); clear BK240; clear BK241; clear BK242; clear BK243; clear HB; have BK240 := n0_; have BK241 := n1_; have BK242 := n2_; have BK243 := n3_; have HB := n4_; clear n0_ n1_ n2_ n3_ n4_; (try clear hb); (try clear hb2); (try clear hk); (try clear hi); have hnb84 := NB243_240.out; have hnc84 := NB240_243.out; have hcz85_0 : w83.cell? ⟨gb243, 0, none⟩ = some (.int .i64 a3_0) := (bC BK243.out 0).trans rfl; have hcz85_1 : w83.cell? ⟨gb243, 1, none⟩ = some (.int .i64 a3_1) := (bC BK243.out 1).trans rfl; have hfz85_0 := bF BK243.out 0; have hfz85_1 := bF BK243.out 1) | (go_at_call 18; (with_reducible refine (bournelaw20_within.calls a3_0 a3_1 true _ A16.out).mono ?_); rintro e w86 ⟨rfl, hb⟩; (try clear A16); have n0_ := Aside0.mk (bB (g := gb240) (o := .cells #[.string a0_0, .int .i64 a0_1, .int .i64 a0_2, .int .i64 a0_3, .slice A0_4 l0_4.length c0_4, .slice A0_5 l0_5.length c0_5, .slice A0_6 l0_6.length c0_6, .int .i64 a0_7, .int .i64 a0_8, .int .i64 a0_9, .int .i64 a0_10, .int .i64 a0_11, .int .i64 a0_12, .int .i64 a0_13, .int .i64 a0_14, .int .i64 a0_15, .int .i64 a0_16, .int .i64 a0_17] 26 (0, 0)) (by (with_reducible repeat (first | refine bN ?_ _ | refine bD ?_ | refine bA ?_ _)); exact BK240.out) hb); have n1_ := Aside0.mk (bB (g := gb241) (o := .cells #[.int .i64 a1_0, .int .i64 a1_1] 30 (0, 0)) (by (with_reducible repeat (first | refine bN ?_ _ | refine bD ?_ | refine bA ?_ _)); exact BK241.out) hb); have n2_ := Aside0.mk (bB (g := gb242) (o := .cells #[.int .i64 a2_0, .int .i64 a2_1] 30 (0, 0)) (by (with_reducible repeat (first | refine bN ?_ _ | refine bD ?_ | refine bA ?_ _)); exact BK242.out) hb); have n3_ := Aside0.mk (bB (g := gb243) (o := .cells #[.int .i64 a3_0, .int .i64 a3_1] 30 (0, 0)) (by (with_reducible repeat (first | refine bN ?_ _ | refine bD ?_ | refine bA ?_ _)); exact BK243.out) hb); have n4_ := Aside0.mk (bP (by repeat (first | (with_reducible first | exact HB.out | apply bL | apply bW | apply b1 | refine bS ?_ GE240.out | refine bS ?_ GE241.out | refine bS ?_ GE242.out | refine bS ?_ GE243.out) | exact HB.out)) hb); clear BK240; clear BK241; clear BK242; clear BK243; clear HB; have BK240 := n0_; have BK241 := n1_; have BK242 := n2_; have BK243 := n3_; have HB := n4_; clear n0_ n1_ n2_ n3_ n4_; (try clear hb); (try clear hb2); (try clear hk); (try clear hi); have hcz87_0 : w86.cell? ⟨gb240, 0, none⟩ = some (.string a0_0) := (bC BK240.out 0).trans rfl; have hcz87_1 : w86.cell? ⟨gb240, 1, none⟩ = some (.int .i64 a0_1) := (bC BK240.out 1).trans rfl; have hcz87_2 : w86.cell? ⟨gb240, 2, none⟩ = some (.int .i64 a0_2) := (bC BK240.out 2).trans rfl; have hcz87_3 : w86.cell? ⟨gb240, 3, none⟩ = some (.int .i64 a0_3) := (bC BK240.out 3).trans rfl; have hcz87_4 : w86.cell? ⟨gb240, 4, none⟩ = some (.slice A0_4 l0_4.length c0_4) := (bC BK240.out 4).trans rfl; have hcz87_5 : w86.cell? ⟨gb240, 5, none⟩ = some (.slice A0_5 l0_5.length c0_5) := (bC BK240.out 5).trans rfl; have hcz87_6 : w86.cell? ⟨gb240, 6, none⟩ = some (.slice A0_6 l0_6.length c0_6) := (bC BK240.out 6).trans rfl; have hcz87_7 : w86.cell? ⟨gb240, 7, none⟩ = some (.int .i64 a0_7) := (bC BK240.out 7).trans rfl; have hcz87_8 : w86.cell? ⟨gb240, 8, none⟩ = some (.int .i64 a0_8) := (bC BK240.out 8).trans rfl; have hcz87_9 : w86.cell? ⟨gb240, 9, none⟩ = some (.int .i64 a0_9) := (bC BK240.out 9).trans rfl; have hcz87_10 : w86.cell? ⟨gb240, 10, none⟩ = some (.int .i64 a0_10) := (bC BK240.out 10).trans rfl; have hcz87_11 : w86.cell? ⟨gb240, 11, none⟩ = some (.int .i64 a0_11) := (bC BK240.out 11).trans rfl; have hcz87_12 : w86.cell? ⟨gb240, 12, none⟩ = some (.int .i64 a0_12) := (bC BK240.out 12).trans rfl; have hcz87_13 : w86.cell? ⟨gb240, 13, none⟩ = some (.int .i64 a0_13) := (bC BK240.out 13).trans rfl; have hcz87_14 : w86.cell? ⟨gb240, 14, none⟩ = some (.int .i64 a0_14) := (bC BK240.out 14).trans rfl; have hcz87_15 : w86.cell? ⟨gb240, 15, none⟩ = some (.int .i64 a0_15) := (bC BK240.out 15).trans rfl; have hcz87_16 : w86.cell? ⟨gb240, 16, none⟩ = some (.int .i64 a0_16) := (bC BK240.out 16).trans rfl; have hcz87_17 : w86.cell? ⟨gb240, 17, none⟩ = some (.int .i64 a0_17) := (bC BK240.out 17).trans rfl; have hfz87_0 := bF BK240.out 0; have hfz87_1 := bF BK240.out 1; have hfz87_2 := bF BK240.out 2; have hfz87_3 := bF BK240.out 3; have hfz87_4 := bF BK240.out 4; have hfz87_5 := bF BK240.out 5; have hfz87_6 := bF BK240.out 6; have hfz87_7 := bF BK240.out 7; have hfz87_8 := bF BK240.out 8; have hfz87_9 := bF BK240.out 9; have hfz87_10 := bF BK240.out 10; have hfz87_11 := bF BK240.out 11; have hfz87_12 := bF BK240.out 12; have hfz87_13 := bF BK240.out 13; have hfz87_14 := bF BK240.out 14; have hfz87_15 := bF BK240.out 15; have hfz87_16 := bF BK240.out 16; have hfz87_17 := bF BK240.out 17) | ((with_reducible refine gate_load 26 4 rfl ?_); refine box_load (g := gb240) (cs := #[.string a0_0, .int .i64 a0_1, .int .i64 a0_2, .int .i64 a0_3, .slice A0_4 l0_4.length c0_4, .slice A0_5 l0_5.length c0_5, .slice A0_6 l0_6.length c0_6, .int .i64 a0_7, .int .i64 a0_8, .int .i64 a0_9, .int .i64 a0_10, .int .i64 a0_11, .int .i64 a0_12, .int .i64 a0_13, .int .i64 a0_14, .int .i64 a0_15, .int .i64 a0_16, .int .i64 a0_17]) ?hw rfl (by (with_reducible repeat (first | refine bN ?_ _ | refine bD ?_ | refine bA ?_ _)); with_reducible exact BK240.out) ?ha hu26 rfl ?hi ?_; (case hw => first | exact wanted_none rfl | rfl); (case ha => first | rfl | (go_simp; done)); (case hi => first | rfl | kernel_rfl)))
            go_meet
            case rel => exact ⟨_, (true), (by first | rfl | (simp; done) | (simp [*]; done)), H', ⟨by first | omega | exact Nat.le_refl _⟩, ⟨by (with_reducible repeat (first | refine bN ?_ _ | refine bD ?_ | refine bA ?_ _)); exact BK240.out⟩, ⟨by (with_reducible repeat (first | refine bN ?_ _ | refine bD ?_ | refine bA ?_ _)); exact BK241.out⟩, ⟨by (with_reducible repeat (first | refine bN ?_ _ | refine bD ?_ | refine bA ?_ _)); exact BK242.out⟩, ⟨by (with_reducible repeat (first | refine bN ?_ _ | refine bD ?_ | refine bA ?_ _)); exact BK243.out⟩, ⟨by repeat (first | (with_reducible first | exact HB.out | apply bL | apply bW | apply b1 | refine bS ?_ GE240.out | refine bS ?_ GE241.out | refine bS ?_ GE242.out | refine bS ?_ GE243.out) | exact HB.out)⟩⟩
         ·
          rw [if_neg c74] at H
          have c74b0 : decide (1125899906842624 < a0_12) = false := decide_eq_false c74
          clear c74
          have H' := Aside0.mk H
          clear H
          have hnb88 := NB241_240.out
          have hnc88 := NB240_241.out
          have hnb89 := NB241_242.out
          have hnc89 := NB242_241.out
          have hnb90 := NB241_243.out
          have hnc90 := NB243_241.out
          have hcz91_0 : w11.cell? ⟨gb241, 0, none⟩ = some (.int .i64 a1_0) := (bC BK241.out 0).trans rfl
          have hcz91_1 : w11.cell? ⟨gb241, 1, none⟩ = some (.int .i64 a1_1) := (bC BK241.out 1).trans rfl
          have hfz91_0 := bF BK241.out 0
          have hfz91_1 := bF BK241.out 1
          as_aux_lemma =>
            go_wp2_with (first | ((with_reducible refine gate_callee (f := 18) rfl ?_); refine goesL_ (some 14) rfl rfl Try.func18 (by kernel_rfl) rfl #[.agg #[.int .i64 a1_0, .int .i64 a1_1]] rfl (by (try simp only [List.map_toArray, List.map_cons, List.map_nil]); first | done | rfl | (simp only [List.length_drop, List.length_take]; rfl)) ?_; (with_reducible refine (bournelaw20_within.calls a1_0 a1_1 true _ A12.out).mono ?_); rintro e w92 ⟨rfl, hb⟩; refine ⟨_, rfl, ?_⟩; have n0_ := Aside0.mk (bB (g := gb240) (o := .cells #[.string a0_0, .int .i64 a0_1, .int .i64 a0_2, .int .i64 a0_3, .slice A0_4 l0_4.length c0_4, .slice A0_5 l0_5.length c0_5, .slice A0_6 l0_6.length c0_6, .int .i64 a0_7, .int .i64 a0_8, .int .i64 a0_9, .int .i64 a0_10, .int .i64 a0_11, .int .i64 a0_12, .int .i64 a0_13, .int .i64 a0_14, .int .i64 a0_15, .int .i64 a0_16, .int .i64 a0_17] 26 (0, 0)) (by (with_reducible repeat (first | refine bN ?_ _ | refine bD ?_ | refine bA ?_ _)); exact BK240.out) hb); have n1_ := Aside0.mk (bB (g := gb241) (o := .cells #[.int .i64 a1_0, .int .i64 a1_1] 30 (0, 0)) (by (with_reducible repeat (first | refine bN ?_ _ | refine bD ?_ | refine bA ?_ _)); exact BK241.out) hb); have n2_ := Aside0.mk (bB (g := gb242) (o := .cells #[.int .i64 a2_0, .int .i64 a2_1] 30 (0, 0)) (by (with_reducible repeat (first | refine bN ?_ _ | refine bD ?_ | refine bA ?_ _)); exact BK242.out) hb); have n3_ := Aside0.mk (bB (g := gb243) (o := .cells #[.int .i64 a3_0, .int .i64 a3_1] 30 (0, 0)) (by (with_reducible repeat (first | refine bN ?_ _ | refine bD ?_ | refine bA ?_ _)); exact BK243.out) hb); have n4_ := Aside0.mk (bP (by repeat (first | (with_reducible first | exact HB.out | apply bL | apply bW | apply b1 | refine bS ?_ GE240.out | refine bS ?_ GE241.out | refine bS ?_ GE242.out | refine bS ?_ GE243.out) | exact HB.out)) hb); clear BK240; clear BK241; clear BK242; clear BK243; clear HB; have BK240 := n0_; have BK241 := n1_; have BK242 := n2_; have BK243 := n3_; have HB := n4_; clear n0_ n1_ n2_ n3_ n4_; (try clear hb); (try clear hb2); (try clear hk); (try clear hi); have hnb93 := NB242_240.out; have hnc93 := NB240_242.out; have hnb94 := NB242_243.out; have hnc94 := NB243_242.out; have hcz95_0 : w92.cell? ⟨gb242, 0, none⟩ = some (.int .i64 a2_0) := (bC BK242.out 0).trans rfl; have hcz95_1 : w92.cell? ⟨gb242, 1, none⟩ = some (.int .i64 a2_1) := (bC BK242.out 1).trans rfl; have hfz95_0 := bF BK242.out 0; have hfz95_1 := bF BK242.out 1) | (go_at_call 18; (with_reducible refine (bournelaw20_within.calls a2_0 a2_1 true _ A14.out).mono ?_); rintro e w96 ⟨rfl, hb⟩; (try clear A14); have n0_ := Aside0.mk (bB (g := gb240) (o := .cells #[.string a0_0, .int .i64 a0_1, .int .i64 a0_2, .int .i64 a0_3, .slice A0_4 l0_4.length c0_4, .slice A0_5 l0_5.length c0_5, .slice A0_6 l0_6.length c0_6, .int .i64 a0_7, .int .i64 a0_8, .int .i64 a0_9, .int .i64 a0_10, .int .i64 a0_11, .int .i64 a0_12, .int .i64 a0_13, .int .i64 a0_14, .int .i64 a0_15, .int .i64 a0_16, .int .i64 a0_17] 26 (0, 0)) (by (with_reducible repeat (first | refine bN ?_ _ | refine bD ?_ | refine bA ?_ _)); exact BK240.out) hb); have n1_ := Aside0.mk (bB (g := gb241) (o := .cells #[.int .i64 a1_0, .int .i64 a1_1] 30 (0, 0)) (by (with_reducible repeat (first | refine bN ?_ _ | refine bD ?_ | refine bA ?_ _)); exact BK241.out) hb); have n2_ := Aside0.mk (bB (g := gb242) (o := .cells #[.int .i64 a2_0, .int .i64 a2_1] 30 (0, 0)) (by (with_reducible repeat (first | refine bN ?_ _ | refine bD ?_ | refine bA ?_ _)); exact BK242.out) hb); have n3_ := Aside0.mk (bB (g := gb243) (o := .cells #[.int .i64 a3_0, .int .i64 a3_1] 30 (0, 0)) (by (with_reducible repeat (first | refine bN ?_ _ | refine bD ?_ | refine bA ?_ _)); exact BK243.out) hb); have n4_ := Aside0.mk (bP (by repeat (first | (with_reducible first | exact HB.out | apply bL | apply bW | apply b1 | refine bS ?_ GE240.out | refine bS ?_ GE241.out | refine bS ?_ GE242.out | refine bS ?_ GE243.out) | exact HB.out)) hb); clear BK240; clear BK241; clear BK242; clear BK243; clear HB; have BK240 := n0_; have BK241 := n1_; have BK242 := n2_; have BK243 := n3_; have HB := n4_; clear n0_ n1_ n2_ n3_ n4_; (try clear hb); (try clear hb2); (try clear hk); (try clear hi); have hnb97 := NB243_240.out; have hnc97 := NB240_243.out; have hcz98_0 : w96.cell? ⟨gb243, 0, none⟩ = some (.int .i64 a3_0) := (bC BK243.out 0).trans rfl; have hcz98_1 : w96.cell? ⟨gb243, 1, none⟩ = some (.int .i64 a3_1) := (bC BK243.out 1).trans rfl; have hfz98_0 := bF BK243.out 0; have hfz98_1 := bF BK243.out 1) | (go_at_call 18; (with_reducible refine (bournelaw20_within.calls a3_0 a3_1 true _ A16.out).mono ?_); rintro e w99 ⟨rfl, hb⟩; (try clear A16); have n0_ := Aside0.mk (bB (g := gb240) (o := .cells #[.string a0_0, .int .i64 a0_1, .int .i64 a0_2, .int .i64 a0_3, .slice A0_4 l0_4.length c0_4, .slice A0_5 l0_5.length c0_5, .slice A0_6 l0_6.length c0_6, .int .i64 a0_7, .int .i64 a0_8, .int .i64 a0_9, .int .i64 a0_10, .int .i64 a0_11, .int .i64 a0_12, .int .i64 a0_13, .int .i64 a0_14, .int .i64 a0_15, .int .i64 a0_16, .int .i64 a0_17] 26 (0, 0)) (by (with_reducible repeat (first | refine bN ?_ _ | refine bD ?_ | refine bA ?_ _)); exact BK240.out) hb); have n1_ := Aside0.mk (bB (g := gb241) (o := .cells #[.int .i64 a1_0, .int .i64 a1_1] 30 (0, 0)) (by (with_reducible repeat (first | refine bN ?_ _ | refine bD ?_ | refine bA ?_ _)); exact BK241.out) hb); have n2_ := Aside0.mk (bB (g := gb242) (o := .cells #[.int .i64 a2_0, .int .i64 a2_1] 30 (0, 0)) (by (with_reducible repeat (first | refine bN ?_ _ | refine bD ?_ | refine bA ?_ _)); exact BK242.out) hb); have n3_ := Aside0.mk (bB (g := gb243) (o := .cells #[.int .i64 a3_0, .int .i64 a3_1] 30 (0, 0)) (by (with_reducible repeat (first | refine bN ?_ _ | refine bD ?_ | refine bA ?_ _)); exact BK243.out) hb); have n4_ := Aside0.mk (bP (by repeat (first | (with_reducible first | exact HB.out | apply bL | apply bW | apply b1 | refine bS ?_ GE240.out | refine bS ?_ GE241.out | refine bS ?_ GE242.out | refine bS ?_ GE243.out) | exact HB.out)) hb); clear BK240; clear BK241; clear BK242; clear BK243; clear HB; have BK240 := n0_; have BK241 := n1_; have BK242 := n2_; have BK243 := n3_; have HB := n4_; clear n0_ n1_ n2_ n3_ n4_; (try clear hb); (try clear hb2); (try clear hk); (try clear hi); have hcz100_0 : w99.cell? ⟨gb240, 0, none⟩ = some (.string a0_0) := (bC BK240.out 0).trans rfl; have hcz100_1 : w99.cell? ⟨gb240, 1, none⟩ = some (.int .i64 a0_1) := (bC BK240.out 1).trans rfl; have hcz100_2 : w99.cell? ⟨gb240, 2, none⟩ = some (.int .i64 a0_2) := (bC BK240.out 2).trans rfl; have hcz100_3 : w99.cell? ⟨gb240, 3, none⟩ = some (.int .i64 a0_3) := (bC BK240.out 3).trans rfl; have hcz100_4 : w99.cell? ⟨gb240, 4, none⟩ = some (.slice A0_4 l0_4.length c0_4) := (bC BK240.out 4).trans rfl; have hcz100_5 : w99.cell? ⟨gb240, 5, none⟩ = some (.slice A0_5 l0_5.length c0_5) := (bC BK240.out 5).trans rfl; have hcz100_6 : w99.cell? ⟨gb240, 6, none⟩ = some (.slice A0_6 l0_6.length c0_6) := (bC BK240.out 6).trans rfl; have hcz100_7 : w99.cell? ⟨gb240, 7, none⟩ = some (.int .i64 a0_7) := (bC BK240.out 7).trans rfl; have hcz100_8 : w99.cell? ⟨gb240, 8, none⟩ = some (.int .i64 a0_8) := (bC BK240.out 8).trans rfl; have hcz100_9 : w99.cell? ⟨gb240, 9, none⟩ = some (.int .i64 a0_9) := (bC BK240.out 9).trans rfl; have hcz100_10 : w99.cell? ⟨gb240, 10, none⟩ = some (.int .i64 a0_10) := (bC BK240.out 10).trans rfl; have hcz100_11 : w99.cell? ⟨gb240, 11, none⟩ = some (.int .i64 a0_11) := (bC BK240.out 11).trans rfl; have hcz100_12 : w99.cell? ⟨gb240, 12, none⟩ = some (.int .i64 a0_12) := (bC BK240.out 12).trans rfl; have hcz100_13 : w99.cell? ⟨gb240, 13, none⟩ = some (.int .i64 a0_13) := (bC BK240.out 13).trans rfl; have hcz100_14 : w99.cell? ⟨gb240, 14, none⟩ = some (.int .i64 a0_14) := (bC BK240.out 14).trans rfl; have hcz100_15 : w99.cell? ⟨gb240, 15, none⟩ = some (.int .i64 a0_15) := (bC BK240.out 15).trans rfl; have hcz100_16 : w99.cell? ⟨gb240, 16, none⟩ = some (.int .i64 a0_16) := (bC BK240.out 16).trans rfl; have hcz100_17 : w99.cell? ⟨gb240, 17, none⟩ = some (.int .i64 a0_17) := (bC BK240.out 17).trans rfl; have hfz100_0 := bF BK240.out 0; have hfz100_1 := bF BK240.out 1; have hfz100_2 := bF BK240.out 2; have hfz100_3 := bF BK240.out 3; have hfz100_4 := bF BK240.out 4; have hfz100_5 := bF BK240.out 5; have hfz100_6 := bF BK240.out 6; have hfz100_7 := bF BK240.out 7; have hfz100_8 := bF BK240.out 8; have hfz100_9 := bF BK240.out 9; have hfz100_10 := bF BK240.out 10; have hfz100_11 := bF BK240.out 11; have hfz100_12 := bF BK240.out 12; have hfz100_13 := bF BK240.out 13; have hfz100_14 := bF BK240.out 14; have hfz100_15 := bF BK240.out 15; have hfz100_16 := bF BK240.out 16; have hfz100_17 := bF BK240.out 17) | ((with_reducible refine gate_load 26 4 rfl ?_); refine box_load (g := gb240) (cs := #[.string a0_0, .int .i64 a0_1, .int .i64 a0_2, .int .i64 a0_3, .slice A0_4 l0_4.length c0_4, .slice A0_5 l0_5.length c0_5, .slice A0_6 l0_6.length c0_6, .int .i64 a0_7, .int .i64 a0_8, .int .i64 a0_9, .int .i64 a0_10, .int .i64 a0_11, .int .i64 a0_12, .int .i64 a0_13, .int .i64 a0_14, .int .i64 a0_15, .int .i64 a0_16, .int .i64 a0_17]) ?hw rfl (by (with_reducible repeat (first | refine bN ?_ _ | refine bD ?_ | refine bA ?_ _)); with_reducible exact BK240.out) ?ha hu26 rfl ?hi ?_; (case hw => first | exact wanted_none rfl | rfl); (case ha => first | rfl | (go_simp; done)); (case hi => first | rfl | kernel_rfl)))
            go_meet
            case rel => exact ⟨_, (decide (a0_16 > 1125899906842624)), (by first | rfl | (simp; done) | (simp [*]; done)), H', ⟨by first | omega | exact Nat.le_refl _⟩, ⟨by (with_reducible repeat (first | refine bN ?_ _ | refine bD ?_ | refine bA ?_ _)); exact BK240.out⟩, ⟨by (with_reducible repeat (first | refine bN ?_ _ | refine bD ?_ | refine bA ?_ _)); exact BK241.out⟩, ⟨by (with_reducible repeat (first | refine bN ?_ _ | refine bD ?_ | refine bA ?_ _)); exact BK242.out⟩, ⟨by (with_reducible repeat (first | refine bN ?_ _ | refine bD ?_ | refine bA ?_ _)); exact BK243.out⟩, ⟨by repeat (first | (with_reducible first | exact HB.out | apply bL | apply bW | apply b1 | refine bS ?_ GE240.out | refine bS ?_ GE241.out | refine bS ?_ GE242.out | refine bS ?_ GE243.out) | exact HB.out)⟩⟩
    ·
     replace c17 := Bool.eq_false_iff.mpr c17
     subst c17
     have H1 : (bournelaw20_SeepGrows.j0 k t244 true a0_0 a0_1 a0_2 a0_3 l0_4 l0_5 l0_6 a0_7 a0_8 a0_9 a0_10 a0_11 a0_12 a0_13 a0_14 a0_15 a0_16 a0_17 a1_0 a1_1 a2_0 a2_1 a3_0 a3_1) = some r := by rw [if_neg (show ¬ (false = true) by decide)] at H; exact H
     clear H
     have H := H1
     clear H1
     have H' := Aside0.mk H
     clear H
     have hnb101 := NB241_240.out
     have hnc101 := NB240_241.out
     have hnb102 := NB241_242.out
     have hnc102 := NB242_241.out
     have hnb103 := NB241_243.out
     have hnc103 := NB243_241.out
     have hcz104_0 : w11.cell? ⟨gb241, 0, none⟩ = some (.int .i64 a1_0) := (bC BK241.out 0).trans rfl
     have hcz104_1 : w11.cell? ⟨gb241, 1, none⟩ = some (.int .i64 a1_1) := (bC BK241.out 1).trans rfl
     have hfz104_0 := bF BK241.out 0
     have hfz104_1 := bF BK241.out 1
     as_aux_lemma =>
       go_wp2_with (first | ((with_reducible refine gate_callee (f := 18) rfl ?_); refine goesL_ (some 14) rfl rfl Try.func18 (by kernel_rfl) rfl #[.agg #[.int .i64 a1_0, .int .i64 a1_1]] rfl (by (try simp only [List.map_toArray, List.map_cons, List.map_nil]); first | done | rfl | (simp only [List.length_drop, List.length_take]; rfl)) ?_; (with_reducible refine (bournelaw20_within.calls a1_0 a1_1 true _ A12.out).mono ?_); rintro e w105 ⟨rfl, hb⟩; refine ⟨_, rfl, ?_⟩; have n0_ := Aside0.mk (bB (g := gb240) (o := .cells #[.string a0_0, .int .i64 a0_1, .int .i64 a0_2, .int .i64 a0_3, .slice A0_4 l0_4.length c0_4, .slice A0_5 l0_5.length c0_5, .slice A0_6 l0_6.length c0_6, .int .i64 a0_7, .int .i64 a0_8, .int .i64 a0_9, .int .i64 a0_10, .int .i64 a0_11, .int .i64 a0_12, .int .i64 a0_13, .int .i64 a0_14, .int .i64 a0_15, .int .i64 a0_16, .int .i64 a0_17] 26 (0, 0)) (by (with_reducible repeat (first | refine bN ?_ _ | refine bD ?_ | refine bA ?_ _)); exact BK240.out) hb); have n1_ := Aside0.mk (bB (g := gb241) (o := .cells #[.int .i64 a1_0, .int .i64 a1_1] 30 (0, 0)) (by (with_reducible repeat (first | refine bN ?_ _ | refine bD ?_ | refine bA ?_ _)); exact BK241.out) hb); have n2_ := Aside0.mk (bB (g := gb242) (o := .cells #[.int .i64 a2_0, .int .i64 a2_1] 30 (0, 0)) (by (with_reducible repeat (first | refine bN ?_ _ | refine bD ?_ | refine bA ?_ _)); exact BK242.out) hb); have n3_ := Aside0.mk (bB (g := gb243) (o := .cells #[.int .i64 a3_0, .int .i64 a3_1] 30 (0, 0)) (by (with_reducible repeat (first | refine bN ?_ _ | refine bD ?_ | refine bA ?_ _)); exact BK243.out) hb); have n4_ := Aside0.mk (bP (by repeat (first | (with_reducible first | exact HB.out | apply bL | apply bW | apply b1 | refine bS ?_ GE240.out | refine bS ?_ GE241.out | refine bS ?_ GE242.out | refine bS ?_ GE243.out) | exact HB.out)) hb); clear BK240; clear BK241; clear BK242; clear BK243; clear HB; have BK240 := n0_; have BK241 := n1_; have BK242 := n2_; have BK243 := n3_; have HB := n4_; clear n0_ n1_ n2_ n3_ n4_; (try clear hb); (try clear hb2); (try clear hk); (try clear hi); have hnb106 := NB242_240.out; have hnc106 := NB240_242.out; have hnb107 := NB242_243.out; have hnc107 := NB243_242.out; have hcz108_0 : w105.cell? ⟨gb242, 0, none⟩ = some (.int .i64 a2_0) := (bC BK242.out 0).trans rfl; have hcz108_1 : w105.cell? ⟨gb242, 1, none⟩ = some (.int .i64 a2_1) := (bC BK242.out 1).trans rfl; have hfz108_0 := bF BK242.out 0; have hfz108_1 := bF BK242.out 1) | (go_at_call 18; (with_reducible refine (bournelaw20_within.calls a2_0 a2_1 true _ A14.out).mono ?_); rintro e w109 ⟨rfl, hb⟩; (try clear A14); have n0_ := Aside0.mk (bB (g := gb240) (o := .cells #[.string a0_0, .int .i64 a0_1, .int .i64 a0_2, .int .i64 a0_3, .slice A0_4 l0_4.length c0_4, .slice A0_5 l0_5.length c0_5, .slice A0_6 l0_6.length c0_6, .int .i64 a0_7, .int .i64 a0_8, .int .i64 a0_9, .int .i64 a0_10, .int .i64 a0_11, .int .i64 a0_12, .int .i64 a0_13, .int .i64 a0_14, .int .i64 a0_15, .int .i64 a0_16, .int .i64 a0_17] 26 (0, 0)) (by (with_reducible repeat (first | refine bN ?_ _ | refine bD ?_ | refine bA ?_ _)); exact BK240.out) hb); have n1_ := Aside0.mk (bB (g := gb241) (o := .cells #[.int .i64 a1_0, .int .i64 a1_1] 30 (0, 0)) (by (with_reducible repeat (first | refine bN ?_ _ | refine bD ?_ | refine bA ?_ _)); exact BK241.out) hb); have n2_ := Aside0.mk (bB (g := gb242) (o := .cells #[.int .i64 a2_0, .int .i64 a2_1] 30 (0, 0)) (by (with_reducible repeat (first | refine bN ?_ _ | refine bD ?_ | refine bA ?_ _)); exact BK242.out) hb); have n3_ := Aside0.mk (bB (g := gb243) (o := .cells #[.int .i64 a3_0, .int .i64 a3_1] 30 (0, 0)) (by (with_reducible repeat (first | refine bN ?_ _ | refine bD ?_ | refine bA ?_ _)); exact BK243.out) hb); have n4_ := Aside0.mk (bP (by repeat (first | (with_reducible first | exact HB.out | apply bL | apply bW | apply b1 | refine bS ?_ GE240.out | refine bS ?_ GE241.out | refine bS ?_ GE242.out | refine bS ?_ GE243.out) | exact HB.out)) hb); clear BK240; clear BK241; clear BK242; clear BK243; clear HB; have BK240 := n0_; have BK241 := n1_; have BK242 := n2_; have BK243 := n3_; have HB := n4_; clear n0_ n1_ n2_ n3_ n4_; (try clear hb); (try clear hb2); (try clear hk); (try clear hi); have hnb110 := NB243_240.out; have hnc110 := NB240_243.out; have hcz111_0 : w109.cell? ⟨gb243, 0, none⟩ = some (.int .i64 a3_0) := (bC BK243.out 0).trans rfl; have hcz111_1 : w109.cell? ⟨gb243, 1, none⟩ = some (.int .i64 a3_1) := (bC BK243.out 1).trans rfl; have hfz111_0 := bF BK243.out 0; have hfz111_1 := bF BK243.out 1) | (go_at_call 18; (with_reducible refine (bournelaw20_within.calls a3_0 a3_1 false _ A16.out).mono ?_); rintro e w112 ⟨rfl, hb⟩; (try clear A16); have n0_ := Aside0.mk (bB (g := gb240) (o := .cells #[.string a0_0, .int .i64 a0_1, .int .i64 a0_2, .int .i64 a0_3, .slice A0_4 l0_4.length c0_4, .slice A0_5 l0_5.length c0_5, .slice A0_6 l0_6.length c0_6, .int .i64 a0_7, .int .i64 a0_8, .int .i64 a0_9, .int .i64 a0_10, .int .i64 a0_11, .int .i64 a0_12, .int .i64 a0_13, .int .i64 a0_14, .int .i64 a0_15, .int .i64 a0_16, .int .i64 a0_17] 26 (0, 0)) (by (with_reducible repeat (first | refine bN ?_ _ | refine bD ?_ | refine bA ?_ _)); exact BK240.out) hb); have n1_ := Aside0.mk (bB (g := gb241) (o := .cells #[.int .i64 a1_0, .int .i64 a1_1] 30 (0, 0)) (by (with_reducible repeat (first | refine bN ?_ _ | refine bD ?_ | refine bA ?_ _)); exact BK241.out) hb); have n2_ := Aside0.mk (bB (g := gb242) (o := .cells #[.int .i64 a2_0, .int .i64 a2_1] 30 (0, 0)) (by (with_reducible repeat (first | refine bN ?_ _ | refine bD ?_ | refine bA ?_ _)); exact BK242.out) hb); have n3_ := Aside0.mk (bB (g := gb243) (o := .cells #[.int .i64 a3_0, .int .i64 a3_1] 30 (0, 0)) (by (with_reducible repeat (first | refine bN ?_ _ | refine bD ?_ | refine bA ?_ _)); exact BK243.out) hb); have n4_ := Aside0.mk (bP (by repeat (first | (with_reducible first | exact HB.out | apply bL | apply bW | apply b1 | refine bS ?_ GE240.out | refine bS ?_ GE241.out | refine bS ?_ GE242.out | refine bS ?_ GE243.out) | exact HB.out)) hb); clear BK240; clear BK241; clear BK242; clear BK243; clear HB; have BK240 := n0_; have BK241 := n1_; have BK242 := n2_; have BK243 := n3_; have HB := n4_; clear n0_ n1_ n2_ n3_ n4_; (try clear hb); (try clear hb2); (try clear hk); (try clear hi)) | ((with_reducible refine gate_load 26 4 rfl ?_); refine box_load (g := gb240) (cs := #[.string a0_0, .int .i64 a0_1, .int .i64 a0_2, .int .i64 a0_3, .slice A0_4 l0_4.length c0_4, .slice A0_5 l0_5.length c0_5, .slice A0_6 l0_6.length c0_6, .int .i64 a0_7, .int .i64 a0_8, .int .i64 a0_9, .int .i64 a0_10, .int .i64 a0_11, .int .i64 a0_12, .int .i64 a0_13, .int .i64 a0_14, .int .i64 a0_15, .int .i64 a0_16, .int .i64 a0_17]) ?hw rfl (by (with_reducible repeat (first | refine bN ?_ _ | refine bD ?_ | refine bA ?_ _)); with_reducible exact BK240.out) ?ha hu26 rfl ?hi ?_; (case hw => first | exact wanted_none rfl | rfl); (case ha => first | rfl | (go_simp; done)); (case hi => first | rfl | kernel_rfl)))
       go_meet
       case rel => exact ⟨_, (true), (by first | rfl | (simp; done) | (simp [*]; done)), H', ⟨by first | omega | exact Nat.le_refl _⟩, ⟨by (with_reducible repeat (first | refine bN ?_ _ | refine bD ?_ | refine bA ?_ _)); exact BK240.out⟩, ⟨by (with_reducible repeat (first | refine bN ?_ _ | refine bD ?_ | refine bA ?_ _)); exact BK241.out⟩, ⟨by (with_reducible repeat (first | refine bN ?_ _ | refine bD ?_ | refine bA ?_ _)); exact BK242.out⟩, ⟨by (with_reducible repeat (first | refine bN ?_ _ | refine bD ?_ | refine bA ?_ _)); exact BK243.out⟩, ⟨by repeat (first | (with_reducible first | exact HB.out | apply bL | apply bW | apply b1 | refine bS ?_ GE240.out | refine bS ?_ GE241.out | refine bS ?_ GE242.out | refine bS ?_ GE243.out) | exact HB.out)⟩⟩
   ·
    replace c15 := Bool.eq_false_iff.mpr c15
    subst c15
    have H1 : (bournelaw20_SeepGrows.j0 k t244 true a0_0 a0_1 a0_2 a0_3 l0_4 l0_5 l0_6 a0_7 a0_8 a0_9 a0_10 a0_11 a0_12 a0_13 a0_14 a0_15 a0_16 a0_17 a1_0 a1_1 a2_0 a2_1 a3_0 a3_1) = some r := by rw [if_neg (show ¬ (false = true) by decide)] at H; exact H
    clear H
    have H := H1
    clear H1
    have H' := Aside0.mk H
    clear H
    have hnb113 := NB241_240.out
    have hnc113 := NB240_241.out
    have hnb114 := NB241_242.out
    have hnc114 := NB242_241.out
    have hnb115 := NB241_243.out
    have hnc115 := NB243_241.out
    have hcz116_0 : w11.cell? ⟨gb241, 0, none⟩ = some (.int .i64 a1_0) := (bC BK241.out 0).trans rfl
    have hcz116_1 : w11.cell? ⟨gb241, 1, none⟩ = some (.int .i64 a1_1) := (bC BK241.out 1).trans rfl
    have hfz116_0 := bF BK241.out 0
    have hfz116_1 := bF BK241.out 1
    as_aux_lemma =>
      go_wp2_with (first | ((with_reducible refine gate_callee (f := 18) rfl ?_); refine goesL_ (some 14) rfl rfl Try.func18 (by kernel_rfl) rfl #[.agg #[.int .i64 a1_0, .int .i64 a1_1]] rfl (by (try simp only [List.map_toArray, List.map_cons, List.map_nil]); first | done | rfl | (simp only [List.length_drop, List.length_take]; rfl)) ?_; (with_reducible refine (bournelaw20_within.calls a1_0 a1_1 true _ A12.out).mono ?_); rintro e w117 ⟨rfl, hb⟩; refine ⟨_, rfl, ?_⟩; have n0_ := Aside0.mk (bB (g := gb240) (o := .cells #[.string a0_0, .int .i64 a0_1, .int .i64 a0_2, .int .i64 a0_3, .slice A0_4 l0_4.length c0_4, .slice A0_5 l0_5.length c0_5, .slice A0_6 l0_6.length c0_6, .int .i64 a0_7, .int .i64 a0_8, .int .i64 a0_9, .int .i64 a0_10, .int .i64 a0_11, .int .i64 a0_12, .int .i64 a0_13, .int .i64 a0_14, .int .i64 a0_15, .int .i64 a0_16, .int .i64 a0_17] 26 (0, 0)) (by (with_reducible repeat (first | refine bN ?_ _ | refine bD ?_ | refine bA ?_ _)); exact BK240.out) hb); have n1_ := Aside0.mk (bB (g := gb241) (o := .cells #[.int .i64 a1_0, .int .i64 a1_1] 30 (0, 0)) (by (with_reducible repeat (first | refine bN ?_ _ | refine bD ?_ | refine bA ?_ _)); exact BK241.out) hb); have n2_ := Aside0.mk (bB (g := gb242) (o := .cells #[.int .i64 a2_0, .int .i64 a2_1] 30 (0, 0)) (by (with_reducible repeat (first | refine bN ?_ _ | refine bD ?_ | refine bA ?_ _)); exact BK242.out) hb); have n3_ := Aside0.mk (bB (g := gb243) (o := .cells #[.int .i64 a3_0, .int .i64 a3_1] 30 (0, 0)) (by (with_reducible repeat (first | refine bN ?_ _ | refine bD ?_ | refine bA ?_ _)); exact BK243.out) hb); have n4_ := Aside0.mk (bP (by repeat (first | (with_reducible first | exact HB.out | apply bL | apply bW | apply b1 | refine bS ?_ GE240.out | refine bS ?_ GE241.out | refine bS ?_ GE242.out | refine bS ?_ GE243.out) | exact HB.out)) hb); clear BK240; clear BK241; clear BK242; clear BK243; clear HB; have BK240 := n0_; have BK241 := n1_; have BK242 := n2_; have BK243 := n3_; have HB := n4_; clear n0_ n1_ n2_ n3_ n4_; (try clear hb); (try clear hb2); (try clear hk); (try clear hi); have hnb118 := NB242_240.out; have hnc118 := NB240_242.out; have hnb119 := NB242_243.out; have hnc119 := NB243_242.out; have hcz120_0 : w117.cell? ⟨gb242, 0, none⟩ = some (.int .i64 a2_0) := (bC BK242.out 0).trans rfl; have hcz120_1 : w117.cell? ⟨gb242, 1, none⟩ = some (.int .i64 a2_1) := (bC BK242.out 1).trans rfl; have hfz120_0 := bF BK242.out 0; have hfz120_1 := bF BK242.out 1) | (go_at_call 18; (with_reducible refine (bournelaw20_within.calls a2_0 a2_1 false _ A14.out).mono ?_); rintro e w121 ⟨rfl, hb⟩; (try clear A14); have n0_ := Aside0.mk (bB (g := gb240) (o := .cells #[.string a0_0, .int .i64 a0_1, .int .i64 a0_2, .int .i64 a0_3, .slice A0_4 l0_4.length c0_4, .slice A0_5 l0_5.length c0_5, .slice A0_6 l0_6.length c0_6, .int .i64 a0_7, .int .i64 a0_8, .int .i64 a0_9, .int .i64 a0_10, .int .i64 a0_11, .int .i64 a0_12, .int .i64 a0_13, .int .i64 a0_14, .int .i64 a0_15, .int .i64 a0_16, .int .i64 a0_17] 26 (0, 0)) (by (with_reducible repeat (first | refine bN ?_ _ | refine bD ?_ | refine bA ?_ _)); exact BK240.out) hb); have n1_ := Aside0.mk (bB (g := gb241) (o := .cells #[.int .i64 a1_0, .int .i64 a1_1] 30 (0, 0)) (by (with_reducible repeat (first | refine bN ?_ _ | refine bD ?_ | refine bA ?_ _)); exact BK241.out) hb); have n2_ := Aside0.mk (bB (g := gb242) (o := .cells #[.int .i64 a2_0, .int .i64 a2_1] 30 (0, 0)) (by (with_reducible repeat (first | refine bN ?_ _ | refine bD ?_ | refine bA ?_ _)); exact BK242.out) hb); have n3_ := Aside0.mk (bB (g := gb243) (o := .cells #[.int .i64 a3_0, .int .i64 a3_1] 30 (0, 0)) (by (with_reducible repeat (first | refine bN ?_ _ | refine bD ?_ | refine bA ?_ _)); exact BK243.out) hb); have n4_ := Aside0.mk (bP (by repeat (first | (with_reducible first | exact HB.out | apply bL | apply bW | apply b1 | refine bS ?_ GE240.out | refine bS ?_ GE241.out | refine bS ?_ GE242.out | refine bS ?_ GE243.out) | exact HB.out)) hb); clear BK240; clear BK241; clear BK242; clear BK243; clear HB; have BK240 := n0_; have BK241 := n1_; have BK242 := n2_; have BK243 := n3_; have HB := n4_; clear n0_ n1_ n2_ n3_ n4_; (try clear hb); (try clear hb2); (try clear hk); (try clear hi)) | ((with_reducible refine gate_load 26 4 rfl ?_); refine box_load (g := gb240) (cs := #[.string a0_0, .int .i64 a0_1, .int .i64 a0_2, .int .i64 a0_3, .slice A0_4 l0_4.length c0_4, .slice A0_5 l0_5.length c0_5, .slice A0_6 l0_6.length c0_6, .int .i64 a0_7, .int .i64 a0_8, .int .i64 a0_9, .int .i64 a0_10, .int .i64 a0_11, .int .i64 a0_12, .int .i64 a0_13, .int .i64 a0_14, .int .i64 a0_15, .int .i64 a0_16, .int .i64 a0_17]) ?hw rfl (by (with_reducible repeat (first | refine bN ?_ _ | refine bD ?_ | refine bA ?_ _)); with_reducible exact BK240.out) ?ha hu26 rfl ?hi ?_; (case hw => first | exact wanted_none rfl | rfl); (case ha => first | rfl | (go_simp; done)); (case hi => first | rfl | kernel_rfl)))
      go_meet
      case rel => exact ⟨_, (true), (by first | rfl | (simp; done) | (simp [*]; done)), H', ⟨by first | omega | exact Nat.le_refl _⟩, ⟨by (with_reducible repeat (first | refine bN ?_ _ | refine bD ?_ | refine bA ?_ _)); exact BK240.out⟩, ⟨by (with_reducible repeat (first | refine bN ?_ _ | refine bD ?_ | refine bA ?_ _)); exact BK241.out⟩, ⟨by (with_reducible repeat (first | refine bN ?_ _ | refine bD ?_ | refine bA ?_ _)); exact BK242.out⟩, ⟨by (with_reducible repeat (first | refine bN ?_ _ | refine bD ?_ | refine bA ?_ _)); exact BK243.out⟩, ⟨by repeat (first | (with_reducible first | exact HB.out | apply bL | apply bW | apply b1 | refine bS ?_ GE240.out | refine bS ?_ GE241.out | refine bS ?_ GE242.out | refine bS ?_ GE243.out) | exact HB.out)⟩⟩
  ·
   replace c13 := Bool.eq_false_iff.mpr c13
   subst c13
   have H1 : (bournelaw20_SeepGrows.j0 k t244 true a0_0 a0_1 a0_2 a0_3 l0_4 l0_5 l0_6 a0_7 a0_8 a0_9 a0_10 a0_11 a0_12 a0_13 a0_14 a0_15 a0_16 a0_17 a1_0 a1_1 a2_0 a2_1 a3_0 a3_1) = some r := by rw [if_neg (show ¬ (false = true) by decide)] at H; exact H
   clear H
   have H := H1
   clear H1
   have H' := Aside0.mk H
   clear H
   have hnb122 := NB241_240.out
   have hnc122 := NB240_241.out
   have hnb123 := NB241_242.out
   have hnc123 := NB242_241.out
   have hnb124 := NB241_243.out
   have hnc124 := NB243_241.out
   have hcz125_0 : w11.cell? ⟨gb241, 0, none⟩ = some (.int .i64 a1_0) := (bC BK241.out 0).trans rfl
   have hcz125_1 : w11.cell? ⟨gb241, 1, none⟩ = some (.int .i64 a1_1) := (bC BK241.out 1).trans rfl
   have hfz125_0 := bF BK241.out 0
   have hfz125_1 := bF BK241.out 1
   as_aux_lemma =>
     go_wp2_with (first | ((with_reducible refine gate_callee (f := 18) rfl ?_); refine goesL_ (some 14) rfl rfl Try.func18 (by kernel_rfl) rfl #[.agg #[.int .i64 a1_0, .int .i64 a1_1]] rfl (by (try simp only [List.map_toArray, List.map_cons, List.map_nil]); first | done | rfl | (simp only [List.length_drop, List.length_take]; rfl)) ?_; (with_reducible refine (bournelaw20_within.calls a1_0 a1_1 false _ A12.out).mono ?_); rintro e w126 ⟨rfl, hb⟩; refine ⟨_, rfl, ?_⟩; have n0_ := Aside0.mk (bB (g := gb240) (o := .cells #[.string a0_0, .int .i64 a0_1, .int .i64 a0_2, .int .i64 a0_3, .slice A0_4 l0_4.length c0_4, .slice A0_5 l0_5.length c0_5, .slice A0_6 l0_6.length c0_6, .int .i64 a0_7, .int .i64 a0_8, .int .i64 a0_9, .int .i64 a0_10, .int .i64 a0_11, .int .i64 a0_12, .int .i64 a0_13, .int .i64 a0_14, .int .i64 a0_15, .int .i64 a0_16, .int .i64 a0_17] 26 (0, 0)) (by (with_reducible repeat (first | refine bN ?_ _ | refine bD ?_ | refine bA ?_ _)); exact BK240.out) hb); have n1_ := Aside0.mk (bB (g := gb241) (o := .cells #[.int .i64 a1_0, .int .i64 a1_1] 30 (0, 0)) (by (with_reducible repeat (first | refine bN ?_ _ | refine bD ?_ | refine bA ?_ _)); exact BK241.out) hb); have n2_ := Aside0.mk (bB (g := gb242) (o := .cells #[.int .i64 a2_0, .int .i64 a2_1] 30 (0, 0)) (by (with_reducible repeat (first | refine bN ?_ _ | refine bD ?_ | refine bA ?_ _)); exact BK242.out) hb); have n3_ := Aside0.mk (bB (g := gb243) (o := .cells #[.int .i64 a3_0, .int .i64 a3_1] 30 (0, 0)) (by (with_reducible repeat (first | refine bN ?_ _ | refine bD ?_ | refine bA ?_ _)); exact BK243.out) hb); have n4_ := Aside0.mk (bP (by repeat (first | (with_reducible first | exact HB.out | apply bL | apply bW | apply b1 | refine bS ?_ GE240.out | refine bS ?_ GE241.out | refine bS ?_ GE242.out | refine bS ?_ GE243.out) | exact HB.out)) hb); clear BK240; clear BK241; clear BK242; clear BK243; clear HB; have BK240 := n0_; have BK241 := n1_; have BK242 := n2_; have BK243 := n3_; have HB := n4_; clear n0_ n1_ n2_ n3_ n4_; (try clear hb); (try clear hb2); (try clear hk); (try clear hi)) | ((with_reducible refine gate_load 26 4 rfl ?_); refine box_load (g := gb240) (cs := #[.string a0_0, .int .i64 a0_1, .int .i64 a0_2, .int .i64 a0_3, .slice A0_4 l0_4.length c0_4, .slice A0_5 l0_5.length c0_5, .slice A0_6 l0_6.length c0_6, .int .i64 a0_7, .int .i64 a0_8, .int .i64 a0_9, .int .i64 a0_10, .int .i64 a0_11, .int .i64 a0_12, .int .i64 a0_13, .int .i64 a0_14, .int .i64 a0_15, .int .i64 a0_16, .int .i64 a0_17]) ?hw rfl (by (with_reducible repeat (first | refine bN ?_ _ | refine bD ?_ | refine bA ?_ _)); with_reducible exact BK240.out) ?ha hu26 rfl ?hi ?_; (case hw => first | exact wanted_none rfl | rfl); (case ha => first | rfl | (go_simp; done)); (case hi => first | rfl | kernel_rfl)))
     go_meet
     case rel => exact ⟨_, (true), (by first | rfl | (simp; done) | (simp [*]; done)), H', ⟨by first | omega | exact Nat.le_refl _⟩, ⟨by (with_reducible repeat (first | refine bN ?_ _ | refine bD ?_ | refine bA ?_ _)); exact BK240.out⟩, ⟨by (with_reducible repeat (first | refine bN ?_ _ | refine bD ?_ | refine bA ?_ _)); exact BK241.out⟩, ⟨by (with_reducible repeat (first | refine bN ?_ _ | refine bD ?_ | refine bA ?_ _)); exact BK242.out⟩, ⟨by (with_reducible repeat (first | refine bN ?_ _ | refine bD ?_ | refine bA ?_ _)); exact BK243.out⟩, ⟨by repeat (first | (with_reducible first | exact HB.out | apply bL | apply bW | apply b1 | refine bS ?_ GE240.out | refine bS ?_ GE241.out | refine bS ?_ GE242.out | refine bS ?_ GE243.out) | exact HB.out)⟩⟩
 case rest =>
  clear HC6
  try clear c1
  try clear c2
  try clear p2
  try clear c3
  try clear c4
  try clear c5
  try clear c6
  try clear c7
  try clear c8
  try clear c9
  try clear c10
  try clear c11
  try clear c12
  try clear c13
  try clear c15
  try clear c17
  try clear c18
  try clear c18b0
  try clear c19
  try clear c20
  try clear c21
  try clear c24
  try clear c25
  try clear c28
  try clear c32
  try clear c32b0
  try clear c33
  try clear c34
  try clear c35
  try clear c38
  try clear c39
  try clear c42
  try clear c46
  try clear c46b0
  try clear c47
  try clear c48
  try clear c49
  try clear c52
  try clear c53
  try clear c56
  try clear c60
  try clear c60b0
  try clear c61
  try clear c62
  try clear c63
  try clear c66
  try clear c67
  try clear c70
  try clear c74
  try clear c74b0
  try clear c75
  try clear c76
  try clear c77
  try clear c80
  try clear c81
  try clear c84
  try clear c88
  try clear c89
  try clear c90
  try clear c93
  try clear c94
  try clear c97
  try clear c101
  try clear c102
  try clear c103
  try clear c106
  try clear c107
  try clear c110
  try clear c113
  try clear c114
  try clear c115
  try clear c118
  try clear c119
  try clear c122
  try clear c123
  try clear c124
  try clear hcz100_0
  try clear hcz100_1
  try clear hcz100_10
  try clear hcz100_11
  try clear hcz100_12
  try clear hcz100_13
  try clear hcz100_14
  try clear hcz100_15
  try clear hcz100_16
  try clear hcz100_17
  try clear hcz100_2
  try clear hcz100_3
  try clear hcz100_4
  try clear hcz100_5
  try clear hcz100_6
  try clear hcz100_7
  try clear hcz100_8
  try clear hcz100_9
  try clear hcz104_0
  try clear hcz104_1
  try clear hcz108_0
  try clear hcz108_1
  try clear hcz111_0
  try clear hcz111_1
  try clear hcz116_0
  try clear hcz116_1
  try clear hcz120_0
  try clear hcz120_1
  try clear hcz125_0
  try clear hcz125_1
  try clear hcz22_0
  try clear hcz22_1
  try clear hcz26_0
  try clear hcz26_1
  try clear hcz29_0
  try clear hcz29_1
  try clear hcz31_0
  try clear hcz31_1
  try clear hcz31_10
  try clear hcz31_11
  try clear hcz31_12
  try clear hcz31_13
  try clear hcz31_14
  try clear hcz31_15
  try clear hcz31_16
  try clear hcz31_17
  try clear hcz31_2
  try clear hcz31_3
  try clear hcz31_4
  try clear hcz31_5
  try clear hcz31_6
  try clear hcz31_7
  try clear hcz31_8
  try clear hcz31_9
  try clear hcz36_0
  try clear hcz36_1
  try clear hcz40_0
  try clear hcz40_1
  try clear hcz43_0
  try clear hcz43_1
  try clear hcz45_0
  try clear hcz45_1
  try clear hcz45_10
  try clear hcz45_11
  try clear hcz45_12
  try clear hcz45_13
  try clear hcz45_14
  try clear hcz45_15
  try clear hcz45_16
  try clear hcz45_17
  try clear hcz45_2
  try clear hcz45_3
  try clear hcz45_4
  try clear hcz45_5
  try clear hcz45_6
  try clear hcz45_7
  try clear hcz45_8
  try clear hcz45_9
  try clear hcz50_0
  try clear hcz50_1
  try clear hcz54_0
  try clear hcz54_1
  try clear hcz57_0
  try clear hcz57_1
  try clear hcz59_0
  try clear hcz59_1
  try clear hcz59_10
  try clear hcz59_11
  try clear hcz59_12
  try clear hcz59_13
  try clear hcz59_14
  try clear hcz59_15
  try clear hcz59_16
  try clear hcz59_17
  try clear hcz59_2
  try clear hcz59_3
  try clear hcz59_4
  try clear hcz59_5
  try clear hcz59_6
  try clear hcz59_7
  try clear hcz59_8
  try clear hcz59_9
  try clear hcz64_0
  try clear hcz64_1
  try clear hcz68_0
  try clear hcz68_1
  try clear hcz71_0
  try clear hcz71_1
  try clear hcz73_0
  try clear hcz73_1
  try clear hcz73_10
  try clear hcz73_11
  try clear hcz73_12
  try clear hcz73_13
  try clear hcz73_14
  try clear hcz73_15
  try clear hcz73_16
  try clear hcz73_17
  try clear hcz73_2
  try clear hcz73_3
  try clear hcz73_4
  try clear hcz73_5
  try clear hcz73_6
  try clear hcz73_7
  try clear hcz73_8
  try clear hcz73_9
  try clear hcz78_0
  try clear hcz78_1
  try clear hcz82_0
  try clear hcz82_1
  try clear hcz85_0
  try clear hcz85_1
  try clear hcz87_0
  try clear hcz87_1
  try clear hcz87_10
  try clear hcz87_11
  try clear hcz87_12
  try clear hcz87_13
  try clear hcz87_14
  try clear hcz87_15
  try clear hcz87_16
  try clear hcz87_17
  try clear hcz87_2
  try clear hcz87_3
  try clear hcz87_4
  try clear hcz87_5
  try clear hcz87_6
  try clear hcz87_7
  try clear hcz87_8
  try clear hcz87_9
  try clear hcz91_0
  try clear hcz91_1
  try clear hcz95_0
  try clear hcz95_1
  try clear hcz98_0
  try clear hcz98_1
  try clear hfz100_0
  try clear hfz100_1
  try clear hfz100_10
  try clear hfz100_11
  try clear hfz100_12
  try clear hfz100_13
  try clear hfz100_14
  try clear hfz100_15
  try clear hfz100_16
  try clear hfz100_17
  try clear hfz100_2
  try clear hfz100_3
  try clear hfz100_4
  try clear hfz100_5
  try clear hfz100_6
  try clear hfz100_7
  try clear hfz100_8
  try clear hfz100_9
  try clear hfz104_0
  try clear hfz104_1
  try clear hfz108_0
  try clear hfz108_1
  try clear hfz111_0
  try clear hfz111_1
  try clear hfz116_0
  try clear hfz116_1
  try clear hfz120_0
  try clear hfz120_1
  try clear hfz125_0
  try clear hfz125_1
  try clear hfz22_0
  try clear hfz22_1
  try clear hfz26_0
  try clear hfz26_1
  try clear hfz29_0
  try clear hfz29_1
  try clear hfz31_0
  try clear hfz31_1
  try clear hfz31_10
  try clear hfz31_11
  try clear hfz31_12
  try clear hfz31_13
  try clear hfz31_14
  try clear hfz31_15
  try clear hfz31_16
  try clear hfz31_17
  try clear hfz31_2
  try clear hfz31_3
  try clear hfz31_4
  try clear hfz31_5
  try clear hfz31_6
  try clear hfz31_7
  try clear hfz31_8
  try clear hfz31_9
  try clear hfz36_0
  try clear hfz36_1
  try clear hfz40_0
  try clear hfz40_1
  try clear hfz43_0
  try clear hfz43_1
  try clear hfz45_0
  try clear hfz45_1
  try clear hfz45_10
  try clear hfz45_11
  try clear hfz45_12
  try clear hfz45_13
  try clear hfz45_14
  try clear hfz45_15
  try clear hfz45_16
  try clear hfz45_17
  try clear hfz45_2
  try clear hfz45_3
  try clear hfz45_4
  try clear hfz45_5
  try clear hfz45_6
  try clear hfz45_7
  try clear hfz45_8
  try clear hfz45_9
  try clear hfz50_0
  try clear hfz50_1
  try clear hfz54_0
  try clear hfz54_1
  try clear hfz57_0
  try clear hfz57_1
  try clear hfz59_0
  try clear hfz59_1
  try clear hfz59_10
  try clear hfz59_11
  try clear hfz59_12
  try clear hfz59_13
  try clear hfz59_14
  try clear hfz59_15
  try clear hfz59_16
  try clear hfz59_17
  try clear hfz59_2
  try clear hfz59_3
  try clear hfz59_4
  try clear hfz59_5
  try clear hfz59_6
  try clear hfz59_7
  try clear hfz59_8
  try clear hfz59_9
  try clear hfz64_0
  try clear hfz64_1
  try clear hfz68_0
  try clear hfz68_1
  try clear hfz71_0
  try clear hfz71_1
  try clear hfz73_0
  try clear hfz73_1
  try clear hfz73_10
  try clear hfz73_11
  try clear hfz73_12
  try clear hfz73_13
  try clear hfz73_14
  try clear hfz73_15
  try clear hfz73_16
  try clear hfz73_17
  try clear hfz73_2
  try clear hfz73_3
  try clear hfz73_4
  try clear hfz73_5
  try clear hfz73_6
  try clear hfz73_7
  try clear hfz73_8
  try clear hfz73_9
  try clear hfz78_0
  try clear hfz78_1
  try clear hfz82_0
  try clear hfz82_1
  try clear hfz85_0
  try clear hfz85_1
  try clear hfz87_0
  try clear hfz87_1
  try clear hfz87_10
  try clear hfz87_11
  try clear hfz87_12
  try clear hfz87_13
  try clear hfz87_14
  try clear hfz87_15
  try clear hfz87_16
  try clear hfz87_17
  try clear hfz87_2
  try clear hfz87_3
  try clear hfz87_4
  try clear hfz87_5
  try clear hfz87_6
  try clear hfz87_7
  try clear hfz87_8
  try clear hfz87_9
  try clear hfz91_0
  try clear hfz91_1
  try clear hfz95_0
  try clear hfz95_1
  try clear hfz98_0
  try clear hfz98_1
  obtain ⟨kq, x59_5, rfl, HA, HJ5, BK240, BK241, BK242, BK243, HB⟩ := hcut
  cases kq with
  | zero => exact absurd HA.out (by simp [bournelaw20_SeepGrows.j0])
  | succ kj5 =>
   have H := HA.out
   clear HA
   simp only [bournelaw20_SeepGrows.j0] at H
   by_cases c127 : x59_5 = true
   ·
    subst c127
    have H1 : (some t244) = some r := by rw [if_pos rfl] at H; exact H
    clear H
    have H := H1
    clear H1
    obtain rfl := Option.some.inj H
    as_aux_lemma =>
      go_wp2
      go_ret
      exact ⟨by first | rfl | (simp [errW_none, errW_some] <;> rfl) | (simp [*, errW_none, errW_some] <;> rfl), by repeat (first | (with_reducible first | exact HB.out | apply bL | apply bW | apply b1 | refine bS ?_ GE240.out | refine bS ?_ GE241.out | refine bS ?_ GE242.out | refine bS ?_ GE243.out) | exact HB.out)⟩
   ·
    replace c127 := Bool.eq_false_iff.mpr c127
    subst c127
    have H1 : ((seep_Ask.f kj5 a0_0 a0_1 a0_2 a0_3 l0_4 l0_5 l0_6 a0_7 a0_8 a0_9 a0_10 a0_11 a0_12 a0_13 a0_14 a0_15 a0_16 a0_17 a1_0 a2_0).bind fun t248 => ((seep_Ask.f kj5 a0_0 a0_1 a0_2 a0_3 l0_4 l0_5 l0_6 a0_7 a0_8 a0_9 a0_10 a0_11 a0_12 a0_13 a0_14 a0_15 a0_16 a0_17 a1_1 a2_0).bind fun t249 => (if t248 > t249 then (bournelaw20_SeepGrows.j1 kj5 t244 true a0_0 a0_1 a0_2 a0_3 l0_4 l0_5 l0_6 a0_7 a0_8 a0_9 a0_10 a0_11 a0_12 a0_13 a0_14 a0_15 a0_16 a0_17 a1_0 a1_1 a2_0 a2_1 a3_0 a3_1) else ((seep_Ask.f kj5 a0_0 a0_1 a0_2 a0_3 l0_4 l0_5 l0_6 a0_7 a0_8 a0_9 a0_10 a0_11 a0_12 a0_13 a0_14 a0_15 a0_16 a0_17 a1_0 a2_0).bind fun t250 => ((seep_Ask.f kj5 a0_0 a0_1 a0_2 a0_3 l0_4 l0_5 l0_6 a0_7 a0_8 a0_9 a0_10 a0_11 a0_12 a0_13 a0_14 a0_15 a0_16 a0_17 a1_0 a2_1).bind fun t251 => (bournelaw20_SeepGrows.j1 kj5 t244 (decide (t250 < t251)) a0_0 a0_1 a0_2 a0_3 l0_4 l0_5 l0_6 a0_7 a0_8 a0_9 a0_10 a0_11 a0_12 a0_13 a0_14 a0_15 a0_16 a0_17 a1_0 a1_1 a2_0 a2_1 a3_0 a3_1)))))) = some r := by rw [if_neg (show ¬ (false = true) by decide)] at H; exact H
    clear H
    have H := H1
    clear H1
    have HC128 := Aside0.mk H
    clear H
    go_upto_region 4 with (fail)
    go_cut [88] (fun v88 wc => ∃ (kq : Nat) (x88_127 : Bool), v88 = .bool x88_127 ∧ Aside0 (bournelaw20_SeepGrows.j1 kq t244 x88_127 a0_0 a0_1 a0_2 a0_3 l0_4 l0_5 l0_6 a0_7 a0_8 a0_9 a0_10 a0_11 a0_12 a0_13 a0_14 a0_15 a0_16 a0_17 a1_0 a1_1 a2_0 a2_1 a3_0 a3_1 = some r) ∧ Aside0 (kq ≤ kj5) ∧ Aside0 (wc.heap[gb240]? = some (.cells #[.string a0_0, .int .i64 a0_1, .int .i64 a0_2, .int .i64 a0_3, (.slice A0_4 l0_4.length c0_4), (.slice A0_5 l0_5.length c0_5), (.slice A0_6 l0_6.length c0_6), .int .i64 a0_7, .int .i64 a0_8, .int .i64 a0_9, .int .i64 a0_10, .int .i64 a0_11, .int .i64 a0_12, .int .i64 a0_13, .int .i64 a0_14, .int .i64 a0_15, .int .i64 a0_16, .int .i64 a0_17] 26 (0, 0))) ∧ Aside0 (wc.heap[gb241]? = some (.cells #[.int .i64 a1_0, .int .i64 a1_1] 30 (0, 0))) ∧ Aside0 (wc.heap[gb242]? = some (.cells #[.int .i64 a2_0, .int .i64 a2_1] 30 (0, 0))) ∧ Aside0 (wc.heap[gb243]? = some (.cells #[.int .i64 a3_0, .int .i64 a3_1] 30 (0, 0))) ∧ Aside0 (Below w.heap.size w wc))
    case first =>
     have H := HC128.out
     clear HC128
     replace H := Option.bind_eq_some_iff.mp H
     obtain ⟨t248, A1290, H⟩ := H
     have A129 := Aside0.mk A1290
     clear A1290
     replace H := Option.bind_eq_some_iff.mp H
     obtain ⟨t249, A1300, H⟩ := H
     have A130 := Aside0.mk A1300
     clear A1300
     by_cases c131 : t248 > t249
     ·
      rw [if_pos c131] at H
      have c131b0 : decide (t249 < t248) = true := decide_eq_true c131
      clear c131
      (first | rw [c131b0] | (simp only [i64_w, i32_w]; rw [c131b0]) | skip)
      have H' := Aside0.mk H
      clear H
      try go_wp2
      have n0_ := Aside0.mk (bD BK240.out)
      have n1_ := Aside0.mk (bD BK241.out)
      have n2_ := Aside0.mk (bD BK242.out)
      have n3_ := Aside0.mk (bD BK243.out)
      have n4_ := Aside0.mk (b1 HB.out)
      clear BK240
      clear BK241
      clear BK242
      clear BK243
      clear HB
      have BK240 := n0_
      have BK241 := n1_
      have BK242 := n2_
      have BK243 := n3_
      have HB := n4_
      clear n0_ n1_ n2_ n3_ n4_
      refine start_ (n := 28) (S := fun w' => w'.cell? ⟨gb240, 0, none⟩ = some (.string a0_0) ∧ w'.cell? ⟨gb240, 1, none⟩ = some (.int .i64 a0_1) ∧ w'.cell? ⟨gb240, 2, none⟩ = some (.int .i64 a0_2) ∧ w'.cell? ⟨gb240, 3, none⟩ = some (.int .i64 a0_3) ∧ w'.cell? ⟨gb240, 4, none⟩ = some (.slice A0_4 l0_4.length c0_4) ∧ w'.cell? ⟨gb240, 5, none⟩ = some (.slice A0_5 l0_5.length c0_5) ∧ w'.cell? ⟨gb240, 6, none⟩ = some (.slice A0_6 l0_6.length c0_6) ∧ w'.cell? ⟨gb240, 7, none⟩ = some (.int .i64 a0_7) ∧ w'.cell? ⟨gb240, 8, none⟩ = some (.int .i64 a0_8) ∧ w'.cell? ⟨gb240, 9, none⟩ = some (.int .i64 a0_9) ∧ w'.cell? ⟨gb240, 10, none⟩ = some (.int .i64 a0_10) ∧ w'.cell? ⟨gb240, 11, none⟩ = some (.int .i64 a0_11) ∧ w'.cell? ⟨gb240, 12, none⟩ = some (.int .i64 a0_12) ∧ w'.cell? ⟨gb240, 13, none⟩ = some (.int .i64 a0_13) ∧ w'.cell? ⟨gb240, 14, none⟩ = some (.int .i64 a0_14) ∧ w'.cell? ⟨gb240, 15, none⟩ = some (.int .i64 a0_15) ∧ w'.cell? ⟨gb240, 16, none⟩ = some (.int .i64 a0_16) ∧ w'.cell? ⟨gb240, 17, none⟩ = some (.int .i64 a0_17) ∧ w'.cell? ⟨gb241, 0, none⟩ = some (.int .i64 a1_0) ∧ w'.cell? ⟨gb241, 1, none⟩ = some (.int .i64 a1_1) ∧ w'.cell? ⟨gb242, 0, none⟩ = some (.int .i64 a2_0) ∧ w'.cell? ⟨gb242, 1, none⟩ = some (.int .i64 a2_1)) (ds := []) #[f_,f_,f_,f_,f_,f_,f_,f_,f_,f_,f_,f_,f_,f_,f_,f_,f_,f_,f_,f_,f_,f_,f_,f_,f_,f_,f_,f_] (by kernel_rfl) rfl rfl ⟨(bC BK240.out 0).trans rfl, (bC BK240.out 1).trans rfl, (bC BK240.out 2).trans rfl, (bC BK240.out 3).trans rfl, (bC BK240.out 4).trans rfl, (bC BK240.out 5).trans rfl, (bC BK240.out 6).trans rfl, (bC BK240.out 7).trans rfl, (bC BK240.out 8).trans rfl, (bC BK240.out 9).trans rfl, (bC BK240.out 10).trans rfl, (bC BK240.out 11).trans rfl, (bC BK240.out 12).trans rfl, (bC BK240.out 13).trans rfl, (bC BK240.out 14).trans rfl, (bC BK240.out 15).trans rfl, (bC BK240.out 16).trans rfl, (bC BK240.out 17).trans rfl, (bC BK241.out 0).trans rfl, (bC BK241.out 1).trans rfl, (bC BK242.out 0).trans rfl, (bC BK242.out 1).trans rfl⟩ (fun hHeld => ?_); refine with_tabW bournelaw20_SeepGrows.tab4 bournelaw20_SeepGrows.bits4 (fun HT_ HW_ => ?_)
      generalize wc.drew = w132 at BK240 BK241 BK242 BK243 HB hHeld ⊢
      as_aux_lemma =>
       refine pure_ (i := 1) (N := some 62) (v := ?_) (a' := ?_) #[f_,t_,f_,f_,f_,f_,f_,f_,f_,f_,f_,f_,f_,f_,f_,f_,f_,f_,f_,f_,f_,f_,f_,f_,f_,f_,f_,f_] rfl rfl (any_of HT_.out (by kernel_rfl)) (fun _ _ _ h => h) (Or.inl ⟨by rfl, ?_⟩) ?_ ?_
       rotate_left
       ·
        intro w'
        go_simp
        with_reducible rfl
       rotate_left
       ·
        simp only [Act.put, lA, lZ, lS, i64_w, i32_w]
        rfl
       as_aux_lemma =>
        refine pure_ (i := 3) (N := some 64) (v := ?_) (a' := ?_) #[f_,t_,f_,t_,f_,f_,f_,f_,f_,f_,f_,f_,f_,f_,f_,f_,f_,f_,f_,f_,f_,f_,f_,f_,f_,f_,f_,f_] rfl rfl (any_of HT_.out (by kernel_rfl)) (fun _ _ _ h => h) (Or.inl ⟨by rfl, ?_⟩) ?_ ?_
        rotate_left
        ·
         intro w'
         go_simp
         with_reducible rfl
        rotate_left
        ·
         simp only [Act.put, lA, lZ, lS, i64_w, i32_w]
         rfl
        as_aux_lemma =>
         refine pure_ (i := 7) (N := some 68) (v := ?_) (a' := ?_) #[f_,t_,f_,t_,f_,f_,f_,t_,f_,f_,f_,f_,f_,f_,f_,f_,f_,f_,f_,f_,f_,f_,f_,f_,f_,f_,f_,f_] rfl rfl (any_of HT_.out (by kernel_rfl)) (fun _ _ _ h => h) (Or.inl ⟨by rfl, ?_⟩) ?_ ?_
         rotate_left
         ·
          intro w'
          go_simp
          with_reducible rfl
         rotate_left
         ·
          simp only [Act.put, lA, lZ, lS, i64_w, i32_w]
          rfl
         as_aux_lemma =>
          refine pure_ (i := 9) (N := some 70) (v := ?_) (a' := ?_) #[f_,t_,f_,t_,f_,f_,f_,t_,f_,t_,f_,f_,f_,f_,f_,f_,f_,f_,f_,f_,f_,f_,f_,f_,f_,f_,f_,f_] rfl rfl (any_of HT_.out (by kernel_rfl)) (fun _ _ _ h => h) (Or.inl ⟨by rfl, ?_⟩) ?_ ?_
          rotate_left
          ·
           intro w'
           go_simp
           with_reducible rfl
          rotate_left
          ·
           simp only [Act.put, lA, lZ, lS, i64_w, i32_w]
           rfl
          as_aux_lemma =>
           refine take_ (i := 0) (N := some 61) (v := ?_) (a' := ?_) #[t_,t_,f_,t_,f_,f_,f_,t_,f_,t_,f_,f_,f_,f_,f_,f_,f_,f_,f_,f_,f_,f_,f_,f_,f_,f_,f_,f_] rfl rfl (take_ofW HT_.out HW_.out (by kernel_rfl)) (fun _ _ _ h => h) (Or.inl ⟨by rfl, ?_⟩) hHeld ?_ ?_
           rotate_left
           ·
            rintro w' ⟨s0, s1, s2, s3, s4, s5, s6, s7, s8, s9, s10, s11, s12, s13, s14, s15, s16, s17, s18, s19, s20, s21⟩
            first | (refine (load18 (by rfl) (by rfl) hu26 rfl hi26 s0 s1 s2 s3 s4 s5 s6 s7 s8 s9 s10 s11 s12 s13 s14 s15 s16 s17).trans ?_; with_reducible rfl) | (go_simp; with_reducible rfl)
           rotate_left
           ·
            simp only [Act.put, lA, lZ, lS, i64_w, i32_w]
            rfl
           as_aux_lemma =>
            refine take_ (i := 2) (N := some 63) (v := ?_) (a' := ?_) #[t_,t_,t_,t_,f_,f_,f_,t_,f_,t_,f_,f_,f_,f_,f_,f_,f_,f_,f_,f_,f_,f_,f_,f_,f_,f_,f_,f_] rfl rfl (take_ofW HT_.out HW_.out (by kernel_rfl)) (fun _ _ _ h => h) (Or.inl ⟨by rfl, ?_⟩) hHeld ?_ ?_
            rotate_left
            ·
             rintro w' ⟨s0, s1, s2, s3, s4, s5, s6, s7, s8, s9, s10, s11, s12, s13, s14, s15, s16, s17, s18, s19, s20, s21⟩
             first | (refine (load18 (by rfl) (by rfl) hu26 rfl hi26 s0 s1 s2 s3 s4 s5 s6 s7 s8 s9 s10 s11 s12 s13 s14 s15 s16 s17).trans ?_; with_reducible rfl) | (go_simp; with_reducible rfl)
            rotate_left
            ·
             simp only [Act.put, lA, lZ, lS, i64_w, i32_w]
             rfl
            as_aux_lemma =>
             refine take_ (i := 4) (N := some 65) (v := ?_) (a' := ?_) #[t_,t_,t_,t_,t_,f_,f_,t_,f_,t_,f_,f_,f_,f_,f_,f_,f_,f_,f_,f_,f_,f_,f_,f_,f_,f_,f_,f_] rfl rfl (take_ofW HT_.out HW_.out (by kernel_rfl)) (fun _ _ _ h => h) (Or.inl ⟨by rfl, ?_⟩) hHeld ?_ ?_
             rotate_left
             ·
              rintro w' ⟨s0, s1, s2, s3, s4, s5, s6, s7, s8, s9, s10, s11, s12, s13, s14, s15, s16, s17, s18, s19, s20, s21⟩
              first | (refine (load18 (by rfl) (by rfl) hu26 rfl hi26 s0 s1 s2 s3 s4 s5 s6 s7 s8 s9 s10 s11 s12 s13 s14 s15 s16 s17).trans ?_; with_reducible rfl) | (go_simp; with_reducible rfl)
             rotate_left
             ·
              simp only [Act.put, lA, lZ, lS, i64_w, i32_w]
              rfl
             as_aux_lemma =>
              refine take_ (i := 6) (N := some 67) (v := ?_) (a' := ?_) #[t_,t_,t_,t_,t_,f_,t_,t_,f_,t_,f_,f_,f_,f_,f_,f_,f_,f_,f_,f_,f_,f_,f_,f_,f_,f_,f_,f_] rfl rfl (take_ofW HT_.out HW_.out (by kernel_rfl)) (fun _ _ _ h => h) (Or.inl ⟨by rfl, ?_⟩) hHeld ?_ ?_
              rotate_left
              ·
               rintro w' ⟨s0, s1, s2, s3, s4, s5, s6, s7, s8, s9, s10, s11, s12, s13, s14, s15, s16, s17, s18, s19, s20, s21⟩
               first | (refine (load18 (by rfl) (by rfl) hu26 rfl hi26 s0 s1 s2 s3 s4 s5 s6 s7 s8 s9 s10 s11 s12 s13 s14 s15 s16 s17).trans ?_; with_reducible rfl) | (go_simp; with_reducible rfl)
              rotate_left
              ·
               simp only [Act.put, lA, lZ, lS, i64_w, i32_w]
               rfl
              as_aux_lemma =>
               refine take_ (i := 8) (N := some 69) (v := ?_) (a' := ?_) #[t_,t_,t_,t_,t_,f_,t_,t_,t_,t_,f_,f_,f_,f_,f_,f_,f_,f_,f_,f_,f_,f_,f_,f_,f_,f_,f_,f_] rfl rfl (take_ofW HT_.out HW_.out (by kernel_rfl)) (fun _ _ _ h => h) (Or.inl ⟨by rfl, ?_⟩) hHeld ?_ ?_
               rotate_left
               ·
                rintro w' ⟨s0, s1, s2, s3, s4, s5, s6, s7, s8, s9, s10, s11, s12, s13, s14, s15, s16, s17, s18, s19, s20, s21⟩
                first | (refine (load18 (by rfl) (by rfl) hu26 rfl hi26 s0 s1 s2 s3 s4 s5 s6 s7 s8 s9 s10 s11 s12 s13 s14 s15 s16 s17).trans ?_; with_reducible rfl) | (go_simp; with_reducible rfl)
               rotate_left
               ·
                simp only [Act.put, lA, lZ, lS, i64_w, i32_w]
                rfl
               as_aux_lemma =>
                refine take_ (i := 10) (N := some 71) (v := ?_) (a' := ?_) #[t_,t_,t_,t_,t_,f_,t_,t_,t_,t_,t_,f_,f_,f_,f_,f_,f_,f_,f_,f_,f_,f_,f_,f_,f_,f_,f_,f_] rfl rfl (take_ofW HT_.out HW_.out (by kernel_rfl)) (fun _ _ _ h => h) (Or.inl ⟨by rfl, ?_⟩) hHeld ?_ ?_
                rotate_left
                ·
                 rintro w' ⟨s0, s1, s2, s3, s4, s5, s6, s7, s8, s9, s10, s11, s12, s13, s14, s15, s16, s17, s18, s19, s20, s21⟩
                 first | (refine (load18 (by rfl) (by rfl) hu26 rfl hi26 s0 s1 s2 s3 s4 s5 s6 s7 s8 s9 s10 s11 s12 s13 s14 s15 s16 s17).trans ?_; with_reducible rfl) | (go_simp; with_reducible rfl)
                rotate_left
                ·
                 simp only [Act.put, lA, lZ, lS, i64_w, i32_w]
                 rfl
                as_aux_lemma =>
                 refine one_ (i := 5) (N := some 66) #[t_,t_,t_,t_,t_,t_,t_,t_,t_,t_,t_,f_,f_,f_,f_,f_,f_,f_,f_,f_,f_,f_,f_,f_,f_,f_,f_,f_] rfl rfl (one_of HT_.out (by kernel_rfl)) (by decide) (fun K hK => ?_)
                 refine goes_ Try.func10 (by kernel_rfl) rfl #[.agg #[.string a0_0, .int .i64 a0_1, .int .i64 a0_2, .int .i64 a0_3, .slice A0_4 l0_4.length c0_4, .slice A0_5 l0_5.length c0_5, .slice A0_6 l0_6.length c0_6, .int .i64 a0_7, .int .i64 a0_8, .int .i64 a0_9, .int .i64 a0_10, .int .i64 a0_11, .int .i64 a0_12, .int .i64 a0_13, .int .i64 a0_14, .int .i64 a0_15, .int .i64 a0_16, .int .i64 a0_17], .int .i64 a1_0, .int .i64 a2_0] (by rfl) rfl rfl (by (try simp only [List.map_toArray, List.map_cons, List.map_nil]); first | done | rfl | (simp only [List.length_drop, List.length_take]; rfl)) ?_
                 with_reducible refine (seep_Ask.calls kj5 a0_0 a0_1 a0_2 a0_3 _ _ l0_4 _ _ l0_5 _ _ l0_6 a0_7 a0_8 a0_9 a0_10 a0_11 a0_12 a0_13 a0_14 a0_15 a0_16 a0_17 a1_0 a2_0 t248 _ ?side1 ?side2 ?side3 ?side4 ?side5 ?side6 A129.out).mono ?_
                 (case side1 => repeat (first | exact (Kd.C_below HR0_4.out HB.out) | (with_reducible refine Kd.C_alloc ?_ _) | (with_reducible refine Kd.C_drewN ?_ _) | (with_reducible refine Kd.C_drew ?_)))
                 (case side2 => exact HC0_4.out)
                 (case side3 => repeat (first | exact (Kd.C_below HR0_5.out HB.out) | (with_reducible refine Kd.C_alloc ?_ _) | (with_reducible refine Kd.C_drewN ?_ _) | (with_reducible refine Kd.C_drew ?_)))
                 (case side4 => exact HC0_5.out)
                 (case side5 => repeat (first | exact (Kd.C_below HR0_6.out HB.out) | (with_reducible refine Kd.C_alloc ?_ _) | (with_reducible refine Kd.C_drewN ?_ _) | (with_reducible refine Kd.C_drew ?_)))
                 (case side6 => exact HC0_6.out)
                 rintro e w133 ⟨rfl, hb⟩
                 refine ⟨_, rfl, ?_⟩
                 have n0_ := Aside0.mk (bB (g := gb240) (o := .cells #[.string a0_0, .int .i64 a0_1, .int .i64 a0_2, .int .i64 a0_3, .slice A0_4 l0_4.length c0_4, .slice A0_5 l0_5.length c0_5, .slice A0_6 l0_6.length c0_6, .int .i64 a0_7, .int .i64 a0_8, .int .i64 a0_9, .int .i64 a0_10, .int .i64 a0_11, .int .i64 a0_12, .int .i64 a0_13, .int .i64 a0_14, .int .i64 a0_15, .int .i64 a0_16, .int .i64 a0_17] 26 (0, 0)) (by (with_reducible repeat (first | refine bN ?_ _ | refine bD ?_ | refine bA ?_ _)); exact BK240.out) hb)
                 have n1_ := Aside0.mk (bB (g := gb241) (o := .cells #[.int .i64 a1_0, .int .i64 a1_1] 30 (0, 0)) (by (with_reducible repeat (first | refine bN ?_ _ | refine bD ?_ | refine bA ?_ _)); exact BK241.out) hb)
                 have n2_ := Aside0.mk (bB (g := gb242) (o := .cells #[.int .i64 a2_0, .int .i64 a2_1] 30 (0, 0)) (by (with_reducible repeat (first | refine bN ?_ _ | refine bD ?_ | refine bA ?_ _)); exact BK242.out) hb)
                 have n3_ := Aside0.mk (bB (g := gb243) (o := .cells #[.int .i64 a3_0, .int .i64 a3_1] 30 (0, 0)) (by (with_reducible repeat (first | refine bN ?_ _ | refine bD ?_ | refine bA ?_ _)); exact BK243.out) hb)
                 have n4_ := Aside0.mk (bP (by repeat (first | (with_reducible first | exact HB.out | apply bL | apply bW | apply b1 | refine bS ?_ GE240.out | refine bS ?_ GE241.out | refine bS ?_ GE242.out | refine bS ?_ GE243.out) | exact HB.out)) hb)
                 clear BK240
                 clear BK241
                 clear BK242
                 clear BK243
                 clear HB
                 have BK240 := n0_
                 have BK241 := n1_
                 have BK242 := n2_
                 have BK243 := n3_
                 have HB := n4_
                 clear n0_ n1_ n2_ n3_ n4_
                 (try clear hb)
                 (try clear hb2)
                 (try clear hk)
                 (try clear hi)
                 refine hK.out _ _ ⟨(bC BK240.out 0).trans rfl, (bC BK240.out 1).trans rfl, (bC BK240.out 2).trans rfl, (bC BK240.out 3).trans rfl, (bC BK240.out 4).trans rfl, (bC BK240.out 5).trans rfl, (bC BK240.out 6).trans rfl, (bC BK240.out 7).trans rfl, (bC BK240.out 8).trans rfl, (bC BK240.out 9).trans rfl, (bC BK240.out 10).trans rfl, (bC BK240.out 11).trans rfl, (bC BK240.out 12).trans rfl, (bC BK240.out 13).trans rfl, (bC BK240.out 14).trans rfl, (bC BK240.out 15).trans rfl, (bC BK240.out 16).trans rfl, (bC BK240.out 17).trans rfl, (bC BK241.out 0).trans rfl, (bC BK241.out 1).trans rfl, (bC BK242.out 0).trans rfl, (bC BK242.out 1).trans rfl⟩ (fun hHeld => ?_)
                 clear hK K
                 refine norm_ (a' := ?_) ?_ ?_
                 rotate_left
                 ·
                  show Act.put _ (some 66) _ = _
                  simp only [Act.put, lA, lZ, lS, i64_w, i32_w]
                  rfl
                 as_aux_lemma =>
                  refine one_ (i := 11) (N := some 72) #[t_,t_,t_,t_,t_,t_,t_,t_,t_,t_,t_,t_,f_,f_,f_,f_,f_,f_,f_,f_,f_,f_,f_,f_,f_,f_,f_,f_] rfl rfl (one_of HT_.out (by kernel_rfl)) (by decide) (fun K hK => ?_)
                  refine goes_ Try.func10 (by kernel_rfl) rfl #[.agg #[.string a0_0, .int .i64 a0_1, .int .i64 a0_2, .int .i64 a0_3, .slice A0_4 l0_4.length c0_4, .slice A0_5 l0_5.length c0_5, .slice A0_6 l0_6.length c0_6, .int .i64 a0_7, .int .i64 a0_8, .int .i64 a0_9, .int .i64 a0_10, .int .i64 a0_11, .int .i64 a0_12, .int .i64 a0_13, .int .i64 a0_14, .int .i64 a0_15, .int .i64 a0_16, .int .i64 a0_17], .int .i64 a1_1, .int .i64 a2_0] (by rfl) rfl rfl (by (try simp only [List.map_toArray, List.map_cons, List.map_nil]); first | done | rfl | (simp only [List.length_drop, List.length_take]; rfl)) ?_
                  with_reducible refine (seep_Ask.calls kj5 a0_0 a0_1 a0_2 a0_3 _ _ l0_4 _ _ l0_5 _ _ l0_6 a0_7 a0_8 a0_9 a0_10 a0_11 a0_12 a0_13 a0_14 a0_15 a0_16 a0_17 a1_1 a2_0 t249 _ ?side1 ?side2 ?side3 ?side4 ?side5 ?side6 A130.out).mono ?_
                  (case side1 => repeat (first | exact (Kd.C_below HR0_4.out HB.out) | (with_reducible refine Kd.C_alloc ?_ _) | (with_reducible refine Kd.C_drewN ?_ _) | (with_reducible refine Kd.C_drew ?_)))
                  (case side2 => exact HC0_4.out)
                  (case side3 => repeat (first | exact (Kd.C_below HR0_5.out HB.out) | (with_reducible refine Kd.C_alloc ?_ _) | (with_reducible refine Kd.C_drewN ?_ _) | (with_reducible refine Kd.C_drew ?_)))
                  (case side4 => exact HC0_5.out)
                  (case side5 => repeat (first | exact (Kd.C_below HR0_6.out HB.out) | (with_reducible refine Kd.C_alloc ?_ _) | (with_reducible refine Kd.C_drewN ?_ _) | (with_reducible refine Kd.C_drew ?_)))
                  (case side6 => exact HC0_6.out)
                  rintro e w134 ⟨rfl, hb⟩
                  refine ⟨_, rfl, ?_⟩
                  have n0_ := Aside0.mk (bB (g := gb240) (o := .cells #[.string a0_0, .int .i64 a0_1, .int .i64 a0_2, .int .i64 a0_3, .slice A0_4 l0_4.length c0_4, .slice A0_5 l0_5.length c0_5, .slice A0_6 l0_6.length c0_6, .int .i64 a0_7, .int .i64 a0_8, .int .i64 a0_9, .int .i64 a0_10, .int .i64 a0_11, .int .i64 a0_12, .int .i64 a0_13, .int .i64 a0_14, .int .i64 a0_15, .int .i64 a0_16, .int .i64 a0_17] 26 (0, 0)) (by (with_reducible repeat (first | refine bN ?_ _ | refine bD ?_ | refine bA ?_ _)); exact BK240.out) hb)
                  have n1_ := Aside0.mk (bB (g := gb241) (o := .cells #[.int .i64 a1_0, .int .i64 a1_1] 30 (0, 0)) (by (with_reducible repeat (first | refine bN ?_ _ | refine bD ?_ | refine bA ?_ _)); exact BK241.out) hb)
                  have n2_ := Aside0.mk (bB (g := gb242) (o := .cells #[.int .i64 a2_0, .int .i64 a2_1] 30 (0, 0)) (by (with_reducible repeat (first | refine bN ?_ _ | refine bD ?_ | refine bA ?_ _)); exact BK242.out) hb)
                  have n3_ := Aside0.mk (bB (g := gb243) (o := .cells #[.int .i64 a3_0, .int .i64 a3_1] 30 (0, 0)) (by (with_reducible repeat (first | refine bN ?_ _ | refine bD ?_ | refine bA ?_ _)); exact BK243.out) hb)
                  have n4_ := Aside0.mk (bP (by repeat (first | (with_reducible first | exact HB.out | apply bL | apply bW | apply b1 | refine bS ?_ GE240.out | refine bS ?_ GE241.out | refine bS ?_ GE242.out | refine bS ?_ GE243.out) | exact HB.out)) hb)
                  clear BK240
                  clear BK241
                  clear BK242
                  clear BK243
                  clear HB
                  have BK240 := n0_
                  have BK241 := n1_
                  have BK242 := n2_
                  have BK243 := n3_
                  have HB := n4_
                  clear n0_ n1_ n2_ n3_ n4_
                  (try clear hb)
                  (try clear hb2)
                  (try clear hk)
                  (try clear hi)
                  refine hK.out _ _ ⟨(bC BK240.out 0).trans rfl, (bC BK240.out 1).trans rfl, (bC BK240.out 2).trans rfl, (bC BK240.out 3).trans rfl, (bC BK240.out 4).trans rfl, (bC BK240.out 5).trans rfl, (bC BK240.out 6).trans rfl, (bC BK240.out 7).trans rfl, (bC BK240.out 8).trans rfl, (bC BK240.out 9).trans rfl, (bC BK240.out 10).trans rfl, (bC BK240.out 11).trans rfl, (bC BK240.out 12).trans rfl, (bC BK240.out 13).trans rfl, (bC BK240.out 14).trans rfl, (bC BK240.out 15).trans rfl, (bC BK240.out 16).trans rfl, (bC BK240.out 17).trans rfl, (bC BK241.out 0).trans rfl, (bC BK241.out 1).trans rfl, (bC BK242.out 0).trans rfl, (bC BK242.out 1).trans rfl⟩ (fun hHeld => ?_)
                  clear hK K
                  refine norm_ (a' := ?_) ?_ ?_
                  rotate_left
                  ·
                   show Act.put _ (some 72) _ = _
                   simp only [Act.put, lA, lZ, lS, i64_w, i32_w]
                   rfl
                  as_aux_lemma =>
                   refine pure_ (i := 12) (N := some 73) (v := ?_) (a' := ?_) #[t_,t_,t_,t_,t_,t_,t_,t_,t_,t_,t_,t_,t_,f_,f_,f_,f_,f_,f_,f_,f_,f_,f_,f_,f_,f_,f_,f_] rfl rfl (any_of HT_.out (by kernel_rfl)) (fun _ _ _ h => h) (Or.inl ⟨by rfl, ?_⟩) ?_ ?_
                   rotate_left
                   ·
                    intro w'
                    go_simp
                    with_reducible rfl
                   rotate_left
                   ·
                    simp only [Act.put, lA, lZ, lS, i64_w, i32_w]
                    rfl
                   as_aux_lemma =>
                    refine pure_ (i := 13) (N := some 74) (v := ?_) (a' := ?_) #[t_,t_,t_,t_,t_,t_,t_,t_,t_,t_,t_,t_,t_,t_,f_,f_,f_,f_,f_,f_,f_,f_,f_,f_,f_,f_,f_,f_] rfl rfl (any_of HT_.out (by kernel_rfl)) (fun _ _ _ h => h) (Or.inl ⟨by rfl, ?_⟩) ?_ ?_
                    rotate_left
                    ·
                     intro w'
                     go_simp
                     with_reducible rfl
                    rotate_left
                    ·
                     simp only [Act.put, lA, lZ, lS, i64_w, i32_w]
                     rfl
                    as_aux_lemma =>
                     refine pure_ (i := 14) (N := some 75) (v := undef) (a' := ?_) #[t_,t_,t_,t_,t_,t_,t_,t_,t_,t_,t_,t_,t_,t_,t_,f_,f_,f_,f_,f_,f_,f_,f_,f_,f_,f_,f_,f_] rfl rfl (any_of HT_.out (by kernel_rfl)) (fun _ _ _ h => h) (Or.inr ⟨by rfl, rfl⟩) ?_ ?_
                     rotate_left
                     ·
                      simp only [Act.put, lA, lZ, lS, i64_w, i32_w]
                      rfl
                     as_aux_lemma =>
                      refine pure_ (i := 15) (N := some 76) (v := undef) (a' := ?_) #[t_,t_,t_,t_,t_,t_,t_,t_,t_,t_,t_,t_,t_,t_,t_,t_,f_,f_,f_,f_,f_,f_,f_,f_,f_,f_,f_,f_] rfl rfl (any_of HT_.out (by kernel_rfl)) (fun _ _ _ h => h) (Or.inr ⟨by rfl, rfl⟩) ?_ ?_
                      rotate_left
                      ·
                       simp only [Act.put, lA, lZ, lS, i64_w, i32_w]
                       rfl
                      as_aux_lemma =>
                       refine pure_ (i := 16) (N := some 77) (v := undef) (a' := ?_) #[t_,t_,t_,t_,t_,t_,t_,t_,t_,t_,t_,t_,t_,t_,t_,t_,t_,f_,f_,f_,f_,f_,f_,f_,f_,f_,f_,f_] rfl rfl (any_of HT_.out (by kernel_rfl)) (fun _ _ _ h => h) (Or.inr ⟨by rfl, rfl⟩) ?_ ?_
                       rotate_left
                       ·
                        simp only [Act.put, lA, lZ, lS, i64_w, i32_w]
                        rfl
                       as_aux_lemma =>
                        refine pure_ (i := 17) (N := some 78) (v := undef) (a' := ?_) #[t_,t_,t_,t_,t_,t_,t_,t_,t_,t_,t_,t_,t_,t_,t_,t_,t_,t_,f_,f_,f_,f_,f_,f_,f_,f_,f_,f_] rfl rfl (any_of HT_.out (by kernel_rfl)) (fun _ _ _ h => h) (Or.inr ⟨by rfl, rfl⟩) ?_ ?_
                        rotate_left
                        ·
                         simp only [Act.put, lA, lZ, lS, i64_w, i32_w]
                         rfl
                        as_aux_lemma =>
                         refine pure_ (i := 18) (N := some 79) (v := undef) (a' := ?_) #[t_,t_,t_,t_,t_,t_,t_,t_,t_,t_,t_,t_,t_,t_,t_,t_,t_,t_,t_,f_,f_,f_,f_,f_,f_,f_,f_,f_] rfl rfl (any_of HT_.out (by kernel_rfl)) (fun _ _ _ h => h) (Or.inr ⟨by rfl, rfl⟩) ?_ ?_
                         rotate_left
                         ·
                          simp only [Act.put, lA, lZ, lS, i64_w, i32_w]
                          rfl
                         as_aux_lemma =>
                          refine pure_ (i := 19) (N := some 80) (v := undef) (a' := ?_) #[t_,t_,t_,t_,t_,t_,t_,t_,t_,t_,t_,t_,t_,t_,t_,t_,t_,t_,t_,t_,f_,f_,f_,f_,f_,f_,f_,f_] rfl rfl (any_of HT_.out (by kernel_rfl)) (fun _ _ _ h => h) (Or.inr ⟨by rfl, rfl⟩) ?_ ?_
                          rotate_left
                          ·
                           simp only [Act.put, lA, lZ, lS, i64_w, i32_w]
                           rfl
                          as_aux_lemma =>
                           refine pure_ (i := 20) (N := some 81) (v := undef) (a' := ?_) #[t_,t_,t_,t_,t_,t_,t_,t_,t_,t_,t_,t_,t_,t_,t_,t_,t_,t_,t_,t_,t_,f_,f_,f_,f_,f_,f_,f_] rfl rfl (any_of HT_.out (by kernel_rfl)) (fun _ _ _ h => h) (Or.inr ⟨by rfl, rfl⟩) ?_ ?_
                           rotate_left
                           ·
                            simp only [Act.put, lA, lZ, lS, i64_w, i32_w]
                            rfl
                           as_aux_lemma =>
                            refine pure_ (i := 21) (N := some 82) (v := undef) (a' := ?_) #[t_,t_,t_,t_,t_,t_,t_,t_,t_,t_,t_,t_,t_,t_,t_,t_,t_,t_,t_,t_,t_,t_,f_,f_,f_,f_,f_,f_] rfl rfl (any_of HT_.out (by kernel_rfl)) (fun _ _ _ h => h) (Or.inr ⟨by rfl, rfl⟩) ?_ ?_
                            rotate_left
                            ·
                             simp only [Act.put, lA, lZ, lS, i64_w, i32_w]
                             rfl
                            as_aux_lemma =>
                             refine pure_ (i := 22) (N := some 83) (v := undef) (a' := ?_) #[t_,t_,t_,t_,t_,t_,t_,t_,t_,t_,t_,t_,t_,t_,t_,t_,t_,t_,t_,t_,t_,t_,t_,f_,f_,f_,f_,f_] rfl rfl (any_of HT_.out (by kernel_rfl)) (fun _ _ _ h => h) (Or.inr ⟨by rfl, rfl⟩) ?_ ?_
                             rotate_left
                             ·
                              simp only [Act.put, lA, lZ, lS, i64_w, i32_w]
                              rfl
                             as_aux_lemma =>
                              refine pure_ (i := 23) (N := some 84) (v := undef) (a' := ?_) #[t_,t_,t_,t_,t_,t_,t_,t_,t_,t_,t_,t_,t_,t_,t_,t_,t_,t_,t_,t_,t_,t_,t_,t_,f_,f_,f_,f_] rfl rfl (any_of HT_.out (by kernel_rfl)) (fun _ _ _ h => h) (Or.inr ⟨by rfl, rfl⟩) ?_ ?_
                              rotate_left
                              ·
                               simp only [Act.put, lA, lZ, lS, i64_w, i32_w]
                               rfl
                              as_aux_lemma =>
                               refine pure_ (i := 24) (N := some 85) (v := undef) (a' := ?_) #[t_,t_,t_,t_,t_,t_,t_,t_,t_,t_,t_,t_,t_,t_,t_,t_,t_,t_,t_,t_,t_,t_,t_,t_,t_,f_,f_,f_] rfl rfl (any_of HT_.out (by kernel_rfl)) (fun _ _ _ h => h) (Or.inr ⟨by rfl, rfl⟩) ?_ ?_
                               rotate_left
                               ·
                                simp only [Act.put, lA, lZ, lS, i64_w, i32_w]
                                rfl
                               as_aux_lemma =>
                                refine pure_ (i := 25) (N := some 86) (v := undef) (a' := ?_) #[t_,t_,t_,t_,t_,t_,t_,t_,t_,t_,t_,t_,t_,t_,t_,t_,t_,t_,t_,t_,t_,t_,t_,t_,t_,t_,f_,f_] rfl rfl (any_of HT_.out (by kernel_rfl)) (fun _ _ _ h => h) (Or.inr ⟨by rfl, rfl⟩) ?_ ?_
                                rotate_left
                                ·
                                 simp only [Act.put, lA, lZ, lS, i64_w, i32_w]
                                 rfl
                                as_aux_lemma =>
                                 refine pure_ (i := 26) (N := some 87) (v := undef) (a' := ?_) #[t_,t_,t_,t_,t_,t_,t_,t_,t_,t_,t_,t_,t_,t_,t_,t_,t_,t_,t_,t_,t_,t_,t_,t_,t_,t_,t_,f_] rfl rfl (any_of HT_.out (by kernel_rfl)) (fun _ _ _ h => h) (Or.inr ⟨by rfl, rfl⟩) ?_ ?_
                                 rotate_left
                                 ·
                                  simp only [Act.put, lA, lZ, lS, i64_w, i32_w]
                                  rfl
                                 as_aux_lemma =>
                                  refine pure_ (i := 27) (N := some 88) (v := ?_) (a' := ?_) #[t_,t_,t_,t_,t_,t_,t_,t_,t_,t_,t_,t_,t_,t_,t_,t_,t_,t_,t_,t_,t_,t_,t_,t_,t_,t_,t_,t_] rfl rfl (any_of HT_.out (by kernel_rfl)) (fun _ _ _ h => h) (Or.inl ⟨by rfl, ?_⟩) ?_ ?_
                                  rotate_left
                                  ·
                                   intro w'
                                   go_simp
                                   with_reducible rfl
                                  rotate_left
                                  ·
                                   simp only [Act.put, lA, lZ, lS, i64_w, i32_w]
                                   rfl
                                  refine done_ (done_of HT_.out (by kernel_rfl)) ?_
                                  try go_wp2
                                  go_meet
                                  case rel => exact ⟨_, (true), (by first | rfl | (simp; done) | (simp [*]; done)), H', ⟨by have := HJ5.out; first | omega | exact Nat.le_refl _⟩, ⟨by (with_reducible repeat (first | refine bN ?_ _ | refine bD ?_ | refine bA ?_ _)); exact BK240.out⟩, ⟨by (with_reducible repeat (first | refine bN ?_ _ | refine bD ?_ | refine bA ?_ _)); exact BK241.out⟩, ⟨by (with_reducible repeat (first | refine bN ?_ _ | refine bD ?_ | refine bA ?_ _)); exact BK242.out⟩, ⟨by (with_reducible repeat (first | refine bN ?_ _ | refine bD ?_ | refine bA ?_ _)); exact BK243.out⟩, ⟨by repeat (first | (with_reducible first | exact HB.out | apply bL | apply bW | apply b1 | refine bS ?_ GE240.out | refine bS ?_ GE241.out | refine bS ?_ GE242.out | refine bS ?_ GE243.out) | exact HB.out)⟩⟩
     ·
      rw [if_neg c131] at H
      have c131b0 : decide (t249 < t248) = false := decide_eq_false c131
      clear c131
      (first | rw [c131b0] | (simp only [i64_w, i32_w]; rw [c131b0]) | skip)
      replace H := Option.bind_eq_some_iff.mp H
      obtain ⟨t250, A1350, H⟩ := H
      have A135 := Aside0.mk A1350
      clear A1350
      replace H := Option.bind_eq_some_iff.mp H
      obtain ⟨t251, A1360, H⟩ := H
      have A136 := Aside0.mk A1360
      clear A1360
      have H' := Aside0.mk H
      clear H
      try go_wp2
      have n0_ := Aside0.mk (bD BK240.out)
      have n1_ := Aside0.mk (bD BK241.out)
      have n2_ := Aside0.mk (bD BK242.out)
      have n3_ := Aside0.mk (bD BK243.out)
      have n4_ := Aside0.mk (b1 HB.out)
      clear BK240
      clear BK241
      clear BK242
      clear BK243
      clear HB
      have BK240 := n0_
      have BK241 := n1_
      have BK242 := n2_
      have BK243 := n3_
      have HB := n4_
      clear n0_ n1_ n2_ n3_ n4_
      refine start_ (n := 28) (S := fun w' => w'.cell? ⟨gb240, 0, none⟩ = some (.string a0_0) ∧ w'.cell? ⟨gb240, 1, none⟩ = some (.int .i64 a0_1) ∧ w'.cell? ⟨gb240, 2, none⟩ = some (.int .i64 a0_2) ∧ w'.cell? ⟨gb240, 3, none⟩ = some (.int .i64 a0_3) ∧ w'.cell? ⟨gb240, 4, none⟩ = some (.slice A0_4 l0_4.length c0_4) ∧ w'.cell? ⟨gb240, 5, none⟩ = some (.slice A0_5 l0_5.length c0_5) ∧ w'.cell? ⟨gb240, 6, none⟩ = some (.slice A0_6 l0_6.length c0_6) ∧ w'.cell? ⟨gb240, 7, none⟩ = some (.int .i64 a0_7) ∧ w'.cell? ⟨gb240, 8, none⟩ = some (.int .i64 a0_8) ∧ w'.cell? ⟨gb240, 9, none⟩ = some (.int .i64 a0_9) ∧ w'.cell? ⟨gb240, 10, none⟩ = some (.int .i64 a0_10) ∧ w'.cell? ⟨gb240, 11, none⟩ = some (.int .i64 a0_11) ∧ w'.cell? ⟨gb240, 12, none⟩ = some (.int .i64 a0_12) ∧ w'.cell? ⟨gb240, 13, none⟩ = some (.int .i64 a0_13) ∧ w'.cell? ⟨gb240, 14, none⟩ = some (.int .i64 a0_14) ∧ w'.cell? ⟨gb240, 15, none⟩ = some (.int .i64 a0_15) ∧ w'.cell? ⟨gb240, 16, none⟩ = some (.int .i64 a0_16) ∧ w'.cell? ⟨gb240, 17, none⟩ = some (.int .i64 a0_17) ∧ w'.cell? ⟨gb241, 0, none⟩ = some (.int .i64 a1_0) ∧ w'.cell? ⟨gb241, 1, none⟩ = some (.int .i64 a1_1) ∧ w'.cell? ⟨gb242, 0, none⟩ = some (.int .i64 a2_0) ∧ w'.cell? ⟨gb242, 1, none⟩ = some (.int .i64 a2_1)) (ds := []) #[f_,f_,f_,f_,f_,f_,f_,f_,f_,f_,f_,f_,f_,f_,f_,f_,f_,f_,f_,f_,f_,f_,f_,f_,f_,f_,f_,f_] (by kernel_rfl) rfl rfl ⟨(bC BK240.out 0).trans rfl, (bC BK240.out 1).trans rfl, (bC BK240.out 2).trans rfl, (bC BK240.out 3).trans rfl, (bC BK240.out 4).trans rfl, (bC BK240.out 5).trans rfl, (bC BK240.out 6).trans rfl, (bC BK240.out 7).trans rfl, (bC BK240.out 8).trans rfl, (bC BK240.out 9).trans rfl, (bC BK240.out 10).trans rfl, (bC BK240.out 11).trans rfl, (bC BK240.out 12).trans rfl, (bC BK240.out 13).trans rfl, (bC BK240.out 14).trans rfl, (bC BK240.out 15).trans rfl, (bC BK240.out 16).trans rfl, (bC BK240.out 17).trans rfl, (bC BK241.out 0).trans rfl, (bC BK241.out 1).trans rfl, (bC BK242.out 0).trans rfl, (bC BK242.out 1).trans rfl⟩ (fun hHeld => ?_); refine with_tabW bournelaw20_SeepGrows.tab4 bournelaw20_SeepGrows.bits4 (fun HT_ HW_ => ?_)
      generalize wc.drew = w137 at BK240 BK241 BK242 BK243 HB hHeld ⊢
      as_aux_lemma =>
       refine pure_ (i := 1) (N := some 62) (v := ?_) (a' := ?_) #[f_,t_,f_,f_,f_,f_,f_,f_,f_,f_,f_,f_,f_,f_,f_,f_,f_,f_,f_,f_,f_,f_,f_,f_,f_,f_,f_,f_] rfl rfl (any_of HT_.out (by kernel_rfl)) (fun _ _ _ h => h) (Or.inl ⟨by rfl, ?_⟩) ?_ ?_
       rotate_left
       ·
        intro w'
        go_simp
        with_reducible rfl
       rotate_left
       ·
        simp only [Act.put, lA, lZ, lS, i64_w, i32_w]
        rfl
       as_aux_lemma =>
        refine pure_ (i := 3) (N := some 64) (v := ?_) (a' := ?_) #[f_,t_,f_,t_,f_,f_,f_,f_,f_,f_,f_,f_,f_,f_,f_,f_,f_,f_,f_,f_,f_,f_,f_,f_,f_,f_,f_,f_] rfl rfl (any_of HT_.out (by kernel_rfl)) (fun _ _ _ h => h) (Or.inl ⟨by rfl, ?_⟩) ?_ ?_
        rotate_left
        ·
         intro w'
         go_simp
         with_reducible rfl
        rotate_left
        ·
         simp only [Act.put, lA, lZ, lS, i64_w, i32_w]
         rfl
        as_aux_lemma =>
         refine pure_ (i := 7) (N := some 68) (v := ?_) (a' := ?_) #[f_,t_,f_,t_,f_,f_,f_,t_,f_,f_,f_,f_,f_,f_,f_,f_,f_,f_,f_,f_,f_,f_,f_,f_,f_,f_,f_,f_] rfl rfl (any_of HT_.out (by kernel_rfl)) (fun _ _ _ h => h) (Or.inl ⟨by rfl, ?_⟩) ?_ ?_
         rotate_left
         ·
          intro w'
          go_simp
          with_reducible rfl
         rotate_left
         ·
          simp only [Act.put, lA, lZ, lS, i64_w, i32_w]
          rfl
         as_aux_lemma =>
          refine pure_ (i := 9) (N := some 70) (v := ?_) (a' := ?_) #[f_,t_,f_,t_,f_,f_,f_,t_,f_,t_,f_,f_,f_,f_,f_,f_,f_,f_,f_,f_,f_,f_,f_,f_,f_,f_,f_,f_] rfl rfl (any_of HT_.out (by kernel_rfl)) (fun _ _ _ h => h) (Or.inl ⟨by rfl, ?_⟩) ?_ ?_
          rotate_left
          ·
           intro w'
           go_simp
           with_reducible rfl
          rotate_left
          ·
           simp only [Act.put, lA, lZ, lS, i64_w, i32_w]
           rfl
          as_aux_lemma =>
           refine take_ (i := 0) (N := some 61) (v := ?_) (a' := ?_) #[t_,t_,f_,t_,f_,f_,f_,t_,f_,t_,f_,f_,f_,f_,f_,f_,f_,f_,f_,f_,f_,f_,f_,f_,f_,f_,f_,f_] rfl rfl (take_ofW HT_.out HW_.out (by kernel_rfl)) (fun _ _ _ h => h) (Or.inl ⟨by rfl, ?_⟩) hHeld ?_ ?_
           rotate_left
           ·
            rintro w' ⟨s0, s1, s2, s3, s4, s5, s6, s7, s8, s9, s10, s11, s12, s13, s14, s15, s16, s17, s18, s19, s20, s21⟩
            first | (refine (load18 (by rfl) (by rfl) hu26 rfl hi26 s0 s1 s2 s3 s4 s5 s6 s7 s8 s9 s10 s11 s12 s13 s14 s15 s16 s17).trans ?_; with_reducible rfl) | (go_simp; with_reducible rfl)
           rotate_left
           ·
            simp only [Act.put, lA, lZ, lS, i64_w, i32_w]
            rfl
           as_aux_lemma =>
            refine take_ (i := 2) (N := some 63) (v := ?_) (a' := ?_) #[t_,t_,t_,t_,f_,f_,f_,t_,f_,t_,f_,f_,f_,f_,f_,f_,f_,f_,f_,f_,f_,f_,f_,f_,f_,f_,f_,f_] rfl rfl (take_ofW HT_.out HW_.out (by kernel_rfl)) (fun _ _ _ h => h) (Or.inl ⟨by rfl, ?_⟩) hHeld ?_ ?_
            rotate_left
            ·
             rintro w' ⟨s0, s1, s2, s3, s4, s5, s6, s7, s8, s9, s10, s11, s12, s13, s14, s15, s16, s17, s18, s19, s20, s21⟩
             first | (refine (load18 (by rfl) (by rfl) hu26 rfl hi26 s0 s1 s2 s3 s4 s5 s6 s7 s8 s9 s10 s11 s12 s13 s14 s15 s16 s17).trans ?_; with_reducible rfl) | (go_simp; with_reducible rfl)
            rotate_left
            ·
             simp only [Act.put, lA, lZ, lS, i64_w, i32_w]
             rfl
            as_aux_lemma =>
             refine take_ (i := 4) (N := some 65) (v := ?_) (a' := ?_) #[t_,t_,t_,t_,t_,f_,f_,t_,f_,t_,f_,f_,f_,f_,f_,f_,f_,f_,f_,f_,f_,f_,f_,f_,f_,f_,f_,f_] rfl rfl (take_ofW HT_.out HW_.out (by kernel_rfl)) (fun _ _ _ h => h) (Or.inl ⟨by rfl, ?_⟩) hHeld ?_ ?_
             rotate_left
             ·
              rintro w' ⟨s0, s1, s2, s3, s4, s5, s6, s7, s8, s9, s10, s11, s12, s13, s14, s15, s16, s17, s18, s19, s20, s21⟩
              first | (refine (load18 (by rfl) (by rfl) hu26 rfl hi26 s0 s1 s2 s3 s4 s5 s6 s7 s8 s9 s10 s11 s12 s13 s14 s15 s16 s17).trans ?_; with_reducible rfl) | (go_simp; with_reducible rfl)
             rotate_left
             ·
              simp only [Act.put, lA, lZ, lS, i64_w, i32_w]
              rfl
             as_aux_lemma =>
              refine take_ (i := 6) (N := some 67) (v := ?_) (a' := ?_) #[t_,t_,t_,t_,t_,f_,t_,t_,f_,t_,f_,f_,f_,f_,f_,f_,f_,f_,f_,f_,f_,f_,f_,f_,f_,f_,f_,f_] rfl rfl (take_ofW HT_.out HW_.out (by kernel_rfl)) (fun _ _ _ h => h) (Or.inl ⟨by rfl, ?_⟩) hHeld ?_ ?_
              rotate_left
              ·
               rintro w' ⟨s0, s1, s2, s3, s4, s5, s6, s7, s8, s9, s10, s11, s12, s13, s14, s15, s16, s17, s18, s19, s20, s21⟩
               first | (refine (load18 (by rfl) (by rfl) hu26 rfl hi26 s0 s1 s2 s3 s4 s5 s6 s7 s8 s9 s10 s11 s12 s13 s14 s15 s16 s17).trans ?_; with_reducible rfl) | (go_simp; with_reducible rfl)
              rotate_left
              ·
               simp only [Act.put, lA, lZ, lS, i64_w, i32_w]
               rfl
              as_aux_lemma =>
               refine take_ (i := 8) (N := some 69) (v := ?_) (a' := ?_) #[t_,t_,t_,t_,t_,f_,t_,t_,t_,t_,f_,f_,f_,f_,f_,f_,f_,f_,f_,f_,f_,f_,f_,f_,f_,f_,f_,f_] rfl rfl (take_ofW HT_.out HW_.out (by kernel_rfl)) (fun _ _ _ h => h) (Or.inl ⟨by rfl, ?_⟩) hHeld ?_ ?_
               rotate_left
               ·
                rintro w' ⟨s0, s1, s2, s3, s4, s5, s6, s7, s8, s9, s10, s11, s12, s13, s14, s15, s16, s17, s18, s19, s20, s21⟩
                first | (refine (load18 (by rfl) (by rfl) hu26 rfl hi26 s0 s1 s2 s3 s4 s5 s6 s7 s8 s9 s10 s11 s12 s13 s14 s15 s16 s17).trans ?_; with_reducible rfl) | (go_simp; with_reducible rfl)
               rotate_left
               ·
                simp only [Act.put, lA, lZ, lS, i64_w, i32_w]
                rfl
               as_aux_lemma =>
                refine take_ (i := 10) (N := some 71) (v := ?_) (a' := ?_) #[t_,t_,t_,t_,t_,f_,t_,t_,t_,t_,t_,f_,f_,f_,f_,f_,f_,f_,f_,f_,f_,f_,f_,f_,f_,f_,f_,f_] rfl rfl (take_ofW HT_.out HW_.out (by kernel_rfl)) (fun _ _ _ h => h) (Or.inl ⟨by rfl, ?_⟩) hHeld ?_ ?_
                rotate_left
                ·
                 rintro w' ⟨s0, s1, s2, s3, s4, s5, s6, s7, s8, s9, s10, s11, s12, s13, s14, s15, s16, s17, s18, s19, s20, s21⟩
                 first | (refine (load18 (by rfl) (by rfl) hu26 rfl hi26 s0 s1 s2 s3 s4 s5 s6 s7 s8 s9 s10 s11 s12 s13 s14 s15 s16 s17).trans ?_; with_reducible rfl) | (go_simp; with_reducible rfl)
                rotate_left
                ·
                 simp only [Act.put, lA, lZ, lS, i64_w, i32_w]
                 rfl
                as_aux_lemma =>
                 refine one_ (i := 5) (N := some 66) #[t_,t_,t_,t_,t_,t_,t_,t_,t_,t_,t_,f_,f_,f_,f_,f_,f_,f_,f_,f_,f_,f_,f_,f_,f_,f_,f_,f_] rfl rfl (one_of HT_.out (by kernel_rfl)) (by decide) (fun K hK => ?_)
                 refine goes_ Try.func10 (by kernel_rfl) rfl #[.agg #[.string a0_0, .int .i64 a0_1, .int .i64 a0_2, .int .i64 a0_3, .slice A0_4 l0_4.length c0_4, .slice A0_5 l0_5.length c0_5, .slice A0_6 l0_6.length c0_6, .int .i64 a0_7, .int .i64 a0_8, .int .i64 a0_9, .int .i64 a0_10, .int .i64 a0_11, .int .i64 a0_12, .int .i64 a0_13, .int .i64 a0_14, .int .i64 a0_15, .int .i64 a0_16, .int .i64 a0_17], .int .i64 a1_0, .int .i64 a2_0] (by rfl) rfl rfl (by (try simp only [List.map_toArray, List.map_cons, List.map_nil]); first | done | rfl | (simp only [List.length_drop, List.length_take]; rfl)) ?_
                 with_reducible refine (seep_Ask.calls kj5 a0_0 a0_1 a0_2 a0_3 _ _ l0_4 _ _ l0_5 _ _ l0_6 a0_7 a0_8 a0_9 a0_10 a0_11 a0_12 a0_13 a0_14 a0_15 a0_16 a0_17 a1_0 a2_0 t248 _ ?side1 ?side2 ?side3 ?side4 ?side5 ?side6 A129.out).mono ?_
                 (case side1 => repeat (first | exact (Kd.C_below HR0_4.out HB.out) | (with_reducible refine Kd.C_alloc ?_ _) | (with_reducible refine Kd.C_drewN ?_ _) | (with_reducible refine Kd.C_drew ?_)))
                 (case side2 => exact HC0_4.out)
                 (case side3 => repeat (first | exact (Kd.C_below HR0_5.out HB.out) | (with_reducible refine Kd.C_alloc ?_ _) | (with_reducible refine Kd.C_drewN ?_ _) | (with_reducible refine Kd.C_drew ?_)))
                 (case side4 => exact HC0_5.out)
                 (case side5 => repeat (first | exact (Kd.C_below HR0_6.out HB.out) | (with_reducible refine Kd.C_alloc ?_ _) | (with_reducible refine Kd.C_drewN ?_ _) | (with_reducible refine Kd.C_drew ?_)))
                 (case side6 => exact HC0_6.out)
                 rintro e w138 ⟨rfl, hb⟩
                 refine ⟨_, rfl, ?_⟩
                 have n0_ := Aside0.mk (bB (g := gb240) (o := .cells #[.string a0_0, .int .i64 a0_1, .int .i64 a0_2, .int .i64 a0_3, .slice A0_4 l0_4.length c0_4, .slice A0_5 l0_5.length c0_5, .slice A0_6 l0_6.length c0_6, .int .i64 a0_7, .int .i64 a0_8, .int .i64 a0_9, .int .i64 a0_10, .int .i64 a0_11, .int .i64 a0_12, .int .i64 a0_13, .int .i64 a0_14, .int .i64 a0_15, .int .i64 a0_16, .int .i64 a0_17] 26 (0, 0)) (by (with_reducible repeat (first | refine bN ?_ _ | refine bD ?_ | refine bA ?_ _)); exact BK240.out) hb)
                 have n1_ := Aside0.mk (bB (g := gb241) (o := .cells #[.int .i64 a1_0, .int .i64 a1_1] 30 (0, 0)) (by (with_reducible repeat (first | refine bN ?_ _ | refine bD ?_ | refine bA ?_ _)); exact BK241.out) hb)
                 have n2_ := Aside0.mk (bB (g := gb242) (o := .cells #[.int .i64 a2_0, .int .i64 a2_1] 30 (0, 0)) (by (with_reducible repeat (first | refine bN ?_ _ | refine bD ?_ | refine bA ?_ _)); exact BK242.out) hb)
                 have n3_ := Aside0.mk (bB (g := gb243) (o := .cells #[.int .i64 a3_0, .int .i64 a3_1] 30 (0, 0)) (by (with_reducible repeat (first | refine bN ?_ _ | refine bD ?_ | refine bA ?_ _)); exact BK243.out) hb)
                 have n4_ := Aside0.mk (bP (by repeat (first | (with_reducible first | exact HB.out | apply bL | apply bW | apply b1 | refine bS ?_ GE240.out | refine bS ?_ GE241.out | refine bS ?_ GE242.out | refine bS ?_ GE243.out) | exact HB.out)) hb)
                 clear BK240
                 clear BK241
                 clear BK242
                 clear BK243
                 clear HB
                 have BK240 := n0_
                 have BK241 := n1_
                 have BK242 := n2_
                 have BK243 := n3_
                 have HB := n4_
                 clear n0_ n1_ n2_ n3_ n4_
                 (try clear hb)
                 (try clear hb2)
                 (try clear hk)
                 (try clear hi)
                 refine hK.out _ _ ⟨(bC BK240.out 0).trans rfl, (bC BK240.out 1).trans rfl, (bC BK240.out 2).trans rfl, (bC BK240.out 3).trans rfl, (bC BK240.out 4).trans rfl, (bC BK240.out 5).trans rfl, (bC BK240.out 6).trans rfl, (bC BK240.out 7).trans rfl, (bC BK240.out 8).trans rfl, (bC BK240.out 9).trans rfl, (bC BK240.out 10).trans rfl, (bC BK240.out 11).trans rfl, (bC BK240.out 12).trans rfl, (bC BK240.out 13).trans rfl, (bC BK240.out 14).trans rfl, (bC BK240.out 15).trans rfl, (bC BK240.out 16).trans rfl, (bC BK240.out 17).trans rfl, (bC BK241.out 0).trans rfl, (bC BK241.out 1).trans rfl, (bC BK242.out 0).trans rfl, (bC BK242.out 1).trans rfl⟩ (fun hHeld => ?_)
                 clear hK K
                 refine norm_ (a' := ?_) ?_ ?_
                 rotate_left
                 ·
                  show Act.put _ (some 66) _ = _
                  simp only [Act.put, lA, lZ, lS, i64_w, i32_w]
                  rfl
                 as_aux_lemma =>
                  refine one_ (i := 11) (N := some 72) #[t_,t_,t_,t_,t_,t_,t_,t_,t_,t_,t_,t_,f_,f_,f_,f_,f_,f_,f_,f_,f_,f_,f_,f_,f_,f_,f_,f_] rfl rfl (one_of HT_.out (by kernel_rfl)) (by decide) (fun K hK => ?_)
                  refine goes_ Try.func10 (by kernel_rfl) rfl #[.agg #[.string a0_0, .int .i64 a0_1, .int .i64 a0_2, .int .i64 a0_3, .slice A0_4 l0_4.length c0_4, .slice A0_5 l0_5.length c0_5, .slice A0_6 l0_6.length c0_6, .int .i64 a0_7, .int .i64 a0_8, .int .i64 a0_9, .int .i64 a0_10, .int .i64 a0_11, .int .i64 a0_12, .int .i64 a0_13, .int .i64 a0_14, .int .i64 a0_15, .int .i64 a0_16, .int .i64 a0_17], .int .i64 a1_1, .int .i64 a2_0] (by rfl) rfl rfl (by (try simp only [List.map_toArray, List.map_cons, List.map_nil]); first | done | rfl | (simp only [List.length_drop, List.length_take]; rfl)) ?_
                  with_reducible refine (seep_Ask.calls kj5 a0_0 a0_1 a0_2 a0_3 _ _ l0_4 _ _ l0_5 _ _ l0_6 a0_7 a0_8 a0_9 a0_10 a0_11 a0_12 a0_13 a0_14 a0_15 a0_16 a0_17 a1_1 a2_0 t249 _ ?side1 ?side2 ?side3 ?side4 ?side5 ?side6 A130.out).mono ?_
                  (case side1 => repeat (first | exact (Kd.C_below HR0_4.out HB.out) | (with_reducible refine Kd.C_alloc ?_ _) | (with_reducible refine Kd.C_drewN ?_ _) | (with_reducible refine Kd.C_drew ?_)))
                  (case side2 => exact HC0_4.out)
                  (case side3 => repeat (first | exact (Kd.C_below HR0_5.out HB.out) | (with_reducible refine Kd.C_alloc ?_ _) | (with_reducible refine Kd.C_drewN ?_ _) | (with_reducible refine Kd.C_drew ?_)))
                  (case side4 => exact HC0_5.out)
                  (case side5 => repeat (first | exact (Kd.C_below HR0_6.out HB.out) | (with_reducible refine Kd.C_alloc ?_ _) | (with_reducible refine Kd.C_drewN ?_ _) | (with_reducible refine Kd.C_drew ?_)))
                  (case side6 => exact HC0_6.out)
                  rintro e w139 ⟨rfl, hb⟩
                  refine ⟨_, rfl, ?_⟩
                  have n0_ := Aside0.mk (bB (g := gb240) (o := .cells #[.string a0_0, .int .i64 a0_1, .int .i64 a0_2, .int .i64 a0_3, .slice A0_4 l0_4.length c0_4, .slice A0_5 l0_5.length c0_5, .slice A0_6 l0_6.length c0_6, .int .i64 a0_7, .int .i64 a0_8, .int .i64 a0_9, .int .i64 a0_10, .int .i64 a0_11, .int .i64 a0_12, .int .i64 a0_13, .int .i64 a0_14, .int .i64 a0_15, .int .i64 a0_16, .int .i64 a0_17] 26 (0, 0)) (by (with_reducible repeat (first | refine bN ?_ _ | refine bD ?_ | refine bA ?_ _)); exact BK240.out) hb)
                  have n1_ := Aside0.mk (bB (g := gb241) (o := .cells #[.int .i64 a1_0, .int .i64 a1_1] 30 (0, 0)) (by (with_reducible repeat (first | refine bN ?_ _ | refine bD ?_ | refine bA ?_ _)); exact BK241.out) hb)
                  have n2_ := Aside0.mk (bB (g := gb242) (o := .cells #[.int .i64 a2_0, .int .i64 a2_1] 30 (0, 0)) (by (with_reducible repeat (first | refine bN ?_ _ | refine bD ?_ | refine bA ?_ _)); exact BK242.out) hb)
                  have n3_ := Aside0.mk (bB (g := gb243) (o := .cells #[.int .i64 a3_0, .int .i64 a3_1] 30 (0, 0)) (by (with_reducible repeat (first | refine bN ?_ _ | refine bD ?_ | refine bA ?_ _)); exact BK243.out) hb)
                  have n4_ := Aside0.mk (bP (by repeat (first | (with_reducible first | exact HB.out | apply bL | apply bW | apply b1 | refine bS ?_ GE240.out | refine bS ?_ GE241.out | refine bS ?_ GE242.out | refine bS ?_ GE243.out) | exact HB.out)) hb)
                  clear BK240
                  clear BK241
                  clear BK242
                  clear BK243
                  clear HB
                  have BK240 := n0_
                  have BK241 := n1_
                  have BK242 := n2_
                  have BK243 := n3_
                  have HB := n4_
                  clear n0_ n1_ n2_ n3_ n4_
                  (try clear hb)
                  (try clear hb2)
                  (try clear hk)
                  (try clear hi)
                  refine hK.out _ _ ⟨(bC BK240.out 0).trans rfl, (bC BK240.out 1).trans rfl, (bC BK240.out 2).trans rfl, (bC BK240.out 3).trans rfl, (bC BK240.out 4).trans rfl, (bC BK240.out 5).trans rfl, (bC BK240.out 6).trans rfl, (bC BK240.out 7).trans rfl, (bC BK240.out 8).trans rfl, (bC BK240.out 9).trans rfl, (bC BK240.out 10).trans rfl, (bC BK240.out 11).trans rfl, (bC BK240.out 12).trans rfl, (bC BK240.out 13).trans rfl, (bC BK240.out 14).trans rfl, (bC BK240.out 15).trans rfl, (bC BK240.out 16).trans rfl, (bC BK240.out 17).trans rfl, (bC BK241.out 0).trans rfl, (bC BK241.out 1).trans rfl, (bC BK242.out 0).trans rfl, (bC BK242.out 1).trans rfl⟩ (fun hHeld => ?_)
                  clear hK K
                  refine norm_ (a' := ?_) ?_ ?_
                  rotate_left
                  ·
                   show Act.put _ (some 72) _ = _
                   simp only [Act.put, lA, lZ, lS, i64_w, i32_w]
                   rfl
                  as_aux_lemma =>
                   refine pure_ (i := 12) (N := some 73) (v := ?_) (a' := ?_) #[t_,t_,t_,t_,t_,t_,t_,t_,t_,t_,t_,t_,t_,f_,f_,f_,f_,f_,f_,f_,f_,f_,f_,f_,f_,f_,f_,f_] rfl rfl (any_of HT_.out (by kernel_rfl)) (fun _ _ _ h => h) (Or.inl ⟨by rfl, ?_⟩) ?_ ?_
                   rotate_left
                   ·
                    intro w'
                    go_simp
                    with_reducible rfl
                   rotate_left
                   ·
                    simp only [Act.put, lA, lZ, lS, i64_w, i32_w]
                    rfl
                   as_aux_lemma =>
                    refine pure_ (i := 13) (N := some 74) (v := ?_) (a' := ?_) #[t_,t_,t_,t_,t_,t_,t_,t_,t_,t_,t_,t_,t_,t_,f_,f_,f_,f_,f_,f_,f_,f_,f_,f_,f_,f_,f_,f_] rfl rfl (any_of HT_.out (by kernel_rfl)) (fun _ _ _ h => h) (Or.inl ⟨by rfl, ?_⟩) ?_ ?_
                    rotate_left
                    ·
                     intro w'
                     go_simp
                     with_reducible rfl
                    rotate_left
                    ·
                     simp only [Act.put, lA, lZ, lS, i64_w, i32_w]
                     rfl
                    as_aux_lemma =>
                     refine pure_ (i := 15) (N := some 76) (v := ?_) (a' := ?_) #[t_,t_,t_,t_,t_,t_,t_,t_,t_,t_,t_,t_,t_,t_,f_,t_,f_,f_,f_,f_,f_,f_,f_,f_,f_,f_,f_,f_] rfl rfl (any_of HT_.out (by kernel_rfl)) (fun _ _ _ h => h) (Or.inl ⟨by rfl, ?_⟩) ?_ ?_
                     rotate_left
                     ·
                      intro w'
                      go_simp
                      with_reducible rfl
                     rotate_left
                     ·
                      simp only [Act.put, lA, lZ, lS, i64_w, i32_w]
                      rfl
                     as_aux_lemma =>
                      refine pure_ (i := 17) (N := some 78) (v := ?_) (a' := ?_) #[t_,t_,t_,t_,t_,t_,t_,t_,t_,t_,t_,t_,t_,t_,f_,t_,f_,t_,f_,f_,f_,f_,f_,f_,f_,f_,f_,f_] rfl rfl (any_of HT_.out (by kernel_rfl)) (fun _ _ _ h => h) (Or.inl ⟨by rfl, ?_⟩) ?_ ?_
                      rotate_left
                      ·
                       intro w'
                       go_simp
                       with_reducible rfl
                      rotate_left
                      ·
                       simp only [Act.put, lA, lZ, lS, i64_w, i32_w]
                       rfl
                      as_aux_lemma =>
                       refine pure_ (i := 21) (N := some 82) (v := ?_) (a' := ?_) #[t_,t_,t_,t_,t_,t_,t_,t_,t_,t_,t_,t_,t_,t_,f_,t_,f_,t_,f_,f_,f_,t_,f_,f_,f_,f_,f_,f_] rfl rfl (any_of HT_.out (by kernel_rfl)) (fun _ _ _ h => h) (Or.inl ⟨by rfl, ?_⟩) ?_ ?_
                       rotate_left
                       ·
                        intro w'
                        go_simp
                        with_reducible rfl
                       rotate_left
                       ·
                        simp only [Act.put, lA, lZ, lS, i64_w, i32_w]
                        rfl
                       as_aux_lemma =>
                        refine pure_ (i := 23) (N := some 84) (v := ?_) (a' := ?_) #[t_,t_,t_,t_,t_,t_,t_,t_,t_,t_,t_,t_,t_,t_,f_,t_,f_,t_,f_,f_,f_,t_,f_,t_,f_,f_,f_,f_] rfl rfl (any_of HT_.out (by kernel_rfl)) (fun _ _ _ h => h) (Or.inl ⟨by rfl, ?_⟩) ?_ ?_
                        rotate_left
                        ·
                         intro w'
                         go_simp
                         with_reducible rfl
                        rotate_left
                        ·
                         simp only [Act.put, lA, lZ, lS, i64_w, i32_w]
                         rfl
                        as_aux_lemma =>
                         refine take_ (i := 14) (N := some 75) (v := ?_) (a' := ?_) #[t_,t_,t_,t_,t_,t_,t_,t_,t_,t_,t_,t_,t_,t_,t_,t_,f_,t_,f_,f_,f_,t_,f_,t_,f_,f_,f_,f_] rfl rfl (take_ofW HT_.out HW_.out (by kernel_rfl)) (fun _ _ _ h => h) (Or.inl ⟨by rfl, ?_⟩) hHeld ?_ ?_
                         rotate_left
                         ·
                          rintro w' ⟨s0, s1, s2, s3, s4, s5, s6, s7, s8, s9, s10, s11, s12, s13, s14, s15, s16, s17, s18, s19, s20, s21⟩
                          first | (refine (load18 (by rfl) (by rfl) hu26 rfl hi26 s0 s1 s2 s3 s4 s5 s6 s7 s8 s9 s10 s11 s12 s13 s14 s15 s16 s17).trans ?_; with_reducible rfl) | (go_simp; with_reducible rfl)
                         rotate_left
                         ·
                          simp only [Act.put, lA, lZ, lS, i64_w, i32_w]
                          rfl
                         as_aux_lemma =>
                          refine take_ (i := 16) (N := some 77) (v := ?_) (a' := ?_) #[t_,t_,t_,t_,t_,t_,t_,t_,t_,t_,t_,t_,t_,t_,t_,t_,t_,t_,f_,f_,f_,t_,f_,t_,f_,f_,f_,f_] rfl rfl (take_ofW HT_.out HW_.out (by kernel_rfl)) (fun _ _ _ h => h) (Or.inl ⟨by rfl, ?_⟩) hHeld ?_ ?_
                          rotate_left
                          ·
                           rintro w' ⟨s0, s1, s2, s3, s4, s5, s6, s7, s8, s9, s10, s11, s12, s13, s14, s15, s16, s17, s18, s19, s20, s21⟩
                           first | (refine (load18 (by rfl) (by rfl) hu26 rfl hi26 s0 s1 s2 s3 s4 s5 s6 s7 s8 s9 s10 s11 s12 s13 s14 s15 s16 s17).trans ?_; with_reducible rfl) | (go_simp; with_reducible rfl)
                          rotate_left
                          ·
                           simp only [Act.put, lA, lZ, lS, i64_w, i32_w]
                           rfl
                          as_aux_lemma =>
                           refine take_ (i := 18) (N := some 79) (v := ?_) (a' := ?_) #[t_,t_,t_,t_,t_,t_,t_,t_,t_,t_,t_,t_,t_,t_,t_,t_,t_,t_,t_,f_,f_,t_,f_,t_,f_,f_,f_,f_] rfl rfl (take_ofW HT_.out HW_.out (by kernel_rfl)) (fun _ _ _ h => h) (Or.inl ⟨by rfl, ?_⟩) hHeld ?_ ?_
                           rotate_left
                           ·
                            rintro w' ⟨s0, s1, s2, s3, s4, s5, s6, s7, s8, s9, s10, s11, s12, s13, s14, s15, s16, s17, s18, s19, s20, s21⟩
                            first | (refine (load18 (by rfl) (by rfl) hu26 rfl hi26 s0 s1 s2 s3 s4 s5 s6 s7 s8 s9 s10 s11 s12 s13 s14 s15 s16 s17).trans ?_; with_reducible rfl) | (go_simp; with_reducible rfl)
                           rotate_left
                           ·
                            simp only [Act.put, lA, lZ, lS, i64_w, i32_w]
                            rfl
                           as_aux_lemma =>
                            refine take_ (i := 20) (N := some 81) (v := ?_) (a' := ?_) #[t_,t_,t_,t_,t_,t_,t_,t_,t_,t_,t_,t_,t_,t_,t_,t_,t_,t_,t_,f_,t_,t_,f_,t_,f_,f_,f_,f_] rfl rfl (take_ofW HT_.out HW_.out (by kernel_rfl)) (fun _ _ _ h => h) (Or.inl ⟨by rfl, ?_⟩) hHeld ?_ ?_
                            rotate_left
                            ·
                             rintro w' ⟨s0, s1, s2, s3, s4, s5, s6, s7, s8, s9, s10, s11, s12, s13, s14, s15, s16, s17, s18, s19, s20, s21⟩
                             first | (refine (load18 (by rfl) (by rfl) hu26 rfl hi26 s0 s1 s2 s3 s4 s5 s6 s7 s8 s9 s10 s11 s12 s13 s14 s15 s16 s17).trans ?_; with_reducible rfl) | (go_simp; with_reducible rfl)
                            rotate_left
                            ·
                             simp only [Act.put, lA, lZ, lS, i64_w, i32_w]
                             rfl
                            as_aux_lemma =>
                             refine take_ (i := 22) (N := some 83) (v := ?_) (a' := ?_) #[t_,t_,t_,t_,t_,t_,t_,t_,t_,t_,t_,t_,t_,t_,t_,t_,t_,t_,t_,f_,t_,t_,t_,t_,f_,f_,f_,f_] rfl rfl (take_ofW HT_.out HW_.out (by kernel_rfl)) (fun _ _ _ h => h) (Or.inl ⟨by rfl, ?_⟩) hHeld ?_ ?_
                             rotate_left
                             ·
                              rintro w' ⟨s0, s1, s2, s3, s4, s5, s6, s7, s8, s9, s10, s11, s12, s13, s14, s15, s16, s17, s18, s19, s20, s21⟩
                              first | (refine (load18 (by rfl) (by rfl) hu26 rfl hi26 s0 s1 s2 s3 s4 s5 s6 s7 s8 s9 s10 s11 s12 s13 s14 s15 s16 s17).trans ?_; with_reducible rfl) | (go_simp; with_reducible rfl)
                             rotate_left
                             ·
                              simp only [Act.put, lA, lZ, lS, i64_w, i32_w]
                              rfl
                             as_aux_lemma =>
                              refine take_ (i := 24) (N := some 85) (v := ?_) (a' := ?_) #[t_,t_,t_,t_,t_,t_,t_,t_,t_,t_,t_,t_,t_,t_,t_,t_,t_,t_,t_,f_,t_,t_,t_,t_,t_,f_,f_,f_] rfl rfl (take_ofW HT_.out HW_.out (by kernel_rfl)) (fun _ _ _ h => h) (Or.inl ⟨by rfl, ?_⟩) hHeld ?_ ?_
                              rotate_left
                              ·
                               rintro w' ⟨s0, s1, s2, s3, s4, s5, s6, s7, s8, s9, s10, s11, s12, s13, s14, s15, s16, s17, s18, s19, s20, s21⟩
                               first | (refine (load18 (by rfl) (by rfl) hu26 rfl hi26 s0 s1 s2 s3 s4 s5 s6 s7 s8 s9 s10 s11 s12 s13 s14 s15 s16 s17).trans ?_; with_reducible rfl) | (go_simp; with_reducible rfl)
                              rotate_left
                              ·
                               simp only [Act.put, lA, lZ, lS, i64_w, i32_w]
                               rfl
                              as_aux_lemma =>
                               refine one_ (i := 19) (N := some 80) #[t_,t_,t_,t_,t_,t_,t_,t_,t_,t_,t_,t_,t_,t_,t_,t_,t_,t_,t_,t_,t_,t_,t_,t_,t_,f_,f_,f_] rfl rfl (one_of HT_.out (by kernel_rfl)) (by decide) (fun K hK => ?_)
                               refine goes_ Try.func10 (by kernel_rfl) rfl #[.agg #[.string a0_0, .int .i64 a0_1, .int .i64 a0_2, .int .i64 a0_3, .slice A0_4 l0_4.length c0_4, .slice A0_5 l0_5.length c0_5, .slice A0_6 l0_6.length c0_6, .int .i64 a0_7, .int .i64 a0_8, .int .i64 a0_9, .int .i64 a0_10, .int .i64 a0_11, .int .i64 a0_12, .int .i64 a0_13, .int .i64 a0_14, .int .i64 a0_15, .int .i64 a0_16, .int .i64 a0_17], .int .i64 a1_0, .int .i64 a2_0] (by rfl) rfl rfl (by (try simp only [List.map_toArray, List.map_cons, List.map_nil]); first | done | rfl | (simp only [List.length_drop, List.length_take]; rfl)) ?_
                               with_reducible refine (seep_Ask.calls kj5 a0_0 a0_1 a0_2 a0_3 _ _ l0_4 _ _ l0_5 _ _ l0_6 a0_7 a0_8 a0_9 a0_10 a0_11 a0_12 a0_13 a0_14 a0_15 a0_16 a0_17 a1_0 a2_0 t250 _ ?side1 ?side2 ?side3 ?side4 ?side5 ?side6 A135.out).mono ?_
                               (case side1 => repeat (first | exact (Kd.C_below HR0_4.out HB.out) | (with_reducible refine Kd.C_alloc ?_ _) | (with_reducible refine Kd.C_drewN ?_ _) | (with_reducible refine Kd.C_drew ?_)))
                               (case side2 => exact HC0_4.out)
                               (case side3 => repeat (first | exact (Kd.C_below HR0_5.out HB.out) | (with_reducible refine Kd.C_alloc ?_ _) | (with_reducible refine Kd.C_drewN ?_ _) | (with_reducible refine Kd.C_drew ?_)))
                               (case side4 => exact HC0_5.out)
                               (case side5 => repeat (first | exact (Kd.C_below HR0_6.out HB.out) | (with_reducible refine Kd.C_alloc ?_ _) | (with_reducible refine Kd.C_drewN ?_ _) | (with_reducible refine Kd.C_drew ?_)))
                               (case side6 => exact HC0_6.out)
                               rintro e w140 ⟨rfl, hb⟩
                               refine ⟨_, rfl, ?_⟩
                               have n0_ := Aside0.mk (bB (g := gb240) (o := .cells #[.string a0_0, .int .i64 a0_1, .int .i64 a0_2, .int .i64 a0_3, .slice A0_4 l0_4.length c0_4, .slice A0_5 l0_5.length c0_5, .slice A0_6 l0_6.length c0_6, .int .i64 a0_7, .int .i64 a0_8, .int .i64 a0_9, .int .i64 a0_10, .int .i64 a0_11, .int .i64 a0_12, .int .i64 a0_13, .int .i64 a0_14, .int .i64 a0_15, .int .i64 a0_16, .int .i64 a0_17] 26 (0, 0)) (by (with_reducible repeat (first | refine bN ?_ _ | refine bD ?_ | refine bA ?_ _)); exact BK240.out) hb)
                               have n1_ := Aside0.mk (bB (g := gb241) (o := .cells #[.int .i64 a1_0, .int .i64 a1_1] 30 (0, 0)) (by (with_reducible repeat (first | refine bN ?_ _ | refine bD ?_ | refine bA ?_ _)); exact BK241.out) hb)
                               have n2_ := Aside0.mk (bB (g := gb242) (o := .cells #[.int .i64 a2_0, .int .i64 a2_1] 30 (0, 0)) (by (with_reducible repeat (first | refine bN ?_ _ | refine bD ?_ | refine bA ?_ _)); exact BK242.out) hb)
                               have n3_ := Aside0.mk (bB (g := gb243) (o := .cells #[.int .i64 a3_0, .int .i64 a3_1] 30 (0, 0)) (by (with_reducible repeat (first | refine bN ?_ _ | refine bD ?_ | refine bA ?_ _)); exact BK243.out) hb)
                               have n4_ := Aside0.mk (bP (by repeat (first | (with_reducible first | exact HB.out | apply bL | apply bW | apply b1 | refine bS ?_ GE240.out | refine bS ?_ GE241.out | refine bS ?_ GE242.out | refine bS ?_ GE243.out) | exact HB.out)) hb)
                               clear BK240
                               clear BK241
                               clear BK242
                               clear BK243
                               clear HB
                               have BK240 := n0_
                               have BK241 := n1_
                               have BK242 := n2_
                               have BK243 := n3_
                               have HB := n4_
                               clear n0_ n1_ n2_ n3_ n4_
                               (try clear hb)
                               (try clear hb2)
                               (try clear hk)
                               (try clear hi)
                               refine hK.out _ _ ⟨(bC BK240.out 0).trans rfl, (bC BK240.out 1).trans rfl, (bC BK240.out 2).trans rfl, (bC BK240.out 3).trans rfl, (bC BK240.out 4).trans rfl, (bC BK240.out 5).trans rfl, (bC BK240.out 6).trans rfl, (bC BK240.out 7).trans rfl, (bC BK240.out 8).trans rfl, (bC BK240.out 9).trans rfl, (bC BK240.out 10).trans rfl, (bC BK240.out 11).trans rfl, (bC BK240.out 12).trans rfl, (bC BK240.out 13).trans rfl, (bC BK240.out 14).trans rfl, (bC BK240.out 15).trans rfl, (bC BK240.out 16).trans rfl, (bC BK240.out 17).trans rfl, (bC BK241.out 0).trans rfl, (bC BK241.out 1).trans rfl, (bC BK242.out 0).trans rfl, (bC BK242.out 1).trans rfl⟩ (fun hHeld => ?_)
                               clear hK K
                               refine norm_ (a' := ?_) ?_ ?_
                               rotate_left
                               ·
                                show Act.put _ (some 80) _ = _
                                simp only [Act.put, lA, lZ, lS, i64_w, i32_w]
                                rfl
                               as_aux_lemma =>
                                refine one_ (i := 25) (N := some 86) #[t_,t_,t_,t_,t_,t_,t_,t_,t_,t_,t_,t_,t_,t_,t_,t_,t_,t_,t_,t_,t_,t_,t_,t_,t_,t_,f_,f_] rfl rfl (one_of HT_.out (by kernel_rfl)) (by decide) (fun K hK => ?_)
                                refine goes_ Try.func10 (by kernel_rfl) rfl #[.agg #[.string a0_0, .int .i64 a0_1, .int .i64 a0_2, .int .i64 a0_3, .slice A0_4 l0_4.length c0_4, .slice A0_5 l0_5.length c0_5, .slice A0_6 l0_6.length c0_6, .int .i64 a0_7, .int .i64 a0_8, .int .i64 a0_9, .int .i64 a0_10, .int .i64 a0_11, .int .i64 a0_12, .int .i64 a0_13, .int .i64 a0_14, .int .i64 a0_15, .int .i64 a0_16, .int .i64 a0_17], .int .i64 a1_0, .int .i64 a2_1] (by rfl) rfl rfl (by (try simp only [List.map_toArray, List.map_cons, List.map_nil]); first | done | rfl | (simp only [List.length_drop, List.length_take]; rfl)) ?_
                                with_reducible refine (seep_Ask.calls kj5 a0_0 a0_1 a0_2 a0_3 _ _ l0_4 _ _ l0_5 _ _ l0_6 a0_7 a0_8 a0_9 a0_10 a0_11 a0_12 a0_13 a0_14 a0_15 a0_16 a0_17 a1_0 a2_1 t251 _ ?side1 ?side2 ?side3 ?side4 ?side5 ?side6 A136.out).mono ?_
                                (case side1 => repeat (first | exact (Kd.C_below HR0_4.out HB.out) | (with_reducible refine Kd.C_alloc ?_ _) | (with_reducible refine Kd.C_drewN ?_ _) | (with_reducible refine Kd.C_drew ?_)))
                                (case side2 => exact HC0_4.out)
                                (case side3 => repeat (first | exact (Kd.C_below HR0_5.out HB.out) | (with_reducible refine Kd.C_alloc ?_ _) | (with_reducible refine Kd.C_drewN ?_ _) | (with_reducible refine Kd.C_drew ?_)))
                                (case side4 => exact HC0_5.out)
                                (case side5 => repeat (first | exact (Kd.C_below HR0_6.out HB.out) | (with_reducible refine Kd.C_alloc ?_ _) | (with_reducible refine Kd.C_drewN ?_ _) | (with_reducible refine Kd.C_drew ?_)))
                                (case side6 => exact HC0_6.out)
                                rintro e w141 ⟨rfl, hb⟩
                                refine ⟨_, rfl, ?_⟩
                                have n0_ := Aside0.mk (bB (g := gb240) (o := .cells #[.string a0_0, .int .i64 a0_1, .int .i64 a0_2, .int .i64 a0_3, .slice A0_4 l0_4.length c0_4, .slice A0_5 l0_5.length c0_5, .slice A0_6 l0_6.length c0_6, .int .i64 a0_7, .int .i64 a0_8, .int .i64 a0_9, .int .i64 a0_10, .int .i64 a0_11, .int .i64 a0_12, .int .i64 a0_13, .int .i64 a0_14, .int .i64 a0_15, .int .i64 a0_16, .int .i64 a0_17] 26 (0, 0)) (by (with_reducible repeat (first | refine bN ?_ _ | refine bD ?_ | refine bA ?_ _)); exact BK240.out) hb)
                                have n1_ := Aside0.mk (bB (g := gb241) (o := .cells #[.int .i64 a1_0, .int .i64 a1_1] 30 (0, 0)) (by (with_reducible repeat (first | refine bN ?_ _ | refine bD ?_ | refine bA ?_ _)); exact BK241.out) hb)
                                have n2_ := Aside0.mk (bB (g := gb242) (o := .cells #[.int .i64 a2_0, .int .i64 a2_1] 30 (0, 0)) (by (with_reducible repeat (first | refine bN ?_ _ | refine bD ?_ | refine bA ?_ _)); exact BK242.out) hb)
                                have n3_ := Aside0.mk (bB (g := gb243) (o := .cells #[.int .i64 a3_0, .int .i64 a3_1] 30 (0, 0)) (by (with_reducible repeat (first | refine bN ?_ _ | refine bD ?_ | refine bA ?_ _)); exact BK243.out) hb)
                                have n4_ := Aside0.mk (bP (by repeat (first | (with_reducible first | exact HB.out | apply bL | apply bW | apply b1 | refine bS ?_ GE240.out | refine bS ?_ GE241.out | refine bS ?_ GE242.out | refine bS ?_ GE243.out) | exact HB.out)) hb)
                                clear BK240
                                clear BK241
                                clear BK242
                                clear BK243
                                clear HB
                                have BK240 := n0_
                                have BK241 := n1_
                                have BK242 := n2_
                                have BK243 := n3_
                                have HB := n4_
                                clear n0_ n1_ n2_ n3_ n4_
                                (try clear hb)
                                (try clear hb2)
                                (try clear hk)
                                (try clear hi)
                                refine hK.out _ _ ⟨(bC BK240.out 0).trans rfl, (bC BK240.out 1).trans rfl, (bC BK240.out 2).trans rfl, (bC BK240.out 3).trans rfl, (bC BK240.out 4).trans rfl, (bC BK240.out 5).trans rfl, (bC BK240.out 6).trans rfl, (bC BK240.out 7).trans rfl, (bC BK240.out 8).trans rfl, (bC BK240.out 9).trans rfl, (bC BK240.out 10).trans rfl, (bC BK240.out 11).trans rfl, (bC BK240.out 12).trans rfl, (bC BK240.out 13).trans rfl, (bC BK240.out 14).trans rfl, (bC BK240.out 15).trans rfl, (bC BK240.out 16).trans rfl, (bC BK240.out 17).trans rfl, (bC BK241.out 0).trans rfl, (bC BK241.out 1).trans rfl, (bC BK242.out 0).trans rfl, (bC BK242.out 1).trans rfl⟩ (fun hHeld => ?_)
                                clear hK K
                                refine norm_ (a' := ?_) ?_ ?_
                                rotate_left
                                ·
                                 show Act.put _ (some 86) _ = _
                                 simp only [Act.put, lA, lZ, lS, i64_w, i32_w]
                                 rfl
                                as_aux_lemma =>
                                 refine pure_ (i := 26) (N := some 87) (v := ?_) (a' := ?_) #[t_,t_,t_,t_,t_,t_,t_,t_,t_,t_,t_,t_,t_,t_,t_,t_,t_,t_,t_,t_,t_,t_,t_,t_,t_,t_,t_,f_] rfl rfl (any_of HT_.out (by kernel_rfl)) (fun _ _ _ h => h) (Or.inl ⟨by rfl, ?_⟩) ?_ ?_
                                 rotate_left
                                 ·
                                  intro w'
                                  go_simp
                                  with_reducible rfl
                                 rotate_left
                                 ·
                                  simp only [Act.put, lA, lZ, lS, i64_w, i32_w]
                                  rfl
                                 as_aux_lemma =>
                                  refine pure_ (i := 27) (N := some 88) (v := ?_) (a' := ?_) #[t_,t_,t_,t_,t_,t_,t_,t_,t_,t_,t_,t_,t_,t_,t_,t_,t_,t_,t_,t_,t_,t_,t_,t_,t_,t_,t_,t_] rfl rfl (any_of HT_.out (by kernel_rfl)) (fun _ _ _ h => h) (Or.inl ⟨by rfl, ?_⟩) ?_ ?_
                                  rotate_left
                                  ·
                                   intro w'
                                   go_simp
                                   with_reducible rfl
                                  rotate_left
                                  ·
                                   simp only [Act.put, lA, lZ, lS, i64_w, i32_w]
                                   rfl
                                  refine done_ (done_of HT_.out (by kernel_rfl)) ?_
                                  try go_wp2
                                  go_meet
                                  case rel => exact ⟨_, (decide (t250 < t251)), (by first | rfl | (simp; done) | (simp [*]; done)), H', ⟨by have := HJ5.out; first | omega | exact Nat.le_refl _⟩, ⟨by (with_reducible repeat (first | refine bN ?_ _ | refine bD ?_ | refine bA ?_ _)); exact BK240.out⟩, ⟨by (with_reducible repeat (first | refine bN ?_ _ | refine bD ?_ | refine bA ?_ _)); exact BK241.out⟩, ⟨by (with_reducible repeat (first | refine bN ?_ _ | refine bD ?_ | refine bA ?_ _)); exact BK242.out⟩, ⟨by (with_reducible repeat (first | refine bN ?_ _ | refine bD ?_ | refine bA ?_ _)); exact BK243.out⟩, ⟨by repeat (first | (with_reducible first | exact HB.out | apply bL | apply bW | apply b1 | refine bS ?_ GE240.out | refine bS ?_ GE241.out | refine bS ?_ GE242.out | refine bS ?_ GE243.out) | exact HB.out)⟩⟩
    case rest =>
     clear HC128
     try clear c1
     try clear p2
     try clear c10
     try clear c13
     try clear c131
     try clear c131b0
     obtain ⟨kq, x88_127, rfl, HA, HJ127, BK240, BK241, BK242, BK243, HB⟩ := hcut
     cases kq with
     | zero => exact absurd HA.out (by simp [bournelaw20_SeepGrows.j1])
     | succ kj127 =>
      have H := HA.out
      clear HA
      simp only [bournelaw20_SeepGrows.j1] at H
      by_cases c142 : x88_127 = true
      ·
       subst c142
       have H1 : (some false) = some r := by rw [if_pos rfl] at H; exact H
       clear H
       have H := H1
       clear H1
       exact absurd (H.trans (congrArg some hT.out)) (by simp)
      ·
       replace c142 := Bool.eq_false_iff.mpr c142
       subst c142
       have H1 : ((span_Meet.f a1_0 a1_1 a3_0 a3_1).bind fun bt252 => (if bt252.2.2 = true then (if t244 = true then ((seep_Bounds.f kj127 a0_0 a0_1 a0_2 a0_3 l0_4 l0_5 l0_6 a0_7 a0_8 a0_9 a0_10 a0_11 a0_12 a0_13 a0_14 a0_15 a0_16 a0_17 bt252.1 bt252.2.1 a2_0 a2_1).bind fun bt256 => ((seep_Bounds.f kj127 a0_0 a0_1 a0_2 a0_3 l0_4 l0_5 l0_6 a0_7 a0_8 a0_9 a0_10 a0_11 a0_12 a0_13 a0_14 a0_15 a0_16 a0_17 a1_0 a1_1 a2_0 a2_1).bind fun bt258 => ((span_Within.f bt256.1 bt256.2 bt258.1 bt258.2).bind fun t260 => (if t260 = true then ((seep_Bounds.f kj127 a0_0 a0_1 a0_2 a0_3 l0_4 l0_5 l0_6 a0_7 a0_8 a0_9 a0_10 a0_11 a0_12 a0_13 a0_14 a0_15 a0_16 a0_17 a2_0 a2_1 bt252.1 bt252.2.1).bind fun bt261 => ((seep_Bounds.f kj127 a0_0 a0_1 a0_2 a0_3 l0_4 l0_5 l0_6 a0_7 a0_8 a0_9 a0_10 a0_11 a0_12 a0_13 a0_14 a0_15 a0_16 a0_17 a2_0 a2_1 a3_0 a3_1).bind fun bt263 => ((span_Within.f bt261.1 bt261.2 bt263.1 bt263.2).bind fun t265 => (some t265)))) else (some false))))) else (some false)) else (some t244))) = some r := by rw [if_neg (show ¬ (false = true) by decide)] at H; exact H
       clear H
       have H := H1
       clear H1
       replace H := Option.bind_eq_some_iff.mp H
       obtain ⟨⟨t252, t253, t254⟩, A1430, H⟩ := H
       dsimp only at H
       have A143 := Aside0.mk A1430
       clear A1430
       by_cases c144 : t254 = true
       ·
        subst c144
        have H1 : (if t244 = true then ((seep_Bounds.f kj127 a0_0 a0_1 a0_2 a0_3 l0_4 l0_5 l0_6 a0_7 a0_8 a0_9 a0_10 a0_11 a0_12 a0_13 a0_14 a0_15 a0_16 a0_17 t252 t253 a2_0 a2_1).bind fun bt256 => ((seep_Bounds.f kj127 a0_0 a0_1 a0_2 a0_3 l0_4 l0_5 l0_6 a0_7 a0_8 a0_9 a0_10 a0_11 a0_12 a0_13 a0_14 a0_15 a0_16 a0_17 a1_0 a1_1 a2_0 a2_1).bind fun bt258 => ((span_Within.f bt256.1 bt256.2 bt258.1 bt258.2).bind fun t260 => (if t260 = true then ((seep_Bounds.f kj127 a0_0 a0_1 a0_2 a0_3 l0_4 l0_5 l0_6 a0_7 a0_8 a0_9 a0_10 a0_11 a0_12 a0_13 a0_14 a0_15 a0_16 a0_17 a2_0 a2_1 t252 t253).bind fun bt261 => ((seep_Bounds.f kj127 a0_0 a0_1 a0_2 a0_3 l0_4 l0_5 l0_6 a0_7 a0_8 a0_9 a0_10 a0_11 a0_12 a0_13 a0_14 a0_15 a0_16 a0_17 a2_0 a2_1 a3_0 a3_1).bind fun bt263 => ((span_Within.f bt261.1 bt261.2 bt263.1 bt263.2).bind fun t265 => (some t265)))) else (some false))))) else (some false)) = some r := by rw [if_pos rfl] at H; exact H
        clear H
        have H := H1
        clear H1
        by_cases c145 : t244 = true
        ·
         subst c145
         have H1 : ((seep_Bounds.f kj127 a0_0 a0_1 a0_2 a0_3 l0_4 l0_5 l0_6 a0_7 a0_8 a0_9 a0_10 a0_11 a0_12 a0_13 a0_14 a0_15 a0_16 a0_17 t252 t253 a2_0 a2_1).bind fun bt256 => ((seep_Bounds.f kj127 a0_0 a0_1 a0_2 a0_3 l0_4 l0_5 l0_6 a0_7 a0_8 a0_9 a0_10 a0_11 a0_12 a0_13 a0_14 a0_15 a0_16 a0_17 a1_0 a1_1 a2_0 a2_1).bind fun bt258 => ((span_Within.f bt256.1 bt256.2 bt258.1 bt258.2).bind fun t260 => (if t260 = true then ((seep_Bounds.f kj127 a0_0 a0_1 a0_2 a0_3 l0_4 l0_5 l0_6 a0_7 a0_8 a0_9 a0_10 a0_11 a0_12 a0_13 a0_14 a0_15 a0_16 a0_17 a2_0 a2_1 t252 t253).bind fun bt261 => ((seep_Bounds.f kj127 a0_0 a0_1 a0_2 a0_3 l0_4 l0_5 l0_6 a0_7 a0_8 a0_9 a0_10 a0_11 a0_12 a0_13 a0_14 a0_15 a0_16 a0_17 a2_0 a2_1 a3_0 a3_1).bind fun bt263 => ((span_Within.f bt261.1 bt261.2 bt263.1 bt263.2).bind fun t265 => (some t265)))) else (some false))))) = some r := by rw [if_pos rfl] at H; exact H
         clear H
         have H := H1
         clear H1
         replace H := Option.bind_eq_some_iff.mp H
         obtain ⟨⟨t256, t257⟩, A1460, H⟩ := H
         dsimp only at H
         have A146 := Aside0.mk A1460
         clear A1460
         replace H := Option.bind_eq_some_iff.mp H
         obtain ⟨⟨t258, t259⟩, A1470, H⟩ := H
         dsimp only at H
         have A147 := Aside0.mk A1470
         clear A1470
         replace H := Option.bind_eq_some_iff.mp H
         obtain ⟨t260, A1480, H⟩ := H
         have A148 := Aside0.mk A1480
         clear A1480
         by_cases c149 : t260 = true
         ·
          subst c149
          have H1 : ((seep_Bounds.f kj127 a0_0 a0_1 a0_2 a0_3 l0_4 l0_5 l0_6 a0_7 a0_8 a0_9 a0_10 a0_11 a0_12 a0_13 a0_14 a0_15 a0_16 a0_17 a2_0 a2_1 t252 t253).bind fun bt261 => ((seep_Bounds.f kj127 a0_0 a0_1 a0_2 a0_3 l0_4 l0_5 l0_6 a0_7 a0_8 a0_9 a0_10 a0_11 a0_12 a0_13 a0_14 a0_15 a0_16 a0_17 a2_0 a2_1 a3_0 a3_1).bind fun bt263 => ((span_Within.f bt261.1 bt261.2 bt263.1 bt263.2).bind fun t265 => (some t265)))) = some r := by rw [if_pos rfl] at H; exact H
          clear H
          have H := H1
          clear H1
          replace H := Option.bind_eq_some_iff.mp H
          obtain ⟨⟨t261, t262⟩, A1500, H⟩ := H
          dsimp only at H
          have A150 := Aside0.mk A1500
          clear A1500
          replace H := Option.bind_eq_some_iff.mp H
          obtain ⟨⟨t263, t264⟩, A1510, H⟩ := H
          dsimp only at H
          have A151 := Aside0.mk A1510
          clear A1510
          replace H := Option.bind_eq_some_iff.mp H
          obtain ⟨t265, A1520, H⟩ := H
          have A152 := Aside0.mk A1520
          clear A1520
          obtain rfl := Option.some.inj H
          have hnb153 := NB241_240.out
          have hnc153 := NB240_241.out
          have hnb154 := NB241_242.out
          have hnc154 := NB242_241.out
          have hnb155 := NB241_243.out
          have hnc155 := NB243_241.out
          have hcz156_0 : wc.cell? ⟨gb241, 0, none⟩ = some (.int .i64 a1_0) := (bC BK241.out 0).trans rfl
          have hcz156_1 : wc.cell? ⟨gb241, 1, none⟩ = some (.int .i64 a1_1) := (bC BK241.out 1).trans rfl
          have hfz156_0 := bF BK241.out 0
          have hfz156_1 := bF BK241.out 1
          have hnb157 := NB243_240.out
          have hnc157 := NB240_243.out
          have hnb158 := NB243_242.out
          have hnc158 := NB242_243.out
          have hcz159_0 : wc.cell? ⟨gb243, 0, none⟩ = some (.int .i64 a3_0) := (bC BK243.out 0).trans rfl
          have hcz159_1 : wc.cell? ⟨gb243, 1, none⟩ = some (.int .i64 a3_1) := (bC BK243.out 1).trans rfl
          have hfz159_0 := bF BK243.out 0
          have hfz159_1 := bF BK243.out 1
          try go_wp2_with (first | ((with_reducible refine gate_callee (f := 19) rfl ?_); refine goesL_ (some 92) rfl rfl Try.func19 (by kernel_rfl) rfl #[.agg #[.int .i64 a1_0, .int .i64 a1_1], .agg #[.int .i64 a3_0, .int .i64 a3_1]] rfl (by (try simp only [List.map_toArray, List.map_cons, List.map_nil]); first | done | rfl | (simp only [List.length_drop, List.length_take]; rfl)) ?_; (with_reducible refine (span_Meet.calls a1_0 a1_1 a3_0 a3_1 t252 t253 true _ A143.out).mono ?_); rintro e w160 ⟨rfl, hb⟩; refine ⟨_, rfl, ?_⟩; have n0_ := Aside0.mk (bB (g := gb240) (o := .cells #[.string a0_0, .int .i64 a0_1, .int .i64 a0_2, .int .i64 a0_3, .slice A0_4 l0_4.length c0_4, .slice A0_5 l0_5.length c0_5, .slice A0_6 l0_6.length c0_6, .int .i64 a0_7, .int .i64 a0_8, .int .i64 a0_9, .int .i64 a0_10, .int .i64 a0_11, .int .i64 a0_12, .int .i64 a0_13, .int .i64 a0_14, .int .i64 a0_15, .int .i64 a0_16, .int .i64 a0_17] 26 (0, 0)) (by (with_reducible repeat (first | refine bN ?_ _ | refine bD ?_ | refine bA ?_ _)); exact BK240.out) hb); have n1_ := Aside0.mk (bB (g := gb241) (o := .cells #[.int .i64 a1_0, .int .i64 a1_1] 30 (0, 0)) (by (with_reducible repeat (first | refine bN ?_ _ | refine bD ?_ | refine bA ?_ _)); exact BK241.out) hb); have n2_ := Aside0.mk (bB (g := gb242) (o := .cells #[.int .i64 a2_0, .int .i64 a2_1] 30 (0, 0)) (by (with_reducible repeat (first | refine bN ?_ _ | refine bD ?_ | refine bA ?_ _)); exact BK242.out) hb); have n3_ := Aside0.mk (bB (g := gb243) (o := .cells #[.int .i64 a3_0, .int .i64 a3_1] 30 (0, 0)) (by (with_reducible repeat (first | refine bN ?_ _ | refine bD ?_ | refine bA ?_ _)); exact BK243.out) hb); have n4_ := Aside0.mk (bP (by repeat (first | (with_reducible first | exact HB.out | apply bL | apply bW | apply b1 | refine bS ?_ GE240.out | refine bS ?_ GE241.out | refine bS ?_ GE242.out | refine bS ?_ GE243.out) | exact HB.out)) hb); clear BK240; clear BK241; clear BK242; clear BK243; clear HB; have BK240 := n0_; have BK241 := n1_; have BK242 := n2_; have BK243 := n3_; have HB := n4_; clear n0_ n1_ n2_ n3_ n4_; (try clear hb); (try clear hb2); (try clear hk); (try clear hi)) | ((with_reducible refine gate_dst (N := 10) rfl ?_); refine box_event ?hg (N := 10) ?hd (cs := #[.int .i64 0, .int .i64 0]) (t := 30) ?hr ?_; (case hd => rfl); (case hg => rfl); (case hr => first | (go_simp; done) | (go_simp; rfl)); intro gb255 hg w161 hbox hb; have n0_ := Aside0.mk (bB (g := gb240) (o := .cells #[.string a0_0, .int .i64 a0_1, .int .i64 a0_2, .int .i64 a0_3, .slice A0_4 l0_4.length c0_4, .slice A0_5 l0_5.length c0_5, .slice A0_6 l0_6.length c0_6, .int .i64 a0_7, .int .i64 a0_8, .int .i64 a0_9, .int .i64 a0_10, .int .i64 a0_11, .int .i64 a0_12, .int .i64 a0_13, .int .i64 a0_14, .int .i64 a0_15, .int .i64 a0_16, .int .i64 a0_17] 26 (0, 0)) (by (with_reducible repeat (first | refine bN ?_ _ | refine bD ?_ | refine bA ?_ _)); exact BK240.out) hb); have n1_ := Aside0.mk (bB (g := gb241) (o := .cells #[.int .i64 a1_0, .int .i64 a1_1] 30 (0, 0)) (by (with_reducible repeat (first | refine bN ?_ _ | refine bD ?_ | refine bA ?_ _)); exact BK241.out) hb); have n2_ := Aside0.mk (bB (g := gb242) (o := .cells #[.int .i64 a2_0, .int .i64 a2_1] 30 (0, 0)) (by (with_reducible repeat (first | refine bN ?_ _ | refine bD ?_ | refine bA ?_ _)); exact BK242.out) hb); have n3_ := Aside0.mk (bB (g := gb243) (o := .cells #[.int .i64 a3_0, .int .i64 a3_1] 30 (0, 0)) (by (with_reducible repeat (first | refine bN ?_ _ | refine bD ?_ | refine bA ?_ _)); exact BK243.out) hb); have n4_ := Aside0.mk (bP (by repeat (first | (with_reducible first | exact HB.out | apply bL | apply bW | apply b1 | refine bS ?_ GE240.out | refine bS ?_ GE241.out | refine bS ?_ GE242.out | refine bS ?_ GE243.out) | exact HB.out)) hb); have n5_ := Aside0.mk (hbox); have n6_ := Aside0.mk ((by rw [hg]; exact (bZ (by repeat (first | (with_reducible first | exact HB.out | apply bL | apply bW | apply b1 | refine bS ?_ GE240.out | refine bS ?_ GE241.out | refine bS ?_ GE242.out | refine bS ?_ GE243.out) | exact HB.out))) : w.heap.size ≤ gb255)); have n7_ := Aside0.mk ((by rw [hg]; exact (bZ (by repeat (first | (with_reducible first | exact HB.out | apply bL | apply bW | apply b1 | refine bS ?_ GE240.out | refine bS ?_ GE241.out | refine bS ?_ GE242.out | refine bS ?_ GE243.out) | exact HB.out))) : w.heap.size ≤ gb255)); have n8_ := Aside0.mk ((by rw [hg]; exact Nat.ne_of_lt (bT (g := gb240) (o := .cells #[.string a0_0, .int .i64 a0_1, .int .i64 a0_2, .int .i64 a0_3, .slice A0_4 l0_4.length c0_4, .slice A0_5 l0_5.length c0_5, .slice A0_6 l0_6.length c0_6, .int .i64 a0_7, .int .i64 a0_8, .int .i64 a0_9, .int .i64 a0_10, .int .i64 a0_11, .int .i64 a0_12, .int .i64 a0_13, .int .i64 a0_14, .int .i64 a0_15, .int .i64 a0_16, .int .i64 a0_17] 26 (0, 0)) (by (with_reducible repeat (first | refine bN ?_ _ | refine bD ?_ | refine bA ?_ _)); exact BK240.out)) : gb240 ≠ gb255)); have n9_ := Aside0.mk ((by rw [hg]; exact Nat.ne_of_gt (bT (g := gb240) (o := .cells #[.string a0_0, .int .i64 a0_1, .int .i64 a0_2, .int .i64 a0_3, .slice A0_4 l0_4.length c0_4, .slice A0_5 l0_5.length c0_5, .slice A0_6 l0_6.length c0_6, .int .i64 a0_7, .int .i64 a0_8, .int .i64 a0_9, .int .i64 a0_10, .int .i64 a0_11, .int .i64 a0_12, .int .i64 a0_13, .int .i64 a0_14, .int .i64 a0_15, .int .i64 a0_16, .int .i64 a0_17] 26 (0, 0)) (by (with_reducible repeat (first | refine bN ?_ _ | refine bD ?_ | refine bA ?_ _)); exact BK240.out)) : gb255 ≠ gb240)); have n10_ := Aside0.mk ((by rw [hg]; exact Nat.ne_of_lt (bT (g := gb241) (o := .cells #[.int .i64 a1_0, .int .i64 a1_1] 30 (0, 0)) (by (with_reducible repeat (first | refine bN ?_ _ | refine bD ?_ | refine bA ?_ _)); exact BK241.out)) : gb241 ≠ gb255)); have n11_ := Aside0.mk ((by rw [hg]; exact Nat.ne_of_gt (bT (g := gb241) (o := .cells #[.int .i64 a1_0, .int .i64 a1_1] 30 (0, 0)) (by (with_reducible repeat (first | refine bN ?_ _ | refine bD ?_ | refine bA ?_ _)); exact BK241.out)) : gb255 ≠ gb241)); have n12_ := Aside0.mk ((by rw [hg]; exact Nat.ne_of_lt (bT (g := gb242) (o := .cells #[.int .i64 a2_0, .int .i64 a2_1] 30 (0, 0)) (by (with_reducible repeat (first | refine bN ?_ _ | refine bD ?_ | refine bA ?_ _)); exact BK242.out)) : gb242 ≠ gb255)); have n13_ := Aside0.mk ((by rw [hg]; exact Nat.ne_of_gt (bT (g := gb242) (o := .cells #[.int .i64 a2_0, .int .i64 a2_1] 30 (0, 0)) (by (with_reducible repeat (first | refine bN ?_ _ | refine bD ?_ | refine bA ?_ _)); exact BK242.out)) : gb255 ≠ gb242)); have n14_ := Aside0.mk ((by rw [hg]; exact Nat.ne_of_lt (bT (g := gb243) (o := .cells #[.int .i64 a3_0, .int .i64 a3_1] 30 (0, 0)) (by (with_reducible repeat (first | refine bN ?_ _ | refine bD ?_ | refine bA ?_ _)); exact BK243.out)) : gb243 ≠ gb255)); have n15_ := Aside0.mk ((by rw [hg]; exact Nat.ne_of_gt (bT (g := gb243) (o := .cells #[.int .i64 a3_0, .int .i64 a3_1] 30 (0, 0)) (by (with_reducible repeat (first | refine bN ?_ _ | refine bD ?_ | refine bA ?_ _)); exact BK243.out)) : gb255 ≠ gb243)); clear BK240; clear BK241; clear BK242; clear BK243; clear HB; have BK240 := n0_; have BK241 := n1_; have BK242 := n2_; have BK243 := n3_; have HB := n4_; have BK255 := n5_; have GW255 := n6_; have GE255 := n7_; have NB240_255 := n8_; have NB255_240 := n9_; have NB241_255 := n10_; have NB255_241 := n11_; have NB242_255 := n12_; have NB255_242 := n13_; have NB243_255 := n14_; have NB255_243 := n15_; clear n0_ n1_ n2_ n3_ n4_ n5_ n6_ n7_ n8_ n9_ n10_ n11_ n12_ n13_ n14_ n15_; clear hb hbox hg; have hnb162 := NB255_240.out; have hnc162 := NB240_255.out; have hnb163 := NB255_241.out; have hnc163 := NB241_255.out; have hnb164 := NB255_242.out; have hnc164 := NB242_255.out; have hnb165 := NB255_243.out; have hnc165 := NB243_255.out; have hcz166_0 : w161.cell? ⟨gb255, 0, none⟩ = some (.int .i64 0) := (bC BK255.out 0).trans rfl; have hcz166_1 : w161.cell? ⟨gb255, 1, none⟩ = some (.int .i64 0) := (bC BK255.out 1).trans rfl; have hfz166_0 := bF BK255.out 0; have hfz166_1 := bF BK255.out 1) | ((with_reducible refine gate_load 26 4 rfl ?_); refine box_load (g := gb240) (cs := #[.string a0_0, .int .i64 a0_1, .int .i64 a0_2, .int .i64 a0_3, .slice A0_4 l0_4.length c0_4, .slice A0_5 l0_5.length c0_5, .slice A0_6 l0_6.length c0_6, .int .i64 a0_7, .int .i64 a0_8, .int .i64 a0_9, .int .i64 a0_10, .int .i64 a0_11, .int .i64 a0_12, .int .i64 a0_13, .int .i64 a0_14, .int .i64 a0_15, .int .i64 a0_16, .int .i64 a0_17]) ?hw rfl (by (with_reducible repeat (first | refine bN ?_ _ | refine bD ?_ | refine bA ?_ _)); with_reducible exact BK240.out) ?ha hu26 rfl ?hi ?_; (case hw => first | exact wanted_none rfl | rfl); (case ha => first | rfl | (go_simp; done)); (case hi => first | rfl | kernel_rfl)))
          have n0_ : Aside0 (((w161.setCell ⟨gb255, 0, none⟩ (.int .i64 t252)).setCell ⟨gb255, 1, none⟩ (.int .i64 t253)).heap[gb240]? = some (.cells #[.string a0_0, .int .i64 a0_1, .int .i64 a0_2, .int .i64 a0_3, .slice A0_4 l0_4.length c0_4, .slice A0_5 l0_5.length c0_5, .slice A0_6 l0_6.length c0_6, .int .i64 a0_7, .int .i64 a0_8, .int .i64 a0_9, .int .i64 a0_10, .int .i64 a0_11, .int .i64 a0_12, .int .i64 a0_13, .int .i64 a0_14, .int .i64 a0_15, .int .i64 a0_16, .int .i64 a0_17] 26 (0, 0))) := ⟨by (with_reducible repeat (first | refine bN ?_ _ | refine bD ?_ | refine bA ?_ _)); refine bR ?_ NB240_255.out _; (with_reducible repeat (first | refine bN ?_ _ | refine bD ?_ | refine bA ?_ _)); refine bR ?_ NB240_255.out _; (with_reducible repeat (first | refine bN ?_ _ | refine bD ?_ | refine bA ?_ _)); exact BK240.out⟩
          have n1_ : Aside0 (((w161.setCell ⟨gb255, 0, none⟩ (.int .i64 t252)).setCell ⟨gb255, 1, none⟩ (.int .i64 t253)).heap[gb241]? = some (.cells #[.int .i64 a1_0, .int .i64 a1_1] 30 (0, 0))) := ⟨by (with_reducible repeat (first | refine bN ?_ _ | refine bD ?_ | refine bA ?_ _)); refine bR ?_ NB241_255.out _; (with_reducible repeat (first | refine bN ?_ _ | refine bD ?_ | refine bA ?_ _)); refine bR ?_ NB241_255.out _; (with_reducible repeat (first | refine bN ?_ _ | refine bD ?_ | refine bA ?_ _)); exact BK241.out⟩
          have n2_ : Aside0 (((w161.setCell ⟨gb255, 0, none⟩ (.int .i64 t252)).setCell ⟨gb255, 1, none⟩ (.int .i64 t253)).heap[gb242]? = some (.cells #[.int .i64 a2_0, .int .i64 a2_1] 30 (0, 0))) := ⟨by (with_reducible repeat (first | refine bN ?_ _ | refine bD ?_ | refine bA ?_ _)); refine bR ?_ NB242_255.out _; (with_reducible repeat (first | refine bN ?_ _ | refine bD ?_ | refine bA ?_ _)); refine bR ?_ NB242_255.out _; (with_reducible repeat (first | refine bN ?_ _ | refine bD ?_ | refine bA ?_ _)); exact BK242.out⟩
          have n3_ : Aside0 (((w161.setCell ⟨gb255, 0, none⟩ (.int .i64 t252)).setCell ⟨gb255, 1, none⟩ (.int .i64 t253)).heap[gb243]? = some (.cells #[.int .i64 a3_0, .int .i64 a3_1] 30 (0, 0))) := ⟨by (with_reducible repeat (first | refine bN ?_ _ | refine bD ?_ | refine bA ?_ _)); refine bR ?_ NB243_255.out _; (with_reducible repeat (first | refine bN ?_ _ | refine bD ?_ | refine bA ?_ _)); refine bR ?_ NB243_255.out _; (with_reducible repeat (first | refine bN ?_ _ | refine bD ?_ | refine bA ?_ _)); exact BK243.out⟩
          have n4_ : Aside0 (((w161.setCell ⟨gb255, 0, none⟩ (.int .i64 t252)).setCell ⟨gb255, 1, none⟩ (.int .i64 t253)).heap[gb255]? = some (.cells #[.int .i64 t252, .int .i64 t253] 30 (0, 0))) := ⟨by (with_reducible repeat (first | refine bN ?_ _ | refine bD ?_ | refine bA ?_ _)); refine bU (cs := #[.int .i64 t252, .int .i64 0]) ?_ 1 _ rfl; (with_reducible repeat (first | refine bN ?_ _ | refine bD ?_ | refine bA ?_ _)); refine bU (cs := #[.int .i64 0, .int .i64 0]) ?_ 0 _ rfl; (with_reducible repeat (first | refine bN ?_ _ | refine bD ?_ | refine bA ?_ _)); exact BK255.out⟩
          have n5_ : Aside0 (Below w.heap.size w ((w161.setCell ⟨gb255, 0, none⟩ (.int .i64 t252)).setCell ⟨gb255, 1, none⟩ (.int .i64 t253))) := ⟨by repeat (first | (with_reducible first | exact HB.out | apply bL | apply bW | apply b1 | refine bS ?_ GE240.out | refine bS ?_ GE241.out | refine bS ?_ GE242.out | refine bS ?_ GE243.out | refine bS ?_ GE255.out) | exact HB.out)⟩
          (try clear BK240)
          (try clear BK241)
          (try clear BK242)
          (try clear BK243)
          (try clear BK255)
          (try clear HB)
          generalize ((w161.setCell ⟨gb255, 0, none⟩ (.int .i64 t252)).setCell ⟨gb255, 1, none⟩ (.int .i64 t253)) = w167 at n0_ n1_ n2_ n3_ n4_ n5_ ⊢
          have BK240 := n0_
          have BK241 := n1_
          have BK242 := n2_
          have BK243 := n3_
          have BK255 := n4_
          have HB := n5_
          clear n0_ n1_ n2_ n3_ n4_ n5_
          have n0_ := Aside0.mk (bD BK240.out)
          have n1_ := Aside0.mk (bD BK241.out)
          have n2_ := Aside0.mk (bD BK242.out)
          have n3_ := Aside0.mk (bD BK243.out)
          have n4_ := Aside0.mk (bD BK255.out)
          have n5_ := Aside0.mk (b1 HB.out)
          clear BK240
          clear BK241
          clear BK242
          clear BK243
          clear BK255
          clear HB
          have BK240 := n0_
          have BK241 := n1_
          have BK242 := n2_
          have BK243 := n3_
          have BK255 := n4_
          have HB := n5_
          clear n0_ n1_ n2_ n3_ n4_ n5_
          refine start_ (n := 24) (S := fun w' => w'.cell? ⟨gb240, 0, none⟩ = some (.string a0_0) ∧ w'.cell? ⟨gb240, 1, none⟩ = some (.int .i64 a0_1) ∧ w'.cell? ⟨gb240, 2, none⟩ = some (.int .i64 a0_2) ∧ w'.cell? ⟨gb240, 3, none⟩ = some (.int .i64 a0_3) ∧ w'.cell? ⟨gb240, 4, none⟩ = some (.slice A0_4 l0_4.length c0_4) ∧ w'.cell? ⟨gb240, 5, none⟩ = some (.slice A0_5 l0_5.length c0_5) ∧ w'.cell? ⟨gb240, 6, none⟩ = some (.slice A0_6 l0_6.length c0_6) ∧ w'.cell? ⟨gb240, 7, none⟩ = some (.int .i64 a0_7) ∧ w'.cell? ⟨gb240, 8, none⟩ = some (.int .i64 a0_8) ∧ w'.cell? ⟨gb240, 9, none⟩ = some (.int .i64 a0_9) ∧ w'.cell? ⟨gb240, 10, none⟩ = some (.int .i64 a0_10) ∧ w'.cell? ⟨gb240, 11, none⟩ = some (.int .i64 a0_11) ∧ w'.cell? ⟨gb240, 12, none⟩ = some (.int .i64 a0_12) ∧ w'.cell? ⟨gb240, 13, none⟩ = some (.int .i64 a0_13) ∧ w'.cell? ⟨gb240, 14, none⟩ = some (.int .i64 a0_14) ∧ w'.cell? ⟨gb240, 15, none⟩ = some (.int .i64 a0_15) ∧ w'.cell? ⟨gb240, 16, none⟩ = some (.int .i64 a0_16) ∧ w'.cell? ⟨gb240, 17, none⟩ = some (.int .i64 a0_17) ∧ w'.cell? ⟨gb255, 0, none⟩ = some (.int .i64 t252) ∧ w'.cell? ⟨gb255, 1, none⟩ = some (.int .i64 t253) ∧ w'.cell? ⟨gb242, 0, none⟩ = some (.int .i64 a2_0) ∧ w'.cell? ⟨gb242, 1, none⟩ = some (.int .i64 a2_1) ∧ w'.cell? ⟨gb241, 0, none⟩ = some (.int .i64 a1_0) ∧ w'.cell? ⟨gb241, 1, none⟩ = some (.int .i64 a1_1) ∧ w'.cell? ⟨gb243, 0, none⟩ = some (.int .i64 a3_0) ∧ w'.cell? ⟨gb243, 1, none⟩ = some (.int .i64 a3_1)) (ds := []) #[f_,f_,f_,f_,f_,f_,f_,f_,f_,f_,f_,f_,f_,f_,f_,f_,f_,f_,f_,f_,f_,f_,f_,f_] (by kernel_rfl) rfl rfl ⟨(bC BK240.out 0).trans rfl, (bC BK240.out 1).trans rfl, (bC BK240.out 2).trans rfl, (bC BK240.out 3).trans rfl, (bC BK240.out 4).trans rfl, (bC BK240.out 5).trans rfl, (bC BK240.out 6).trans rfl, (bC BK240.out 7).trans rfl, (bC BK240.out 8).trans rfl, (bC BK240.out 9).trans rfl, (bC BK240.out 10).trans rfl, (bC BK240.out 11).trans rfl, (bC BK240.out 12).trans rfl, (bC BK240.out 13).trans rfl, (bC BK240.out 14).trans rfl, (bC BK240.out 15).trans rfl, (bC BK240.out 16).trans rfl, (bC BK240.out 17).trans rfl, (bC BK255.out 0).trans rfl, (bC BK255.out 1).trans rfl, (bC BK242.out 0).trans rfl, (bC BK242.out 1).trans rfl, (bC BK241.out 0).trans rfl, (bC BK241.out 1).trans rfl, (bC BK243.out 0).trans rfl, (bC BK243.out 1).trans rfl⟩ (fun hHeld => ?_); refine with_tabW bournelaw20_SeepGrows.tab9 bournelaw20_SeepGrows.bits9 (fun HT_ HW_ => ?_)
          generalize w167.drew = w168 at BK240 BK241 BK242 BK243 BK255 HB hHeld ⊢
          as_aux_lemma =>
           refine pure_ (i := 0) (N := some 98) (v := ?_) (a' := ?_) #[t_,f_,f_,f_,f_,f_,f_,f_,f_,f_,f_,f_,f_,f_,f_,f_,f_,f_,f_,f_,f_,f_,f_,f_] rfl rfl (any_of HT_.out (by kernel_rfl)) (fun _ _ _ h => h) (Or.inl ⟨by rfl, ?_⟩) ?_ ?_
           rotate_left
           ·
            intro w'
            go_simp
            with_reducible rfl
           rotate_left
           ·
            simp only [Act.put, lA, lZ, lS, i64_w, i32_w]
            rfl
           as_aux_lemma =>
            refine pure_ (i := 1) (N := some 99) (v := ?_) (a' := ?_) #[t_,t_,f_,f_,f_,f_,f_,f_,f_,f_,f_,f_,f_,f_,f_,f_,f_,f_,f_,f_,f_,f_,f_,f_] rfl rfl (any_of HT_.out (by kernel_rfl)) (fun _ _ _ h => h) (Or.inl ⟨by rfl, ?_⟩) ?_ ?_
            rotate_left
            ·
             intro w'
             go_simp
             with_reducible rfl
            rotate_left
            ·
             simp only [Act.put, lA, lZ, lS, i64_w, i32_w]
             rfl
            as_aux_lemma =>
             refine take_ (i := 2) (N := some 100) (v := ?_) (a' := ?_) #[t_,t_,t_,f_,f_,f_,f_,f_,f_,f_,f_,f_,f_,f_,f_,f_,f_,f_,f_,f_,f_,f_,f_,f_] rfl rfl (take_ofW HT_.out HW_.out (by kernel_rfl)) (fun _ _ _ h => h) (Or.inl ⟨by rfl, ?_⟩) hHeld ?_ ?_
             rotate_left
             ·
              rintro w' ⟨s0, s1, s2, s3, s4, s5, s6, s7, s8, s9, s10, s11, s12, s13, s14, s15, s16, s17, s18, s19, s20, s21, s22, s23, s24, s25⟩
              first | (refine (load18 (by rfl) (by rfl) hu26 rfl hi26 s0 s1 s2 s3 s4 s5 s6 s7 s8 s9 s10 s11 s12 s13 s14 s15 s16 s17).trans ?_; with_reducible rfl) | (go_simp; with_reducible rfl)
             rotate_left
             ·
              simp only [Act.put, lA, lZ, lS, i64_w, i32_w]
              rfl
             as_aux_lemma =>
              refine take_ (i := 3) (N := some 101) (v := ?_) (a' := ?_) #[t_,t_,t_,t_,f_,f_,f_,f_,f_,f_,f_,f_,f_,f_,f_,f_,f_,f_,f_,f_,f_,f_,f_,f_] rfl rfl (take_ofW HT_.out HW_.out (by kernel_rfl)) (fun _ _ _ h => h) (Or.inl ⟨by rfl, ?_⟩) hHeld ?_ ?_
              rotate_left
              ·
               rintro w' ⟨s0, s1, s2, s3, s4, s5, s6, s7, s8, s9, s10, s11, s12, s13, s14, s15, s16, s17, s18, s19, s20, s21, s22, s23, s24, s25⟩
               first | (refine (load18 (by rfl) (by rfl) hu26 rfl hi26 s0 s1 s2 s3 s4 s5 s6 s7 s8 s9 s10 s11 s12 s13 s14 s15 s16 s17).trans ?_; with_reducible rfl) | (go_simp; with_reducible rfl)
              rotate_left
              ·
               simp only [Act.put, lA, lZ, lS, i64_w, i32_w]
               rfl
              as_aux_lemma =>
               refine take_ (i := 4) (N := some 102) (v := ?_) (a' := ?_) #[t_,t_,t_,t_,t_,f_,f_,f_,f_,f_,f_,f_,f_,f_,f_,f_,f_,f_,f_,f_,f_,f_,f_,f_] rfl rfl (take_ofW HT_.out HW_.out (by kernel_rfl)) (fun _ _ _ h => h) (Or.inl ⟨by rfl, ?_⟩) hHeld ?_ ?_
               rotate_left
               ·
                rintro w' ⟨s0, s1, s2, s3, s4, s5, s6, s7, s8, s9, s10, s11, s12, s13, s14, s15, s16, s17, s18, s19, s20, s21, s22, s23, s24, s25⟩
                first | (refine (load18 (by rfl) (by rfl) hu26 rfl hi26 s0 s1 s2 s3 s4 s5 s6 s7 s8 s9 s10 s11 s12 s13 s14 s15 s16 s17).trans ?_; with_reducible rfl) | (go_simp; with_reducible rfl)
               rotate_left
               ·
                simp only [Act.put, lA, lZ, lS, i64_w, i32_w]
                rfl
               as_aux_lemma =>
                refine take_ (i := 6) (N := some 104) (v := ?_) (a' := ?_) #[t_,t_,t_,t_,t_,f_,t_,f_,f_,f_,f_,f_,f_,f_,f_,f_,f_,f_,f_,f_,f_,f_,f_,f_] rfl rfl (take_ofW HT_.out HW_.out (by kernel_rfl)) (fun _ _ _ h => h) (Or.inl ⟨by rfl, ?_⟩) hHeld ?_ ?_
                rotate_left
                ·
                 rintro w' ⟨s0, s1, s2, s3, s4, s5, s6, s7, s8, s9, s10, s11, s12, s13, s14, s15, s16, s17, s18, s19, s20, s21, s22, s23, s24, s25⟩
                 first | (refine (load18 (by rfl) (by rfl) hu26 rfl hi26 s0 s1 s2 s3 s4 s5 s6 s7 s8 s9 s10 s11 s12 s13 s14 s15 s16 s17).trans ?_; with_reducible rfl) | (go_simp; with_reducible rfl)
                rotate_left
                ·
                 simp only [Act.put, lA, lZ, lS, i64_w, i32_w]
                 rfl
                as_aux_lemma =>
                 refine take_ (i := 7) (N := some 105) (v := ?_) (a' := ?_) #[t_,t_,t_,t_,t_,f_,t_,t_,f_,f_,f_,f_,f_,f_,f_,f_,f_,f_,f_,f_,f_,f_,f_,f_] rfl rfl (take_ofW HT_.out HW_.out (by kernel_rfl)) (fun _ _ _ h => h) (Or.inl ⟨by rfl, ?_⟩) hHeld ?_ ?_
                 rotate_left
                 ·
                  rintro w' ⟨s0, s1, s2, s3, s4, s5, s6, s7, s8, s9, s10, s11, s12, s13, s14, s15, s16, s17, s18, s19, s20, s21, s22, s23, s24, s25⟩
                  first | (refine (load18 (by rfl) (by rfl) hu26 rfl hi26 s0 s1 s2 s3 s4 s5 s6 s7 s8 s9 s10 s11 s12 s13 s14 s15 s16 s17).trans ?_; with_reducible rfl) | (go_simp; with_reducible rfl)
                 rotate_left
                 ·
                  simp only [Act.put, lA, lZ, lS, i64_w, i32_w]
                  rfl
                 as_aux_lemma =>
                  refine take_ (i := 8) (N := some 106) (v := ?_) (a' := ?_) #[t_,t_,t_,t_,t_,f_,t_,t_,t_,f_,f_,f_,f_,f_,f_,f_,f_,f_,f_,f_,f_,f_,f_,f_] rfl rfl (take_ofW HT_.out HW_.out (by kernel_rfl)) (fun _ _ _ h => h) (Or.inl ⟨by rfl, ?_⟩) hHeld ?_ ?_
                  rotate_left
                  ·
                   rintro w' ⟨s0, s1, s2, s3, s4, s5, s6, s7, s8, s9, s10, s11, s12, s13, s14, s15, s16, s17, s18, s19, s20, s21, s22, s23, s24, s25⟩
                   first | (refine (load18 (by rfl) (by rfl) hu26 rfl hi26 s0 s1 s2 s3 s4 s5 s6 s7 s8 s9 s10 s11 s12 s13 s14 s15 s16 s17).trans ?_; with_reducible rfl) | (go_simp; with_reducible rfl)
                  rotate_left
                  ·
                   simp only [Act.put, lA, lZ, lS, i64_w, i32_w]
                   rfl
                  as_aux_lemma =>
                   refine one_ (i := 5) (N := some 103) #[t_,t_,t_,t_,t_,t_,t_,t_,t_,f_,f_,f_,f_,f_,f_,f_,f_,f_,f_,f_,f_,f_,f_,f_] rfl rfl (one_of HT_.out (by kernel_rfl)) (by decide) (fun K hK => ?_)
                   refine goes_ Try.func12 (by kernel_rfl) rfl #[.agg #[.string a0_0, .int .i64 a0_1, .int .i64 a0_2, .int .i64 a0_3, .slice A0_4 l0_4.length c0_4, .slice A0_5 l0_5.length c0_5, .slice A0_6 l0_6.length c0_6, .int .i64 a0_7, .int .i64 a0_8, .int .i64 a0_9, .int .i64 a0_10, .int .i64 a0_11, .int .i64 a0_12, .int .i64 a0_13, .int .i64 a0_14, .int .i64 a0_15, .int .i64 a0_16, .int .i64 a0_17], .agg #[.int .i64 t252, .int .i64 t253], .agg #[.int .i64 a2_0, .int .i64 a2_1]] (by rfl) rfl rfl (by (try simp only [List.map_toArray, List.map_cons, List.map_nil]); first | done | rfl | (simp only [List.length_drop, List.length_take]; rfl)) ?_
                   with_reducible refine (seep_Bounds.calls kj127 a0_0 a0_1 a0_2 a0_3 _ _ l0_4 _ _ l0_5 _ _ l0_6 a0_7 a0_8 a0_9 a0_10 a0_11 a0_12 a0_13 a0_14 a0_15 a0_16 a0_17 t252 t253 a2_0 a2_1 t256 t257 _ ?side1 ?side2 ?side3 ?side4 ?side5 ?side6 A146.out).mono ?_
                   (case side1 => repeat (first | exact (Kd.C_below HR0_4.out HB.out) | (with_reducible refine Kd.C_alloc ?_ _) | (with_reducible refine Kd.C_drewN ?_ _) | (with_reducible refine Kd.C_drew ?_)))
                   (case side2 => exact HC0_4.out)
                   (case side3 => repeat (first | exact (Kd.C_below HR0_5.out HB.out) | (with_reducible refine Kd.C_alloc ?_ _) | (with_reducible refine Kd.C_drewN ?_ _) | (with_reducible refine Kd.C_drew ?_)))
                   (case side4 => exact HC0_5.out)
                   (case side5 => repeat (first | exact (Kd.C_below HR0_6.out HB.out) | (with_reducible refine Kd.C_alloc ?_ _) | (with_reducible refine Kd.C_drewN ?_ _) | (with_reducible refine Kd.C_drew ?_)))
                   (case side6 => exact HC0_6.out)
                   rintro e w169 ⟨rfl, hb⟩
                   refine ⟨_, rfl, ?_⟩
                   have n0_ := Aside0.mk (bB (g := gb240) (o := .cells #[.string a0_0, .int .i64 a0_1, .int .i64 a0_2, .int .i64 a0_3, .slice A0_4 l0_4.length c0_4, .slice A0_5 l0_5.length c0_5, .slice A0_6 l0_6.length c0_6, .int .i64 a0_7, .int .i64 a0_8, .int .i64 a0_9, .int .i64 a0_10, .int .i64 a0_11, .int .i64 a0_12, .int .i64 a0_13, .int .i64 a0_14, .int .i64 a0_15, .int .i64 a0_16, .int .i64 a0_17] 26 (0, 0)) (by (with_reducible repeat (first | refine bN ?_ _ | refine bD ?_ | refine bA ?_ _)); exact BK240.out) hb)
                   have n1_ := Aside0.mk (bB (g := gb241) (o := .cells #[.int .i64 a1_0, .int .i64 a1_1] 30 (0, 0)) (by (with_reducible repeat (first | refine bN ?_ _ | refine bD ?_ | refine bA ?_ _)); exact BK241.out) hb)
                   have n2_ := Aside0.mk (bB (g := gb242) (o := .cells #[.int .i64 a2_0, .int .i64 a2_1] 30 (0, 0)) (by (with_reducible repeat (first | refine bN ?_ _ | refine bD ?_ | refine bA ?_ _)); exact BK242.out) hb)
                   have n3_ := Aside0.mk (bB (g := gb243) (o := .cells #[.int .i64 a3_0, .int .i64 a3_1] 30 (0, 0)) (by (with_reducible repeat (first | refine bN ?_ _ | refine bD ?_ | refine bA ?_ _)); exact BK243.out) hb)
                   have n4_ := Aside0.mk (bB (g := gb255) (o := .cells #[.int .i64 t252, .int .i64 t253] 30 (0, 0)) (by (with_reducible repeat (first | refine bN ?_ _ | refine bD ?_ | refine bA ?_ _)); exact BK255.out) hb)
                   have n5_ := Aside0.mk (bP (by repeat (first | (with_reducible first | exact HB.out | apply bL | apply bW | apply b1 | refine bS ?_ GE240.out | refine bS ?_ GE241.out | refine bS ?_ GE242.out | refine bS ?_ GE243.out | refine bS ?_ GE255.out) | exact HB.out)) hb)
                   clear BK240
                   clear BK241
                   clear BK242
                   clear BK243
                   clear BK255
                   clear HB
                   have BK240 := n0_
                   have BK241 := n1_
                   have BK242 := n2_
                   have BK243 := n3_
                   have BK255 := n4_
                   have HB := n5_
                   clear n0_ n1_ n2_ n3_ n4_ n5_
                   (try clear hb)
                   (try clear hb2)
                   (try clear hk)
                   (try clear hi)
                   refine hK.out _ _ ⟨(bC BK240.out 0).trans rfl, (bC BK240.out 1).trans rfl, (bC BK240.out 2).trans rfl, (bC BK240.out 3).trans rfl, (bC BK240.out 4).trans rfl, (bC BK240.out 5).trans rfl, (bC BK240.out 6).trans rfl, (bC BK240.out 7).trans rfl, (bC BK240.out 8).trans rfl, (bC BK240.out 9).trans rfl, (bC BK240.out 10).trans rfl, (bC BK240.out 11).trans rfl, (bC BK240.out 12).trans rfl, (bC BK240.out 13).trans rfl, (bC BK240.out 14).trans rfl, (bC BK240.out 15).trans rfl, (bC BK240.out 16).trans rfl, (bC BK240.out 17).trans rfl, (bC BK255.out 0).trans rfl, (bC BK255.out 1).trans rfl, (bC BK242.out 0).trans rfl, (bC BK242.out 1).trans rfl, (bC BK241.out 0).trans rfl, (bC BK241.out 1).trans rfl, (bC BK243.out 0).trans rfl, (bC BK243.out 1).trans rfl⟩ (fun hHeld => ?_)
                   clear hK K
                   refine norm_ (a' := ?_) ?_ ?_
                   rotate_left
                   ·
                    show Act.put _ (some 103) _ = _
                    simp only [Act.put, lA, lZ, lS, i64_w, i32_w]
                    rfl
                   as_aux_lemma =>
                    refine one_ (i := 9) (N := some 107) #[t_,t_,t_,t_,t_,t_,t_,t_,t_,t_,f_,f_,f_,f_,f_,f_,f_,f_,f_,f_,f_,f_,f_,f_] rfl rfl (one_of HT_.out (by kernel_rfl)) (by decide) (fun K hK => ?_)
                    refine goes_ Try.func12 (by kernel_rfl) rfl #[.agg #[.string a0_0, .int .i64 a0_1, .int .i64 a0_2, .int .i64 a0_3, .slice A0_4 l0_4.length c0_4, .slice A0_5 l0_5.length c0_5, .slice A0_6 l0_6.length c0_6, .int .i64 a0_7, .int .i64 a0_8, .int .i64 a0_9, .int .i64 a0_10, .int .i64 a0_11, .int .i64 a0_12, .int .i64 a0_13, .int .i64 a0_14, .int .i64 a0_15, .int .i64 a0_16, .int .i64 a0_17], .agg #[.int .i64 a1_0, .int .i64 a1_1], .agg #[.int .i64 a2_0, .int .i64 a2_1]] (by rfl) rfl rfl (by (try simp only [List.map_toArray, List.map_cons, List.map_nil]); first | done | rfl | (simp only [List.length_drop, List.length_take]; rfl)) ?_
                    with_reducible refine (seep_Bounds.calls kj127 a0_0 a0_1 a0_2 a0_3 _ _ l0_4 _ _ l0_5 _ _ l0_6 a0_7 a0_8 a0_9 a0_10 a0_11 a0_12 a0_13 a0_14 a0_15 a0_16 a0_17 a1_0 a1_1 a2_0 a2_1 t258 t259 _ ?side1 ?side2 ?side3 ?side4 ?side5 ?side6 A147.out).mono ?_
                    (case side1 => repeat (first | exact (Kd.C_below HR0_4.out HB.out) | (with_reducible refine Kd.C_alloc ?_ _) | (with_reducible refine Kd.C_drewN ?_ _) | (with_reducible refine Kd.C_drew ?_)))
                    (case side2 => exact HC0_4.out)
                    (case side3 => repeat (first | exact (Kd.C_below HR0_5.out HB.out) | (with_reducible refine Kd.C_alloc ?_ _) | (with_reducible refine Kd.C_drewN ?_ _) | (with_reducible refine Kd.C_drew ?_)))
                    (case side4 => exact HC0_5.out)
                    (case side5 => repeat (first | exact (Kd.C_below HR0_6.out HB.out) | (with_reducible refine Kd.C_alloc ?_ _) | (with_reducible refine Kd.C_drewN ?_ _) | (with_reducible refine Kd.C_drew ?_)))
                    (case side6 => exact HC0_6.out)
                    rintro e w170 ⟨rfl, hb⟩
                    refine ⟨_, rfl, ?_⟩
                    have n0_ := Aside0.mk (bB (g := gb240) (o := .cells #[.string a0_0, .int .i64 a0_1, .int .i64 a0_2, .int .i64 a0_3, .slice A0_4 l0_4.length c0_4, .slice A0_5 l0_5.length c0_5, .slice A0_6 l0_6.length c0_6, .int .i64 a0_7, .int .i64 a0_8, .int .i64 a0_9, .int .i64 a0_10, .int .i64 a0_11, .int .i64 a0_12, .int .i64 a0_13, .int .i64 a0_14, .int .i64 a0_15, .int .i64 a0_16, .int .i64 a0_17] 26 (0, 0)) (by (with_reducible repeat (first | refine bN ?_ _ | refine bD ?_ | refine bA ?_ _)); exact BK240.out) hb)
                    have n1_ := Aside0.mk (bB (g := gb241) (o := .cells #[.int .i64 a1_0, .int .i64 a1_1] 30 (0, 0)) (by (with_reducible repeat (first | refine bN ?_ _ | refine bD ?_ | refine bA ?_ _)); exact BK241.out) hb)
                    have n2_ := Aside0.mk (bB (g := gb242) (o := .cells #[.int .i64 a2_0, .int .i64 a2_1] 30 (0, 0)) (by (with_reducible repeat (first | refine bN ?_ _ | refine bD ?_ | refine bA ?_ _)); exact BK242.out) hb)
                    have n3_ := Aside0.mk (bB (g := gb243) (o := .cells #[.int .i64 a3_0, .int .i64 a3_1] 30 (0, 0)) (by (with_reducible repeat (first | refine bN ?_ _ | refine bD ?_ | refine bA ?_ _)); exact BK243.out) hb)
                    have n4_ := Aside0.mk (bB (g := gb255) (o := .cells #[.int .i64 t252, .int .i64 t253] 30 (0, 0)) (by (with_reducible repeat (first | refine bN ?_ _ | refine bD ?_ | refine bA ?_ _)); exact BK255.out) hb)
                    have n5_ := Aside0.mk (bP (by repeat (first | (with_reducible first | exact HB.out | apply bL | apply bW | apply b1 | refine bS ?_ GE240.out | refine bS ?_ GE241.out | refine bS ?_ GE242.out | refine bS ?_ GE243.out | refine bS ?_ GE255.out) | exact HB.out)) hb)
                    clear BK240
                    clear BK241
                    clear BK242
                    clear BK243
                    clear BK255
                    clear HB
                    have BK240 := n0_
                    have BK241 := n1_
                    have BK242 := n2_
                    have BK243 := n3_
                    have BK255 := n4_
                    have HB := n5_
                    clear n0_ n1_ n2_ n3_ n4_ n5_
                    (try clear hb)
                    (try clear hb2)
                    (try clear hk)
                    (try clear hi)
                    refine hK.out _ _ ⟨(bC BK240.out 0).trans rfl, (bC BK240.out 1).trans rfl, (bC BK240.out 2).trans rfl, (bC BK240.out 3).trans rfl, (bC BK240.out 4).trans rfl, (bC BK240.out 5).trans rfl, (bC BK240.out 6).trans rfl, (bC BK240.out 7).trans rfl, (bC BK240.out 8).trans rfl, (bC BK240.out 9).trans rfl, (bC BK240.out 10).trans rfl, (bC BK240.out 11).trans rfl, (bC BK240.out 12).trans rfl, (bC BK240.out 13).trans rfl, (bC BK240.out 14).trans rfl, (bC BK240.out 15).trans rfl, (bC BK240.out 16).trans rfl, (bC BK240.out 17).trans rfl, (bC BK255.out 0).trans rfl, (bC BK255.out 1).trans rfl, (bC BK242.out 0).trans rfl, (bC BK242.out 1).trans rfl, (bC BK241.out 0).trans rfl, (bC BK241.out 1).trans rfl, (bC BK243.out 0).trans rfl, (bC BK243.out 1).trans rfl⟩ (fun hHeld => ?_)
                    clear hK K
                    refine norm_ (a' := ?_) ?_ ?_
                    rotate_left
                    ·
                     show Act.put _ (some 107) _ = _
                     simp only [Act.put, lA, lZ, lS, i64_w, i32_w]
                     rfl
                    as_aux_lemma =>
                     refine one_ (i := 10) (N := some 108) #[t_,t_,t_,t_,t_,t_,t_,t_,t_,t_,t_,f_,f_,f_,f_,f_,f_,f_,f_,f_,f_,f_,f_,f_] rfl rfl (one_of HT_.out (by kernel_rfl)) (by decide) (fun K hK => ?_)
                     refine goes_ Try.func20 (by kernel_rfl) rfl #[.agg #[.int .i64 t256, .int .i64 t257], .agg #[.int .i64 t258, .int .i64 t259]] (by rfl) rfl rfl (by (try simp only [List.map_toArray, List.map_cons, List.map_nil]); first | done | rfl | (simp only [List.length_drop, List.length_take]; rfl)) ?_
                     with_reducible refine (span_Within.calls t256 t257 t258 t259 true _ A148.out).mono ?_
                     rintro e w171 ⟨rfl, hb⟩
                     refine ⟨_, rfl, ?_⟩
                     have n0_ := Aside0.mk (bB (g := gb240) (o := .cells #[.string a0_0, .int .i64 a0_1, .int .i64 a0_2, .int .i64 a0_3, .slice A0_4 l0_4.length c0_4, .slice A0_5 l0_5.length c0_5, .slice A0_6 l0_6.length c0_6, .int .i64 a0_7, .int .i64 a0_8, .int .i64 a0_9, .int .i64 a0_10, .int .i64 a0_11, .int .i64 a0_12, .int .i64 a0_13, .int .i64 a0_14, .int .i64 a0_15, .int .i64 a0_16, .int .i64 a0_17] 26 (0, 0)) (by (with_reducible repeat (first | refine bN ?_ _ | refine bD ?_ | refine bA ?_ _)); exact BK240.out) hb)
                     have n1_ := Aside0.mk (bB (g := gb241) (o := .cells #[.int .i64 a1_0, .int .i64 a1_1] 30 (0, 0)) (by (with_reducible repeat (first | refine bN ?_ _ | refine bD ?_ | refine bA ?_ _)); exact BK241.out) hb)
                     have n2_ := Aside0.mk (bB (g := gb242) (o := .cells #[.int .i64 a2_0, .int .i64 a2_1] 30 (0, 0)) (by (with_reducible repeat (first | refine bN ?_ _ | refine bD ?_ | refine bA ?_ _)); exact BK242.out) hb)
                     have n3_ := Aside0.mk (bB (g := gb243) (o := .cells #[.int .i64 a3_0, .int .i64 a3_1] 30 (0, 0)) (by (with_reducible repeat (first | refine bN ?_ _ | refine bD ?_ | refine bA ?_ _)); exact BK243.out) hb)
                     have n4_ := Aside0.mk (bB (g := gb255) (o := .cells #[.int .i64 t252, .int .i64 t253] 30 (0, 0)) (by (with_reducible repeat (first | refine bN ?_ _ | refine bD ?_ | refine bA ?_ _)); exact BK255.out) hb)
                     have n5_ := Aside0.mk (bP (by repeat (first | (with_reducible first | exact HB.out | apply bL | apply bW | apply b1 | refine bS ?_ GE240.out | refine bS ?_ GE241.out | refine bS ?_ GE242.out | refine bS ?_ GE243.out | refine bS ?_ GE255.out) | exact HB.out)) hb)
                     clear BK240
                     clear BK241
                     clear BK242
                     clear BK243
                     clear BK255
                     clear HB
                     have BK240 := n0_
                     have BK241 := n1_
                     have BK242 := n2_
                     have BK243 := n3_
                     have BK255 := n4_
                     have HB := n5_
                     clear n0_ n1_ n2_ n3_ n4_ n5_
                     (try clear hb)
                     (try clear hb2)
                     (try clear hk)
                     (try clear hi)
                     refine hK.out _ _ ⟨(bC BK240.out 0).trans rfl, (bC BK240.out 1).trans rfl, (bC BK240.out 2).trans rfl, (bC BK240.out 3).trans rfl, (bC BK240.out 4).trans rfl, (bC BK240.out 5).trans rfl, (bC BK240.out 6).trans rfl, (bC BK240.out 7).trans rfl, (bC BK240.out 8).trans rfl, (bC BK240.out 9).trans rfl, (bC BK240.out 10).trans rfl, (bC BK240.out 11).trans rfl, (bC BK240.out 12).trans rfl, (bC BK240.out 13).trans rfl, (bC BK240.out 14).trans rfl, (bC BK240.out 15).trans rfl, (bC BK240.out 16).trans rfl, (bC BK240.out 17).trans rfl, (bC BK255.out 0).trans rfl, (bC BK255.out 1).trans rfl, (bC BK242.out 0).trans rfl, (bC BK242.out 1).trans rfl, (bC BK241.out 0).trans rfl, (bC BK241.out 1).trans rfl, (bC BK243.out 0).trans rfl, (bC BK243.out 1).trans rfl⟩ (fun hHeld => ?_)
                     clear hK K
                     refine norm_ (a' := ?_) ?_ ?_
                     rotate_left
                     ·
                      show Act.put _ (some 108) _ = _
                      simp only [Act.put, lA, lZ, lS, i64_w, i32_w]
                      rfl
                     as_aux_lemma =>
                      refine pure_ (i := 11) (N := some 109) (v := ?_) (a' := ?_) #[t_,t_,t_,t_,t_,t_,t_,t_,t_,t_,t_,t_,f_,f_,f_,f_,f_,f_,f_,f_,f_,f_,f_,f_] rfl rfl (any_of HT_.out (by kernel_rfl)) (fun _ _ _ h => h) (Or.inl ⟨by rfl, ?_⟩) ?_ ?_
                      rotate_left
                      ·
                       intro w'
                       go_simp
                       with_reducible rfl
                      rotate_left
                      ·
                       simp only [Act.put, lA, lZ, lS, i64_w, i32_w]
                       rfl
                      as_aux_lemma =>
                       refine pure_ (i := 12) (N := some 110) (v := ?_) (a' := ?_) #[t_,t_,t_,t_,t_,t_,t_,t_,t_,t_,t_,t_,t_,f_,f_,f_,f_,f_,f_,f_,f_,f_,f_,f_] rfl rfl (any_of HT_.out (by kernel_rfl)) (fun _ _ _ h => h) (Or.inl ⟨by rfl, ?_⟩) ?_ ?_
                       rotate_left
                       ·
                        intro w'
                        go_simp
                        with_reducible rfl
                       rotate_left
                       ·
                        simp only [Act.put, lA, lZ, lS, i64_w, i32_w]
                        rfl
                       as_aux_lemma =>
                        refine take_ (i := 13) (N := some 111) (v := ?_) (a' := ?_) #[t_,t_,t_,t_,t_,t_,t_,t_,t_,t_,t_,t_,t_,t_,f_,f_,f_,f_,f_,f_,f_,f_,f_,f_] rfl rfl (take_ofW HT_.out HW_.out (by kernel_rfl)) (fun _ _ _ h => h) (Or.inl ⟨by rfl, ?_⟩) hHeld ?_ ?_
                        rotate_left
                        ·
                         rintro w' ⟨s0, s1, s2, s3, s4, s5, s6, s7, s8, s9, s10, s11, s12, s13, s14, s15, s16, s17, s18, s19, s20, s21, s22, s23, s24, s25⟩
                         first | (refine (load18 (by rfl) (by rfl) hu26 rfl hi26 s0 s1 s2 s3 s4 s5 s6 s7 s8 s9 s10 s11 s12 s13 s14 s15 s16 s17).trans ?_; with_reducible rfl) | (go_simp; with_reducible rfl)
                        rotate_left
                        ·
                         simp only [Act.put, lA, lZ, lS, i64_w, i32_w]
                         rfl
                        as_aux_lemma =>
                         refine take_ (i := 14) (N := some 112) (v := ?_) (a' := ?_) #[t_,t_,t_,t_,t_,t_,t_,t_,t_,t_,t_,t_,t_,t_,t_,f_,f_,f_,f_,f_,f_,f_,f_,f_] rfl rfl (take_ofW HT_.out HW_.out (by kernel_rfl)) (fun _ _ _ h => h) (Or.inl ⟨by rfl, ?_⟩) hHeld ?_ ?_
                         rotate_left
                         ·
                          rintro w' ⟨s0, s1, s2, s3, s4, s5, s6, s7, s8, s9, s10, s11, s12, s13, s14, s15, s16, s17, s18, s19, s20, s21, s22, s23, s24, s25⟩
                          first | (refine (load18 (by rfl) (by rfl) hu26 rfl hi26 s0 s1 s2 s3 s4 s5 s6 s7 s8 s9 s10 s11 s12 s13 s14 s15 s16 s17).trans ?_; with_reducible rfl) | (go_simp; with_reducible rfl)
                         rotate_left
                         ·
                          simp only [Act.put, lA, lZ, lS, i64_w, i32_w]
                          rfl
                         as_aux_lemma =>
                          refine take_ (i := 15) (N := some 113) (v := ?_) (a' := ?_) #[t_,t_,t_,t_,t_,t_,t_,t_,t_,t_,t_,t_,t_,t_,t_,t_,f_,f_,f_,f_,f_,f_,f_,f_] rfl rfl (take_ofW HT_.out HW_.out (by kernel_rfl)) (fun _ _ _ h => h) (Or.inl ⟨by rfl, ?_⟩) hHeld ?_ ?_
                          rotate_left
                          ·
                           rintro w' ⟨s0, s1, s2, s3, s4, s5, s6, s7, s8, s9, s10, s11, s12, s13, s14, s15, s16, s17, s18, s19, s20, s21, s22, s23, s24, s25⟩
                           first | (refine (load18 (by rfl) (by rfl) hu26 rfl hi26 s0 s1 s2 s3 s4 s5 s6 s7 s8 s9 s10 s11 s12 s13 s14 s15 s16 s17).trans ?_; with_reducible rfl) | (go_simp; with_reducible rfl)
                          rotate_left
                          ·
                           simp only [Act.put, lA, lZ, lS, i64_w, i32_w]
                           rfl
                          as_aux_lemma =>
                           refine take_ (i := 17) (N := some 115) (v := ?_) (a' := ?_) #[t_,t_,t_,t_,t_,t_,t_,t_,t_,t_,t_,t_,t_,t_,t_,t_,f_,t_,f_,f_,f_,f_,f_,f_] rfl rfl (take_ofW HT_.out HW_.out (by kernel_rfl)) (fun _ _ _ h => h) (Or.inl ⟨by rfl, ?_⟩) hHeld ?_ ?_
                           rotate_left
                           ·
                            rintro w' ⟨s0, s1, s2, s3, s4, s5, s6, s7, s8, s9, s10, s11, s12, s13, s14, s15, s16, s17, s18, s19, s20, s21, s22, s23, s24, s25⟩
                            first | (refine (load18 (by rfl) (by rfl) hu26 rfl hi26 s0 s1 s2 s3 s4 s5 s6 s7 s8 s9 s10 s11 s12 s13 s14 s15 s16 s17).trans ?_; with_reducible rfl) | (go_simp; with_reducible rfl)
                           rotate_left
                           ·
                            simp only [Act.put, lA, lZ, lS, i64_w, i32_w]
                            rfl
                           as_aux_lemma =>
                            refine take_ (i := 18) (N := some 116) (v := ?_) (a' := ?_) #[t_,t_,t_,t_,t_,t_,t_,t_,t_,t_,t_,t_,t_,t_,t_,t_,f_,t_,t_,f_,f_,f_,f_,f_] rfl rfl (take_ofW HT_.out HW_.out (by kernel_rfl)) (fun _ _ _ h => h) (Or.inl ⟨by rfl, ?_⟩) hHeld ?_ ?_
                            rotate_left
                            ·
                             rintro w' ⟨s0, s1, s2, s3, s4, s5, s6, s7, s8, s9, s10, s11, s12, s13, s14, s15, s16, s17, s18, s19, s20, s21, s22, s23, s24, s25⟩
                             first | (refine (load18 (by rfl) (by rfl) hu26 rfl hi26 s0 s1 s2 s3 s4 s5 s6 s7 s8 s9 s10 s11 s12 s13 s14 s15 s16 s17).trans ?_; with_reducible rfl) | (go_simp; with_reducible rfl)
                            rotate_left
                            ·
                             simp only [Act.put, lA, lZ, lS, i64_w, i32_w]
                             rfl
                            as_aux_lemma =>
                             refine take_ (i := 19) (N := some 117) (v := ?_) (a' := ?_) #[t_,t_,t_,t_,t_,t_,t_,t_,t_,t_,t_,t_,t_,t_,t_,t_,f_,t_,t_,t_,f_,f_,f_,f_] rfl rfl (take_ofW HT_.out HW_.out (by kernel_rfl)) (fun _ _ _ h => h) (Or.inl ⟨by rfl, ?_⟩) hHeld ?_ ?_
                             rotate_left
                             ·
                              rintro w' ⟨s0, s1, s2, s3, s4, s5, s6, s7, s8, s9, s10, s11, s12, s13, s14, s15, s16, s17, s18, s19, s20, s21, s22, s23, s24, s25⟩
                              first | (refine (load18 (by rfl) (by rfl) hu26 rfl hi26 s0 s1 s2 s3 s4 s5 s6 s7 s8 s9 s10 s11 s12 s13 s14 s15 s16 s17).trans ?_; with_reducible rfl) | (go_simp; with_reducible rfl)
                             rotate_left
                             ·
                              simp only [Act.put, lA, lZ, lS, i64_w, i32_w]
                              rfl
                             as_aux_lemma =>
                              refine one_ (i := 16) (N := some 114) #[t_,t_,t_,t_,t_,t_,t_,t_,t_,t_,t_,t_,t_,t_,t_,t_,t_,t_,t_,t_,f_,f_,f_,f_] rfl rfl (one_of HT_.out (by kernel_rfl)) (by decide) (fun K hK => ?_)
                              refine goes_ Try.func12 (by kernel_rfl) rfl #[.agg #[.string a0_0, .int .i64 a0_1, .int .i64 a0_2, .int .i64 a0_3, .slice A0_4 l0_4.length c0_4, .slice A0_5 l0_5.length c0_5, .slice A0_6 l0_6.length c0_6, .int .i64 a0_7, .int .i64 a0_8, .int .i64 a0_9, .int .i64 a0_10, .int .i64 a0_11, .int .i64 a0_12, .int .i64 a0_13, .int .i64 a0_14, .int .i64 a0_15, .int .i64 a0_16, .int .i64 a0_17], .agg #[.int .i64 a2_0, .int .i64 a2_1], .agg #[.int .i64 t252, .int .i64 t253]] (by rfl) rfl rfl (by (try simp only [List.map_toArray, List.map_cons, List.map_nil]); first | done | rfl | (simp only [List.length_drop, List.length_take]; rfl)) ?_
                              with_reducible refine (seep_Bounds.calls kj127 a0_0 a0_1 a0_2 a0_3 _ _ l0_4 _ _ l0_5 _ _ l0_6 a0_7 a0_8 a0_9 a0_10 a0_11 a0_12 a0_13 a0_14 a0_15 a0_16 a0_17 a2_0 a2_1 t252 t253 t261 t262 _ ?side1 ?side2 ?side3 ?side4 ?side5 ?side6 A150.out).mono ?_
                              (case side1 => repeat (first | exact (Kd.C_below HR0_4.out HB.out) | (with_reducible refine Kd.C_alloc ?_ _) | (with_reducible refine Kd.C_drewN ?_ _) | (with_reducible refine Kd.C_drew ?_)))
                              (case side2 => exact HC0_4.out)
                              (case side3 => repeat (first | exact (Kd.C_below HR0_5.out HB.out) | (with_reducible refine Kd.C_alloc ?_ _) | (with_reducible refine Kd.C_drewN ?_ _) | (with_reducible refine Kd.C_drew ?_)))
                              (case side4 => exact HC0_5.out)
                              (case side5 => repeat (first | exact (Kd.C_below HR0_6.out HB.out) | (with_reducible refine Kd.C_alloc ?_ _) | (with_reducible refine Kd.C_drewN ?_ _) | (with_reducible refine Kd.C_drew ?_)))
                              (case side6 => exact HC0_6.out)
                              rintro e w172 ⟨rfl, hb⟩
                              refine ⟨_, rfl, ?_⟩
                              have n0_ := Aside0.mk (bB (g := gb240) (o := .cells #[.string a0_0, .int .i64 a0_1, .int .i64 a0_2, .int .i64 a0_3, .slice A0_4 l0_4.length c0_4, .slice A0_5 l0_5.length c0_5, .slice A0_6 l0_6.length c0_6, .int .i64 a0_7, .int .i64 a0_8, .int .i64 a0_9, .int .i64 a0_10, .int .i64 a0_11, .int .i64 a0_12, .int .i64 a0_13, .int .i64 a0_14, .int .i64 a0_15, .int .i64 a0_16, .int .i64 a0_17] 26 (0, 0)) (by (with_reducible repeat (first | refine bN ?_ _ | refine bD ?_ | refine bA ?_ _)); exact BK240.out) hb)
                              have n1_ := Aside0.mk (bB (g := gb241) (o := .cells #[.int .i64 a1_0, .int .i64 a1_1] 30 (0, 0)) (by (with_reducible repeat (first | refine bN ?_ _ | refine bD ?_ | refine bA ?_ _)); exact BK241.out) hb)
                              have n2_ := Aside0.mk (bB (g := gb242) (o := .cells #[.int .i64 a2_0, .int .i64 a2_1] 30 (0, 0)) (by (with_reducible repeat (first | refine bN ?_ _ | refine bD ?_ | refine bA ?_ _)); exact BK242.out) hb)
                              have n3_ := Aside0.mk (bB (g := gb243) (o := .cells #[.int .i64 a3_0, .int .i64 a3_1] 30 (0, 0)) (by (with_reducible repeat (first | refine bN ?_ _ | refine bD ?_ | refine bA ?_ _)); exact BK243.out) hb)
                              have n4_ := Aside0.mk (bB (g := gb255) (o := .cells #[.int .i64 t252, .int .i64 t253] 30 (0, 0)) (by (with_reducible repeat (first | refine bN ?_ _ | refine bD ?_ | refine bA ?_ _)); exact BK255.out) hb)
                              have n5_ := Aside0.mk (bP (by repeat (first | (with_reducible first | exact HB.out | apply bL | apply bW | apply b1 | refine bS ?_ GE240.out | refine bS ?_ GE241.out | refine bS ?_ GE242.out | refine bS ?_ GE243.out | refine bS ?_ GE255.out) | exact HB.out)) hb)
                              clear BK240
                              clear BK241
                              clear BK242
                              clear BK243
                              clear BK255
                              clear HB
                              have BK240 := n0_
                              have BK241 := n1_
                              have BK242 := n2_
                              have BK243 := n3_
                              have BK255 := n4_
                              have HB := n5_
                              clear n0_ n1_ n2_ n3_ n4_ n5_
                              (try clear hb)
                              (try clear hb2)
                              (try clear hk)
                              (try clear hi)
                              refine hK.out _ _ ⟨(bC BK240.out 0).trans rfl, (bC BK240.out 1).trans rfl, (bC BK240.out 2).trans rfl, (bC BK240.out 3).trans rfl, (bC BK240.out 4).trans rfl, (bC BK240.out 5).trans rfl, (bC BK240.out 6).trans rfl, (bC BK240.out 7).trans rfl, (bC BK240.out 8).trans rfl, (bC BK240.out 9).trans rfl, (bC BK240.out 10).trans rfl, (bC BK240.out 11).trans rfl, (bC BK240.out 12).trans rfl, (bC BK240.out 13).trans rfl, (bC BK240.out 14).trans rfl, (bC BK240.out 15).trans rfl, (bC BK240.out 16).trans rfl, (bC BK240.out 17).trans rfl, (bC BK255.out 0).trans rfl, (bC BK255.out 1).trans rfl, (bC BK242.out 0).trans rfl, (bC BK242.out 1).trans rfl, (bC BK241.out 0).trans rfl, (bC BK241.out 1).trans rfl, (bC BK243.out 0).trans rfl, (bC BK243.out 1).trans rfl⟩ (fun hHeld => ?_)
                              clear hK K
                              refine norm_ (a' := ?_) ?_ ?_
                              rotate_left
                              ·
                               show Act.put _ (some 114) _ = _
                               simp only [Act.put, lA, lZ, lS, i64_w, i32_w]
                               rfl
                              as_aux_lemma =>
                               refine one_ (i := 20) (N := some 118) #[t_,t_,t_,t_,t_,t_,t_,t_,t_,t_,t_,t_,t_,t_,t_,t_,t_,t_,t_,t_,t_,f_,f_,f_] rfl rfl (one_of HT_.out (by kernel_rfl)) (by decide) (fun K hK => ?_)
                               refine goes_ Try.func12 (by kernel_rfl) rfl #[.agg #[.string a0_0, .int .i64 a0_1, .int .i64 a0_2, .int .i64 a0_3, .slice A0_4 l0_4.length c0_4, .slice A0_5 l0_5.length c0_5, .slice A0_6 l0_6.length c0_6, .int .i64 a0_7, .int .i64 a0_8, .int .i64 a0_9, .int .i64 a0_10, .int .i64 a0_11, .int .i64 a0_12, .int .i64 a0_13, .int .i64 a0_14, .int .i64 a0_15, .int .i64 a0_16, .int .i64 a0_17], .agg #[.int .i64 a2_0, .int .i64 a2_1], .agg #[.int .i64 a3_0, .int .i64 a3_1]] (by rfl) rfl rfl (by (try simp only [List.map_toArray, List.map_cons, List.map_nil]); first | done | rfl | (simp only [List.length_drop, List.length_take]; rfl)) ?_
                               with_reducible refine (seep_Bounds.calls kj127 a0_0 a0_1 a0_2 a0_3 _ _ l0_4 _ _ l0_5 _ _ l0_6 a0_7 a0_8 a0_9 a0_10 a0_11 a0_12 a0_13 a0_14 a0_15 a0_16 a0_17 a2_0 a2_1 a3_0 a3_1 t263 t264 _ ?side1 ?side2 ?side3 ?side4 ?side5 ?side6 A151.out).mono ?_
                               (case side1 => repeat (first | exact (Kd.C_below HR0_4.out HB.out) | (with_reducible refine Kd.C_alloc ?_ _) | (with_reducible refine Kd.C_drewN ?_ _) | (with_reducible refine Kd.C_drew ?_)))
                               (case side2 => exact HC0_4.out)
                               (case side3 => repeat (first | exact (Kd.C_below HR0_5.out HB.out) | (with_reducible refine Kd.C_alloc ?_ _) | (with_reducible refine Kd.C_drewN ?_ _) | (with_reducible refine Kd.C_drew ?_)))
                               (case side4 => exact HC0_5.out)
                               (case side5 => repeat (first | exact (Kd.C_below HR0_6.out HB.out) | (with_reducible refine Kd.C_alloc ?_ _) | (with_reducible refine Kd.C_drewN ?_ _) | (with_reducible refine Kd.C_drew ?_)))
                               (case side6 => exact HC0_6.out)
                               rintro e w173 ⟨rfl, hb⟩
                               refine ⟨_, rfl, ?_⟩
                               have n0_ := Aside0.mk (bB (g := gb240) (o := .cells #[.string a0_0, .int .i64 a0_1, .int .i64 a0_2, .int .i64 a0_3, .slice A0_4 l0_4.length c0_4, .slice A0_5 l0_5.length c0_5, .slice A0_6 l0_6.length c0_6, .int .i64 a0_7, .int .i64 a0_8, .int .i64 a0_9, .int .i64 a0_10, .int .i64 a0_11, .int .i64 a0_12, .int .i64 a0_13, .int .i64 a0_14, .int .i64 a0_15, .int .i64 a0_16, .int .i64 a0_17] 26 (0, 0)) (by (with_reducible repeat (first | refine bN ?_ _ | refine bD ?_ | refine bA ?_ _)); exact BK240.out) hb)
                               have n1_ := Aside0.mk (bB (g := gb241) (o := .cells #[.int .i64 a1_0, .int .i64 a1_1] 30 (0, 0)) (by (with_reducible repeat (first | refine bN ?_ _ | refine bD ?_ | refine bA ?_ _)); exact BK241.out) hb)
                               have n2_ := Aside0.mk (bB (g := gb242) (o := .cells #[.int .i64 a2_0, .int .i64 a2_1] 30 (0, 0)) (by (with_reducible repeat (first | refine bN ?_ _ | refine bD ?_ | refine bA ?_ _)); exact BK242.out) hb)
                               have n3_ := Aside0.mk (bB (g := gb243) (o := .cells #[.int .i64 a3_0, .int .i64 a3_1] 30 (0, 0)) (by (with_reducible repeat (first | refine bN ?_ _ | refine bD ?_ | refine bA ?_ _)); exact BK243.out) hb)
                               have n4_ := Aside0.mk (bB (g := gb255) (o := .cells #[.int .i64 t252, .int .i64 t253] 30 (0, 0)) (by (with_reducible repeat (first | refine bN ?_ _ | refine bD ?_ | refine bA ?_ _)); exact BK255.out) hb)
                               have n5_ := Aside0.mk (bP (by repeat (first | (with_reducible first | exact HB.out | apply bL | apply bW | apply b1 | refine bS ?_ GE240.out | refine bS ?_ GE241.out | refine bS ?_ GE242.out | refine bS ?_ GE243.out | refine bS ?_ GE255.out) | exact HB.out)) hb)
                               clear BK240
                               clear BK241
                               clear BK242
                               clear BK243
                               clear BK255
                               clear HB
                               have BK240 := n0_
                               have BK241 := n1_
                               have BK242 := n2_
                               have BK243 := n3_
                               have BK255 := n4_
                               have HB := n5_
                               clear n0_ n1_ n2_ n3_ n4_ n5_
                               (try clear hb)
                               (try clear hb2)
                               (try clear hk)
                               (try clear hi)
                               refine hK.out _ _ ⟨(bC BK240.out 0).trans rfl, (bC BK240.out 1).trans rfl, (bC BK240.out 2).trans rfl, (bC BK240.out 3).trans rfl, (bC BK240.out 4).trans rfl, (bC BK240.out 5).trans rfl, (bC BK240.out 6).trans rfl, (bC BK240.out 7).trans rfl, (bC BK240.out 8).trans rfl, (bC BK240.out 9).trans rfl, (bC BK240.out 10).trans rfl, (bC BK240.out 11).trans rfl, (bC BK240.out 12).trans rfl, (bC BK240.out 13).trans rfl, (bC BK240.out 14).trans rfl, (bC BK240.out 15).trans rfl, (bC BK240.out 16).trans rfl, (bC BK240.out 17).trans rfl, (bC BK255.out 0).trans rfl, (bC BK255.out 1).trans rfl, (bC BK242.out 0).trans rfl, (bC BK242.out 1).trans rfl, (bC BK241.out 0).trans rfl, (bC BK241.out 1).trans rfl, (bC BK243.out 0).trans rfl, (bC BK243.out 1).trans rfl⟩ (fun hHeld => ?_)
                               clear hK K
                               refine norm_ (a' := ?_) ?_ ?_
                               rotate_left
                               ·
                                show Act.put _ (some 118) _ = _
                                simp only [Act.put, lA, lZ, lS, i64_w, i32_w]
                                rfl
                               as_aux_lemma =>
                                refine one_ (i := 21) (N := some 119) #[t_,t_,t_,t_,t_,t_,t_,t_,t_,t_,t_,t_,t_,t_,t_,t_,t_,t_,t_,t_,t_,t_,f_,f_] rfl rfl (one_of HT_.out (by kernel_rfl)) (by decide) (fun K hK => ?_)
                                refine goes_ Try.func20 (by kernel_rfl) rfl #[.agg #[.int .i64 t261, .int .i64 t262], .agg #[.int .i64 t263, .int .i64 t264]] (by rfl) rfl rfl (by (try simp only [List.map_toArray, List.map_cons, List.map_nil]); first | done | rfl | (simp only [List.length_drop, List.length_take]; rfl)) ?_
                                with_reducible refine (span_Within.calls t261 t262 t263 t264 t265 _ A152.out).mono ?_
                                rintro e w174 ⟨rfl, hb⟩
                                refine ⟨_, rfl, ?_⟩
                                have n0_ := Aside0.mk (bB (g := gb240) (o := .cells #[.string a0_0, .int .i64 a0_1, .int .i64 a0_2, .int .i64 a0_3, .slice A0_4 l0_4.length c0_4, .slice A0_5 l0_5.length c0_5, .slice A0_6 l0_6.length c0_6, .int .i64 a0_7, .int .i64 a0_8, .int .i64 a0_9, .int .i64 a0_10, .int .i64 a0_11, .int .i64 a0_12, .int .i64 a0_13, .int .i64 a0_14, .int .i64 a0_15, .int .i64 a0_16, .int .i64 a0_17] 26 (0, 0)) (by (with_reducible repeat (first | refine bN ?_ _ | refine bD ?_ | refine bA ?_ _)); exact BK240.out) hb)
                                have n1_ := Aside0.mk (bB (g := gb241) (o := .cells #[.int .i64 a1_0, .int .i64 a1_1] 30 (0, 0)) (by (with_reducible repeat (first | refine bN ?_ _ | refine bD ?_ | refine bA ?_ _)); exact BK241.out) hb)
                                have n2_ := Aside0.mk (bB (g := gb242) (o := .cells #[.int .i64 a2_0, .int .i64 a2_1] 30 (0, 0)) (by (with_reducible repeat (first | refine bN ?_ _ | refine bD ?_ | refine bA ?_ _)); exact BK242.out) hb)
                                have n3_ := Aside0.mk (bB (g := gb243) (o := .cells #[.int .i64 a3_0, .int .i64 a3_1] 30 (0, 0)) (by (with_reducible repeat (first | refine bN ?_ _ | refine bD ?_ | refine bA ?_ _)); exact BK243.out) hb)
                                have n4_ := Aside0.mk (bB (g := gb255) (o := .cells #[.int .i64 t252, .int .i64 t253] 30 (0, 0)) (by (with_reducible repeat (first | refine bN ?_ _ | refine bD ?_ | refine bA ?_ _)); exact BK255.out) hb)
                                have n5_ := Aside0.mk (bP (by repeat (first | (with_reducible first | exact HB.out | apply bL | apply bW | apply b1 | refine bS ?_ GE240.out | refine bS ?_ GE241.out | refine bS ?_ GE242.out | refine bS ?_ GE243.out | refine bS ?_ GE255.out) | exact HB.out)) hb)
                                clear BK240
                                clear BK241
                                clear BK242
                                clear BK243
                                clear BK255
                                clear HB
                                have BK240 := n0_
                                have BK241 := n1_
                                have BK242 := n2_
                                have BK243 := n3_
                                have BK255 := n4_
                                have HB := n5_
                                clear n0_ n1_ n2_ n3_ n4_ n5_
                                (try clear hb)
                                (try clear hb2)
                                (try clear hk)
                                (try clear hi)
                                refine hK.out _ _ ⟨(bC BK240.out 0).trans rfl, (bC BK240.out 1).trans rfl, (bC BK240.out 2).trans rfl, (bC BK240.out 3).trans rfl, (bC BK240.out 4).trans rfl, (bC BK240.out 5).trans rfl, (bC BK240.out 6).trans rfl, (bC BK240.out 7).trans rfl, (bC BK240.out 8).trans rfl, (bC BK240.out 9).trans rfl, (bC BK240.out 10).trans rfl, (bC BK240.out 11).trans rfl, (bC BK240.out 12).trans rfl, (bC BK240.out 13).trans rfl, (bC BK240.out 14).trans rfl, (bC BK240.out 15).trans rfl, (bC BK240.out 16).trans rfl, (bC BK240.out 17).trans rfl, (bC BK255.out 0).trans rfl, (bC BK255.out 1).trans rfl, (bC BK242.out 0).trans rfl, (bC BK242.out 1).trans rfl, (bC BK241.out 0).trans rfl, (bC BK241.out 1).trans rfl, (bC BK243.out 0).trans rfl, (bC BK243.out 1).trans rfl⟩ (fun hHeld => ?_)
                                clear hK K
                                refine norm_ (a' := ?_) ?_ ?_
                                rotate_left
                                ·
                                 show Act.put _ (some 119) _ = _
                                 simp only [Act.put, lA, lZ, lS, i64_w, i32_w]
                                 rfl
                                as_aux_lemma =>
                                 refine pure_ (i := 22) (N := some 120) (v := ?_) (a' := ?_) #[t_,t_,t_,t_,t_,t_,t_,t_,t_,t_,t_,t_,t_,t_,t_,t_,t_,t_,t_,t_,t_,t_,t_,f_] rfl rfl (any_of HT_.out (by kernel_rfl)) (fun _ _ _ h => h) (Or.inl ⟨by rfl, ?_⟩) ?_ ?_
                                 rotate_left
                                 ·
                                  intro w'
                                  go_simp
                                  with_reducible rfl
                                 rotate_left
                                 ·
                                  simp only [Act.put, lA, lZ, lS, i64_w, i32_w]
                                  rfl
                                 as_aux_lemma =>
                                  refine pure_ (i := 23) (N := some 8) (v := ?_) (a' := ?_) #[t_,t_,t_,t_,t_,t_,t_,t_,t_,t_,t_,t_,t_,t_,t_,t_,t_,t_,t_,t_,t_,t_,t_,t_] rfl rfl (any_of HT_.out (by kernel_rfl)) (fun _ _ _ h => h) (Or.inl ⟨by rfl, ?_⟩) ?_ ?_
                                  rotate_left
                                  ·
                                   intro w'
                                   go_simp
                                   with_reducible rfl
                                  rotate_left
                                  ·
                                   simp only [Act.put, lA, lZ, lS, i64_w, i32_w]
                                   rfl
                                  refine done_ (done_of HT_.out (by kernel_rfl)) ?_
                                  try go_wp2
                                  go_ret
                                  exact ⟨by first | rfl | (simp [errW_none, errW_some] <;> rfl) | (simp [*, errW_none, errW_some] <;> rfl), by repeat (first | (with_reducible first | exact HB.out | apply bL | apply bW | apply b1 | refine bS ?_ GE240.out | refine bS ?_ GE241.out | refine bS ?_ GE242.out | refine bS ?_ GE243.out | refine bS ?_ GE255.out) | exact HB.out)⟩
         ·
          replace c149 := Bool.eq_false_iff.mpr c149
          subst c149
          have H1 : (some false) = some r := by rw [if_neg (show ¬ (false = true) by decide)] at H; exact H
          clear H
          have H := H1
          clear H1
          exact absurd (H.trans (congrArg some hT.out)) (by simp)
        ·
         replace c145 := Bool.eq_false_iff.mpr c145
         subst c145
         have H1 : (some false) = some r := by rw [if_neg (show ¬ (false = true) by decide)] at H; exact H
         clear H
         have H := H1
         clear H1
         exact absurd (H.trans (congrArg some hT.out)) (by simp)
       ·
        replace c144 := Bool.eq_false_iff.mpr c144
        subst c144
        have H1 : (some t244) = some r := by rw [if_neg (show ¬ (false = true) by decide)] at H; exact H
        clear H
        have H := H1
        clear H1
        obtain rfl := Option.some.inj H
        have hnb175 := NB241_240.out
        have hnc175 := NB240_241.out
        have hnb176 := NB241_242.out
        have hnc176 := NB242_241.out
        have hnb177 := NB241_243.out
        have hnc177 := NB243_241.out
        have hcz178_0 : wc.cell? ⟨gb241, 0, none⟩ = some (.int .i64 a1_0) := (bC BK241.out 0).trans rfl
        have hcz178_1 : wc.cell? ⟨gb241, 1, none⟩ = some (.int .i64 a1_1) := (bC BK241.out 1).trans rfl
        have hfz178_0 := bF BK241.out 0
        have hfz178_1 := bF BK241.out 1
        have hnb179 := NB243_240.out
        have hnc179 := NB240_243.out
        have hnb180 := NB243_242.out
        have hnc180 := NB242_243.out
        have hcz181_0 : wc.cell? ⟨gb243, 0, none⟩ = some (.int .i64 a3_0) := (bC BK243.out 0).trans rfl
        have hcz181_1 : wc.cell? ⟨gb243, 1, none⟩ = some (.int .i64 a3_1) := (bC BK243.out 1).trans rfl
        have hfz181_0 := bF BK243.out 0
        have hfz181_1 := bF BK243.out 1
        as_aux_lemma =>
          go_wp2_with (first | ((with_reducible refine gate_callee (f := 19) rfl ?_); refine goesL_ (some 92) rfl rfl Try.func19 (by kernel_rfl) rfl #[.agg #[.int .i64 a1_0, .int .i64 a1_1], .agg #[.int .i64 a3_0, .int .i64 a3_1]] rfl (by (try simp only [List.map_toArray, List.map_cons, List.map_nil]); first | done | rfl | (simp only [List.length_drop, List.length_take]; rfl)) ?_; (with_reducible refine (span_Meet.calls a1_0 a1_1 a3_0 a3_1 t252 t253 false _ A143.out).mono ?_); rintro e w182 ⟨rfl, hb⟩; refine ⟨_, rfl, ?_⟩; have n0_ := Aside0.mk (bB (g := gb240) (o := .cells #[.string a0_0, .int .i64 a0_1, .int .i64 a0_2, .int .i64 a0_3, .slice A0_4 l0_4.length c0_4, .slice A0_5 l0_5.length c0_5, .slice A0_6 l0_6.length c0_6, .int .i64 a0_7, .int .i64 a0_8, .int .i64 a0_9, .int .i64 a0_10, .int .i64 a0_11, .int .i64 a0_12, .int .i64 a0_13, .int .i64 a0_14, .int .i64 a0_15, .int .i64 a0_16, .int .i64 a0_17] 26 (0, 0)) (by (with_reducible repeat (first | refine bN ?_ _ | refine bD ?_ | refine bA ?_ _)); exact BK240.out) hb); have n1_ := Aside0.mk (bB (g := gb241) (o := .cells #[.int .i64 a1_0, .int .i64 a1_1] 30 (0, 0)) (by (with_reducible repeat (first | refine bN ?_ _ | refine bD ?_ | refine bA ?_ _)); exact BK241.out) hb); have n2_ := Aside0.mk (bB (g := gb242) (o := .cells #[.int .i64 a2_0, .int .i64 a2_1] 30 (0, 0)) (by (with_reducible repeat (first | refine bN ?_ _ | refine bD ?_ | refine bA ?_ _)); exact BK242.out) hb); have n3_ := Aside0.mk (bB (g := gb243) (o := .cells #[.int .i64 a3_0, .int .i64 a3_1] 30 (0, 0)) (by (with_reducible repeat (first | refine bN ?_ _ | refine bD ?_ | refine bA ?_ _)); exact BK243.out) hb); have n4_ := Aside0.mk (bP (by repeat (first | (with_reducible first | exact HB.out | apply bL | apply bW | apply b1 | refine bS ?_ GE240.out | refine bS ?_ GE241.out | refine bS ?_ GE242.out | refine bS ?_ GE243.out) | exact HB.out)) hb); clear BK240; clear BK241; clear BK242; clear BK243; clear HB; have BK240 := n0_; have BK241 := n1_; have BK242 := n2_; have BK243 := n3_; have HB := n4_; clear n0_ n1_ n2_ n3_ n4_; (try clear hb); (try clear hb2); (try clear hk); (try clear hi)) | ((with_reducible refine gate_dst (N := 10) rfl ?_); refine box_event ?hg (N := 10) ?hd (cs := #[.int .i64 0, .int .i64 0]) (t := 30) ?hr ?_; (case hd => rfl); (case hg => rfl); (case hr => first | (go_simp; done) | (go_simp; rfl)); intro gb255 hg w183 hbox hb; have n0_ := Aside0.mk (bB (g := gb240) (o := .cells #[.string a0_0, .int .i64 a0_1, .int .i64 a0_2, .int .i64 a0_3, .slice A0_4 l0_4.length c0_4, .slice A0_5 l0_5.length c0_5, .slice A0_6 l0_6.length c0_6, .int .i64 a0_7, .int .i64 a0_8, .int .i64 a0_9, .int .i64 a0_10, .int .i64 a0_11, .int .i64 a0_12, .int .i64 a0_13, .int .i64 a0_14, .int .i64 a0_15, .int .i64 a0_16, .int .i64 a0_17] 26 (0, 0)) (by (with_reducible repeat (first | refine bN ?_ _ | refine bD ?_ | refine bA ?_ _)); exact BK240.out) hb); have n1_ := Aside0.mk (bB (g := gb241) (o := .cells #[.int .i64 a1_0, .int .i64 a1_1] 30 (0, 0)) (by (with_reducible repeat (first | refine bN ?_ _ | refine bD ?_ | refine bA ?_ _)); exact BK241.out) hb); have n2_ := Aside0.mk (bB (g := gb242) (o := .cells #[.int .i64 a2_0, .int .i64 a2_1] 30 (0, 0)) (by (with_reducible repeat (first | refine bN ?_ _ | refine bD ?_ | refine bA ?_ _)); exact BK242.out) hb); have n3_ := Aside0.mk (bB (g := gb243) (o := .cells #[.int .i64 a3_0, .int .i64 a3_1] 30 (0, 0)) (by (with_reducible repeat (first | refine bN ?_ _ | refine bD ?_ | refine bA ?_ _)); exact BK243.out) hb); have n4_ := Aside0.mk (bP (by repeat (first | (with_reducible first | exact HB.out | apply bL | apply bW | apply b1 | refine bS ?_ GE240.out | refine bS ?_ GE241.out | refine bS ?_ GE242.out | refine bS ?_ GE243.out) | exact HB.out)) hb); have n5_ := Aside0.mk (hbox); have n6_ := Aside0.mk ((by rw [hg]; exact (bZ (by repeat (first | (with_reducible first | exact HB.out | apply bL | apply bW | apply b1 | refine bS ?_ GE240.out | refine bS ?_ GE241.out | refine bS ?_ GE242.out | refine bS ?_ GE243.out) | exact HB.out))) : w.heap.size ≤ gb255)); have n7_ := Aside0.mk ((by rw [hg]; exact (bZ (by repeat (first | (with_reducible first | exact HB.out | apply bL | apply bW | apply b1 | refine bS ?_ GE240.out | refine bS ?_ GE241.out | refine bS ?_ GE242.out | refine bS ?_ GE243.out) | exact HB.out))) : w.heap.size ≤ gb255)); have n8_ := Aside0.mk ((by rw [hg]; exact Nat.ne_of_lt (bT (g := gb240) (o := .cells #[.string a0_0, .int .i64 a0_1, .int .i64 a0_2, .int .i64 a0_3, .slice A0_4 l0_4.length c0_4, .slice A0_5 l0_5.length c0_5, .slice A0_6 l0_6.length c0_6, .int .i64 a0_7, .int .i64 a0_8, .int .i64 a0_9, .int .i64 a0_10, .int .i64 a0_11, .int .i64 a0_12, .int .i64 a0_13, .int .i64 a0_14, .int .i64 a0_15, .int .i64 a0_16, .int .i64 a0_17] 26 (0, 0)) (by (with_reducible repeat (first | refine bN ?_ _ | refine bD ?_ | refine bA ?_ _)); exact BK240.out)) : gb240 ≠ gb255)); have n9_ := Aside0.mk ((by rw [hg]; exact Nat.ne_of_gt (bT (g := gb240) (o := .cells #[.string a0_0, .int .i64 a0_1, .int .i64 a0_2, .int .i64 a0_3, .slice A0_4 l0_4.length c0_4, .slice A0_5 l0_5.length c0_5, .slice A0_6 l0_6.length c0_6, .int .i64 a0_7, .int .i64 a0_8, .int .i64 a0_9, .int .i64 a0_10, .int .i64 a0_11, .int .i64 a0_12, .int .i64 a0_13, .int .i64 a0_14, .int .i64 a0_15, .int .i64 a0_16, .int .i64 a0_17] 26 (0, 0)) (by (with_reducible repeat (first | refine bN ?_ _ | refine bD ?_ | refine bA ?_ _)); exact BK240.out)) : gb255 ≠ gb240)); have n10_ := Aside0.mk ((by rw [hg]; exact Nat.ne_of_lt (bT (g := gb241) (o := .cells #[.int .i64 a1_0, .int .i64 a1_1] 30 (0, 0)) (by (with_reducible repeat (first | refine bN ?_ _ | refine bD ?_ | refine bA ?_ _)); exact BK241.out)) : gb241 ≠ gb255)); have n11_ := Aside0.mk ((by rw [hg]; exact Nat.ne_of_gt (bT (g := gb241) (o := .cells #[.int .i64 a1_0, .int .i64 a1_1] 30 (0, 0)) (by (with_reducible repeat (first | refine bN ?_ _ | refine bD ?_ | refine bA ?_ _)); exact BK241.out)) : gb255 ≠ gb241)); have n12_ := Aside0.mk ((by rw [hg]; exact Nat.ne_of_lt (bT (g := gb242) (o := .cells #[.int .i64 a2_0, .int .i64 a2_1] 30 (0, 0)) (by (with_reducible repeat (first | refine bN ?_ _ | refine bD ?_ | refine bA ?_ _)); exact BK242.out)) : gb242 ≠ gb255)); have n13_ := Aside0.mk ((by rw [hg]; exact Nat.ne_of_gt (bT (g := gb242) (o := .cells #[.int .i64 a2_0, .int .i64 a2_1] 30 (0, 0)) (by (with_reducible repeat (first | refine bN ?_ _ | refine bD ?_ | refine bA ?_ _)); exact BK242.out)) : gb255 ≠ gb242)); have n14_ := Aside0.mk ((by rw [hg]; exact Nat.ne_of_lt (bT (g := gb243) (o := .cells #[.int .i64 a3_0, .int .i64 a3_1] 30 (0, 0)) (by (with_reducible repeat (first | refine bN ?_ _ | refine bD ?_ | refine bA ?_ _)); exact BK243.out)) : gb243 ≠ gb255)); have n15_ := Aside0.mk ((by rw [hg]; exact Nat.ne_of_gt (bT (g := gb243) (o := .cells #[.int .i64 a3_0, .int .i64 a3_1] 30 (0, 0)) (by (with_reducible repeat (first | refine bN ?_ _ | refine bD ?_ | refine bA ?_ _)); exact BK243.out)) : gb255 ≠ gb243)); clear BK240; clear BK241; clear BK242; clear BK243; clear HB; have BK240 := n0_; have BK241 := n1_; have BK242 := n2_; have BK243 := n3_; have HB := n4_; have BK255 := n5_; have GW255 := n6_; have GE255 := n7_; have NB240_255 := n8_; have NB255_240 := n9_; have NB241_255 := n10_; have NB255_241 := n11_; have NB242_255 := n12_; have NB255_242 := n13_; have NB243_255 := n14_; have NB255_243 := n15_; clear n0_ n1_ n2_ n3_ n4_ n5_ n6_ n7_ n8_ n9_ n10_ n11_ n12_ n13_ n14_ n15_; clear hb hbox hg; have hnb184 := NB255_240.out; have hnc184 := NB240_255.out; have hnb185 := NB255_241.out; have hnc185 := NB241_255.out; have hnb186 := NB255_242.out; have hnc186 := NB242_255.out; have hnb187 := NB255_243.out; have hnc187 := NB243_255.out; have hcz188_0 : w183.cell? ⟨gb255, 0, none⟩ = some (.int .i64 0) := (bC BK255.out 0).trans rfl; have hcz188_1 : w183.cell? ⟨gb255, 1, none⟩ = some (.int .i64 0) := (bC BK255.out 1).trans rfl; have hfz188_0 := bF BK255.out 0; have hfz188_1 := bF BK255.out 1) | ((with_reducible refine gate_load 26 4 rfl ?_); refine box_load (g := gb240) (cs := #[.string a0_0, .int .i64 a0_1, .int .i64 a0_2, .int .i64 a0_3, .slice A0_4 l0_4.length c0_4, .slice A0_5 l0_5.length c0_5, .slice A0_6 l0_6.length c0_6, .int .i64 a0_7, .int .i64 a0_8, .int .i64 a0_9, .int .i64 a0_10, .int .i64 a0_11, .int .i64 a0_12, .int .i64 a0_13, .int .i64 a0_14, .int .i64 a0_15, .int .i64 a0_16, .int .i64 a0_17]) ?hw rfl (by (with_reducible repeat (first | refine bN ?_ _ | refine bD ?_ | refine bA ?_ _)); with_reducible exact BK240.out) ?ha hu26 rfl ?hi ?_; (case hw => first | exact wanted_none rfl | rfl); (case ha => first | rfl | (go_simp; done)); (case hi => first | rfl | kernel_rfl)))
          go_ret
          exact ⟨by first | rfl | (simp [errW_none, errW_some] <;> rfl) | (simp [*, errW_none, errW_some] <;> rfl), by repeat (first | (with_reducible first | exact HB.out | apply bL | apply bW | apply b1 | refine bS ?_ GE240.out | refine bS ?_ GE241.out | refine bS ?_ GE242.out | refine bS ?_ GE243.out | refine bS ?_ GE255.out) | exact HB.out)⟩
def bournelaw20_SeepGrows.Pure : Prop := ∀ (a0_0 : ByteArray) (a0_1 : Int) (a0_2 : Int) (a0_3 : Int) (l0_4 : List (S90)) (l0_5 : List (S90)) (l0_6 : List (S90)) (a0_7 : Int) (a0_8 : Int) (a0_9 : Int) (a0_10 : Int) (a0_11 : Int) (a0_12 : Int) (a0_13 : Int) (a0_14 : Int) (a0_15 : Int) (a0_16 : Int) (a0_17 : Int) (a1_0 : Int) (a1_1 : Int) (a2_0 : Int) (a2_1 : Int) (a3_0 : Int) (a3_1 : Int), a0_0.size ≤ maxLen → (Lit.int .i64 a0_1).wf = true → (Lit.int .i64 a0_2).wf = true → (Lit.int .i64 a0_3).wf = true → l0_4.length ≤ maxLen → (∀ y, y ∈ l0_4 → w90 y) → l0_5.length ≤ maxLen → (∀ y, y ∈ l0_5 → w90 y) → l0_6.length ≤ maxLen → (∀ y, y ∈ l0_6 → w90 y) → (Lit.int .i64 a0_7).wf = true → (Lit.int .i64 a0_8).wf = true → (Lit.int .i64 a0_9).wf = true → (Lit.int .i64 a0_10).wf = true → (Lit.int .i64 a0_11).wf = true → (Lit.int .i64 a0_12).wf = true → (Lit.int .i64 a0_13).wf = true → (Lit.int .i64 a0_14).wf = true → (Lit.int .i64 a0_15).wf = true → (Lit.int .i64 a0_16).wf = true → (Lit.int .i64 a0_17).wf = true → (Lit.int .i64 a1_0).wf = true → (Lit.int .i64 a1_1).wf = true → (Lit.int .i64 a2_0).wf = true → (Lit.int .i64 a2_1).wf = true → (Lit.int .i64 a3_0).wf = true → (Lit.int .i64 a3_1).wf = true → ∃ k, bournelaw20_SeepGrows.f k a0_0 a0_1 a0_2 a0_3 l0_4 l0_5 l0_6 a0_7 a0_8 a0_9 a0_10 a0_11 a0_12 a0_13 a0_14 a0_15 a0_16 a0_17 a1_0 a1_1 a2_0 a2_1 a3_0 a3_1 = some true
theorem bournelaw20_SeepGrows.walk (P_ : bournelaw20_SeepGrows.Pure) (a0_0 : ByteArray) (a0_1 : Int) (a0_2 : Int) (a0_3 : Int) (A0_4 : Option Addr) (c0_4 : Nat) (l0_4 : List (S90)) (A0_5 : Option Addr) (c0_5 : Nat) (l0_5 : List (S90)) (A0_6 : Option Addr) (c0_6 : Nat) (l0_6 : List (S90)) (a0_7 : Int) (a0_8 : Int) (a0_9 : Int) (a0_10 : Int) (a0_11 : Int) (a0_12 : Int) (a0_13 : Int) (a0_14 : Int) (a0_15 : Int) (a0_16 : Int) (a0_17 : Int) (a1_0 : Int) (a1_1 : Int) (a2_0 : Int) (a2_1 : Int) (a3_0 : Int) (a3_1 : Int) (w : World) (hr0_4 : Kd.C k90 w A0_4 l0_4.length l0_4) (hc0_4 : l0_4.length ≤ c0_4) (hr0_5 : Kd.C k90 w A0_5 l0_5.length l0_5) (hc0_5 : l0_5.length ≤ c0_5) (hr0_6 : Kd.C k90 w A0_6 l0_6.length l0_6) (hc0_6 : l0_6.length ≤ c0_6) (y0 : a0_0.size ≤ maxLen) (y1 : (Lit.int .i64 a0_1).wf = true) (y2 : (Lit.int .i64 a0_2).wf = true) (y3 : (Lit.int .i64 a0_3).wf = true) (y4 : l0_4.length ≤ maxLen) (y5 : (∀ y, y ∈ l0_4 → w90 y)) (y6 : l0_5.length ≤ maxLen) (y7 : (∀ y, y ∈ l0_5 → w90 y)) (y8 : l0_6.length ≤ maxLen) (y9 : (∀ y, y ∈ l0_6 → w90 y)) (y10 : (Lit.int .i64 a0_7).wf = true) (y11 : (Lit.int .i64 a0_8).wf = true) (y12 : (Lit.int .i64 a0_9).wf = true) (y13 : (Lit.int .i64 a0_10).wf = true) (y14 : (Lit.int .i64 a0_11).wf = true) (y15 : (Lit.int .i64 a0_12).wf = true) (y16 : (Lit.int .i64 a0_13).wf = true) (y17 : (Lit.int .i64 a0_14).wf = true) (y18 : (Lit.int .i64 a0_15).wf = true) (y19 : (Lit.int .i64 a0_16).wf = true) (y20 : (Lit.int .i64 a0_17).wf = true) (y21 : (Lit.int .i64 a1_0).wf = true) (y22 : (Lit.int .i64 a1_1).wf = true) (y23 : (Lit.int .i64 a2_0).wf = true) (y24 : (Lit.int .i64 a2_1).wf = true) (y25 : (Lit.int .i64 a3_0).wf = true) (y26 : (Lit.int .i64 a3_1).wf = true) :
  Calls Try.prog 6 #[.agg #[.string a0_0, .int .i64 a0_1, .int .i64 a0_2, .int .i64 a0_3, .slice A0_4 l0_4.length c0_4, .slice A0_5 l0_5.length c0_5, .slice A0_6 l0_6.length c0_6, .int .i64 a0_7, .int .i64 a0_8, .int .i64 a0_9, .int .i64 a0_10, .int .i64 a0_11, .int .i64 a0_12, .int .i64 a0_13, .int .i64 a0_14, .int .i64 a0_15, .int .i64 a0_16, .int .i64 a0_17], .agg #[.int .i64 a1_0, .int .i64 a1_1], .agg #[.int .i64 a2_0, .int .i64 a2_1], .agg #[.int .i64 a3_0, .int .i64 a3_1]] w fun e w' => e = .returned (.bool true) ∧ Below w.heap.size w w' := by
 obtain ⟨k, h⟩ := P_ a0_0 a0_1 a0_2 a0_3 l0_4 l0_5 l0_6 a0_7 a0_8 a0_9 a0_10 a0_11 a0_12 a0_13 a0_14 a0_15 a0_16 a0_17 a1_0 a1_1 a2_0 a2_1 a3_0 a3_1 y0 y1 y2 y3 y4 y5 y6 y7 y8 y9 y10 y11 y12 y13 y14 y15 y16 y17 y18 y19 y20 y21 y22 y23 y24 y25 y26
 refine (bournelaw20_SeepGrows.calls k a0_0 a0_1 a0_2 a0_3 A0_4 c0_4 l0_4 A0_5 c0_5 l0_5 A0_6 c0_6 l0_6 a0_7 a0_8 a0_9 a0_10 a0_11 a0_12 a0_13 a0_14 a0_15 a0_16 a0_17 a1_0 a1_1 a2_0 a2_1 a3_0 a3_1 true w hr0_4 hc0_4 hr0_5 hc0_5 hr0_6 hc0_6 ⟨rfl⟩ h).mono ?_
 rintro e w' ⟨rfl, hd⟩
 exact ⟨rfl, hd⟩

end Go.Proofs.Ytacpiaiohcblfaa.Fn
