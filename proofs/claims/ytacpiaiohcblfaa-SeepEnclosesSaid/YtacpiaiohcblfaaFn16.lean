-- written by this session's program myprint.py out of the translation; Lean checks it
import Derived.Test.YtacpiaiohcblfaaFn0
import Derived.Test.YtacpiaiohcblfaaBox
import Derived.Test.YtacpiaiohcblfaaRdT
import Derived.Test.YtacpiaiohcblfaaFn2
import Derived.Test.YtacpiaiohcblfaaFn5
import Derived.Test.YtacpiaiohcblfaaFnM
import Derived.Test.YtacpiaiohcblfaaFn13
import Derived.Test.YtacpiaiohcblfaaFn15
import Derived.Test.YtacpiaiohcblfaaMaybe
namespace Go.Proofs.Ytacpiaiohcblfaa.Fn
open Go.Proofs.Ytacpiaiohcblfaa.Rd (w90)
open Go.RowKit Go.Proofs.YtacpiaiohcblfaaW.PrintWords Go.Proofs.YtacpiaiohcblfaaW.PrintLast Go.Proofs.YtacpiaiohcblfaaW.PrintMore
open Bool renaming true → t_, false → f_
open List renaming setIfInBounds_toArray → lA, set_cons_zero → lZ, set_cons_succ → lS
open Go.Proofs.YtacpiaiohcblfaaW.PrintWords renaming blk_drewN → bN, blk_drew → bD, blk_alloc → bA, below_set → bS, blk_cell → bC, blk_below → bB, blk_frozen → bF, pw_below_drewN → bW, below_drew1 → b1, below_alloc → bL, below_step → bP, below_size → bZ, blk_far → bR, blk_put → bU, blk_lt → bT
attribute [local go_sem] max2_int min2_int max_two min_two max_three min_three max_four min_four   -- for this text's walks alone
attribute [local go_sem] fld28
set_option linter.unusedVariables false
set_option linter.unusedSimpArgs false

attribute [local go_sem high] eqA30
/-! ### bournelaw20_SeepEncloses: function 7 -/
mutual
def bournelaw20_SeepEncloses.j0 : Nat → Int → Int → Bool → Bool → Bool → ByteArray → Int → Int → Int → List (S90) → List (S90) → List (S90) → Int → Int → Int → Int → Int → Int → Int → Int → Int → Int → Int → Int → Int → Int → Int → Int → Int → Int → Int → Int → Option (Bool)
 | 0, _, _, _, _, _, _, _, _, _, _, _, _, _, _, _, _, _, _, _, _, _, _, _, _, _, _, _, _, _, _, _, _ => none
 | k + 1, x3, x4, x6, x15, x42, x269000, x269001, x269002, x269003, x269004, x269005, x269006, x269007, x269008, x269009, x269010, x269011, x269012, x269013, x269014, x269015, x269016, x269017, x270000, x270001, x271000, x271001, x272000, x272001, x272002, x272003, x272004 => if x42 = true then (some x15) else ((bournelaw20_inside.f x270000 x270001 x3).bind fun t275 => ((bournelaw20_inside.f x271000 x271001 x4).bind fun t276 => ((seep_Bounds.f k x269000 x269001 x269002 x269003 x269004 x269005 x269006 x269007 x269008 x269009 x269010 x269011 x269012 x269013 x269014 x269015 x269016 x269017 x270000 x270001 x271000 x271001).bind fun bt277 => ((seep_Ask.f k x269000 x269001 x269002 x269003 x269004 x269005 x269006 x269007 x269008 x269009 x269010 x269011 x269012 x269013 x269014 x269015 x269016 x269017 t275 t276).bind fun t280 => ((span_Has.f bt277.1 bt277.2 t280).bind fun t281 => (if t281 = true then ((seep_Ask.f k x269000 x269001 x269002 x269003 x269004 x269005 x269006 x269007 x269008 x269009 x269010 x269011 x269012 x269013 x269014 x269015 x269016 x269017 x270000 x271001).bind fun t282 => (if t282 = bt277.1 then ((seep_Ask.f k x269000 x269001 x269002 x269003 x269004 x269005 x269006 x269007 x269008 x269009 x269010 x269011 x269012 x269013 x269014 x269015 x269016 x269017 x270001 x271000).bind fun t283 => (bournelaw20_SeepEncloses.j1 k t275 x6 x15 (t283 != bt277.2) x269000 x269001 x269002 x269003 x269004 x269005 x269006 x269007 x269008 x269009 x269010 x269011 x269012 x269013 x269014 x269015 x269016 x269017 x270000 x270001 x272000 x272001 x272002 x272003 x272004)) else (bournelaw20_SeepEncloses.j1 k t275 x6 x15 true x269000 x269001 x269002 x269003 x269004 x269005 x269006 x269007 x269008 x269009 x269010 x269011 x269012 x269013 x269014 x269015 x269016 x269017 x270000 x270001 x272000 x272001 x272002 x272003 x272004))) else (bournelaw20_SeepEncloses.j1 k t275 x6 x15 true x269000 x269001 x269002 x269003 x269004 x269005 x269006 x269007 x269008 x269009 x269010 x269011 x269012 x269013 x269014 x269015 x269016 x269017 x270000 x270001 x272000 x272001 x272002 x272003 x272004)))))))
def bournelaw20_SeepEncloses.j1 : Nat → Int → Bool → Bool → Bool → ByteArray → Int → Int → Int → List (S90) → List (S90) → List (S90) → Int → Int → Int → Int → Int → Int → Int → Int → Int → Int → Int → Int → Int → Int → Int → Int → Int → Int → Option (Bool)
 | 0, _, _, _, _, _, _, _, _, _, _, _, _, _, _, _, _, _, _, _, _, _, _, _, _, _, _, _, _, _ => none
 | k + 1, x3, x6, x15, x82, x269000, x269001, x269002, x269003, x269004, x269005, x269006, x269007, x269008, x269009, x269010, x269011, x269012, x269013, x269014, x269015, x269016, x269017, x270000, x270001, x272000, x272001, x272002, x272003, x272004 => if x82 = true then (some false) else (if x6 = true then (bournelaw20_SeepEncloses.j2 k x3 x6 x15 1 x269000 x269001 x269002 x269003 x269004 x269005 x269006 x269007 x269008 x269009 x269010 x269011 x269012 x269013 x269014 x269015 x269016 x269017 x270000 x270001 x272000 x272001 x272002 x272003 x272004) else (bournelaw20_SeepEncloses.j2 k x3 x6 x15 0 x269000 x269001 x269002 x269003 x269004 x269005 x269006 x269007 x269008 x269009 x269010 x269011 x269012 x269013 x269014 x269015 x269016 x269017 x270000 x270001 x272000 x272001 x272002 x272003 x272004))
def bournelaw20_SeepEncloses.j2 : Nat → Int → Bool → Bool → Int → ByteArray → Int → Int → Int → List (S90) → List (S90) → List (S90) → Int → Int → Int → Int → Int → Int → Int → Int → Int → Int → Int → Int → Int → Int → Int → Int → Int → Int → Option (Bool)
 | 0, _, _, _, _, _, _, _, _, _, _, _, _, _, _, _, _, _, _, _, _, _, _, _, _, _, _, _, _, _ => none
 | k + 1, x3, x6, x15, x17, x269000, x269001, x269002, x269003, x269004, x269005, x269006, x269007, x269008, x269009, x269010, x269011, x269012, x269013, x269014, x269015, x269016, x269017, x270000, x270001, x272000, x272001, x272002, x272003, x272004 => (span_Has.f x272003 x272004 x17).bind fun t284 => (if t284 = true then (bournelaw20_SeepEncloses.j3 k x3 x6 x15 (x269001 != 3) x269000 x269001 x269002 x269003 x269004 x269005 x269006 x269007 x269008 x269009 x269010 x269011 x269012 x269013 x269014 x269015 x269016 x269017 x270000 x270001 x272000 x272001 x272002 x272003 x272004) else (bournelaw20_SeepEncloses.j3 k x3 x6 x15 true x269000 x269001 x269002 x269003 x269004 x269005 x269006 x269007 x269008 x269009 x269010 x269011 x269012 x269013 x269014 x269015 x269016 x269017 x270000 x270001 x272000 x272001 x272002 x272003 x272004))
def bournelaw20_SeepEncloses.j3 : Nat → Int → Bool → Bool → Bool → ByteArray → Int → Int → Int → List (S90) → List (S90) → List (S90) → Int → Int → Int → Int → Int → Int → Int → Int → Int → Int → Int → Int → Int → Int → Int → Int → Int → Int → Option (Bool)
 | 0, _, _, _, _, _, _, _, _, _, _, _, _, _, _, _, _, _, _, _, _, _, _, _, _, _, _, _, _, _ => none
 | k + 1, x3, x6, x15, x93, x269000, x269001, x269002, x269003, x269004, x269005, x269006, x269007, x269008, x269009, x269010, x269011, x269012, x269013, x269014, x269015, x269016, x269017, x270000, x270001, x272000, x272001, x272002, x272003, x272004 => if x93 = true then (some x15) else ((seep_Siphon.f x269000 x269001 x269002 x269003 x269004 x269005 x269006 x269007 x269008 x269009 x269010 x269011 x269012 x269013 x269014 x269015 x269016 x269017 0 0 false x6 x3).bind fun bt285 => (if bt285.2.2.2 = true then (bournelaw20_SeepEncloses.j4 k x15 1 x269000 x269001 x269002 x269003 x269004 x269005 x269006 x269007 x269008 x269009 x269010 x269011 x269012 x269013 x269014 x269015 x269016 x269017 x270000 x270001 x272000 x272001 x272002 x272003 x272004) else (bournelaw20_SeepEncloses.j4 k x15 0 x269000 x269001 x269002 x269003 x269004 x269005 x269006 x269007 x269008 x269009 x269010 x269011 x269012 x269013 x269014 x269015 x269016 x269017 x270000 x270001 x272000 x272001 x272002 x272003 x272004)))
def bournelaw20_SeepEncloses.j4 : Nat → Bool → Int → ByteArray → Int → Int → Int → List (S90) → List (S90) → List (S90) → Int → Int → Int → Int → Int → Int → Int → Int → Int → Int → Int → Int → Int → Int → Int → Int → Int → Int → Option (Bool)
 | 0, _, _, _, _, _, _, _, _, _, _, _, _, _, _, _, _, _, _, _, _, _, _, _, _, _, _, _ => none
 | k + 1, x15, x18, x269000, x269001, x269002, x269003, x269004, x269005, x269006, x269007, x269008, x269009, x269010, x269011, x269012, x269013, x269014, x269015, x269016, x269017, x270000, x270001, x272000, x272001, x272002, x272003, x272004 => (seep_Maybe.f x269000 x269001 x269002 x269003 x269004 x269005 x269006 x269007 x269008 x269009 x269010 x269011 x269012 x269013 x269014 x269015 x269016 x269017 x272000 x272001 x272002 x272003 x272004 x270000 x270001).bind fun bt289 => (if x15 = true then ((span_Has.f bt289.2.2.2.1 bt289.2.2.2.2 x18).bind fun t295 => (if t295 = true then (if bt289.2.2.2.1 ≥ 0 then (if bt289.2.2.2.2 ≤ 1 then (if (bt289.1 == x272000 && (bt289.2.1 == x272001)) = true then (some (bt289.2.2.1 == x272002)) else (some false)) else (some false)) else (some false)) else (some false))) else (some false))
end
def bournelaw20_SeepEncloses.f (k : Nat) (a0_0 : ByteArray) (a0_1 : Int) (a0_2 : Int) (a0_3 : Int) (l0_4 : List (S90)) (l0_5 : List (S90)) (l0_6 : List (S90)) (a0_7 : Int) (a0_8 : Int) (a0_9 : Int) (a0_10 : Int) (a0_11 : Int) (a0_12 : Int) (a0_13 : Int) (a0_14 : Int) (a0_15 : Int) (a0_16 : Int) (a0_17 : Int) (a1_0 : Int) (a1_1 : Int) (a2_0 : Int) (a2_1 : Int) (a3 : Int) (a4 : Int) (a5_0 : Int) (a5_1 : Int) (a5_2 : Int) (a5_3 : Int) (a5_4 : Int) (a6 : Bool) : Option (Bool) := (bournelaw20_small.f k).bind fun t272 => ((bournelaw20_within.f a1_0 a1_1).bind fun t273 => (if t273 = true then ((bournelaw20_within.f a2_0 a2_1).bind fun t274 => (if t274 = true then (if a0_11 > a0_12 then (bournelaw20_SeepEncloses.j0 k a3 a4 a6 t272 true a0_0 a0_1 a0_2 a0_3 l0_4 l0_5 l0_6 a0_7 a0_8 a0_9 a0_10 a0_11 a0_12 a0_13 a0_14 a0_15 a0_16 a0_17 a1_0 a1_1 a2_0 a2_1 a5_0 a5_1 a5_2 a5_3 a5_4) else (bournelaw20_SeepEncloses.j0 k a3 a4 a6 t272 (decide (a0_15 > a0_16)) a0_0 a0_1 a0_2 a0_3 l0_4 l0_5 l0_6 a0_7 a0_8 a0_9 a0_10 a0_11 a0_12 a0_13 a0_14 a0_15 a0_16 a0_17 a1_0 a1_1 a2_0 a2_1 a5_0 a5_1 a5_2 a5_3 a5_4)) else (bournelaw20_SeepEncloses.j0 k a3 a4 a6 t272 true a0_0 a0_1 a0_2 a0_3 l0_4 l0_5 l0_6 a0_7 a0_8 a0_9 a0_10 a0_11 a0_12 a0_13 a0_14 a0_15 a0_16 a0_17 a1_0 a1_1 a2_0 a2_1 a5_0 a5_1 a5_2 a5_3 a5_4))) else (bournelaw20_SeepEncloses.j0 k a3 a4 a6 t272 true a0_0 a0_1 a0_2 a0_3 l0_4 l0_5 l0_6 a0_7 a0_8 a0_9 a0_10 a0_11 a0_12 a0_13 a0_14 a0_15 a0_16 a0_17 a1_0 a1_1 a2_0 a2_1 a5_0 a5_1 a5_2 a5_3 a5_4)))
theorem bournelaw20_SeepEncloses.mono_l : ∀ k, (∀ y0 y1 y2 y3 y4 y5 y6 y7 y8 y9 y10 y11 y12 y13 y14 y15 y16 y17 y18 y19 y20 y21 y22 y23 y24 y25 y26 y27 y28 y29 y30 y31, LeO (bournelaw20_SeepEncloses.j0 k y0 y1 y2 y3 y4 y5 y6 y7 y8 y9 y10 y11 y12 y13 y14 y15 y16 y17 y18 y19 y20 y21 y22 y23 y24 y25 y26 y27 y28 y29 y30 y31) (bournelaw20_SeepEncloses.j0 (k + 1) y0 y1 y2 y3 y4 y5 y6 y7 y8 y9 y10 y11 y12 y13 y14 y15 y16 y17 y18 y19 y20 y21 y22 y23 y24 y25 y26 y27 y28 y29 y30 y31)) ∧ (∀ y0 y1 y2 y3 y4 y5 y6 y7 y8 y9 y10 y11 y12 y13 y14 y15 y16 y17 y18 y19 y20 y21 y22 y23 y24 y25 y26 y27 y28, LeO (bournelaw20_SeepEncloses.j1 k y0 y1 y2 y3 y4 y5 y6 y7 y8 y9 y10 y11 y12 y13 y14 y15 y16 y17 y18 y19 y20 y21 y22 y23 y24 y25 y26 y27 y28) (bournelaw20_SeepEncloses.j1 (k + 1) y0 y1 y2 y3 y4 y5 y6 y7 y8 y9 y10 y11 y12 y13 y14 y15 y16 y17 y18 y19 y20 y21 y22 y23 y24 y25 y26 y27 y28)) ∧ (∀ y0 y1 y2 y3 y4 y5 y6 y7 y8 y9 y10 y11 y12 y13 y14 y15 y16 y17 y18 y19 y20 y21 y22 y23 y24 y25 y26 y27 y28, LeO (bournelaw20_SeepEncloses.j2 k y0 y1 y2 y3 y4 y5 y6 y7 y8 y9 y10 y11 y12 y13 y14 y15 y16 y17 y18 y19 y20 y21 y22 y23 y24 y25 y26 y27 y28) (bournelaw20_SeepEncloses.j2 (k + 1) y0 y1 y2 y3 y4 y5 y6 y7 y8 y9 y10 y11 y12 y13 y14 y15 y16 y17 y18 y19 y20 y21 y22 y23 y24 y25 y26 y27 y28)) ∧ (∀ y0 y1 y2 y3 y4 y5 y6 y7 y8 y9 y10 y11 y12 y13 y14 y15 y16 y17 y18 y19 y20 y21 y22 y23 y24 y25 y26 y27 y28, LeO (bournelaw20_SeepEncloses.j3 k y0 y1 y2 y3 y4 y5 y6 y7 y8 y9 y10 y11 y12 y13 y14 y15 y16 y17 y18 y19 y20 y21 y22 y23 y24 y25 y26 y27 y28) (bournelaw20_SeepEncloses.j3 (k + 1) y0 y1 y2 y3 y4 y5 y6 y7 y8 y9 y10 y11 y12 y13 y14 y15 y16 y17 y18 y19 y20 y21 y22 y23 y24 y25 y26 y27 y28)) ∧ (∀ y0 y1 y2 y3 y4 y5 y6 y7 y8 y9 y10 y11 y12 y13 y14 y15 y16 y17 y18 y19 y20 y21 y22 y23 y24 y25 y26, LeO (bournelaw20_SeepEncloses.j4 k y0 y1 y2 y3 y4 y5 y6 y7 y8 y9 y10 y11 y12 y13 y14 y15 y16 y17 y18 y19 y20 y21 y22 y23 y24 y25 y26) (bournelaw20_SeepEncloses.j4 (k + 1) y0 y1 y2 y3 y4 y5 y6 y7 y8 y9 y10 y11 y12 y13 y14 y15 y16 y17 y18 y19 y20 y21 y22 y23 y24 y25 y26))
 | 0 => ⟨fun _ _ _ _ _ _ _ _ _ _ _ _ _ _ _ _ _ _ _ _ _ _ _ _ _ _ _ _ _ _ _ _ r h => by simp [bournelaw20_SeepEncloses.j0] at h, fun _ _ _ _ _ _ _ _ _ _ _ _ _ _ _ _ _ _ _ _ _ _ _ _ _ _ _ _ _ r h => by simp [bournelaw20_SeepEncloses.j1] at h, fun _ _ _ _ _ _ _ _ _ _ _ _ _ _ _ _ _ _ _ _ _ _ _ _ _ _ _ _ _ r h => by simp [bournelaw20_SeepEncloses.j2] at h, fun _ _ _ _ _ _ _ _ _ _ _ _ _ _ _ _ _ _ _ _ _ _ _ _ _ _ _ _ _ r h => by simp [bournelaw20_SeepEncloses.j3] at h, fun _ _ _ _ _ _ _ _ _ _ _ _ _ _ _ _ _ _ _ _ _ _ _ _ _ _ _ r h => by simp [bournelaw20_SeepEncloses.j4] at h⟩
 | k + 1 => by
  obtain ⟨ih0, ih1, ih2, ih3, ih4⟩ := bournelaw20_SeepEncloses.mono_l k
  refine ⟨?_, ?_, ?_, ?_, ?_⟩
  ·
   intro y0 y1 y2 y3 y4 y5 y6 y7 y8 y9 y10 y11 y12 y13 y14 y15 y16 y17 y18 y19 y20 y21 y22 y23 y24 y25 y26 y27 y28 y29 y30 y31
   unfold bournelaw20_SeepEncloses.j0
   repeat' first
   | (with_reducible exact ih0 _ _ _ _ _ _ _ _ _ _ _ _ _ _ _ _ _ _ _ _ _ _ _ _ _ _ _ _ _ _ _ _)
   | (with_reducible exact ih1 _ _ _ _ _ _ _ _ _ _ _ _ _ _ _ _ _ _ _ _ _ _ _ _ _ _ _ _ _)
   | (with_reducible exact ih2 _ _ _ _ _ _ _ _ _ _ _ _ _ _ _ _ _ _ _ _ _ _ _ _ _ _ _ _ _)
   | (with_reducible exact ih3 _ _ _ _ _ _ _ _ _ _ _ _ _ _ _ _ _ _ _ _ _ _ _ _ _ _ _ _ _)
   | (with_reducible exact ih4 _ _ _ _ _ _ _ _ _ _ _ _ _ _ _ _ _ _ _ _ _ _ _ _ _ _ _)
   | (with_reducible exact bournelaw20_small.mono _)
   | (with_reducible exact seep_Ask.mono _ _ _ _ _ _ _ _ _ _ _ _ _ _ _ _ _ _ _ _ _)
   | (with_reducible exact seep_Bounds.mono _ _ _ _ _ _ _ _ _ _ _ _ _ _ _ _ _ _ _ _ _ _ _)
   | (with_reducible exact LeO.refl _)
   | (with_reducible exact LeO.none _)
   | (with_reducible refine LeO.ite ?_ ?_)
   | (with_reducible refine LeO.bind ?_ (fun _ => ?_))
   | exact ih0 _ _ _ _ _ _ _ _ _ _ _ _ _ _ _ _ _ _ _ _ _ _ _ _ _ _ _ _ _ _ _ _
   | exact ih1 _ _ _ _ _ _ _ _ _ _ _ _ _ _ _ _ _ _ _ _ _ _ _ _ _ _ _ _ _
   | exact ih2 _ _ _ _ _ _ _ _ _ _ _ _ _ _ _ _ _ _ _ _ _ _ _ _ _ _ _ _ _
   | exact ih3 _ _ _ _ _ _ _ _ _ _ _ _ _ _ _ _ _ _ _ _ _ _ _ _ _ _ _ _ _
   | exact ih4 _ _ _ _ _ _ _ _ _ _ _ _ _ _ _ _ _ _ _ _ _ _ _ _ _ _ _
   | exact bournelaw20_small.mono _
   | exact seep_Ask.mono _ _ _ _ _ _ _ _ _ _ _ _ _ _ _ _ _ _ _ _ _
   | exact seep_Bounds.mono _ _ _ _ _ _ _ _ _ _ _ _ _ _ _ _ _ _ _ _ _ _ _
   | exact LeO.none _
   | refine LeO.ite ?_ ?_
   | refine LeO.bind ?_ (fun _ => ?_)
  ·
   intro y0 y1 y2 y3 y4 y5 y6 y7 y8 y9 y10 y11 y12 y13 y14 y15 y16 y17 y18 y19 y20 y21 y22 y23 y24 y25 y26 y27 y28
   unfold bournelaw20_SeepEncloses.j1
   repeat' first
   | (with_reducible exact ih0 _ _ _ _ _ _ _ _ _ _ _ _ _ _ _ _ _ _ _ _ _ _ _ _ _ _ _ _ _ _ _ _)
   | (with_reducible exact ih1 _ _ _ _ _ _ _ _ _ _ _ _ _ _ _ _ _ _ _ _ _ _ _ _ _ _ _ _ _)
   | (with_reducible exact ih2 _ _ _ _ _ _ _ _ _ _ _ _ _ _ _ _ _ _ _ _ _ _ _ _ _ _ _ _ _)
   | (with_reducible exact ih3 _ _ _ _ _ _ _ _ _ _ _ _ _ _ _ _ _ _ _ _ _ _ _ _ _ _ _ _ _)
   | (with_reducible exact ih4 _ _ _ _ _ _ _ _ _ _ _ _ _ _ _ _ _ _ _ _ _ _ _ _ _ _ _)
   | (with_reducible exact bournelaw20_small.mono _)
   | (with_reducible exact seep_Ask.mono _ _ _ _ _ _ _ _ _ _ _ _ _ _ _ _ _ _ _ _ _)
   | (with_reducible exact seep_Bounds.mono _ _ _ _ _ _ _ _ _ _ _ _ _ _ _ _ _ _ _ _ _ _ _)
   | (with_reducible exact LeO.refl _)
   | (with_reducible exact LeO.none _)
   | (with_reducible refine LeO.ite ?_ ?_)
   | (with_reducible refine LeO.bind ?_ (fun _ => ?_))
   | exact ih0 _ _ _ _ _ _ _ _ _ _ _ _ _ _ _ _ _ _ _ _ _ _ _ _ _ _ _ _ _ _ _ _
   | exact ih1 _ _ _ _ _ _ _ _ _ _ _ _ _ _ _ _ _ _ _ _ _ _ _ _ _ _ _ _ _
   | exact ih2 _ _ _ _ _ _ _ _ _ _ _ _ _ _ _ _ _ _ _ _ _ _ _ _ _ _ _ _ _
   | exact ih3 _ _ _ _ _ _ _ _ _ _ _ _ _ _ _ _ _ _ _ _ _ _ _ _ _ _ _ _ _
   | exact ih4 _ _ _ _ _ _ _ _ _ _ _ _ _ _ _ _ _ _ _ _ _ _ _ _ _ _ _
   | exact bournelaw20_small.mono _
   | exact seep_Ask.mono _ _ _ _ _ _ _ _ _ _ _ _ _ _ _ _ _ _ _ _ _
   | exact seep_Bounds.mono _ _ _ _ _ _ _ _ _ _ _ _ _ _ _ _ _ _ _ _ _ _ _
   | exact LeO.none _
   | refine LeO.ite ?_ ?_
   | refine LeO.bind ?_ (fun _ => ?_)
  ·
   intro y0 y1 y2 y3 y4 y5 y6 y7 y8 y9 y10 y11 y12 y13 y14 y15 y16 y17 y18 y19 y20 y21 y22 y23 y24 y25 y26 y27 y28
   unfold bournelaw20_SeepEncloses.j2
   repeat' first
   | (with_reducible exact ih0 _ _ _ _ _ _ _ _ _ _ _ _ _ _ _ _ _ _ _ _ _ _ _ _ _ _ _ _ _ _ _ _)
   | (with_reducible exact ih1 _ _ _ _ _ _ _ _ _ _ _ _ _ _ _ _ _ _ _ _ _ _ _ _ _ _ _ _ _)
   | (with_reducible exact ih2 _ _ _ _ _ _ _ _ _ _ _ _ _ _ _ _ _ _ _ _ _ _ _ _ _ _ _ _ _)
   | (with_reducible exact ih3 _ _ _ _ _ _ _ _ _ _ _ _ _ _ _ _ _ _ _ _ _ _ _ _ _ _ _ _ _)
   | (with_reducible exact ih4 _ _ _ _ _ _ _ _ _ _ _ _ _ _ _ _ _ _ _ _ _ _ _ _ _ _ _)
   | (with_reducible exact bournelaw20_small.mono _)
   | (with_reducible exact seep_Ask.mono _ _ _ _ _ _ _ _ _ _ _ _ _ _ _ _ _ _ _ _ _)
   | (with_reducible exact seep_Bounds.mono _ _ _ _ _ _ _ _ _ _ _ _ _ _ _ _ _ _ _ _ _ _ _)
   | (with_reducible exact LeO.refl _)
   | (with_reducible exact LeO.none _)
   | (with_reducible refine LeO.ite ?_ ?_)
   | (with_reducible refine LeO.bind ?_ (fun _ => ?_))
   | exact ih0 _ _ _ _ _ _ _ _ _ _ _ _ _ _ _ _ _ _ _ _ _ _ _ _ _ _ _ _ _ _ _ _
   | exact ih1 _ _ _ _ _ _ _ _ _ _ _ _ _ _ _ _ _ _ _ _ _ _ _ _ _ _ _ _ _
   | exact ih2 _ _ _ _ _ _ _ _ _ _ _ _ _ _ _ _ _ _ _ _ _ _ _ _ _ _ _ _ _
   | exact ih3 _ _ _ _ _ _ _ _ _ _ _ _ _ _ _ _ _ _ _ _ _ _ _ _ _ _ _ _ _
   | exact ih4 _ _ _ _ _ _ _ _ _ _ _ _ _ _ _ _ _ _ _ _ _ _ _ _ _ _ _
   | exact bournelaw20_small.mono _
   | exact seep_Ask.mono _ _ _ _ _ _ _ _ _ _ _ _ _ _ _ _ _ _ _ _ _
   | exact seep_Bounds.mono _ _ _ _ _ _ _ _ _ _ _ _ _ _ _ _ _ _ _ _ _ _ _
   | exact LeO.none _
   | refine LeO.ite ?_ ?_
   | refine LeO.bind ?_ (fun _ => ?_)
  ·
   intro y0 y1 y2 y3 y4 y5 y6 y7 y8 y9 y10 y11 y12 y13 y14 y15 y16 y17 y18 y19 y20 y21 y22 y23 y24 y25 y26 y27 y28
   unfold bournelaw20_SeepEncloses.j3
   repeat' first
   | (with_reducible exact ih0 _ _ _ _ _ _ _ _ _ _ _ _ _ _ _ _ _ _ _ _ _ _ _ _ _ _ _ _ _ _ _ _)
   | (with_reducible exact ih1 _ _ _ _ _ _ _ _ _ _ _ _ _ _ _ _ _ _ _ _ _ _ _ _ _ _ _ _ _)
   | (with_reducible exact ih2 _ _ _ _ _ _ _ _ _ _ _ _ _ _ _ _ _ _ _ _ _ _ _ _ _ _ _ _ _)
   | (with_reducible exact ih3 _ _ _ _ _ _ _ _ _ _ _ _ _ _ _ _ _ _ _ _ _ _ _ _ _ _ _ _ _)
   | (with_reducible exact ih4 _ _ _ _ _ _ _ _ _ _ _ _ _ _ _ _ _ _ _ _ _ _ _ _ _ _ _)
   | (with_reducible exact bournelaw20_small.mono _)
   | (with_reducible exact seep_Ask.mono _ _ _ _ _ _ _ _ _ _ _ _ _ _ _ _ _ _ _ _ _)
   | (with_reducible exact seep_Bounds.mono _ _ _ _ _ _ _ _ _ _ _ _ _ _ _ _ _ _ _ _ _ _ _)
   | (with_reducible exact LeO.refl _)
   | (with_reducible exact LeO.none _)
   | (with_reducible refine LeO.ite ?_ ?_)
   | (with_reducible refine LeO.bind ?_ (fun _ => ?_))
   | exact ih0 _ _ _ _ _ _ _ _ _ _ _ _ _ _ _ _ _ _ _ _ _ _ _ _ _ _ _ _ _ _ _ _
   | exact ih1 _ _ _ _ _ _ _ _ _ _ _ _ _ _ _ _ _ _ _ _ _ _ _ _ _ _ _ _ _
   | exact ih2 _ _ _ _ _ _ _ _ _ _ _ _ _ _ _ _ _ _ _ _ _ _ _ _ _ _ _ _ _
   | exact ih3 _ _ _ _ _ _ _ _ _ _ _ _ _ _ _ _ _ _ _ _ _ _ _ _ _ _ _ _ _
   | exact ih4 _ _ _ _ _ _ _ _ _ _ _ _ _ _ _ _ _ _ _ _ _ _ _ _ _ _ _
   | exact bournelaw20_small.mono _
   | exact seep_Ask.mono _ _ _ _ _ _ _ _ _ _ _ _ _ _ _ _ _ _ _ _ _
   | exact seep_Bounds.mono _ _ _ _ _ _ _ _ _ _ _ _ _ _ _ _ _ _ _ _ _ _ _
   | exact LeO.none _
   | refine LeO.ite ?_ ?_
   | refine LeO.bind ?_ (fun _ => ?_)
  ·
   intro y0 y1 y2 y3 y4 y5 y6 y7 y8 y9 y10 y11 y12 y13 y14 y15 y16 y17 y18 y19 y20 y21 y22 y23 y24 y25 y26
   unfold bournelaw20_SeepEncloses.j4
   repeat' first
   | (with_reducible exact ih0 _ _ _ _ _ _ _ _ _ _ _ _ _ _ _ _ _ _ _ _ _ _ _ _ _ _ _ _ _ _ _ _)
   | (with_reducible exact ih1 _ _ _ _ _ _ _ _ _ _ _ _ _ _ _ _ _ _ _ _ _ _ _ _ _ _ _ _ _)
   | (with_reducible exact ih2 _ _ _ _ _ _ _ _ _ _ _ _ _ _ _ _ _ _ _ _ _ _ _ _ _ _ _ _ _)
   | (with_reducible exact ih3 _ _ _ _ _ _ _ _ _ _ _ _ _ _ _ _ _ _ _ _ _ _ _ _ _ _ _ _ _)
   | (with_reducible exact ih4 _ _ _ _ _ _ _ _ _ _ _ _ _ _ _ _ _ _ _ _ _ _ _ _ _ _ _)
   | (with_reducible exact bournelaw20_small.mono _)
   | (with_reducible exact seep_Ask.mono _ _ _ _ _ _ _ _ _ _ _ _ _ _ _ _ _ _ _ _ _)
   | (with_reducible exact seep_Bounds.mono _ _ _ _ _ _ _ _ _ _ _ _ _ _ _ _ _ _ _ _ _ _ _)
   | (with_reducible exact LeO.refl _)
   | (with_reducible exact LeO.none _)
   | (with_reducible refine LeO.ite ?_ ?_)
   | (with_reducible refine LeO.bind ?_ (fun _ => ?_))
   | exact ih0 _ _ _ _ _ _ _ _ _ _ _ _ _ _ _ _ _ _ _ _ _ _ _ _ _ _ _ _ _ _ _ _
   | exact ih1 _ _ _ _ _ _ _ _ _ _ _ _ _ _ _ _ _ _ _ _ _ _ _ _ _ _ _ _ _
   | exact ih2 _ _ _ _ _ _ _ _ _ _ _ _ _ _ _ _ _ _ _ _ _ _ _ _ _ _ _ _ _
   | exact ih3 _ _ _ _ _ _ _ _ _ _ _ _ _ _ _ _ _ _ _ _ _ _ _ _ _ _ _ _ _
   | exact ih4 _ _ _ _ _ _ _ _ _ _ _ _ _ _ _ _ _ _ _ _ _ _ _ _ _ _ _
   | exact bournelaw20_small.mono _
   | exact seep_Ask.mono _ _ _ _ _ _ _ _ _ _ _ _ _ _ _ _ _ _ _ _ _
   | exact seep_Bounds.mono _ _ _ _ _ _ _ _ _ _ _ _ _ _ _ _ _ _ _ _ _ _ _
   | exact LeO.none _
   | refine LeO.ite ?_ ?_
   | refine LeO.bind ?_ (fun _ => ?_)
theorem bournelaw20_SeepEncloses.mono : ∀ a0 a1 a2 a3 a4 a5 a6 a7 a8 a9 a10 a11 a12 a13 a14 a15 a16 a17 a18 a19 a20 a21 a22 a23 a24 a25 a26 a27 a28 a29 k, LeO (bournelaw20_SeepEncloses.f k a0 a1 a2 a3 a4 a5 a6 a7 a8 a9 a10 a11 a12 a13 a14 a15 a16 a17 a18 a19 a20 a21 a22 a23 a24 a25 a26 a27 a28 a29) (bournelaw20_SeepEncloses.f (k + 1) a0 a1 a2 a3 a4 a5 a6 a7 a8 a9 a10 a11 a12 a13 a14 a15 a16 a17 a18 a19 a20 a21 a22 a23 a24 a25 a26 a27 a28 a29) := by
 intro a0 a1 a2 a3 a4 a5 a6 a7 a8 a9 a10 a11 a12 a13 a14 a15 a16 a17 a18 a19 a20 a21 a22 a23 a24 a25 a26 a27 a28 a29 k
 obtain ⟨ih0, ih1, ih2, ih3, ih4⟩ := bournelaw20_SeepEncloses.mono_l k
 unfold bournelaw20_SeepEncloses.f
 repeat' first
   | (with_reducible exact ih0 _ _ _ _ _ _ _ _ _ _ _ _ _ _ _ _ _ _ _ _ _ _ _ _ _ _ _ _ _ _ _ _)
   | (with_reducible exact ih1 _ _ _ _ _ _ _ _ _ _ _ _ _ _ _ _ _ _ _ _ _ _ _ _ _ _ _ _ _)
   | (with_reducible exact ih2 _ _ _ _ _ _ _ _ _ _ _ _ _ _ _ _ _ _ _ _ _ _ _ _ _ _ _ _ _)
   | (with_reducible exact ih3 _ _ _ _ _ _ _ _ _ _ _ _ _ _ _ _ _ _ _ _ _ _ _ _ _ _ _ _ _)
   | (with_reducible exact ih4 _ _ _ _ _ _ _ _ _ _ _ _ _ _ _ _ _ _ _ _ _ _ _ _ _ _ _)
   | (with_reducible exact bournelaw20_small.mono _)
   | (with_reducible exact seep_Ask.mono _ _ _ _ _ _ _ _ _ _ _ _ _ _ _ _ _ _ _ _ _)
   | (with_reducible exact seep_Bounds.mono _ _ _ _ _ _ _ _ _ _ _ _ _ _ _ _ _ _ _ _ _ _ _)
   | (with_reducible exact LeO.refl _)
   | (with_reducible exact LeO.none _)
   | (with_reducible refine LeO.ite ?_ ?_)
   | (with_reducible refine LeO.bind ?_ (fun _ => ?_))
   | exact ih0 _ _ _ _ _ _ _ _ _ _ _ _ _ _ _ _ _ _ _ _ _ _ _ _ _ _ _ _ _ _ _ _
   | exact ih1 _ _ _ _ _ _ _ _ _ _ _ _ _ _ _ _ _ _ _ _ _ _ _ _ _ _ _ _ _
   | exact ih2 _ _ _ _ _ _ _ _ _ _ _ _ _ _ _ _ _ _ _ _ _ _ _ _ _ _ _ _ _
   | exact ih3 _ _ _ _ _ _ _ _ _ _ _ _ _ _ _ _ _ _ _ _ _ _ _ _ _ _ _ _ _
   | exact ih4 _ _ _ _ _ _ _ _ _ _ _ _ _ _ _ _ _ _ _ _ _ _ _ _ _ _ _
   | exact bournelaw20_small.mono _
   | exact seep_Ask.mono _ _ _ _ _ _ _ _ _ _ _ _ _ _ _ _ _ _ _ _ _
   | exact seep_Bounds.mono _ _ _ _ _ _ _ _ _ _ _ _ _ _ _ _ _ _ _ _ _ _ _
   | exact LeO.none _
   | refine LeO.ite ?_ ?_
   | refine LeO.bind ?_ (fun _ => ?_)
def bournelaw20_SeepEncloses.T7 : Bool × List (List Nat × List Nat) := (true, [([], []), ([], []), ([], []), ([], []), ([1, 2, 3], [1, 2, 3]), ([0, 4, 4], [0, 4]), ([5], [5]), ([6, 5], [6]), ([7], [7]), ([7], [7]), ([9, 7], [7, 9]), ([7], [7]), ([11, 7], [7, 11]), ([8, 10, 12, 7, 7], [7, 8, 10, 12]), ([7], [7]), ([14, 7], [7, 14]), ([13, 15, 7], [7, 13, 15]), ([7, 16], [7, 16]), ([17, 13], [17]), ([18], [18]), ([18], [18]), ([20, 18], [18, 20]), ([18], [18]), ([22, 18], [18, 22]), ([19, 21, 23, 18, 18], [18, 19, 21, 23]), ([18], [18]), ([25, 18], [18, 25]), ([24, 26, 18], [18, 24, 26]), ([18, 27], [18, 27])])
def bournelaw20_SeepEncloses.B7 : List Nat := [0, 0, 0, 0, 14, 31, 63, 127, 255, 255, 767, 255, 2303, 8191, 255, 16639, 65535, 131071, 262143, 524287, 524287, 1572863, 524287, 4718591, 16777215, 524287, 34078719, 134217727, 268435455]
theorem bournelaw20_SeepEncloses.tab7 : rtab .any (opsOf Try.f7 7) = bournelaw20_SeepEncloses.T7 := by kernel_rfl
theorem bournelaw20_SeepEncloses.bits7 : waitsOk bournelaw20_SeepEncloses.T7.2 bournelaw20_SeepEncloses.B7 = true := by kernel_rfl
set_option maxHeartbeats 8000000 in
set_option maxRecDepth 100000 in
theorem bournelaw20_SeepEncloses.calls (k : Nat) (a0_0 : ByteArray) (a0_1 : Int) (a0_2 : Int) (a0_3 : Int) (A0_4 : Option Addr) (c0_4 : Nat) (l0_4 : List (S90)) (A0_5 : Option Addr) (c0_5 : Nat) (l0_5 : List (S90)) (A0_6 : Option Addr) (c0_6 : Nat) (l0_6 : List (S90)) (a0_7 : Int) (a0_8 : Int) (a0_9 : Int) (a0_10 : Int) (a0_11 : Int) (a0_12 : Int) (a0_13 : Int) (a0_14 : Int) (a0_15 : Int) (a0_16 : Int) (a0_17 : Int) (a1_0 : Int) (a1_1 : Int) (a2_0 : Int) (a2_1 : Int) (a3 : Int) (a4 : Int) (a5_0 : Int) (a5_1 : Int) (a5_2 : Int) (a5_3 : Int) (a5_4 : Int) (a6 : Bool) (r : Bool) (w : World) (hr0_4 : Kd.C k90 w A0_4 l0_4.length l0_4) (hc0_4 : l0_4.length ≤ c0_4) (hr0_5 : Kd.C k90 w A0_5 l0_5.length l0_5) (hc0_5 : l0_5.length ≤ c0_5) (hr0_6 : Kd.C k90 w A0_6 l0_6.length l0_6) (hc0_6 : l0_6.length ≤ c0_6) (hT : Aside0 (r = true)) (h : bournelaw20_SeepEncloses.f k a0_0 a0_1 a0_2 a0_3 l0_4 l0_5 l0_6 a0_7 a0_8 a0_9 a0_10 a0_11 a0_12 a0_13 a0_14 a0_15 a0_16 a0_17 a1_0 a1_1 a2_0 a2_1 a3 a4 a5_0 a5_1 a5_2 a5_3 a5_4 a6 = some r) :
  Calls Try.prog 7 #[.agg #[.string a0_0, .int .i64 a0_1, .int .i64 a0_2, .int .i64 a0_3, .slice A0_4 l0_4.length c0_4, .slice A0_5 l0_5.length c0_5, .slice A0_6 l0_6.length c0_6, .int .i64 a0_7, .int .i64 a0_8, .int .i64 a0_9, .int .i64 a0_10, .int .i64 a0_11, .int .i64 a0_12, .int .i64 a0_13, .int .i64 a0_14, .int .i64 a0_15, .int .i64 a0_16, .int .i64 a0_17], .agg #[.int .i64 a1_0, .int .i64 a1_1], .agg #[.int .i64 a2_0, .int .i64 a2_1], .int .i64 a3, .int .i64 a4, .agg #[.int .i64 a5_0, .int .i64 a5_1, .int .i64 a5_2, .int .i64 a5_3, .int .i64 a5_4], .bool a6] w fun e w' => e = .returned (.bool r) ∧ Below w.heap.size w w' := by
 have hu26 := Try.underlying26
 have hi26 : (Try.prog.info? 26).map (·.size) = some 18 := by kernel_rfl
 have hu30 := Try.underlying30
 have hu32 := Try.underlying32
 have hu28 := Try.underlying28
 have HR0_4 := Aside0.mk hr0_4
 have HC0_4 := Aside0.mk hc0_4
 clear hr0_4 hc0_4
 have HR0_5 := Aside0.mk hr0_5
 have HC0_5 := Aside0.mk hc0_5
 clear hr0_5 hc0_5
 have HR0_6 := Aside0.mk hr0_6
 have HC0_6 := Aside0.mk hc0_6
 clear hr0_6 hc0_6
 have HB := Aside0.mk (Below.refl w.heap.size w)
 have H : ((bournelaw20_small.f k).bind fun t272 => ((bournelaw20_within.f a1_0 a1_1).bind fun t273 => (if t273 = true then ((bournelaw20_within.f a2_0 a2_1).bind fun t274 => (if t274 = true then (if a0_11 > a0_12 then (bournelaw20_SeepEncloses.j0 k a3 a4 a6 t272 true a0_0 a0_1 a0_2 a0_3 l0_4 l0_5 l0_6 a0_7 a0_8 a0_9 a0_10 a0_11 a0_12 a0_13 a0_14 a0_15 a0_16 a0_17 a1_0 a1_1 a2_0 a2_1 a5_0 a5_1 a5_2 a5_3 a5_4) else (bournelaw20_SeepEncloses.j0 k a3 a4 a6 t272 (decide (a0_15 > a0_16)) a0_0 a0_1 a0_2 a0_3 l0_4 l0_5 l0_6 a0_7 a0_8 a0_9 a0_10 a0_11 a0_12 a0_13 a0_14 a0_15 a0_16 a0_17 a1_0 a1_1 a2_0 a2_1 a5_0 a5_1 a5_2 a5_3 a5_4)) else (bournelaw20_SeepEncloses.j0 k a3 a4 a6 t272 true a0_0 a0_1 a0_2 a0_3 l0_4 l0_5 l0_6 a0_7 a0_8 a0_9 a0_10 a0_11 a0_12 a0_13 a0_14 a0_15 a0_16 a0_17 a1_0 a1_1 a2_0 a2_1 a5_0 a5_1 a5_2 a5_3 a5_4))) else (bournelaw20_SeepEncloses.j0 k a3 a4 a6 t272 true a0_0 a0_1 a0_2 a0_3 l0_4 l0_5 l0_6 a0_7 a0_8 a0_9 a0_10 a0_11 a0_12 a0_13 a0_14 a0_15 a0_16 a0_17 a1_0 a1_1 a2_0 a2_1 a5_0 a5_1 a5_2 a5_3 a5_4)))) = some r := h
 clear h
 replace H := Option.bind_eq_some_iff.mp H
 obtain ⟨t272, A80, H⟩ := H
 have A8 := Aside0.mk A80
 clear A80
 have HC9 := Aside0.mk H
 clear H
 go_enter Try.func7, Try.ntmps7
 (try simp only [List.append_eq, List.cons_append, List.nil_append])
 go_upto_region 2 with (first | ((with_reducible refine gate_dst (N := 7) rfl ?_); refine box_event ?hg (N := 7) ?hd (cs := #[.string a0_0, .int .i64 a0_1, .int .i64 a0_2, .int .i64 a0_3, .slice A0_4 l0_4.length c0_4, .slice A0_5 l0_5.length c0_5, .slice A0_6 l0_6.length c0_6, .int .i64 a0_7, .int .i64 a0_8, .int .i64 a0_9, .int .i64 a0_10, .int .i64 a0_11, .int .i64 a0_12, .int .i64 a0_13, .int .i64 a0_14, .int .i64 a0_15, .int .i64 a0_16, .int .i64 a0_17]) (t := 26) ?hr ?_; (case hd => rfl); (case hg => rfl); (case hr => first | (go_simp; done) | (go_simp; rfl)); intro gb268 hg w10 hbox hb; have n0_ := Aside0.mk (bP (by repeat (first | (with_reducible first | exact HB.out | apply bL | apply bW | apply b1) | exact HB.out)) hb); have n1_ := Aside0.mk (hbox); have n2_ := Aside0.mk ((by rw [hg]; exact (bZ (by repeat (first | (with_reducible first | exact HB.out | apply bL | apply bW | apply b1) | exact HB.out))) : w.heap.size ≤ gb268)); have n3_ := Aside0.mk ((by rw [hg]; exact (bZ (by repeat (first | (with_reducible first | exact HB.out | apply bL | apply bW | apply b1) | exact HB.out))) : w.heap.size ≤ gb268)); clear HB; have HB := n0_; have BK268 := n1_; have GW268 := n2_; have GE268 := n3_; clear n0_ n1_ n2_ n3_; clear hb hbox hg) | ((with_reducible refine gate_dst (N := 8) rfl ?_); refine box_event ?hg (N := 8) ?hd (cs := #[.int .i64 a1_0, .int .i64 a1_1]) (t := 30) ?hr ?_; (case hd => rfl); (case hg => rfl); (case hr => first | (go_simp; done) | (go_simp; rfl)); intro gb269 hg w11 hbox hb; have n0_ := Aside0.mk (bB (g := gb268) (o := .cells #[.string a0_0, .int .i64 a0_1, .int .i64 a0_2, .int .i64 a0_3, .slice A0_4 l0_4.length c0_4, .slice A0_5 l0_5.length c0_5, .slice A0_6 l0_6.length c0_6, .int .i64 a0_7, .int .i64 a0_8, .int .i64 a0_9, .int .i64 a0_10, .int .i64 a0_11, .int .i64 a0_12, .int .i64 a0_13, .int .i64 a0_14, .int .i64 a0_15, .int .i64 a0_16, .int .i64 a0_17] 26 (0, 0)) (by (with_reducible repeat (first | refine bN ?_ _ | refine bD ?_ | refine bA ?_ _)); exact BK268.out) hb); have n1_ := Aside0.mk (bP (by repeat (first | (with_reducible first | exact HB.out | apply bL | apply bW | apply b1 | refine bS ?_ GE268.out) | exact HB.out)) hb); have n2_ := Aside0.mk (hbox); have n3_ := Aside0.mk ((by rw [hg]; exact (bZ (by repeat (first | (with_reducible first | exact HB.out | apply bL | apply bW | apply b1 | refine bS ?_ GE268.out) | exact HB.out))) : w.heap.size ≤ gb269)); have n4_ := Aside0.mk ((by rw [hg]; exact (bZ (by repeat (first | (with_reducible first | exact HB.out | apply bL | apply bW | apply b1 | refine bS ?_ GE268.out) | exact HB.out))) : w.heap.size ≤ gb269)); have n5_ := Aside0.mk ((by rw [hg]; exact Nat.ne_of_lt (bT (g := gb268) (o := .cells #[.string a0_0, .int .i64 a0_1, .int .i64 a0_2, .int .i64 a0_3, .slice A0_4 l0_4.length c0_4, .slice A0_5 l0_5.length c0_5, .slice A0_6 l0_6.length c0_6, .int .i64 a0_7, .int .i64 a0_8, .int .i64 a0_9, .int .i64 a0_10, .int .i64 a0_11, .int .i64 a0_12, .int .i64 a0_13, .int .i64 a0_14, .int .i64 a0_15, .int .i64 a0_16, .int .i64 a0_17] 26 (0, 0)) (by (with_reducible repeat (first | refine bN ?_ _ | refine bD ?_ | refine bA ?_ _)); exact BK268.out)) : gb268 ≠ gb269)); have n6_ := Aside0.mk ((by rw [hg]; exact Nat.ne_of_gt (bT (g := gb268) (o := .cells #[.string a0_0, .int .i64 a0_1, .int .i64 a0_2, .int .i64 a0_3, .slice A0_4 l0_4.length c0_4, .slice A0_5 l0_5.length c0_5, .slice A0_6 l0_6.length c0_6, .int .i64 a0_7, .int .i64 a0_8, .int .i64 a0_9, .int .i64 a0_10, .int .i64 a0_11, .int .i64 a0_12, .int .i64 a0_13, .int .i64 a0_14, .int .i64 a0_15, .int .i64 a0_16, .int .i64 a0_17] 26 (0, 0)) (by (with_reducible repeat (first | refine bN ?_ _ | refine bD ?_ | refine bA ?_ _)); exact BK268.out)) : gb269 ≠ gb268)); clear BK268; clear HB; have BK268 := n0_; have HB := n1_; have BK269 := n2_; have GW269 := n3_; have GE269 := n4_; have NB268_269 := n5_; have NB269_268 := n6_; clear n0_ n1_ n2_ n3_ n4_ n5_ n6_; clear hb hbox hg) | ((with_reducible refine gate_dst (N := 9) rfl ?_); refine box_event ?hg (N := 9) ?hd (cs := #[.int .i64 a2_0, .int .i64 a2_1]) (t := 30) ?hr ?_; (case hd => rfl); (case hg => rfl); (case hr => first | (go_simp; done) | (go_simp; rfl)); intro gb270 hg w12 hbox hb; have n0_ := Aside0.mk (bB (g := gb268) (o := .cells #[.string a0_0, .int .i64 a0_1, .int .i64 a0_2, .int .i64 a0_3, .slice A0_4 l0_4.length c0_4, .slice A0_5 l0_5.length c0_5, .slice A0_6 l0_6.length c0_6, .int .i64 a0_7, .int .i64 a0_8, .int .i64 a0_9, .int .i64 a0_10, .int .i64 a0_11, .int .i64 a0_12, .int .i64 a0_13, .int .i64 a0_14, .int .i64 a0_15, .int .i64 a0_16, .int .i64 a0_17] 26 (0, 0)) (by (with_reducible repeat (first | refine bN ?_ _ | refine bD ?_ | refine bA ?_ _)); exact BK268.out) hb); have n1_ := Aside0.mk (bB (g := gb269) (o := .cells #[.int .i64 a1_0, .int .i64 a1_1] 30 (0, 0)) (by (with_reducible repeat (first | refine bN ?_ _ | refine bD ?_ | refine bA ?_ _)); exact BK269.out) hb); have n2_ := Aside0.mk (bP (by repeat (first | (with_reducible first | exact HB.out | apply bL | apply bW | apply b1 | refine bS ?_ GE268.out | refine bS ?_ GE269.out) | exact HB.out)) hb); have n3_ := Aside0.mk (hbox); have n4_ := Aside0.mk ((by rw [hg]; exact (bZ (by repeat (first | (with_reducible first | exact HB.out | apply bL | apply bW | apply b1 | refine bS ?_ GE268.out | refine bS ?_ GE269.out) | exact HB.out))) : w.heap.size ≤ gb270)); have n5_ := Aside0.mk ((by rw [hg]; exact (bZ (by repeat (first | (with_reducible first | exact HB.out | apply bL | apply bW | apply b1 | refine bS ?_ GE268.out | refine bS ?_ GE269.out) | exact HB.out))) : w.heap.size ≤ gb270)); have n6_ := Aside0.mk ((by rw [hg]; exact Nat.ne_of_lt (bT (g := gb268) (o := .cells #[.string a0_0, .int .i64 a0_1, .int .i64 a0_2, .int .i64 a0_3, .slice A0_4 l0_4.length c0_4, .slice A0_5 l0_5.length c0_5, .slice A0_6 l0_6.length c0_6, .int .i64 a0_7, .int .i64 a0_8, .int .i64 a0_9, .int .i64 a0_10, .int .i64 a0_11, .int .i64 a0_12, .int .i64 a0_13, .int .i64 a0_14, .int .i64 a0_15, .int .i64 a0_16, .int .i64 a0_17] 26 (0, 0)) (by (with_reducible repeat (first | refine bN ?_ _ | refine bD ?_ | refine bA ?_ _)); exact BK268.out)) : gb268 ≠ gb270)); have n7_ := Aside0.mk ((by rw [hg]; exact Nat.ne_of_gt (bT (g := gb268) (o := .cells #[.string a0_0, .int .i64 a0_1, .int .i64 a0_2, .int .i64 a0_3, .slice A0_4 l0_4.length c0_4, .slice A0_5 l0_5.length c0_5, .slice A0_6 l0_6.length c0_6, .int .i64 a0_7, .int .i64 a0_8, .int .i64 a0_9, .int .i64 a0_10, .int .i64 a0_11, .int .i64 a0_12, .int .i64 a0_13, .int .i64 a0_14, .int .i64 a0_15, .int .i64 a0_16, .int .i64 a0_17] 26 (0, 0)) (by (with_reducible repeat (first | refine bN ?_ _ | refine bD ?_ | refine bA ?_ _)); exact BK268.out)) : gb270 ≠ gb268)); have n8_ := Aside0.mk ((by rw [hg]; exact Nat.ne_of_lt (bT (g := gb269) (o := .cells #[.int .i64 a1_0, .int .i64 a1_1] 30 (0, 0)) (by (with_reducible repeat (first | refine bN ?_ _ | refine bD ?_ | refine bA ?_ _)); exact BK269.out)) : gb269 ≠ gb270)); have n9_ := Aside0.mk ((by rw [hg]; exact Nat.ne_of_gt (bT (g := gb269) (o := .cells #[.int .i64 a1_0, .int .i64 a1_1] 30 (0, 0)) (by (with_reducible repeat (first | refine bN ?_ _ | refine bD ?_ | refine bA ?_ _)); exact BK269.out)) : gb270 ≠ gb269)); clear BK268; clear BK269; clear HB; have BK268 := n0_; have BK269 := n1_; have HB := n2_; have BK270 := n3_; have GW270 := n4_; have GE270 := n5_; have NB268_270 := n6_; have NB270_268 := n7_; have NB269_270 := n8_; have NB270_269 := n9_; clear n0_ n1_ n2_ n3_ n4_ n5_ n6_ n7_ n8_ n9_; clear hb hbox hg) | ((with_reducible refine gate_dst (N := 12) rfl ?_); refine box_event ?hg (N := 12) ?hd (cs := #[.int .i64 a5_0, .int .i64 a5_1, .int .i64 a5_2, .int .i64 a5_3, .int .i64 a5_4]) (t := 32) ?hr ?_; (case hd => rfl); (case hg => rfl); (case hr => first | (go_simp; done) | (go_simp; rfl)); intro gb271 hg w13 hbox hb; have n0_ := Aside0.mk (bB (g := gb268) (o := .cells #[.string a0_0, .int .i64 a0_1, .int .i64 a0_2, .int .i64 a0_3, .slice A0_4 l0_4.length c0_4, .slice A0_5 l0_5.length c0_5, .slice A0_6 l0_6.length c0_6, .int .i64 a0_7, .int .i64 a0_8, .int .i64 a0_9, .int .i64 a0_10, .int .i64 a0_11, .int .i64 a0_12, .int .i64 a0_13, .int .i64 a0_14, .int .i64 a0_15, .int .i64 a0_16, .int .i64 a0_17] 26 (0, 0)) (by (with_reducible repeat (first | refine bN ?_ _ | refine bD ?_ | refine bA ?_ _)); exact BK268.out) hb); have n1_ := Aside0.mk (bB (g := gb269) (o := .cells #[.int .i64 a1_0, .int .i64 a1_1] 30 (0, 0)) (by (with_reducible repeat (first | refine bN ?_ _ | refine bD ?_ | refine bA ?_ _)); exact BK269.out) hb); have n2_ := Aside0.mk (bB (g := gb270) (o := .cells #[.int .i64 a2_0, .int .i64 a2_1] 30 (0, 0)) (by (with_reducible repeat (first | refine bN ?_ _ | refine bD ?_ | refine bA ?_ _)); exact BK270.out) hb); have n3_ := Aside0.mk (bP (by repeat (first | (with_reducible first | exact HB.out | apply bL | apply bW | apply b1 | refine bS ?_ GE268.out | refine bS ?_ GE269.out | refine bS ?_ GE270.out) | exact HB.out)) hb); have n4_ := Aside0.mk (hbox); have n5_ := Aside0.mk ((by rw [hg]; exact (bZ (by repeat (first | (with_reducible first | exact HB.out | apply bL | apply bW | apply b1 | refine bS ?_ GE268.out | refine bS ?_ GE269.out | refine bS ?_ GE270.out) | exact HB.out))) : w.heap.size ≤ gb271)); have n6_ := Aside0.mk ((by rw [hg]; exact (bZ (by repeat (first | (with_reducible first | exact HB.out | apply bL | apply bW | apply b1 | refine bS ?_ GE268.out | refine bS ?_ GE269.out | refine bS ?_ GE270.out) | exact HB.out))) : w.heap.size ≤ gb271)); have n7_ := Aside0.mk ((by rw [hg]; exact Nat.ne_of_lt (bT (g := gb268) (o := .cells #[.string a0_0, .int .i64 a0_1, .int .i64 a0_2, .int .i64 a0_3, .slice A0_4 l0_4.length c0_4, .slice A0_5 l0_5.length c0_5, .slice A0_6 l0_6.length c0_6, .int .i64 a0_7, .int .i64 a0_8, .int .i64 a0_9, .int .i64 a0_10, .int .i64 a0_11, .int .i64 a0_12, .int .i64 a0_13, .int .i64 a0_14, .int .i64 a0_15, .int .i64 a0_16, .int .i64 a0_17] 26 (0, 0)) (by (with_reducible repeat (first | refine bN ?_ _ | refine bD ?_ | refine bA ?_ _)); exact BK268.out)) : gb268 ≠ gb271)); have n8_ := Aside0.mk ((by rw [hg]; exact Nat.ne_of_gt (bT (g := gb268) (o := .cells #[.string a0_0, .int .i64 a0_1, .int .i64 a0_2, .int .i64 a0_3, .slice A0_4 l0_4.length c0_4, .slice A0_5 l0_5.length c0_5, .slice A0_6 l0_6.length c0_6, .int .i64 a0_7, .int .i64 a0_8, .int .i64 a0_9, .int .i64 a0_10, .int .i64 a0_11, .int .i64 a0_12, .int .i64 a0_13, .int .i64 a0_14, .int .i64 a0_15, .int .i64 a0_16, .int .i64 a0_17] 26 (0, 0)) (by (with_reducible repeat (first | refine bN ?_ _ | refine bD ?_ | refine bA ?_ _)); exact BK268.out)) : gb271 ≠ gb268)); have n9_ := Aside0.mk ((by rw [hg]; exact Nat.ne_of_lt (bT (g := gb269) (o := .cells #[.int .i64 a1_0, .int .i64 a1_1] 30 (0, 0)) (by (with_reducible repeat (first | refine bN ?_ _ | refine bD ?_ | refine bA ?_ _)); exact BK269.out)) : gb269 ≠ gb271)); have n10_ := Aside0.mk ((by rw [hg]; exact Nat.ne_of_gt (bT (g := gb269) (o := .cells #[.int .i64 a1_0, .int .i64 a1_1] 30 (0, 0)) (by (with_reducible repeat (first | refine bN ?_ _ | refine bD ?_ | refine bA ?_ _)); exact BK269.out)) : gb271 ≠ gb269)); have n11_ := Aside0.mk ((by rw [hg]; exact Nat.ne_of_lt (bT (g := gb270) (o := .cells #[.int .i64 a2_0, .int .i64 a2_1] 30 (0, 0)) (by (with_reducible repeat (first | refine bN ?_ _ | refine bD ?_ | refine bA ?_ _)); exact BK270.out)) : gb270 ≠ gb271)); have n12_ := Aside0.mk ((by rw [hg]; exact Nat.ne_of_gt (bT (g := gb270) (o := .cells #[.int .i64 a2_0, .int .i64 a2_1] 30 (0, 0)) (by (with_reducible repeat (first | refine bN ?_ _ | refine bD ?_ | refine bA ?_ _)); exact BK270.out)) : gb271 ≠ gb270)); clear BK268; clear BK269; clear BK270; clear HB; have BK268 := n0_; have BK269 := n1_; have BK270 := n2_; have HB := n3_; have BK271 := n4_; have GW271 := n5_; have GE271 := n6_; have NB268_271 := n7_; have NB271_268 := n8_; have NB269_271 := n9_; have NB271_269 := n10_; have NB270_271 := n11_; have NB271_270 := n12_; clear n0_ n1_ n2_ n3_ n4_ n5_ n6_ n7_ n8_ n9_ n10_ n11_ n12_; clear hb hbox hg) | ((with_reducible refine gate_callee (f := 9) rfl ?_); refine goesL_ (some 20) rfl rfl Try.func9 (by kernel_rfl) rfl #[] rfl (by (try simp only [List.map_toArray, List.map_cons, List.map_nil]); first | done | rfl | (simp only [List.length_drop, List.length_take]; rfl)) ?_; (with_reducible refine (bournelaw20_small.calls k  t272 _ A8.out).mono ?_); rintro e w14 ⟨rfl, hb⟩; refine ⟨_, rfl, ?_⟩; have n0_ := Aside0.mk (bB (g := gb268) (o := .cells #[.string a0_0, .int .i64 a0_1, .int .i64 a0_2, .int .i64 a0_3, .slice A0_4 l0_4.length c0_4, .slice A0_5 l0_5.length c0_5, .slice A0_6 l0_6.length c0_6, .int .i64 a0_7, .int .i64 a0_8, .int .i64 a0_9, .int .i64 a0_10, .int .i64 a0_11, .int .i64 a0_12, .int .i64 a0_13, .int .i64 a0_14, .int .i64 a0_15, .int .i64 a0_16, .int .i64 a0_17] 26 (0, 0)) (by (with_reducible repeat (first | refine bN ?_ _ | refine bD ?_ | refine bA ?_ _)); exact BK268.out) hb); have n1_ := Aside0.mk (bB (g := gb269) (o := .cells #[.int .i64 a1_0, .int .i64 a1_1] 30 (0, 0)) (by (with_reducible repeat (first | refine bN ?_ _ | refine bD ?_ | refine bA ?_ _)); exact BK269.out) hb); have n2_ := Aside0.mk (bB (g := gb270) (o := .cells #[.int .i64 a2_0, .int .i64 a2_1] 30 (0, 0)) (by (with_reducible repeat (first | refine bN ?_ _ | refine bD ?_ | refine bA ?_ _)); exact BK270.out) hb); have n3_ := Aside0.mk (bB (g := gb271) (o := .cells #[.int .i64 a5_0, .int .i64 a5_1, .int .i64 a5_2, .int .i64 a5_3, .int .i64 a5_4] 32 (0, 0)) (by (with_reducible repeat (first | refine bN ?_ _ | refine bD ?_ | refine bA ?_ _)); exact BK271.out) hb); have n4_ := Aside0.mk (bP (by repeat (first | (with_reducible first | exact HB.out | apply bL | apply bW | apply b1 | refine bS ?_ GE268.out | refine bS ?_ GE269.out | refine bS ?_ GE270.out | refine bS ?_ GE271.out) | exact HB.out)) hb); clear BK268; clear BK269; clear BK270; clear BK271; clear HB; have BK268 := n0_; have BK269 := n1_; have BK270 := n2_; have BK271 := n3_; have HB := n4_; clear n0_ n1_ n2_ n3_ n4_; (try clear hb); (try clear hb2); (try clear hk); (try clear hi)) | ((with_reducible refine gate_load 26 7 rfl ?_); refine box_load (g := gb268) (cs := #[.string a0_0, .int .i64 a0_1, .int .i64 a0_2, .int .i64 a0_3, .slice A0_4 l0_4.length c0_4, .slice A0_5 l0_5.length c0_5, .slice A0_6 l0_6.length c0_6, .int .i64 a0_7, .int .i64 a0_8, .int .i64 a0_9, .int .i64 a0_10, .int .i64 a0_11, .int .i64 a0_12, .int .i64 a0_13, .int .i64 a0_14, .int .i64 a0_15, .int .i64 a0_16, .int .i64 a0_17]) ?hw rfl (by (with_reducible repeat (first | refine bN ?_ _ | refine bD ?_ | refine bA ?_ _)); with_reducible exact BK268.out) ?ha hu26 rfl ?hi ?_; (case hw => first | exact wanted_none rfl | rfl); (case ha => first | rfl | (go_simp; done)); (case hi => first | rfl | kernel_rfl)))
 (try simp only [Act.put, lA, lZ, lS])
 go_cut [42] (fun v42 wc => ∃ (kq : Nat) (x42_8 : Bool), v42 = .bool x42_8 ∧ Aside0 (bournelaw20_SeepEncloses.j0 kq a3 a4 a6 t272 x42_8 a0_0 a0_1 a0_2 a0_3 l0_4 l0_5 l0_6 a0_7 a0_8 a0_9 a0_10 a0_11 a0_12 a0_13 a0_14 a0_15 a0_16 a0_17 a1_0 a1_1 a2_0 a2_1 a5_0 a5_1 a5_2 a5_3 a5_4 = some r) ∧ Aside0 (kq ≤ k) ∧ Aside0 (wc.heap[gb268]? = some (.cells #[.string a0_0, .int .i64 a0_1, .int .i64 a0_2, .int .i64 a0_3, (.slice A0_4 l0_4.length c0_4), (.slice A0_5 l0_5.length c0_5), (.slice A0_6 l0_6.length c0_6), .int .i64 a0_7, .int .i64 a0_8, .int .i64 a0_9, .int .i64 a0_10, .int .i64 a0_11, .int .i64 a0_12, .int .i64 a0_13, .int .i64 a0_14, .int .i64 a0_15, .int .i64 a0_16, .int .i64 a0_17] 26 (0, 0))) ∧ Aside0 (wc.heap[gb269]? = some (.cells #[.int .i64 a1_0, .int .i64 a1_1] 30 (0, 0))) ∧ Aside0 (wc.heap[gb270]? = some (.cells #[.int .i64 a2_0, .int .i64 a2_1] 30 (0, 0))) ∧ Aside0 (wc.heap[gb271]? = some (.cells #[.int .i64 a5_0, .int .i64 a5_1, .int .i64 a5_2, .int .i64 a5_3, .int .i64 a5_4] 32 (0, 0))) ∧ Aside0 (Below w.heap.size w wc))
 case first =>
  have H := HC9.out
  clear HC9
  replace H := Option.bind_eq_some_iff.mp H
  obtain ⟨t273, A150, H⟩ := H
  have A15 := Aside0.mk A150
  clear A150
  by_cases c16 : t273 = true
  ·
   subst c16
   have H1 : ((bournelaw20_within.f a2_0 a2_1).bind fun t274 => (if t274 = true then (if a0_11 > a0_12 then (bournelaw20_SeepEncloses.j0 k a3 a4 a6 t272 true a0_0 a0_1 a0_2 a0_3 l0_4 l0_5 l0_6 a0_7 a0_8 a0_9 a0_10 a0_11 a0_12 a0_13 a0_14 a0_15 a0_16 a0_17 a1_0 a1_1 a2_0 a2_1 a5_0 a5_1 a5_2 a5_3 a5_4) else (bournelaw20_SeepEncloses.j0 k a3 a4 a6 t272 (decide (a0_15 > a0_16)) a0_0 a0_1 a0_2 a0_3 l0_4 l0_5 l0_6 a0_7 a0_8 a0_9 a0_10 a0_11 a0_12 a0_13 a0_14 a0_15 a0_16 a0_17 a1_0 a1_1 a2_0 a2_1 a5_0 a5_1 a5_2 a5_3 a5_4)) else (bournelaw20_SeepEncloses.j0 k a3 a4 a6 t272 true a0_0 a0_1 a0_2 a0_3 l0_4 l0_5 l0_6 a0_7 a0_8 a0_9 a0_10 a0_11 a0_12 a0_13 a0_14 a0_15 a0_16 a0_17 a1_0 a1_1 a2_0 a2_1 a5_0 a5_1 a5_2 a5_3 a5_4))) = some r := by rw [if_pos rfl] at H; exact H
   clear H
   have H := H1
   clear H1
   replace H := Option.bind_eq_some_iff.mp H
   obtain ⟨t274, A170, H⟩ := H
   have A17 := Aside0.mk A170
   clear A170
   by_cases c18 : t274 = true
   ·
    subst c18
    have H1 : (if a0_11 > a0_12 then (bournelaw20_SeepEncloses.j0 k a3 a4 a6 t272 true a0_0 a0_1 a0_2 a0_3 l0_4 l0_5 l0_6 a0_7 a0_8 a0_9 a0_10 a0_11 a0_12 a0_13 a0_14 a0_15 a0_16 a0_17 a1_0 a1_1 a2_0 a2_1 a5_0 a5_1 a5_2 a5_3 a5_4) else (bournelaw20_SeepEncloses.j0 k a3 a4 a6 t272 (decide (a0_15 > a0_16)) a0_0 a0_1 a0_2 a0_3 l0_4 l0_5 l0_6 a0_7 a0_8 a0_9 a0_10 a0_11 a0_12 a0_13 a0_14 a0_15 a0_16 a0_17 a1_0 a1_1 a2_0 a2_1 a5_0 a5_1 a5_2 a5_3 a5_4)) = some r := by rw [if_pos rfl] at H; exact H
    clear H
    have H := H1
    clear H1
    by_cases c19 : a0_11 > a0_12
    ·
     rw [if_pos c19] at H
     have c19b0 : decide (a0_12 < a0_11) = true := decide_eq_true c19
     clear c19
     (first | rw [c19b0] | (simp only [i64_w, i32_w]; rw [c19b0]) | skip)
     have H' := Aside0.mk H
     clear H
     have hnb20 := NB269_268.out
     have hnc20 := NB268_269.out
     have hnb21 := NB269_270.out
     have hnc21 := NB270_269.out
     have hnb22 := NB269_271.out
     have hnc22 := NB271_269.out
     have hcz23_0 : w14.cell? ⟨gb269, 0, none⟩ = some (.int .i64 a1_0) := (bC BK269.out 0).trans rfl
     have hcz23_1 : w14.cell? ⟨gb269, 1, none⟩ = some (.int .i64 a1_1) := (bC BK269.out 1).trans rfl
     have hfz23_0 := bF BK269.out 0
     have hfz23_1 := bF BK269.out 1
     as_aux_lemma =>
       go_wp2_with (first | ((with_reducible refine gate_callee (f := 18) rfl ?_); refine goesL_ (some 22) rfl rfl Try.func18 (by kernel_rfl) rfl #[.agg #[.int .i64 a1_0, .int .i64 a1_1]] rfl (by (try simp only [List.map_toArray, List.map_cons, List.map_nil]); first | done | rfl | (simp only [List.length_drop, List.length_take]; rfl)) ?_; (with_reducible refine (bournelaw20_within.calls a1_0 a1_1 true _ A15.out).mono ?_); rintro e w24 ⟨rfl, hb⟩; refine ⟨_, rfl, ?_⟩; have n0_ := Aside0.mk (bB (g := gb268) (o := .cells #[.string a0_0, .int .i64 a0_1, .int .i64 a0_2, .int .i64 a0_3, .slice A0_4 l0_4.length c0_4, .slice A0_5 l0_5.length c0_5, .slice A0_6 l0_6.length c0_6, .int .i64 a0_7, .int .i64 a0_8, .int .i64 a0_9, .int .i64 a0_10, .int .i64 a0_11, .int .i64 a0_12, .int .i64 a0_13, .int .i64 a0_14, .int .i64 a0_15, .int .i64 a0_16, .int .i64 a0_17] 26 (0, 0)) (by (with_reducible repeat (first | refine bN ?_ _ | refine bD ?_ | refine bA ?_ _)); exact BK268.out) hb); have n1_ := Aside0.mk (bB (g := gb269) (o := .cells #[.int .i64 a1_0, .int .i64 a1_1] 30 (0, 0)) (by (with_reducible repeat (first | refine bN ?_ _ | refine bD ?_ | refine bA ?_ _)); exact BK269.out) hb); have n2_ := Aside0.mk (bB (g := gb270) (o := .cells #[.int .i64 a2_0, .int .i64 a2_1] 30 (0, 0)) (by (with_reducible repeat (first | refine bN ?_ _ | refine bD ?_ | refine bA ?_ _)); exact BK270.out) hb); have n3_ := Aside0.mk (bB (g := gb271) (o := .cells #[.int .i64 a5_0, .int .i64 a5_1, .int .i64 a5_2, .int .i64 a5_3, .int .i64 a5_4] 32 (0, 0)) (by (with_reducible repeat (first | refine bN ?_ _ | refine bD ?_ | refine bA ?_ _)); exact BK271.out) hb); have n4_ := Aside0.mk (bP (by repeat (first | (with_reducible first | exact HB.out | apply bL | apply bW | apply b1 | refine bS ?_ GE268.out | refine bS ?_ GE269.out | refine bS ?_ GE270.out | refine bS ?_ GE271.out) | exact HB.out)) hb); clear BK268; clear BK269; clear BK270; clear BK271; clear HB; have BK268 := n0_; have BK269 := n1_; have BK270 := n2_; have BK271 := n3_; have HB := n4_; clear n0_ n1_ n2_ n3_ n4_; (try clear hb); (try clear hb2); (try clear hk); (try clear hi); have hnb25 := NB270_268.out; have hnc25 := NB268_270.out; have hnb26 := NB270_271.out; have hnc26 := NB271_270.out; have hcz27_0 : w24.cell? ⟨gb270, 0, none⟩ = some (.int .i64 a2_0) := (bC BK270.out 0).trans rfl; have hcz27_1 : w24.cell? ⟨gb270, 1, none⟩ = some (.int .i64 a2_1) := (bC BK270.out 1).trans rfl; have hfz27_0 := bF BK270.out 0; have hfz27_1 := bF BK270.out 1) | (go_at_call 18; (with_reducible refine (bournelaw20_within.calls a2_0 a2_1 true _ A17.out).mono ?_); rintro e w28 ⟨rfl, hb⟩; (try clear A17); have n0_ := Aside0.mk (bB (g := gb268) (o := .cells #[.string a0_0, .int .i64 a0_1, .int .i64 a0_2, .int .i64 a0_3, .slice A0_4 l0_4.length c0_4, .slice A0_5 l0_5.length c0_5, .slice A0_6 l0_6.length c0_6, .int .i64 a0_7, .int .i64 a0_8, .int .i64 a0_9, .int .i64 a0_10, .int .i64 a0_11, .int .i64 a0_12, .int .i64 a0_13, .int .i64 a0_14, .int .i64 a0_15, .int .i64 a0_16, .int .i64 a0_17] 26 (0, 0)) (by (with_reducible repeat (first | refine bN ?_ _ | refine bD ?_ | refine bA ?_ _)); exact BK268.out) hb); have n1_ := Aside0.mk (bB (g := gb269) (o := .cells #[.int .i64 a1_0, .int .i64 a1_1] 30 (0, 0)) (by (with_reducible repeat (first | refine bN ?_ _ | refine bD ?_ | refine bA ?_ _)); exact BK269.out) hb); have n2_ := Aside0.mk (bB (g := gb270) (o := .cells #[.int .i64 a2_0, .int .i64 a2_1] 30 (0, 0)) (by (with_reducible repeat (first | refine bN ?_ _ | refine bD ?_ | refine bA ?_ _)); exact BK270.out) hb); have n3_ := Aside0.mk (bB (g := gb271) (o := .cells #[.int .i64 a5_0, .int .i64 a5_1, .int .i64 a5_2, .int .i64 a5_3, .int .i64 a5_4] 32 (0, 0)) (by (with_reducible repeat (first | refine bN ?_ _ | refine bD ?_ | refine bA ?_ _)); exact BK271.out) hb); have n4_ := Aside0.mk (bP (by repeat (first | (with_reducible first | exact HB.out | apply bL | apply bW | apply b1 | refine bS ?_ GE268.out | refine bS ?_ GE269.out | refine bS ?_ GE270.out | refine bS ?_ GE271.out) | exact HB.out)) hb); clear BK268; clear BK269; clear BK270; clear BK271; clear HB; have BK268 := n0_; have BK269 := n1_; have BK270 := n2_; have BK271 := n3_; have HB := n4_; clear n0_ n1_ n2_ n3_ n4_; (try clear hb); (try clear hb2); (try clear hk); (try clear hi); have hnb29 := NB268_271.out; have hnc29 := NB271_268.out; have hcz30_0 : w28.cell? ⟨gb268, 0, none⟩ = some (.string a0_0) := (bC BK268.out 0).trans rfl; have hcz30_1 : w28.cell? ⟨gb268, 1, none⟩ = some (.int .i64 a0_1) := (bC BK268.out 1).trans rfl; have hcz30_2 : w28.cell? ⟨gb268, 2, none⟩ = some (.int .i64 a0_2) := (bC BK268.out 2).trans rfl; have hcz30_3 : w28.cell? ⟨gb268, 3, none⟩ = some (.int .i64 a0_3) := (bC BK268.out 3).trans rfl; have hcz30_4 : w28.cell? ⟨gb268, 4, none⟩ = some (.slice A0_4 l0_4.length c0_4) := (bC BK268.out 4).trans rfl; have hcz30_5 : w28.cell? ⟨gb268, 5, none⟩ = some (.slice A0_5 l0_5.length c0_5) := (bC BK268.out 5).trans rfl; have hcz30_6 : w28.cell? ⟨gb268, 6, none⟩ = some (.slice A0_6 l0_6.length c0_6) := (bC BK268.out 6).trans rfl; have hcz30_7 : w28.cell? ⟨gb268, 7, none⟩ = some (.int .i64 a0_7) := (bC BK268.out 7).trans rfl; have hcz30_8 : w28.cell? ⟨gb268, 8, none⟩ = some (.int .i64 a0_8) := (bC BK268.out 8).trans rfl; have hcz30_9 : w28.cell? ⟨gb268, 9, none⟩ = some (.int .i64 a0_9) := (bC BK268.out 9).trans rfl; have hcz30_10 : w28.cell? ⟨gb268, 10, none⟩ = some (.int .i64 a0_10) := (bC BK268.out 10).trans rfl; have hcz30_11 : w28.cell? ⟨gb268, 11, none⟩ = some (.int .i64 a0_11) := (bC BK268.out 11).trans rfl; have hcz30_12 : w28.cell? ⟨gb268, 12, none⟩ = some (.int .i64 a0_12) := (bC BK268.out 12).trans rfl; have hcz30_13 : w28.cell? ⟨gb268, 13, none⟩ = some (.int .i64 a0_13) := (bC BK268.out 13).trans rfl; have hcz30_14 : w28.cell? ⟨gb268, 14, none⟩ = some (.int .i64 a0_14) := (bC BK268.out 14).trans rfl; have hcz30_15 : w28.cell? ⟨gb268, 15, none⟩ = some (.int .i64 a0_15) := (bC BK268.out 15).trans rfl; have hcz30_16 : w28.cell? ⟨gb268, 16, none⟩ = some (.int .i64 a0_16) := (bC BK268.out 16).trans rfl; have hcz30_17 : w28.cell? ⟨gb268, 17, none⟩ = some (.int .i64 a0_17) := (bC BK268.out 17).trans rfl; have hfz30_0 := bF BK268.out 0; have hfz30_1 := bF BK268.out 1; have hfz30_2 := bF BK268.out 2; have hfz30_3 := bF BK268.out 3; have hfz30_4 := bF BK268.out 4; have hfz30_5 := bF BK268.out 5; have hfz30_6 := bF BK268.out 6; have hfz30_7 := bF BK268.out 7; have hfz30_8 := bF BK268.out 8; have hfz30_9 := bF BK268.out 9; have hfz30_10 := bF BK268.out 10; have hfz30_11 := bF BK268.out 11; have hfz30_12 := bF BK268.out 12; have hfz30_13 := bF BK268.out 13; have hfz30_14 := bF BK268.out 14; have hfz30_15 := bF BK268.out 15; have hfz30_16 := bF BK268.out 16; have hfz30_17 := bF BK268.out 17) | ((with_reducible refine gate_load 26 7 rfl ?_); refine box_load (g := gb268) (cs := #[.string a0_0, .int .i64 a0_1, .int .i64 a0_2, .int .i64 a0_3, .slice A0_4 l0_4.length c0_4, .slice A0_5 l0_5.length c0_5, .slice A0_6 l0_6.length c0_6, .int .i64 a0_7, .int .i64 a0_8, .int .i64 a0_9, .int .i64 a0_10, .int .i64 a0_11, .int .i64 a0_12, .int .i64 a0_13, .int .i64 a0_14, .int .i64 a0_15, .int .i64 a0_16, .int .i64 a0_17]) ?hw rfl (by (with_reducible repeat (first | refine bN ?_ _ | refine bD ?_ | refine bA ?_ _)); with_reducible exact BK268.out) ?ha hu26 rfl ?hi ?_; (case hw => first | exact wanted_none rfl | rfl); (case ha => first | rfl | (go_simp; done)); (case hi => first | rfl | kernel_rfl)))
       go_meet
       case rel => exact ⟨_, (true), (by first | rfl | (simp; done) | (simp [*]; done)), H', ⟨by first | omega | exact Nat.le_refl _⟩, ⟨by (with_reducible repeat (first | refine bN ?_ _ | refine bD ?_ | refine bA ?_ _)); exact BK268.out⟩, ⟨by (with_reducible repeat (first | refine bN ?_ _ | refine bD ?_ | refine bA ?_ _)); exact BK269.out⟩, ⟨by (with_reducible repeat (first | refine bN ?_ _ | refine bD ?_ | refine bA ?_ _)); exact BK270.out⟩, ⟨by (with_reducible repeat (first | refine bN ?_ _ | refine bD ?_ | refine bA ?_ _)); exact BK271.out⟩, ⟨by repeat (first | (with_reducible first | exact HB.out | apply bL | apply bW | apply b1 | refine bS ?_ GE268.out | refine bS ?_ GE269.out | refine bS ?_ GE270.out | refine bS ?_ GE271.out) | exact HB.out)⟩⟩
    ·
     rw [if_neg c19] at H
     have c19b0 : decide (a0_12 < a0_11) = false := decide_eq_false c19
     clear c19
     (first | rw [c19b0] | (simp only [i64_w, i32_w]; rw [c19b0]) | skip)
     have H' := Aside0.mk H
     clear H
     have hnb31 := NB269_268.out
     have hnc31 := NB268_269.out
     have hnb32 := NB269_270.out
     have hnc32 := NB270_269.out
     have hnb33 := NB269_271.out
     have hnc33 := NB271_269.out
     have hcz34_0 : w14.cell? ⟨gb269, 0, none⟩ = some (.int .i64 a1_0) := (bC BK269.out 0).trans rfl
     have hcz34_1 : w14.cell? ⟨gb269, 1, none⟩ = some (.int .i64 a1_1) := (bC BK269.out 1).trans rfl
     have hfz34_0 := bF BK269.out 0
     have hfz34_1 := bF BK269.out 1
     as_aux_lemma =>
       go_wp2_with (first | ((with_reducible refine gate_callee (f := 18) rfl ?_); refine goesL_ (some 22) rfl rfl Try.func18 (by kernel_rfl) rfl #[.agg #[.int .i64 a1_0, .int .i64 a1_1]] rfl (by (try simp only [List.map_toArray, List.map_cons, List.map_nil]); first | done | rfl | (simp only [List.length_drop, List.length_take]; rfl)) ?_; (with_reducible refine (bournelaw20_within.calls a1_0 a1_1 true _ A15.out).mono ?_); rintro e w35 ⟨rfl, hb⟩; refine ⟨_, rfl, ?_⟩; have n0_ := Aside0.mk (bB (g := gb268) (o := .cells #[.string a0_0, .int .i64 a0_1, .int .i64 a0_2, .int .i64 a0_3, .slice A0_4 l0_4.length c0_4, .slice A0_5 l0_5.length c0_5, .slice A0_6 l0_6.length c0_6, .int .i64 a0_7, .int .i64 a0_8, .int .i64 a0_9, .int .i64 a0_10, .int .i64 a0_11, .int .i64 a0_12, .int .i64 a0_13, .int .i64 a0_14, .int .i64 a0_15, .int .i64 a0_16, .int .i64 a0_17] 26 (0, 0)) (by (with_reducible repeat (first | refine bN ?_ _ | refine bD ?_ | refine bA ?_ _)); exact BK268.out) hb); have n1_ := Aside0.mk (bB (g := gb269) (o := .cells #[.int .i64 a1_0, .int .i64 a1_1] 30 (0, 0)) (by (with_reducible repeat (first | refine bN ?_ _ | refine bD ?_ | refine bA ?_ _)); exact BK269.out) hb); have n2_ := Aside0.mk (bB (g := gb270) (o := .cells #[.int .i64 a2_0, .int .i64 a2_1] 30 (0, 0)) (by (with_reducible repeat (first | refine bN ?_ _ | refine bD ?_ | refine bA ?_ _)); exact BK270.out) hb); have n3_ := Aside0.mk (bB (g := gb271) (o := .cells #[.int .i64 a5_0, .int .i64 a5_1, .int .i64 a5_2, .int .i64 a5_3, .int .i64 a5_4] 32 (0, 0)) (by (with_reducible repeat (first | refine bN ?_ _ | refine bD ?_ | refine bA ?_ _)); exact BK271.out) hb); have n4_ := Aside0.mk (bP (by repeat (first | (with_reducible first | exact HB.out | apply bL | apply bW | apply b1 | refine bS ?_ GE268.out | refine bS ?_ GE269.out | refine bS ?_ GE270.out | refine bS ?_ GE271.out) | exact HB.out)) hb); clear BK268; clear BK269; clear BK270; clear BK271; clear HB; have BK268 := n0_; have BK269 := n1_; have BK270 := n2_; have BK271 := n3_; have HB := n4_; clear n0_ n1_ n2_ n3_ n4_; (try clear hb); (try clear hb2); (try clear hk); (try clear hi); have hnb36 := NB270_268.out; have hnc36 := NB268_270.out; have hnb37 := NB270_271.out; have hnc37 := NB271_270.out; have hcz38_0 : w35.cell? ⟨gb270, 0, none⟩ = some (.int .i64 a2_0) := (bC BK270.out 0).trans rfl; have hcz38_1 : w35.cell? ⟨gb270, 1, none⟩ = some (.int .i64 a2_1) := (bC BK270.out 1).trans rfl; have hfz38_0 := bF BK270.out 0; have hfz38_1 := bF BK270.out 1) | (go_at_call 18; (with_reducible refine (bournelaw20_within.calls a2_0 a2_1 true _ A17.out).mono ?_); rintro e w39 ⟨rfl, hb⟩; (try clear A17); have n0_ := Aside0.mk (bB (g := gb268) (o := .cells #[.string a0_0, .int .i64 a0_1, .int .i64 a0_2, .int .i64 a0_3, .slice A0_4 l0_4.length c0_4, .slice A0_5 l0_5.length c0_5, .slice A0_6 l0_6.length c0_6, .int .i64 a0_7, .int .i64 a0_8, .int .i64 a0_9, .int .i64 a0_10, .int .i64 a0_11, .int .i64 a0_12, .int .i64 a0_13, .int .i64 a0_14, .int .i64 a0_15, .int .i64 a0_16, .int .i64 a0_17] 26 (0, 0)) (by (with_reducible repeat (first | refine bN ?_ _ | refine bD ?_ | refine bA ?_ _)); exact BK268.out) hb); have n1_ := Aside0.mk (bB (g := gb269) (o := .cells #[.int .i64 a1_0, .int .i64 a1_1] 30 (0, 0)) (by (with_reducible repeat (first | refine bN ?_ _ | refine bD ?_ | refine bA ?_ _)); exact BK269.out) hb); have n2_ := Aside0.mk (bB (g := gb270) (o := .cells #[.int .i64 a2_0, .int .i64 a2_1] 30 (0, 0)) (by (with_reducible repeat (first | refine bN ?_ _ | refine bD ?_ | refine bA ?_ _)); exact BK270.out) hb); have n3_ := Aside0.mk (bB (g := gb271) (o := .cells #[.int .i64 a5_0, .int .i64 a5_1, .int .i64 a5_2, .int .i64 a5_3, .int .i64 a5_4] 32 (0, 0)) (by (with_reducible repeat (first | refine bN ?_ _ | refine bD ?_ | refine bA ?_ _)); exact BK271.out) hb); have n4_ := Aside0.mk (bP (by repeat (first | (with_reducible first | exact HB.out | apply bL | apply bW | apply b1 | refine bS ?_ GE268.out | refine bS ?_ GE269.out | refine bS ?_ GE270.out | refine bS ?_ GE271.out) | exact HB.out)) hb); clear BK268; clear BK269; clear BK270; clear BK271; clear HB; have BK268 := n0_; have BK269 := n1_; have BK270 := n2_; have BK271 := n3_; have HB := n4_; clear n0_ n1_ n2_ n3_ n4_; (try clear hb); (try clear hb2); (try clear hk); (try clear hi); have hnb40 := NB268_271.out; have hnc40 := NB271_268.out; have hcz41_0 : w39.cell? ⟨gb268, 0, none⟩ = some (.string a0_0) := (bC BK268.out 0).trans rfl; have hcz41_1 : w39.cell? ⟨gb268, 1, none⟩ = some (.int .i64 a0_1) := (bC BK268.out 1).trans rfl; have hcz41_2 : w39.cell? ⟨gb268, 2, none⟩ = some (.int .i64 a0_2) := (bC BK268.out 2).trans rfl; have hcz41_3 : w39.cell? ⟨gb268, 3, none⟩ = some (.int .i64 a0_3) := (bC BK268.out 3).trans rfl; have hcz41_4 : w39.cell? ⟨gb268, 4, none⟩ = some (.slice A0_4 l0_4.length c0_4) := (bC BK268.out 4).trans rfl; have hcz41_5 : w39.cell? ⟨gb268, 5, none⟩ = some (.slice A0_5 l0_5.length c0_5) := (bC BK268.out 5).trans rfl; have hcz41_6 : w39.cell? ⟨gb268, 6, none⟩ = some (.slice A0_6 l0_6.length c0_6) := (bC BK268.out 6).trans rfl; have hcz41_7 : w39.cell? ⟨gb268, 7, none⟩ = some (.int .i64 a0_7) := (bC BK268.out 7).trans rfl; have hcz41_8 : w39.cell? ⟨gb268, 8, none⟩ = some (.int .i64 a0_8) := (bC BK268.out 8).trans rfl; have hcz41_9 : w39.cell? ⟨gb268, 9, none⟩ = some (.int .i64 a0_9) := (bC BK268.out 9).trans rfl; have hcz41_10 : w39.cell? ⟨gb268, 10, none⟩ = some (.int .i64 a0_10) := (bC BK268.out 10).trans rfl; have hcz41_11 : w39.cell? ⟨gb268, 11, none⟩ = some (.int .i64 a0_11) := (bC BK268.out 11).trans rfl; have hcz41_12 : w39.cell? ⟨gb268, 12, none⟩ = some (.int .i64 a0_12) := (bC BK268.out 12).trans rfl; have hcz41_13 : w39.cell? ⟨gb268, 13, none⟩ = some (.int .i64 a0_13) := (bC BK268.out 13).trans rfl; have hcz41_14 : w39.cell? ⟨gb268, 14, none⟩ = some (.int .i64 a0_14) := (bC BK268.out 14).trans rfl; have hcz41_15 : w39.cell? ⟨gb268, 15, none⟩ = some (.int .i64 a0_15) := (bC BK268.out 15).trans rfl; have hcz41_16 : w39.cell? ⟨gb268, 16, none⟩ = some (.int .i64 a0_16) := (bC BK268.out 16).trans rfl; have hcz41_17 : w39.cell? ⟨gb268, 17, none⟩ = some (.int .i64 a0_17) := (bC BK268.out 17).trans rfl; have hfz41_0 := bF BK268.out 0; have hfz41_1 := bF BK268.out 1; have hfz41_2 := bF BK268.out 2; have hfz41_3 := bF BK268.out 3; have hfz41_4 := bF BK268.out 4; have hfz41_5 := bF BK268.out 5; have hfz41_6 := bF BK268.out 6; have hfz41_7 := bF BK268.out 7; have hfz41_8 := bF BK268.out 8; have hfz41_9 := bF BK268.out 9; have hfz41_10 := bF BK268.out 10; have hfz41_11 := bF BK268.out 11; have hfz41_12 := bF BK268.out 12; have hfz41_13 := bF BK268.out 13; have hfz41_14 := bF BK268.out 14; have hfz41_15 := bF BK268.out 15; have hfz41_16 := bF BK268.out 16; have hfz41_17 := bF BK268.out 17) | ((with_reducible refine gate_load 26 7 rfl ?_); refine box_load (g := gb268) (cs := #[.string a0_0, .int .i64 a0_1, .int .i64 a0_2, .int .i64 a0_3, .slice A0_4 l0_4.length c0_4, .slice A0_5 l0_5.length c0_5, .slice A0_6 l0_6.length c0_6, .int .i64 a0_7, .int .i64 a0_8, .int .i64 a0_9, .int .i64 a0_10, .int .i64 a0_11, .int .i64 a0_12, .int .i64 a0_13, .int .i64 a0_14, .int .i64 a0_15, .int .i64 a0_16, .int .i64 a0_17]) ?hw rfl (by (with_reducible repeat (first | refine bN ?_ _ | refine bD ?_ | refine bA ?_ _)); with_reducible exact BK268.out) ?ha hu26 rfl ?hi ?_; (case hw => first | exact wanted_none rfl | rfl); (case ha => first | rfl | (go_simp; done)); (case hi => first | rfl | kernel_rfl)))
       go_meet
       case rel => exact ⟨_, (decide (a0_15 > a0_16)), (by first | rfl | (simp; done) | (simp [*]; done)), H', ⟨by first | omega | exact Nat.le_refl _⟩, ⟨by (with_reducible repeat (first | refine bN ?_ _ | refine bD ?_ | refine bA ?_ _)); exact BK268.out⟩, ⟨by (with_reducible repeat (first | refine bN ?_ _ | refine bD ?_ | refine bA ?_ _)); exact BK269.out⟩, ⟨by (with_reducible repeat (first | refine bN ?_ _ | refine bD ?_ | refine bA ?_ _)); exact BK270.out⟩, ⟨by (with_reducible repeat (first | refine bN ?_ _ | refine bD ?_ | refine bA ?_ _)); exact BK271.out⟩, ⟨by repeat (first | (with_reducible first | exact HB.out | apply bL | apply bW | apply b1 | refine bS ?_ GE268.out | refine bS ?_ GE269.out | refine bS ?_ GE270.out | refine bS ?_ GE271.out) | exact HB.out)⟩⟩
   ·
    replace c18 := Bool.eq_false_iff.mpr c18
    subst c18
    have H1 : (bournelaw20_SeepEncloses.j0 k a3 a4 a6 t272 true a0_0 a0_1 a0_2 a0_3 l0_4 l0_5 l0_6 a0_7 a0_8 a0_9 a0_10 a0_11 a0_12 a0_13 a0_14 a0_15 a0_16 a0_17 a1_0 a1_1 a2_0 a2_1 a5_0 a5_1 a5_2 a5_3 a5_4) = some r := by rw [if_neg (show ¬ (false = true) by decide)] at H; exact H
    clear H
    have H := H1
    clear H1
    have H' := Aside0.mk H
    clear H
    have hnb42 := NB269_268.out
    have hnc42 := NB268_269.out
    have hnb43 := NB269_270.out
    have hnc43 := NB270_269.out
    have hnb44 := NB269_271.out
    have hnc44 := NB271_269.out
    have hcz45_0 : w14.cell? ⟨gb269, 0, none⟩ = some (.int .i64 a1_0) := (bC BK269.out 0).trans rfl
    have hcz45_1 : w14.cell? ⟨gb269, 1, none⟩ = some (.int .i64 a1_1) := (bC BK269.out 1).trans rfl
    have hfz45_0 := bF BK269.out 0
    have hfz45_1 := bF BK269.out 1
    as_aux_lemma =>
      go_wp2_with (first | ((with_reducible refine gate_callee (f := 18) rfl ?_); refine goesL_ (some 22) rfl rfl Try.func18 (by kernel_rfl) rfl #[.agg #[.int .i64 a1_0, .int .i64 a1_1]] rfl (by (try simp only [List.map_toArray, List.map_cons, List.map_nil]); first | done | rfl | (simp only [List.length_drop, List.length_take]; rfl)) ?_; (with_reducible refine (bournelaw20_within.calls a1_0 a1_1 true _ A15.out).mono ?_); rintro e w46 ⟨rfl, hb⟩; refine ⟨_, rfl, ?_⟩; have n0_ := Aside0.mk (bB (g := gb268) (o := .cells #[.string a0_0, .int .i64 a0_1, .int .i64 a0_2, .int .i64 a0_3, .slice A0_4 l0_4.length c0_4, .slice A0_5 l0_5.length c0_5, .slice A0_6 l0_6.length c0_6, .int .i64 a0_7, .int .i64 a0_8, .int .i64 a0_9, .int .i64 a0_10, .int .i64 a0_11, .int .i64 a0_12, .int .i64 a0_13, .int .i64 a0_14, .int .i64 a0_15, .int .i64 a0_16, .int .i64 a0_17] 26 (0, 0)) (by (with_reducible repeat (first | refine bN ?_ _ | refine bD ?_ | refine bA ?_ _)); exact BK268.out) hb); have n1_ := Aside0.mk (bB (g := gb269) (o := .cells #[.int .i64 a1_0, .int .i64 a1_1] 30 (0, 0)) (by (with_reducible repeat (first | refine bN ?_ _ | refine bD ?_ | refine bA ?_ _)); exact BK269.out) hb); have n2_ := Aside0.mk (bB (g := gb270) (o := .cells #[.int .i64 a2_0, .int .i64 a2_1] 30 (0, 0)) (by (with_reducible repeat (first | refine bN ?_ _ | refine bD ?_ | refine bA ?_ _)); exact BK270.out) hb); have n3_ := Aside0.mk (bB (g := gb271) (o := .cells #[.int .i64 a5_0, .int .i64 a5_1, .int .i64 a5_2, .int .i64 a5_3, .int .i64 a5_4] 32 (0, 0)) (by (with_reducible repeat (first | refine bN ?_ _ | refine bD ?_ | refine bA ?_ _)); exact BK271.out) hb); have n4_ := Aside0.mk (bP (by repeat (first | (with_reducible first | exact HB.out | apply bL | apply bW | apply b1 | refine bS ?_ GE268.out | refine bS ?_ GE269.out | refine bS ?_ GE270.out | refine bS ?_ GE271.out) | exact HB.out)) hb); clear BK268; clear BK269; clear BK270; clear BK271; clear HB; have BK268 := n0_; have BK269 := n1_; have BK270 := n2_; have BK271 := n3_; have HB := n4_; clear n0_ n1_ n2_ n3_ n4_; (try clear hb); (try clear hb2); (try clear hk); (try clear hi); have hnb47 := NB270_268.out; have hnc47 := NB268_270.out; have hnb48 := NB270_271.out; have hnc48 := NB271_270.out; have hcz49_0 : w46.cell? ⟨gb270, 0, none⟩ = some (.int .i64 a2_0) := (bC BK270.out 0).trans rfl; have hcz49_1 : w46.cell? ⟨gb270, 1, none⟩ = some (.int .i64 a2_1) := (bC BK270.out 1).trans rfl; have hfz49_0 := bF BK270.out 0; have hfz49_1 := bF BK270.out 1) | (go_at_call 18; (with_reducible refine (bournelaw20_within.calls a2_0 a2_1 false _ A17.out).mono ?_); rintro e w50 ⟨rfl, hb⟩; (try clear A17); have n0_ := Aside0.mk (bB (g := gb268) (o := .cells #[.string a0_0, .int .i64 a0_1, .int .i64 a0_2, .int .i64 a0_3, .slice A0_4 l0_4.length c0_4, .slice A0_5 l0_5.length c0_5, .slice A0_6 l0_6.length c0_6, .int .i64 a0_7, .int .i64 a0_8, .int .i64 a0_9, .int .i64 a0_10, .int .i64 a0_11, .int .i64 a0_12, .int .i64 a0_13, .int .i64 a0_14, .int .i64 a0_15, .int .i64 a0_16, .int .i64 a0_17] 26 (0, 0)) (by (with_reducible repeat (first | refine bN ?_ _ | refine bD ?_ | refine bA ?_ _)); exact BK268.out) hb); have n1_ := Aside0.mk (bB (g := gb269) (o := .cells #[.int .i64 a1_0, .int .i64 a1_1] 30 (0, 0)) (by (with_reducible repeat (first | refine bN ?_ _ | refine bD ?_ | refine bA ?_ _)); exact BK269.out) hb); have n2_ := Aside0.mk (bB (g := gb270) (o := .cells #[.int .i64 a2_0, .int .i64 a2_1] 30 (0, 0)) (by (with_reducible repeat (first | refine bN ?_ _ | refine bD ?_ | refine bA ?_ _)); exact BK270.out) hb); have n3_ := Aside0.mk (bB (g := gb271) (o := .cells #[.int .i64 a5_0, .int .i64 a5_1, .int .i64 a5_2, .int .i64 a5_3, .int .i64 a5_4] 32 (0, 0)) (by (with_reducible repeat (first | refine bN ?_ _ | refine bD ?_ | refine bA ?_ _)); exact BK271.out) hb); have n4_ := Aside0.mk (bP (by repeat (first | (with_reducible first | exact HB.out | apply bL | apply bW | apply b1 | refine bS ?_ GE268.out | refine bS ?_ GE269.out | refine bS ?_ GE270.out | refine bS ?_ GE271.out) | exact HB.out)) hb); clear BK268; clear BK269; clear BK270; clear BK271; clear HB; have BK268 := n0_; have BK269 := n1_; have BK270 := n2_; have BK271 := n3_; have HB := n4_; clear n0_ n1_ n2_ n3_ n4_; (try clear hb); (try clear hb2); (try clear hk); (try clear hi)) | ((with_reducible refine gate_load 26 7 rfl ?_); refine box_load (g := gb268) (cs := #[.string a0_0, .int .i64 a0_1, .int .i64 a0_2, .int .i64 a0_3, .slice A0_4 l0_4.length c0_4, .slice A0_5 l0_5.length c0_5, .slice A0_6 l0_6.length c0_6, .int .i64 a0_7, .int .i64 a0_8, .int .i64 a0_9, .int .i64 a0_10, .int .i64 a0_11, .int .i64 a0_12, .int .i64 a0_13, .int .i64 a0_14, .int .i64 a0_15, .int .i64 a0_16, .int .i64 a0_17]) ?hw rfl (by (with_reducible repeat (first | refine bN ?_ _ | refine bD ?_ | refine bA ?_ _)); with_reducible exact BK268.out) ?ha hu26 rfl ?hi ?_; (case hw => first | exact wanted_none rfl | rfl); (case ha => first | rfl | (go_simp; done)); (case hi => first | rfl | kernel_rfl)))
      go_meet
      case rel => exact ⟨_, (true), (by first | rfl | (simp; done) | (simp [*]; done)), H', ⟨by first | omega | exact Nat.le_refl _⟩, ⟨by (with_reducible repeat (first | refine bN ?_ _ | refine bD ?_ | refine bA ?_ _)); exact BK268.out⟩, ⟨by (with_reducible repeat (first | refine bN ?_ _ | refine bD ?_ | refine bA ?_ _)); exact BK269.out⟩, ⟨by (with_reducible repeat (first | refine bN ?_ _ | refine bD ?_ | refine bA ?_ _)); exact BK270.out⟩, ⟨by (with_reducible repeat (first | refine bN ?_ _ | refine bD ?_ | refine bA ?_ _)); exact BK271.out⟩, ⟨by repeat (first | (with_reducible first | exact HB.out | apply bL | apply bW | apply b1 | refine bS ?_ GE268.out | refine bS ?_ GE269.out | refine bS ?_ GE270.out | refine bS ?_ GE271.out) | exact HB.out)⟩⟩
  ·
   replace c16 := Bool.eq_false_iff.mpr c16
   subst c16
   have H1 : (bournelaw20_SeepEncloses.j0 k a3 a4 a6 t272 true a0_0 a0_1 a0_2 a0_3 l0_4 l0_5 l0_6 a0_7 a0_8 a0_9 a0_10 a0_11 a0_12 a0_13 a0_14 a0_15 a0_16 a0_17 a1_0 a1_1 a2_0 a2_1 a5_0 a5_1 a5_2 a5_3 a5_4) = some r := by rw [if_neg (show ¬ (false = true) by decide)] at H; exact H
   clear H
   have H := H1
   clear H1
   have H' := Aside0.mk H
   clear H
   have hnb51 := NB269_268.out
   have hnc51 := NB268_269.out
   have hnb52 := NB269_270.out
   have hnc52 := NB270_269.out
   have hnb53 := NB269_271.out
   have hnc53 := NB271_269.out
   have hcz54_0 : w14.cell? ⟨gb269, 0, none⟩ = some (.int .i64 a1_0) := (bC BK269.out 0).trans rfl
   have hcz54_1 : w14.cell? ⟨gb269, 1, none⟩ = some (.int .i64 a1_1) := (bC BK269.out 1).trans rfl
   have hfz54_0 := bF BK269.out 0
   have hfz54_1 := bF BK269.out 1
   as_aux_lemma =>
     go_wp2_with (first | ((with_reducible refine gate_callee (f := 18) rfl ?_); refine goesL_ (some 22) rfl rfl Try.func18 (by kernel_rfl) rfl #[.agg #[.int .i64 a1_0, .int .i64 a1_1]] rfl (by (try simp only [List.map_toArray, List.map_cons, List.map_nil]); first | done | rfl | (simp only [List.length_drop, List.length_take]; rfl)) ?_; (with_reducible refine (bournelaw20_within.calls a1_0 a1_1 false _ A15.out).mono ?_); rintro e w55 ⟨rfl, hb⟩; refine ⟨_, rfl, ?_⟩; have n0_ := Aside0.mk (bB (g := gb268) (o := .cells #[.string a0_0, .int .i64 a0_1, .int .i64 a0_2, .int .i64 a0_3, .slice A0_4 l0_4.length c0_4, .slice A0_5 l0_5.length c0_5, .slice A0_6 l0_6.length c0_6, .int .i64 a0_7, .int .i64 a0_8, .int .i64 a0_9, .int .i64 a0_10, .int .i64 a0_11, .int .i64 a0_12, .int .i64 a0_13, .int .i64 a0_14, .int .i64 a0_15, .int .i64 a0_16, .int .i64 a0_17] 26 (0, 0)) (by (with_reducible repeat (first | refine bN ?_ _ | refine bD ?_ | refine bA ?_ _)); exact BK268.out) hb); have n1_ := Aside0.mk (bB (g := gb269) (o := .cells #[.int .i64 a1_0, .int .i64 a1_1] 30 (0, 0)) (by (with_reducible repeat (first | refine bN ?_ _ | refine bD ?_ | refine bA ?_ _)); exact BK269.out) hb); have n2_ := Aside0.mk (bB (g := gb270) (o := .cells #[.int .i64 a2_0, .int .i64 a2_1] 30 (0, 0)) (by (with_reducible repeat (first | refine bN ?_ _ | refine bD ?_ | refine bA ?_ _)); exact BK270.out) hb); have n3_ := Aside0.mk (bB (g := gb271) (o := .cells #[.int .i64 a5_0, .int .i64 a5_1, .int .i64 a5_2, .int .i64 a5_3, .int .i64 a5_4] 32 (0, 0)) (by (with_reducible repeat (first | refine bN ?_ _ | refine bD ?_ | refine bA ?_ _)); exact BK271.out) hb); have n4_ := Aside0.mk (bP (by repeat (first | (with_reducible first | exact HB.out | apply bL | apply bW | apply b1 | refine bS ?_ GE268.out | refine bS ?_ GE269.out | refine bS ?_ GE270.out | refine bS ?_ GE271.out) | exact HB.out)) hb); clear BK268; clear BK269; clear BK270; clear BK271; clear HB; have BK268 := n0_; have BK269 := n1_; have BK270 := n2_; have BK271 := n3_; have HB := n4_; clear n0_ n1_ n2_ n3_ n4_; (try clear hb); (try clear hb2); (try clear hk); (try clear hi)) | ((with_reducible refine gate_load 26 7 rfl ?_); refine box_load (g := gb268) (cs := #[.string a0_0, .int .i64 a0_1, .int .i64 a0_2, .int .i64 a0_3, .slice A0_4 l0_4.length c0_4, .slice A0_5 l0_5.length c0_5, .slice A0_6 l0_6.length c0_6, .int .i64 a0_7, .int .i64 a0_8, .int .i64 a0_9, .int .i64 a0_10, .int .i64 a0_11, .int .i64 a0_12, .int .i64 a0_13, .int .i64 a0_14, .int .i64 a0_15, .int .i64 a0_16, .int .i64 a0_17]) ?hw rfl (by (with_reducible repeat (first | refine bN ?_ _ | refine bD ?_ | refine bA ?_ _)); with_reducible exact BK268.out) ?ha hu26 rfl ?hi ?_; (case hw => first | exact wanted_none rfl | rfl); (case ha => first | rfl | (go_simp; done)); (case hi => first | rfl | kernel_rfl)))
     go_meet
     case rel => exact ⟨_, (true), (by first | rfl | (simp; done) | (simp [*]; done)), H', ⟨by first | omega | exact Nat.le_refl _⟩, ⟨by (with_reducible repeat (first | refine bN ?_ _ | refine bD ?_ | refine bA ?_ _)); exact BK268.out⟩, ⟨by (with_reducible repeat (first | refine bN ?_ _ | refine bD ?_ | refine bA ?_ _)); exact BK269.out⟩, ⟨by (with_reducible repeat (first | refine bN ?_ _ | refine bD ?_ | refine bA ?_ _)); exact BK270.out⟩, ⟨by (with_reducible repeat (first | refine bN ?_ _ | refine bD ?_ | refine bA ?_ _)); exact BK271.out⟩, ⟨by repeat (first | (with_reducible first | exact HB.out | apply bL | apply bW | apply b1 | refine bS ?_ GE268.out | refine bS ?_ GE269.out | refine bS ?_ GE270.out | refine bS ?_ GE271.out) | exact HB.out)⟩⟩
 case rest =>
  clear HC9
  try clear c1
  try clear c2
  try clear p2
  try clear c3
  try clear c4
  try clear c5
  try clear c7
  try clear c9
  try clear c16
  try clear c18
  try clear c19
  try clear c19b0
  try clear c20
  try clear c21
  try clear c22
  try clear c25
  try clear c26
  try clear c29
  try clear c31
  try clear c32
  try clear c33
  try clear c36
  try clear c37
  try clear c40
  try clear c42
  try clear c43
  try clear c44
  try clear c47
  try clear c48
  try clear c51
  try clear c52
  try clear c53
  try clear hcz23_0
  try clear hcz23_1
  try clear hcz27_0
  try clear hcz27_1
  try clear hcz30_0
  try clear hcz30_1
  try clear hcz30_10
  try clear hcz30_11
  try clear hcz30_12
  try clear hcz30_13
  try clear hcz30_14
  try clear hcz30_15
  try clear hcz30_16
  try clear hcz30_17
  try clear hcz30_2
  try clear hcz30_3
  try clear hcz30_4
  try clear hcz30_5
  try clear hcz30_6
  try clear hcz30_7
  try clear hcz30_8
  try clear hcz30_9
  try clear hcz34_0
  try clear hcz34_1
  try clear hcz38_0
  try clear hcz38_1
  try clear hcz41_0
  try clear hcz41_1
  try clear hcz41_10
  try clear hcz41_11
  try clear hcz41_12
  try clear hcz41_13
  try clear hcz41_14
  try clear hcz41_15
  try clear hcz41_16
  try clear hcz41_17
  try clear hcz41_2
  try clear hcz41_3
  try clear hcz41_4
  try clear hcz41_5
  try clear hcz41_6
  try clear hcz41_7
  try clear hcz41_8
  try clear hcz41_9
  try clear hcz45_0
  try clear hcz45_1
  try clear hcz49_0
  try clear hcz49_1
  try clear hcz54_0
  try clear hcz54_1
  try clear hfz23_0
  try clear hfz23_1
  try clear hfz27_0
  try clear hfz27_1
  try clear hfz30_0
  try clear hfz30_1
  try clear hfz30_10
  try clear hfz30_11
  try clear hfz30_12
  try clear hfz30_13
  try clear hfz30_14
  try clear hfz30_15
  try clear hfz30_16
  try clear hfz30_17
  try clear hfz30_2
  try clear hfz30_3
  try clear hfz30_4
  try clear hfz30_5
  try clear hfz30_6
  try clear hfz30_7
  try clear hfz30_8
  try clear hfz30_9
  try clear hfz34_0
  try clear hfz34_1
  try clear hfz38_0
  try clear hfz38_1
  try clear hfz41_0
  try clear hfz41_1
  try clear hfz41_10
  try clear hfz41_11
  try clear hfz41_12
  try clear hfz41_13
  try clear hfz41_14
  try clear hfz41_15
  try clear hfz41_16
  try clear hfz41_17
  try clear hfz41_2
  try clear hfz41_3
  try clear hfz41_4
  try clear hfz41_5
  try clear hfz41_6
  try clear hfz41_7
  try clear hfz41_8
  try clear hfz41_9
  try clear hfz45_0
  try clear hfz45_1
  try clear hfz49_0
  try clear hfz49_1
  try clear hfz54_0
  try clear hfz54_1
  obtain ⟨kq, x42_8, rfl, HA, HJ8, BK268, BK269, BK270, BK271, HB⟩ := hcut
  cases kq with
  | zero => exact absurd HA.out (by simp [bournelaw20_SeepEncloses.j0])
  | succ kj8 =>
   have H := HA.out
   clear HA
   simp only [bournelaw20_SeepEncloses.j0] at H
   by_cases c56 : x42_8 = true
   ·
    subst c56
    have H1 : (some t272) = some r := by rw [if_pos rfl] at H; exact H
    clear H
    have H := H1
    clear H1
    obtain rfl := Option.some.inj H
    as_aux_lemma =>
      go_wp2
      go_ret
      exact ⟨by first | rfl | (simp [errW_none, errW_some] <;> rfl) | (simp [*, errW_none, errW_some] <;> rfl), by repeat (first | (with_reducible first | exact HB.out | apply bL | apply bW | apply b1 | refine bS ?_ GE268.out | refine bS ?_ GE269.out | refine bS ?_ GE270.out | refine bS ?_ GE271.out) | exact HB.out)⟩
   ·
    replace c56 := Bool.eq_false_iff.mpr c56
    subst c56
    have H1 : ((bournelaw20_inside.f a1_0 a1_1 a3).bind fun t275 => ((bournelaw20_inside.f a2_0 a2_1 a4).bind fun t276 => ((seep_Bounds.f kj8 a0_0 a0_1 a0_2 a0_3 l0_4 l0_5 l0_6 a0_7 a0_8 a0_9 a0_10 a0_11 a0_12 a0_13 a0_14 a0_15 a0_16 a0_17 a1_0 a1_1 a2_0 a2_1).bind fun bt277 => ((seep_Ask.f kj8 a0_0 a0_1 a0_2 a0_3 l0_4 l0_5 l0_6 a0_7 a0_8 a0_9 a0_10 a0_11 a0_12 a0_13 a0_14 a0_15 a0_16 a0_17 t275 t276).bind fun t280 => ((span_Has.f bt277.1 bt277.2 t280).bind fun t281 => (if t281 = true then ((seep_Ask.f kj8 a0_0 a0_1 a0_2 a0_3 l0_4 l0_5 l0_6 a0_7 a0_8 a0_9 a0_10 a0_11 a0_12 a0_13 a0_14 a0_15 a0_16 a0_17 a1_0 a2_1).bind fun t282 => (if t282 = bt277.1 then ((seep_Ask.f kj8 a0_0 a0_1 a0_2 a0_3 l0_4 l0_5 l0_6 a0_7 a0_8 a0_9 a0_10 a0_11 a0_12 a0_13 a0_14 a0_15 a0_16 a0_17 a1_1 a2_0).bind fun t283 => (bournelaw20_SeepEncloses.j1 kj8 t275 a6 t272 (t283 != bt277.2) a0_0 a0_1 a0_2 a0_3 l0_4 l0_5 l0_6 a0_7 a0_8 a0_9 a0_10 a0_11 a0_12 a0_13 a0_14 a0_15 a0_16 a0_17 a1_0 a1_1 a5_0 a5_1 a5_2 a5_3 a5_4)) else (bournelaw20_SeepEncloses.j1 kj8 t275 a6 t272 true a0_0 a0_1 a0_2 a0_3 l0_4 l0_5 l0_6 a0_7 a0_8 a0_9 a0_10 a0_11 a0_12 a0_13 a0_14 a0_15 a0_16 a0_17 a1_0 a1_1 a5_0 a5_1 a5_2 a5_3 a5_4))) else (bournelaw20_SeepEncloses.j1 kj8 t275 a6 t272 true a0_0 a0_1 a0_2 a0_3 l0_4 l0_5 l0_6 a0_7 a0_8 a0_9 a0_10 a0_11 a0_12 a0_13 a0_14 a0_15 a0_16 a0_17 a1_0 a1_1 a5_0 a5_1 a5_2 a5_3 a5_4))))))) = some r := by rw [if_neg (show ¬ (false = true) by decide)] at H; exact H
    clear H
    have H := H1
    clear H1
    replace H := Option.bind_eq_some_iff.mp H
    obtain ⟨t275, A570, H⟩ := H
    have A57 := Aside0.mk A570
    clear A570
    replace H := Option.bind_eq_some_iff.mp H
    obtain ⟨t276, A580, H⟩ := H
    have A58 := Aside0.mk A580
    clear A580
    replace H := Option.bind_eq_some_iff.mp H
    obtain ⟨⟨t277, t278⟩, A590, H⟩ := H
    dsimp only at H
    have A59 := Aside0.mk A590
    clear A590
    have HC60 := Aside0.mk H
    clear H
    have hnb61 := NB269_268.out
    have hnc61 := NB268_269.out
    have hnb62 := NB269_270.out
    have hnc62 := NB270_269.out
    have hnb63 := NB269_271.out
    have hnc63 := NB271_269.out
    have hcz64_0 : wc.cell? ⟨gb269, 0, none⟩ = some (.int .i64 a1_0) := (bC BK269.out 0).trans rfl
    have hcz64_1 : wc.cell? ⟨gb269, 1, none⟩ = some (.int .i64 a1_1) := (bC BK269.out 1).trans rfl
    have hfz64_0 := bF BK269.out 0
    have hfz64_1 := bF BK269.out 1
    go_upto_region 7 with (first | ((with_reducible refine gate_callee (f := 21) rfl ?_); refine goesL_ (some 46) rfl rfl Try.func21 (by kernel_rfl) rfl #[.agg #[.int .i64 a1_0, .int .i64 a1_1], .int .i64 a3] rfl (by (try simp only [List.map_toArray, List.map_cons, List.map_nil]); first | done | rfl | (simp only [List.length_drop, List.length_take]; rfl)) ?_; (with_reducible refine (bournelaw20_inside.calls a1_0 a1_1 a3 t275 _ A57.out).mono ?_); rintro e w65 ⟨rfl, hb⟩; refine ⟨_, rfl, ?_⟩; have n0_ := Aside0.mk (bB (g := gb268) (o := .cells #[.string a0_0, .int .i64 a0_1, .int .i64 a0_2, .int .i64 a0_3, .slice A0_4 l0_4.length c0_4, .slice A0_5 l0_5.length c0_5, .slice A0_6 l0_6.length c0_6, .int .i64 a0_7, .int .i64 a0_8, .int .i64 a0_9, .int .i64 a0_10, .int .i64 a0_11, .int .i64 a0_12, .int .i64 a0_13, .int .i64 a0_14, .int .i64 a0_15, .int .i64 a0_16, .int .i64 a0_17] 26 (0, 0)) (by (with_reducible repeat (first | refine bN ?_ _ | refine bD ?_ | refine bA ?_ _)); exact BK268.out) hb); have n1_ := Aside0.mk (bB (g := gb269) (o := .cells #[.int .i64 a1_0, .int .i64 a1_1] 30 (0, 0)) (by (with_reducible repeat (first | refine bN ?_ _ | refine bD ?_ | refine bA ?_ _)); exact BK269.out) hb); have n2_ := Aside0.mk (bB (g := gb270) (o := .cells #[.int .i64 a2_0, .int .i64 a2_1] 30 (0, 0)) (by (with_reducible repeat (first | refine bN ?_ _ | refine bD ?_ | refine bA ?_ _)); exact BK270.out) hb); have n3_ := Aside0.mk (bB (g := gb271) (o := .cells #[.int .i64 a5_0, .int .i64 a5_1, .int .i64 a5_2, .int .i64 a5_3, .int .i64 a5_4] 32 (0, 0)) (by (with_reducible repeat (first | refine bN ?_ _ | refine bD ?_ | refine bA ?_ _)); exact BK271.out) hb); have n4_ := Aside0.mk (bP (by repeat (first | (with_reducible first | exact HB.out | apply bL | apply bW | apply b1 | refine bS ?_ GE268.out | refine bS ?_ GE269.out | refine bS ?_ GE270.out | refine bS ?_ GE271.out) | exact HB.out)) hb); clear BK268; clear BK269; clear BK270; clear BK271; clear HB; have BK268 := n0_; have BK269 := n1_; have BK270 := n2_; have BK271 := n3_; have HB := n4_; clear n0_ n1_ n2_ n3_ n4_; (try clear hb); (try clear hb2); (try clear hk); (try clear hi); have hnb66 := NB270_268.out; have hnc66 := NB268_270.out; have hnb67 := NB270_271.out; have hnc67 := NB271_270.out; have hcz68_0 : w65.cell? ⟨gb270, 0, none⟩ = some (.int .i64 a2_0) := (bC BK270.out 0).trans rfl; have hcz68_1 : w65.cell? ⟨gb270, 1, none⟩ = some (.int .i64 a2_1) := (bC BK270.out 1).trans rfl; have hfz68_0 := bF BK270.out 0; have hfz68_1 := bF BK270.out 1) | ((with_reducible refine gate_callee (f := 21) rfl ?_); refine goesL_ (some 49) rfl rfl Try.func21 (by kernel_rfl) rfl #[.agg #[.int .i64 a2_0, .int .i64 a2_1], .int .i64 a4] rfl (by (try simp only [List.map_toArray, List.map_cons, List.map_nil]); first | done | rfl | (simp only [List.length_drop, List.length_take]; rfl)) ?_; (with_reducible refine (bournelaw20_inside.calls a2_0 a2_1 a4 t276 _ A58.out).mono ?_); rintro e w69 ⟨rfl, hb⟩; refine ⟨_, rfl, ?_⟩; have n0_ := Aside0.mk (bB (g := gb268) (o := .cells #[.string a0_0, .int .i64 a0_1, .int .i64 a0_2, .int .i64 a0_3, .slice A0_4 l0_4.length c0_4, .slice A0_5 l0_5.length c0_5, .slice A0_6 l0_6.length c0_6, .int .i64 a0_7, .int .i64 a0_8, .int .i64 a0_9, .int .i64 a0_10, .int .i64 a0_11, .int .i64 a0_12, .int .i64 a0_13, .int .i64 a0_14, .int .i64 a0_15, .int .i64 a0_16, .int .i64 a0_17] 26 (0, 0)) (by (with_reducible repeat (first | refine bN ?_ _ | refine bD ?_ | refine bA ?_ _)); exact BK268.out) hb); have n1_ := Aside0.mk (bB (g := gb269) (o := .cells #[.int .i64 a1_0, .int .i64 a1_1] 30 (0, 0)) (by (with_reducible repeat (first | refine bN ?_ _ | refine bD ?_ | refine bA ?_ _)); exact BK269.out) hb); have n2_ := Aside0.mk (bB (g := gb270) (o := .cells #[.int .i64 a2_0, .int .i64 a2_1] 30 (0, 0)) (by (with_reducible repeat (first | refine bN ?_ _ | refine bD ?_ | refine bA ?_ _)); exact BK270.out) hb); have n3_ := Aside0.mk (bB (g := gb271) (o := .cells #[.int .i64 a5_0, .int .i64 a5_1, .int .i64 a5_2, .int .i64 a5_3, .int .i64 a5_4] 32 (0, 0)) (by (with_reducible repeat (first | refine bN ?_ _ | refine bD ?_ | refine bA ?_ _)); exact BK271.out) hb); have n4_ := Aside0.mk (bP (by repeat (first | (with_reducible first | exact HB.out | apply bL | apply bW | apply b1 | refine bS ?_ GE268.out | refine bS ?_ GE269.out | refine bS ?_ GE270.out | refine bS ?_ GE271.out) | exact HB.out)) hb); clear BK268; clear BK269; clear BK270; clear BK271; clear HB; have BK268 := n0_; have BK269 := n1_; have BK270 := n2_; have BK271 := n3_; have HB := n4_; clear n0_ n1_ n2_ n3_ n4_; (try clear hb); (try clear hb2); (try clear hk); (try clear hi); have hnb70 := NB268_271.out; have hnc70 := NB271_268.out; have hcz71_0 : w69.cell? ⟨gb268, 0, none⟩ = some (.string a0_0) := (bC BK268.out 0).trans rfl; have hcz71_1 : w69.cell? ⟨gb268, 1, none⟩ = some (.int .i64 a0_1) := (bC BK268.out 1).trans rfl; have hcz71_2 : w69.cell? ⟨gb268, 2, none⟩ = some (.int .i64 a0_2) := (bC BK268.out 2).trans rfl; have hcz71_3 : w69.cell? ⟨gb268, 3, none⟩ = some (.int .i64 a0_3) := (bC BK268.out 3).trans rfl; have hcz71_4 : w69.cell? ⟨gb268, 4, none⟩ = some (.slice A0_4 l0_4.length c0_4) := (bC BK268.out 4).trans rfl; have hcz71_5 : w69.cell? ⟨gb268, 5, none⟩ = some (.slice A0_5 l0_5.length c0_5) := (bC BK268.out 5).trans rfl; have hcz71_6 : w69.cell? ⟨gb268, 6, none⟩ = some (.slice A0_6 l0_6.length c0_6) := (bC BK268.out 6).trans rfl; have hcz71_7 : w69.cell? ⟨gb268, 7, none⟩ = some (.int .i64 a0_7) := (bC BK268.out 7).trans rfl; have hcz71_8 : w69.cell? ⟨gb268, 8, none⟩ = some (.int .i64 a0_8) := (bC BK268.out 8).trans rfl; have hcz71_9 : w69.cell? ⟨gb268, 9, none⟩ = some (.int .i64 a0_9) := (bC BK268.out 9).trans rfl; have hcz71_10 : w69.cell? ⟨gb268, 10, none⟩ = some (.int .i64 a0_10) := (bC BK268.out 10).trans rfl; have hcz71_11 : w69.cell? ⟨gb268, 11, none⟩ = some (.int .i64 a0_11) := (bC BK268.out 11).trans rfl; have hcz71_12 : w69.cell? ⟨gb268, 12, none⟩ = some (.int .i64 a0_12) := (bC BK268.out 12).trans rfl; have hcz71_13 : w69.cell? ⟨gb268, 13, none⟩ = some (.int .i64 a0_13) := (bC BK268.out 13).trans rfl; have hcz71_14 : w69.cell? ⟨gb268, 14, none⟩ = some (.int .i64 a0_14) := (bC BK268.out 14).trans rfl; have hcz71_15 : w69.cell? ⟨gb268, 15, none⟩ = some (.int .i64 a0_15) := (bC BK268.out 15).trans rfl; have hcz71_16 : w69.cell? ⟨gb268, 16, none⟩ = some (.int .i64 a0_16) := (bC BK268.out 16).trans rfl; have hcz71_17 : w69.cell? ⟨gb268, 17, none⟩ = some (.int .i64 a0_17) := (bC BK268.out 17).trans rfl; have hfz71_0 := bF BK268.out 0; have hfz71_1 := bF BK268.out 1; have hfz71_2 := bF BK268.out 2; have hfz71_3 := bF BK268.out 3; have hfz71_4 := bF BK268.out 4; have hfz71_5 := bF BK268.out 5; have hfz71_6 := bF BK268.out 6; have hfz71_7 := bF BK268.out 7; have hfz71_8 := bF BK268.out 8; have hfz71_9 := bF BK268.out 9; have hfz71_10 := bF BK268.out 10; have hfz71_11 := bF BK268.out 11; have hfz71_12 := bF BK268.out 12; have hfz71_13 := bF BK268.out 13; have hfz71_14 := bF BK268.out 14; have hfz71_15 := bF BK268.out 15; have hfz71_16 := bF BK268.out 16; have hfz71_17 := bF BK268.out 17; have hcz72_0 : w69.cell? ⟨gb269, 0, none⟩ = some (.int .i64 a1_0) := (bC BK269.out 0).trans rfl; have hcz72_1 : w69.cell? ⟨gb269, 1, none⟩ = some (.int .i64 a1_1) := (bC BK269.out 1).trans rfl; have hfz72_0 := bF BK269.out 0; have hfz72_1 := bF BK269.out 1; have hcz73_0 : w69.cell? ⟨gb270, 0, none⟩ = some (.int .i64 a2_0) := (bC BK270.out 0).trans rfl; have hcz73_1 : w69.cell? ⟨gb270, 1, none⟩ = some (.int .i64 a2_1) := (bC BK270.out 1).trans rfl; have hfz73_0 := bF BK270.out 0; have hfz73_1 := bF BK270.out 1) | ((with_reducible refine gate_callee (f := 12) rfl ?_); refine goesL_ (some 53) rfl rfl Try.func12 (by kernel_rfl) rfl #[.agg #[.string a0_0, .int .i64 a0_1, .int .i64 a0_2, .int .i64 a0_3, .slice A0_4 l0_4.length c0_4, .slice A0_5 l0_5.length c0_5, .slice A0_6 l0_6.length c0_6, .int .i64 a0_7, .int .i64 a0_8, .int .i64 a0_9, .int .i64 a0_10, .int .i64 a0_11, .int .i64 a0_12, .int .i64 a0_13, .int .i64 a0_14, .int .i64 a0_15, .int .i64 a0_16, .int .i64 a0_17], .agg #[.int .i64 a1_0, .int .i64 a1_1], .agg #[.int .i64 a2_0, .int .i64 a2_1]] rfl (by (try simp only [List.map_toArray, List.map_cons, List.map_nil]); first | done | rfl | (simp only [List.length_drop, List.length_take]; rfl)) ?_; (with_reducible refine (seep_Bounds.calls kj8 a0_0 a0_1 a0_2 a0_3 _ _ l0_4 _ _ l0_5 _ _ l0_6 a0_7 a0_8 a0_9 a0_10 a0_11 a0_12 a0_13 a0_14 a0_15 a0_16 a0_17 a1_0 a1_1 a2_0 a2_1 t277 t278 _ ?side1 ?side2 ?side3 ?side4 ?side5 ?side6 A59.out).mono ?_); (case side1 => repeat (first | exact (Kd.C_below HR0_4.out HB.out) | (with_reducible refine Kd.C_alloc ?_ _) | (with_reducible refine Kd.C_drewN ?_ _) | (with_reducible refine Kd.C_drew ?_))); (case side2 => exact HC0_4.out); (case side3 => repeat (first | exact (Kd.C_below HR0_5.out HB.out) | (with_reducible refine Kd.C_alloc ?_ _) | (with_reducible refine Kd.C_drewN ?_ _) | (with_reducible refine Kd.C_drew ?_))); (case side4 => exact HC0_5.out); (case side5 => repeat (first | exact (Kd.C_below HR0_6.out HB.out) | (with_reducible refine Kd.C_alloc ?_ _) | (with_reducible refine Kd.C_drewN ?_ _) | (with_reducible refine Kd.C_drew ?_))); (case side6 => exact HC0_6.out); rintro e w74 ⟨rfl, hb⟩; refine ⟨_, rfl, ?_⟩; have n0_ := Aside0.mk (bB (g := gb268) (o := .cells #[.string a0_0, .int .i64 a0_1, .int .i64 a0_2, .int .i64 a0_3, .slice A0_4 l0_4.length c0_4, .slice A0_5 l0_5.length c0_5, .slice A0_6 l0_6.length c0_6, .int .i64 a0_7, .int .i64 a0_8, .int .i64 a0_9, .int .i64 a0_10, .int .i64 a0_11, .int .i64 a0_12, .int .i64 a0_13, .int .i64 a0_14, .int .i64 a0_15, .int .i64 a0_16, .int .i64 a0_17] 26 (0, 0)) (by (with_reducible repeat (first | refine bN ?_ _ | refine bD ?_ | refine bA ?_ _)); exact BK268.out) hb); have n1_ := Aside0.mk (bB (g := gb269) (o := .cells #[.int .i64 a1_0, .int .i64 a1_1] 30 (0, 0)) (by (with_reducible repeat (first | refine bN ?_ _ | refine bD ?_ | refine bA ?_ _)); exact BK269.out) hb); have n2_ := Aside0.mk (bB (g := gb270) (o := .cells #[.int .i64 a2_0, .int .i64 a2_1] 30 (0, 0)) (by (with_reducible repeat (first | refine bN ?_ _ | refine bD ?_ | refine bA ?_ _)); exact BK270.out) hb); have n3_ := Aside0.mk (bB (g := gb271) (o := .cells #[.int .i64 a5_0, .int .i64 a5_1, .int .i64 a5_2, .int .i64 a5_3, .int .i64 a5_4] 32 (0, 0)) (by (with_reducible repeat (first | refine bN ?_ _ | refine bD ?_ | refine bA ?_ _)); exact BK271.out) hb); have n4_ := Aside0.mk (bP (by repeat (first | (with_reducible first | exact HB.out | apply bL | apply bW | apply b1 | refine bS ?_ GE268.out | refine bS ?_ GE269.out | refine bS ?_ GE270.out | refine bS ?_ GE271.out) | exact HB.out)) hb); clear BK268; clear BK269; clear BK270; clear BK271; clear HB; have BK268 := n0_; have BK269 := n1_; have BK270 := n2_; have BK271 := n3_; have HB := n4_; clear n0_ n1_ n2_ n3_ n4_; (try clear hb); (try clear hb2); (try clear hk); (try clear hi)) | ((with_reducible refine gate_dst (N := 16) rfl ?_); refine box_event ?hg (N := 16) ?hd (cs := #[.int .i64 0, .int .i64 0]) (t := 30) ?hr ?_; (case hd => rfl); (case hg => rfl); (case hr => first | (go_simp; done) | (go_simp; rfl)); intro gb279 hg w75 hbox hb; have n0_ := Aside0.mk (bB (g := gb268) (o := .cells #[.string a0_0, .int .i64 a0_1, .int .i64 a0_2, .int .i64 a0_3, .slice A0_4 l0_4.length c0_4, .slice A0_5 l0_5.length c0_5, .slice A0_6 l0_6.length c0_6, .int .i64 a0_7, .int .i64 a0_8, .int .i64 a0_9, .int .i64 a0_10, .int .i64 a0_11, .int .i64 a0_12, .int .i64 a0_13, .int .i64 a0_14, .int .i64 a0_15, .int .i64 a0_16, .int .i64 a0_17] 26 (0, 0)) (by (with_reducible repeat (first | refine bN ?_ _ | refine bD ?_ | refine bA ?_ _)); exact BK268.out) hb); have n1_ := Aside0.mk (bB (g := gb269) (o := .cells #[.int .i64 a1_0, .int .i64 a1_1] 30 (0, 0)) (by (with_reducible repeat (first | refine bN ?_ _ | refine bD ?_ | refine bA ?_ _)); exact BK269.out) hb); have n2_ := Aside0.mk (bB (g := gb270) (o := .cells #[.int .i64 a2_0, .int .i64 a2_1] 30 (0, 0)) (by (with_reducible repeat (first | refine bN ?_ _ | refine bD ?_ | refine bA ?_ _)); exact BK270.out) hb); have n3_ := Aside0.mk (bB (g := gb271) (o := .cells #[.int .i64 a5_0, .int .i64 a5_1, .int .i64 a5_2, .int .i64 a5_3, .int .i64 a5_4] 32 (0, 0)) (by (with_reducible repeat (first | refine bN ?_ _ | refine bD ?_ | refine bA ?_ _)); exact BK271.out) hb); have n4_ := Aside0.mk (bP (by repeat (first | (with_reducible first | exact HB.out | apply bL | apply bW | apply b1 | refine bS ?_ GE268.out | refine bS ?_ GE269.out | refine bS ?_ GE270.out | refine bS ?_ GE271.out) | exact HB.out)) hb); have n5_ := Aside0.mk (hbox); have n6_ := Aside0.mk ((by rw [hg]; exact (bZ (by repeat (first | (with_reducible first | exact HB.out | apply bL | apply bW | apply b1 | refine bS ?_ GE268.out | refine bS ?_ GE269.out | refine bS ?_ GE270.out | refine bS ?_ GE271.out) | exact HB.out))) : w.heap.size ≤ gb279)); have n7_ := Aside0.mk ((by rw [hg]; exact (bZ (by repeat (first | (with_reducible first | exact HB.out | apply bL | apply bW | apply b1 | refine bS ?_ GE268.out | refine bS ?_ GE269.out | refine bS ?_ GE270.out | refine bS ?_ GE271.out) | exact HB.out))) : w.heap.size ≤ gb279)); have n8_ := Aside0.mk ((by rw [hg]; exact Nat.ne_of_lt (bT (g := gb268) (o := .cells #[.string a0_0, .int .i64 a0_1, .int .i64 a0_2, .int .i64 a0_3, .slice A0_4 l0_4.length c0_4, .slice A0_5 l0_5.length c0_5, .slice A0_6 l0_6.length c0_6, .int .i64 a0_7, .int .i64 a0_8, .int .i64 a0_9, .int .i64 a0_10, .int .i64 a0_11, .int .i64 a0_12, .int .i64 a0_13, .int .i64 a0_14, .int .i64 a0_15, .int .i64 a0_16, .int .i64 a0_17] 26 (0, 0)) (by (with_reducible repeat (first | refine bN ?_ _ | refine bD ?_ | refine bA ?_ _)); exact BK268.out)) : gb268 ≠ gb279)); have n9_ := Aside0.mk ((by rw [hg]; exact Nat.ne_of_gt (bT (g := gb268) (o := .cells #[.string a0_0, .int .i64 a0_1, .int .i64 a0_2, .int .i64 a0_3, .slice A0_4 l0_4.length c0_4, .slice A0_5 l0_5.length c0_5, .slice A0_6 l0_6.length c0_6, .int .i64 a0_7, .int .i64 a0_8, .int .i64 a0_9, .int .i64 a0_10, .int .i64 a0_11, .int .i64 a0_12, .int .i64 a0_13, .int .i64 a0_14, .int .i64 a0_15, .int .i64 a0_16, .int .i64 a0_17] 26 (0, 0)) (by (with_reducible repeat (first | refine bN ?_ _ | refine bD ?_ | refine bA ?_ _)); exact BK268.out)) : gb279 ≠ gb268)); have n10_ := Aside0.mk ((by rw [hg]; exact Nat.ne_of_lt (bT (g := gb269) (o := .cells #[.int .i64 a1_0, .int .i64 a1_1] 30 (0, 0)) (by (with_reducible repeat (first | refine bN ?_ _ | refine bD ?_ | refine bA ?_ _)); exact BK269.out)) : gb269 ≠ gb279)); have n11_ := Aside0.mk ((by rw [hg]; exact Nat.ne_of_gt (bT (g := gb269) (o := .cells #[.int .i64 a1_0, .int .i64 a1_1] 30 (0, 0)) (by (with_reducible repeat (first | refine bN ?_ _ | refine bD ?_ | refine bA ?_ _)); exact BK269.out)) : gb279 ≠ gb269)); have n12_ := Aside0.mk ((by rw [hg]; exact Nat.ne_of_lt (bT (g := gb270) (o := .cells #[.int .i64 a2_0, .int .i64 a2_1] 30 (0, 0)) (by (with_reducible repeat (first | refine bN ?_ _ | refine bD ?_ | refine bA ?_ _)); exact BK270.out)) : gb270 ≠ gb279)); have n13_ := Aside0.mk ((by rw [hg]; exact Nat.ne_of_gt (bT (g := gb270) (o := .cells #[.int .i64 a2_0, .int .i64 a2_1] 30 (0, 0)) (by (with_reducible repeat (first | refine bN ?_ _ | refine bD ?_ | refine bA ?_ _)); exact BK270.out)) : gb279 ≠ gb270)); have n14_ := Aside0.mk ((by rw [hg]; exact Nat.ne_of_lt (bT (g := gb271) (o := .cells #[.int .i64 a5_0, .int .i64 a5_1, .int .i64 a5_2, .int .i64 a5_3, .int .i64 a5_4] 32 (0, 0)) (by (with_reducible repeat (first | refine bN ?_ _ | refine bD ?_ | refine bA ?_ _)); exact BK271.out)) : gb271 ≠ gb279)); have n15_ := Aside0.mk ((by rw [hg]; exact Nat.ne_of_gt (bT (g := gb271) (o := .cells #[.int .i64 a5_0, .int .i64 a5_1, .int .i64 a5_2, .int .i64 a5_3, .int .i64 a5_4] 32 (0, 0)) (by (with_reducible repeat (first | refine bN ?_ _ | refine bD ?_ | refine bA ?_ _)); exact BK271.out)) : gb279 ≠ gb271)); clear BK268; clear BK269; clear BK270; clear BK271; clear HB; have BK268 := n0_; have BK269 := n1_; have BK270 := n2_; have BK271 := n3_; have HB := n4_; have BK279 := n5_; have GW279 := n6_; have GE279 := n7_; have NB268_279 := n8_; have NB279_268 := n9_; have NB269_279 := n10_; have NB279_269 := n11_; have NB270_279 := n12_; have NB279_270 := n13_; have NB271_279 := n14_; have NB279_271 := n15_; clear n0_ n1_ n2_ n3_ n4_ n5_ n6_ n7_ n8_ n9_ n10_ n11_ n12_ n13_ n14_ n15_; clear hb hbox hg; have hnb76 := NB279_268.out; have hnc76 := NB268_279.out; have hnb77 := NB279_269.out; have hnc77 := NB269_279.out; have hnb78 := NB279_270.out; have hnc78 := NB270_279.out; have hnb79 := NB279_271.out; have hnc79 := NB271_279.out; have hcz80_0 : w75.cell? ⟨gb279, 0, none⟩ = some (.int .i64 0) := (bC BK279.out 0).trans rfl; have hcz80_1 : w75.cell? ⟨gb279, 1, none⟩ = some (.int .i64 0) := (bC BK279.out 1).trans rfl; have hfz80_0 := bF BK279.out 0; have hfz80_1 := bF BK279.out 1) | ((with_reducible refine gate_load 26 7 rfl ?_); refine box_load (g := gb268) (cs := #[.string a0_0, .int .i64 a0_1, .int .i64 a0_2, .int .i64 a0_3, .slice A0_4 l0_4.length c0_4, .slice A0_5 l0_5.length c0_5, .slice A0_6 l0_6.length c0_6, .int .i64 a0_7, .int .i64 a0_8, .int .i64 a0_9, .int .i64 a0_10, .int .i64 a0_11, .int .i64 a0_12, .int .i64 a0_13, .int .i64 a0_14, .int .i64 a0_15, .int .i64 a0_16, .int .i64 a0_17]) ?hw rfl (by (with_reducible repeat (first | refine bN ?_ _ | refine bD ?_ | refine bA ?_ _)); with_reducible exact BK268.out) ?ha hu26 rfl ?hi ?_; (case hw => first | exact wanted_none rfl | rfl); (case ha => first | rfl | (go_simp; done)); (case hi => first | rfl | kernel_rfl)))
    (try simp only [Act.put, lA, lZ, lS])
    go_cut [82] (fun v82 wc => ∃ (kq : Nat) (x82_59 : Bool), v82 = .bool x82_59 ∧ Aside0 (bournelaw20_SeepEncloses.j1 kq t275 a6 t272 x82_59 a0_0 a0_1 a0_2 a0_3 l0_4 l0_5 l0_6 a0_7 a0_8 a0_9 a0_10 a0_11 a0_12 a0_13 a0_14 a0_15 a0_16 a0_17 a1_0 a1_1 a5_0 a5_1 a5_2 a5_3 a5_4 = some r) ∧ Aside0 (kq ≤ kj8) ∧ Aside0 (wc.heap[gb268]? = some (.cells #[.string a0_0, .int .i64 a0_1, .int .i64 a0_2, .int .i64 a0_3, (.slice A0_4 l0_4.length c0_4), (.slice A0_5 l0_5.length c0_5), (.slice A0_6 l0_6.length c0_6), .int .i64 a0_7, .int .i64 a0_8, .int .i64 a0_9, .int .i64 a0_10, .int .i64 a0_11, .int .i64 a0_12, .int .i64 a0_13, .int .i64 a0_14, .int .i64 a0_15, .int .i64 a0_16, .int .i64 a0_17] 26 (0, 0))) ∧ Aside0 (wc.heap[gb269]? = some (.cells #[.int .i64 a1_0, .int .i64 a1_1] 30 (0, 0))) ∧ Aside0 (wc.heap[gb270]? = some (.cells #[.int .i64 a2_0, .int .i64 a2_1] 30 (0, 0))) ∧ Aside0 (wc.heap[gb271]? = some (.cells #[.int .i64 a5_0, .int .i64 a5_1, .int .i64 a5_2, .int .i64 a5_3, .int .i64 a5_4] 32 (0, 0))) ∧ Aside0 (wc.heap[gb279]? = some (.cells #[.int .i64 t277, .int .i64 t278] 30 (0, 0))) ∧ Aside0 (Below w.heap.size w wc))
    case first =>
     have H := HC60.out
     clear HC60
     replace H := Option.bind_eq_some_iff.mp H
     obtain ⟨t280, A810, H⟩ := H
     have A81 := Aside0.mk A810
     clear A810
     replace H := Option.bind_eq_some_iff.mp H
     obtain ⟨t281, A820, H⟩ := H
     have A82 := Aside0.mk A820
     clear A820
     by_cases c83 : t281 = true
     ·
      subst c83
      have H1 : ((seep_Ask.f kj8 a0_0 a0_1 a0_2 a0_3 l0_4 l0_5 l0_6 a0_7 a0_8 a0_9 a0_10 a0_11 a0_12 a0_13 a0_14 a0_15 a0_16 a0_17 a1_0 a2_1).bind fun t282 => (if t282 = t277 then ((seep_Ask.f kj8 a0_0 a0_1 a0_2 a0_3 l0_4 l0_5 l0_6 a0_7 a0_8 a0_9 a0_10 a0_11 a0_12 a0_13 a0_14 a0_15 a0_16 a0_17 a1_1 a2_0).bind fun t283 => (bournelaw20_SeepEncloses.j1 kj8 t275 a6 t272 (t283 != t278) a0_0 a0_1 a0_2 a0_3 l0_4 l0_5 l0_6 a0_7 a0_8 a0_9 a0_10 a0_11 a0_12 a0_13 a0_14 a0_15 a0_16 a0_17 a1_0 a1_1 a5_0 a5_1 a5_2 a5_3 a5_4)) else (bournelaw20_SeepEncloses.j1 kj8 t275 a6 t272 true a0_0 a0_1 a0_2 a0_3 l0_4 l0_5 l0_6 a0_7 a0_8 a0_9 a0_10 a0_11 a0_12 a0_13 a0_14 a0_15 a0_16 a0_17 a1_0 a1_1 a5_0 a5_1 a5_2 a5_3 a5_4))) = some r := by rw [if_pos rfl] at H; exact H
      clear H
      have H := H1
      clear H1
      replace H := Option.bind_eq_some_iff.mp H
      obtain ⟨t282, A840, H⟩ := H
      have A84 := Aside0.mk A840
      clear A840
      by_cases c85 : t282 = t277
      ·
       rw [if_pos c85] at H
       have c85b0 : (t282 == t277) = true := beq_iff_eq.mpr c85
       have c85b1 : (t282 != t277) = false := bne_eq_false_iff_eq.mpr c85
       clear c85
       (first | rw [c85b0] | (simp only [i64_w, i32_w]; rw [c85b0]) | skip)
       replace H := Option.bind_eq_some_iff.mp H
       obtain ⟨t283, A860, H⟩ := H
       have A86 := Aside0.mk A860
       clear A860
       have H' := Aside0.mk H
       clear H
       try go_wp2
       have n0_ : Aside0 (((w75.setCell ⟨gb279, 0, none⟩ (.int .i64 t277)).setCell ⟨gb279, 1, none⟩ (.int .i64 t278)).heap[gb268]? = some (.cells #[.string a0_0, .int .i64 a0_1, .int .i64 a0_2, .int .i64 a0_3, .slice A0_4 l0_4.length c0_4, .slice A0_5 l0_5.length c0_5, .slice A0_6 l0_6.length c0_6, .int .i64 a0_7, .int .i64 a0_8, .int .i64 a0_9, .int .i64 a0_10, .int .i64 a0_11, .int .i64 a0_12, .int .i64 a0_13, .int .i64 a0_14, .int .i64 a0_15, .int .i64 a0_16, .int .i64 a0_17] 26 (0, 0))) := ⟨by (with_reducible repeat (first | refine bN ?_ _ | refine bD ?_ | refine bA ?_ _)); refine bR ?_ NB268_279.out _; (with_reducible repeat (first | refine bN ?_ _ | refine bD ?_ | refine bA ?_ _)); refine bR ?_ NB268_279.out _; (with_reducible repeat (first | refine bN ?_ _ | refine bD ?_ | refine bA ?_ _)); exact BK268.out⟩
       have n1_ : Aside0 (((w75.setCell ⟨gb279, 0, none⟩ (.int .i64 t277)).setCell ⟨gb279, 1, none⟩ (.int .i64 t278)).heap[gb269]? = some (.cells #[.int .i64 a1_0, .int .i64 a1_1] 30 (0, 0))) := ⟨by (with_reducible repeat (first | refine bN ?_ _ | refine bD ?_ | refine bA ?_ _)); refine bR ?_ NB269_279.out _; (with_reducible repeat (first | refine bN ?_ _ | refine bD ?_ | refine bA ?_ _)); refine bR ?_ NB269_279.out _; (with_reducible repeat (first | refine bN ?_ _ | refine bD ?_ | refine bA ?_ _)); exact BK269.out⟩
       have n2_ : Aside0 (((w75.setCell ⟨gb279, 0, none⟩ (.int .i64 t277)).setCell ⟨gb279, 1, none⟩ (.int .i64 t278)).heap[gb270]? = some (.cells #[.int .i64 a2_0, .int .i64 a2_1] 30 (0, 0))) := ⟨by (with_reducible repeat (first | refine bN ?_ _ | refine bD ?_ | refine bA ?_ _)); refine bR ?_ NB270_279.out _; (with_reducible repeat (first | refine bN ?_ _ | refine bD ?_ | refine bA ?_ _)); refine bR ?_ NB270_279.out _; (with_reducible repeat (first | refine bN ?_ _ | refine bD ?_ | refine bA ?_ _)); exact BK270.out⟩
       have n3_ : Aside0 (((w75.setCell ⟨gb279, 0, none⟩ (.int .i64 t277)).setCell ⟨gb279, 1, none⟩ (.int .i64 t278)).heap[gb271]? = some (.cells #[.int .i64 a5_0, .int .i64 a5_1, .int .i64 a5_2, .int .i64 a5_3, .int .i64 a5_4] 32 (0, 0))) := ⟨by (with_reducible repeat (first | refine bN ?_ _ | refine bD ?_ | refine bA ?_ _)); refine bR ?_ NB271_279.out _; (with_reducible repeat (first | refine bN ?_ _ | refine bD ?_ | refine bA ?_ _)); refine bR ?_ NB271_279.out _; (with_reducible repeat (first | refine bN ?_ _ | refine bD ?_ | refine bA ?_ _)); exact BK271.out⟩
       have n4_ : Aside0 (((w75.setCell ⟨gb279, 0, none⟩ (.int .i64 t277)).setCell ⟨gb279, 1, none⟩ (.int .i64 t278)).heap[gb279]? = some (.cells #[.int .i64 t277, .int .i64 t278] 30 (0, 0))) := ⟨by (with_reducible repeat (first | refine bN ?_ _ | refine bD ?_ | refine bA ?_ _)); refine bU (cs := #[.int .i64 t277, .int .i64 0]) ?_ 1 _ rfl; (with_reducible repeat (first | refine bN ?_ _ | refine bD ?_ | refine bA ?_ _)); refine bU (cs := #[.int .i64 0, .int .i64 0]) ?_ 0 _ rfl; (with_reducible repeat (first | refine bN ?_ _ | refine bD ?_ | refine bA ?_ _)); exact BK279.out⟩
       have n5_ : Aside0 (Below w.heap.size w ((w75.setCell ⟨gb279, 0, none⟩ (.int .i64 t277)).setCell ⟨gb279, 1, none⟩ (.int .i64 t278))) := ⟨by repeat (first | (with_reducible first | exact HB.out | apply bL | apply bW | apply b1 | refine bS ?_ GE268.out | refine bS ?_ GE269.out | refine bS ?_ GE270.out | refine bS ?_ GE271.out | refine bS ?_ GE279.out) | exact HB.out)⟩
       (try clear BK268)
       (try clear BK269)
       (try clear BK270)
       (try clear BK271)
       (try clear BK279)
       (try clear HB)
       generalize ((w75.setCell ⟨gb279, 0, none⟩ (.int .i64 t277)).setCell ⟨gb279, 1, none⟩ (.int .i64 t278)) = w87 at n0_ n1_ n2_ n3_ n4_ n5_ ⊢
       have BK268 := n0_
       have BK269 := n1_
       have BK270 := n2_
       have BK271 := n3_
       have BK279 := n4_
       have HB := n5_
       clear n0_ n1_ n2_ n3_ n4_ n5_
       have n0_ := Aside0.mk (bD BK268.out)
       have n1_ := Aside0.mk (bD BK269.out)
       have n2_ := Aside0.mk (bD BK270.out)
       have n3_ := Aside0.mk (bD BK271.out)
       have n4_ := Aside0.mk (bD BK279.out)
       have n5_ := Aside0.mk (b1 HB.out)
       clear BK268
       clear BK269
       clear BK270
       clear BK271
       clear BK279
       clear HB
       have BK268 := n0_
       have BK269 := n1_
       have BK270 := n2_
       have BK271 := n3_
       have BK279 := n4_
       have HB := n5_
       clear n0_ n1_ n2_ n3_ n4_ n5_
       refine start_ (n := 29) (S := fun w' => w'.cell? ⟨gb279, 0, none⟩ = some (.int .i64 t277) ∧ w'.cell? ⟨gb279, 1, none⟩ = some (.int .i64 t278) ∧ w'.cell? ⟨gb268, 0, none⟩ = some (.string a0_0) ∧ w'.cell? ⟨gb268, 1, none⟩ = some (.int .i64 a0_1) ∧ w'.cell? ⟨gb268, 2, none⟩ = some (.int .i64 a0_2) ∧ w'.cell? ⟨gb268, 3, none⟩ = some (.int .i64 a0_3) ∧ w'.cell? ⟨gb268, 4, none⟩ = some (.slice A0_4 l0_4.length c0_4) ∧ w'.cell? ⟨gb268, 5, none⟩ = some (.slice A0_5 l0_5.length c0_5) ∧ w'.cell? ⟨gb268, 6, none⟩ = some (.slice A0_6 l0_6.length c0_6) ∧ w'.cell? ⟨gb268, 7, none⟩ = some (.int .i64 a0_7) ∧ w'.cell? ⟨gb268, 8, none⟩ = some (.int .i64 a0_8) ∧ w'.cell? ⟨gb268, 9, none⟩ = some (.int .i64 a0_9) ∧ w'.cell? ⟨gb268, 10, none⟩ = some (.int .i64 a0_10) ∧ w'.cell? ⟨gb268, 11, none⟩ = some (.int .i64 a0_11) ∧ w'.cell? ⟨gb268, 12, none⟩ = some (.int .i64 a0_12) ∧ w'.cell? ⟨gb268, 13, none⟩ = some (.int .i64 a0_13) ∧ w'.cell? ⟨gb268, 14, none⟩ = some (.int .i64 a0_14) ∧ w'.cell? ⟨gb268, 15, none⟩ = some (.int .i64 a0_15) ∧ w'.cell? ⟨gb268, 16, none⟩ = some (.int .i64 a0_16) ∧ w'.cell? ⟨gb268, 17, none⟩ = some (.int .i64 a0_17) ∧ w'.cell? ⟨gb269, 0, none⟩ = some (.int .i64 a1_0) ∧ w'.cell? ⟨gb269, 1, none⟩ = some (.int .i64 a1_1) ∧ w'.cell? ⟨gb270, 0, none⟩ = some (.int .i64 a2_0) ∧ w'.cell? ⟨gb270, 1, none⟩ = some (.int .i64 a2_1)) (ds := []) #[f_,f_,f_,f_,f_,f_,f_,f_,f_,f_,f_,f_,f_,f_,f_,f_,f_,f_,f_,f_,f_,f_,f_,f_,f_,f_,f_,f_,f_] (by kernel_rfl) rfl rfl ⟨(bC BK279.out 0).trans rfl, (bC BK279.out 1).trans rfl, (bC BK268.out 0).trans rfl, (bC BK268.out 1).trans rfl, (bC BK268.out 2).trans rfl, (bC BK268.out 3).trans rfl, (bC BK268.out 4).trans rfl, (bC BK268.out 5).trans rfl, (bC BK268.out 6).trans rfl, (bC BK268.out 7).trans rfl, (bC BK268.out 8).trans rfl, (bC BK268.out 9).trans rfl, (bC BK268.out 10).trans rfl, (bC BK268.out 11).trans rfl, (bC BK268.out 12).trans rfl, (bC BK268.out 13).trans rfl, (bC BK268.out 14).trans rfl, (bC BK268.out 15).trans rfl, (bC BK268.out 16).trans rfl, (bC BK268.out 17).trans rfl, (bC BK269.out 0).trans rfl, (bC BK269.out 1).trans rfl, (bC BK270.out 0).trans rfl, (bC BK270.out 1).trans rfl⟩ (fun hHeld => ?_); refine with_tabW bournelaw20_SeepEncloses.tab7 bournelaw20_SeepEncloses.bits7 (fun HT_ HW_ => ?_)
       generalize w87.drew = w88 at BK268 BK269 BK270 BK271 BK279 HB hHeld ⊢
       as_aux_lemma =>
        refine pure_ (i := 2) (N := some 56) (v := ?_) (a' := ?_) #[f_,f_,t_,f_,f_,f_,f_,f_,f_,f_,f_,f_,f_,f_,f_,f_,f_,f_,f_,f_,f_,f_,f_,f_,f_,f_,f_,f_,f_] rfl rfl (any_of HT_.out (by kernel_rfl)) (fun _ _ _ h => h) (Or.inl ⟨by rfl, ?_⟩) ?_ ?_
        rotate_left
        ·
         intro w'
         go_simp
         with_reducible rfl
        rotate_left
        ·
         simp only [Act.put, lA, lZ, lS, i64_w, i32_w]
         rfl
        as_aux_lemma =>
         refine pure_ (i := 3) (N := some 57) (v := ?_) (a' := ?_) #[f_,f_,t_,t_,f_,f_,f_,f_,f_,f_,f_,f_,f_,f_,f_,f_,f_,f_,f_,f_,f_,f_,f_,f_,f_,f_,f_,f_,f_] rfl rfl (any_of HT_.out (by kernel_rfl)) (fun _ _ _ h => h) (Or.inl ⟨by rfl, ?_⟩) ?_ ?_
         rotate_left
         ·
          intro w'
          go_simp
          with_reducible rfl
         rotate_left
         ·
          simp only [Act.put, lA, lZ, lS, i64_w, i32_w]
          rfl
         as_aux_lemma =>
          refine take_ (i := 0) (N := some 54) (v := ?_) (a' := ?_) #[t_,f_,t_,t_,f_,f_,f_,f_,f_,f_,f_,f_,f_,f_,f_,f_,f_,f_,f_,f_,f_,f_,f_,f_,f_,f_,f_,f_,f_] rfl rfl (take_ofW HT_.out HW_.out (by kernel_rfl)) (fun _ _ _ h => h) (Or.inl ⟨by rfl, ?_⟩) hHeld ?_ ?_
          rotate_left
          ·
           rintro w' ⟨s0, s1, s2, s3, s4, s5, s6, s7, s8, s9, s10, s11, s12, s13, s14, s15, s16, s17, s18, s19, s20, s21, s22, s23⟩
           first | (refine (load18 (by rfl) (by rfl) hu26 rfl hi26 s2 s3 s4 s5 s6 s7 s8 s9 s10 s11 s12 s13 s14 s15 s16 s17 s18 s19).trans ?_; with_reducible rfl) | (go_simp; with_reducible rfl)
          rotate_left
          ·
           simp only [Act.put, lA, lZ, lS, i64_w, i32_w]
           rfl
          as_aux_lemma =>
           refine take_ (i := 1) (N := some 55) (v := ?_) (a' := ?_) #[t_,t_,t_,t_,f_,f_,f_,f_,f_,f_,f_,f_,f_,f_,f_,f_,f_,f_,f_,f_,f_,f_,f_,f_,f_,f_,f_,f_,f_] rfl rfl (take_ofW HT_.out HW_.out (by kernel_rfl)) (fun _ _ _ h => h) (Or.inl ⟨by rfl, ?_⟩) hHeld ?_ ?_
           rotate_left
           ·
            rintro w' ⟨s0, s1, s2, s3, s4, s5, s6, s7, s8, s9, s10, s11, s12, s13, s14, s15, s16, s17, s18, s19, s20, s21, s22, s23⟩
            first | (refine (load18 (by rfl) (by rfl) hu26 rfl hi26 s2 s3 s4 s5 s6 s7 s8 s9 s10 s11 s12 s13 s14 s15 s16 s17 s18 s19).trans ?_; with_reducible rfl) | (go_simp; with_reducible rfl)
           rotate_left
           ·
            simp only [Act.put, lA, lZ, lS, i64_w, i32_w]
            rfl
           as_aux_lemma =>
            refine one_ (i := 4) (N := some 58) #[t_,t_,t_,t_,t_,f_,f_,f_,f_,f_,f_,f_,f_,f_,f_,f_,f_,f_,f_,f_,f_,f_,f_,f_,f_,f_,f_,f_,f_] rfl rfl (one_of HT_.out (by kernel_rfl)) (by decide) (fun K hK => ?_)
            refine goes_ Try.func10 (by kernel_rfl) rfl #[.agg #[.string a0_0, .int .i64 a0_1, .int .i64 a0_2, .int .i64 a0_3, .slice A0_4 l0_4.length c0_4, .slice A0_5 l0_5.length c0_5, .slice A0_6 l0_6.length c0_6, .int .i64 a0_7, .int .i64 a0_8, .int .i64 a0_9, .int .i64 a0_10, .int .i64 a0_11, .int .i64 a0_12, .int .i64 a0_13, .int .i64 a0_14, .int .i64 a0_15, .int .i64 a0_16, .int .i64 a0_17], .int .i64 t275, .int .i64 t276] (by rfl) rfl rfl (by (try simp only [List.map_toArray, List.map_cons, List.map_nil]); first | done | rfl | (simp only [List.length_drop, List.length_take]; rfl)) ?_
            with_reducible refine (seep_Ask.calls kj8 a0_0 a0_1 a0_2 a0_3 _ _ l0_4 _ _ l0_5 _ _ l0_6 a0_7 a0_8 a0_9 a0_10 a0_11 a0_12 a0_13 a0_14 a0_15 a0_16 a0_17 t275 t276 t280 _ ?side1 ?side2 ?side3 ?side4 ?side5 ?side6 A81.out).mono ?_
            (case side1 => repeat (first | exact (Kd.C_below HR0_4.out HB.out) | (with_reducible refine Kd.C_alloc ?_ _) | (with_reducible refine Kd.C_drewN ?_ _) | (with_reducible refine Kd.C_drew ?_)))
            (case side2 => exact HC0_4.out)
            (case side3 => repeat (first | exact (Kd.C_below HR0_5.out HB.out) | (with_reducible refine Kd.C_alloc ?_ _) | (with_reducible refine Kd.C_drewN ?_ _) | (with_reducible refine Kd.C_drew ?_)))
            (case side4 => exact HC0_5.out)
            (case side5 => repeat (first | exact (Kd.C_below HR0_6.out HB.out) | (with_reducible refine Kd.C_alloc ?_ _) | (with_reducible refine Kd.C_drewN ?_ _) | (with_reducible refine Kd.C_drew ?_)))
            (case side6 => exact HC0_6.out)
            rintro e w89 ⟨rfl, hb⟩
            refine ⟨_, rfl, ?_⟩
            have n0_ := Aside0.mk (bB (g := gb268) (o := .cells #[.string a0_0, .int .i64 a0_1, .int .i64 a0_2, .int .i64 a0_3, .slice A0_4 l0_4.length c0_4, .slice A0_5 l0_5.length c0_5, .slice A0_6 l0_6.length c0_6, .int .i64 a0_7, .int .i64 a0_8, .int .i64 a0_9, .int .i64 a0_10, .int .i64 a0_11, .int .i64 a0_12, .int .i64 a0_13, .int .i64 a0_14, .int .i64 a0_15, .int .i64 a0_16, .int .i64 a0_17] 26 (0, 0)) (by (with_reducible repeat (first | refine bN ?_ _ | refine bD ?_ | refine bA ?_ _)); exact BK268.out) hb)
            have n1_ := Aside0.mk (bB (g := gb269) (o := .cells #[.int .i64 a1_0, .int .i64 a1_1] 30 (0, 0)) (by (with_reducible repeat (first | refine bN ?_ _ | refine bD ?_ | refine bA ?_ _)); exact BK269.out) hb)
            have n2_ := Aside0.mk (bB (g := gb270) (o := .cells #[.int .i64 a2_0, .int .i64 a2_1] 30 (0, 0)) (by (with_reducible repeat (first | refine bN ?_ _ | refine bD ?_ | refine bA ?_ _)); exact BK270.out) hb)
            have n3_ := Aside0.mk (bB (g := gb271) (o := .cells #[.int .i64 a5_0, .int .i64 a5_1, .int .i64 a5_2, .int .i64 a5_3, .int .i64 a5_4] 32 (0, 0)) (by (with_reducible repeat (first | refine bN ?_ _ | refine bD ?_ | refine bA ?_ _)); exact BK271.out) hb)
            have n4_ := Aside0.mk (bB (g := gb279) (o := .cells #[.int .i64 t277, .int .i64 t278] 30 (0, 0)) (by (with_reducible repeat (first | refine bN ?_ _ | refine bD ?_ | refine bA ?_ _)); exact BK279.out) hb)
            have n5_ := Aside0.mk (bP (by repeat (first | (with_reducible first | exact HB.out | apply bL | apply bW | apply b1 | refine bS ?_ GE268.out | refine bS ?_ GE269.out | refine bS ?_ GE270.out | refine bS ?_ GE271.out | refine bS ?_ GE279.out) | exact HB.out)) hb)
            clear BK268
            clear BK269
            clear BK270
            clear BK271
            clear BK279
            clear HB
            have BK268 := n0_
            have BK269 := n1_
            have BK270 := n2_
            have BK271 := n3_
            have BK279 := n4_
            have HB := n5_
            clear n0_ n1_ n2_ n3_ n4_ n5_
            (try clear hb)
            (try clear hb2)
            (try clear hk)
            (try clear hi)
            refine hK.out _ _ ⟨(bC BK279.out 0).trans rfl, (bC BK279.out 1).trans rfl, (bC BK268.out 0).trans rfl, (bC BK268.out 1).trans rfl, (bC BK268.out 2).trans rfl, (bC BK268.out 3).trans rfl, (bC BK268.out 4).trans rfl, (bC BK268.out 5).trans rfl, (bC BK268.out 6).trans rfl, (bC BK268.out 7).trans rfl, (bC BK268.out 8).trans rfl, (bC BK268.out 9).trans rfl, (bC BK268.out 10).trans rfl, (bC BK268.out 11).trans rfl, (bC BK268.out 12).trans rfl, (bC BK268.out 13).trans rfl, (bC BK268.out 14).trans rfl, (bC BK268.out 15).trans rfl, (bC BK268.out 16).trans rfl, (bC BK268.out 17).trans rfl, (bC BK269.out 0).trans rfl, (bC BK269.out 1).trans rfl, (bC BK270.out 0).trans rfl, (bC BK270.out 1).trans rfl⟩ (fun hHeld => ?_)
            clear hK K
            refine norm_ (a' := ?_) ?_ ?_
            rotate_left
            ·
             show Act.put _ (some 58) _ = _
             simp only [Act.put, lA, lZ, lS, i64_w, i32_w]
             rfl
            as_aux_lemma =>
             refine one_ (i := 5) (N := some 59) #[t_,t_,t_,t_,t_,t_,f_,f_,f_,f_,f_,f_,f_,f_,f_,f_,f_,f_,f_,f_,f_,f_,f_,f_,f_,f_,f_,f_,f_] rfl rfl (one_of HT_.out (by kernel_rfl)) (by decide) (fun K hK => ?_)
             refine goes_ Try.func22 (by kernel_rfl) rfl #[.agg #[.int .i64 t277, .int .i64 t278], .int .i64 t280] (by rfl) rfl rfl (by (try simp only [List.map_toArray, List.map_cons, List.map_nil]); first | done | rfl | (simp only [List.length_drop, List.length_take]; rfl)) ?_
             with_reducible refine (span_Has.calls t277 t278 t280 true _ A82.out).mono ?_
             rintro e w90 ⟨rfl, hb⟩
             refine ⟨_, rfl, ?_⟩
             have n0_ := Aside0.mk (bB (g := gb268) (o := .cells #[.string a0_0, .int .i64 a0_1, .int .i64 a0_2, .int .i64 a0_3, .slice A0_4 l0_4.length c0_4, .slice A0_5 l0_5.length c0_5, .slice A0_6 l0_6.length c0_6, .int .i64 a0_7, .int .i64 a0_8, .int .i64 a0_9, .int .i64 a0_10, .int .i64 a0_11, .int .i64 a0_12, .int .i64 a0_13, .int .i64 a0_14, .int .i64 a0_15, .int .i64 a0_16, .int .i64 a0_17] 26 (0, 0)) (by (with_reducible repeat (first | refine bN ?_ _ | refine bD ?_ | refine bA ?_ _)); exact BK268.out) hb)
             have n1_ := Aside0.mk (bB (g := gb269) (o := .cells #[.int .i64 a1_0, .int .i64 a1_1] 30 (0, 0)) (by (with_reducible repeat (first | refine bN ?_ _ | refine bD ?_ | refine bA ?_ _)); exact BK269.out) hb)
             have n2_ := Aside0.mk (bB (g := gb270) (o := .cells #[.int .i64 a2_0, .int .i64 a2_1] 30 (0, 0)) (by (with_reducible repeat (first | refine bN ?_ _ | refine bD ?_ | refine bA ?_ _)); exact BK270.out) hb)
             have n3_ := Aside0.mk (bB (g := gb271) (o := .cells #[.int .i64 a5_0, .int .i64 a5_1, .int .i64 a5_2, .int .i64 a5_3, .int .i64 a5_4] 32 (0, 0)) (by (with_reducible repeat (first | refine bN ?_ _ | refine bD ?_ | refine bA ?_ _)); exact BK271.out) hb)
             have n4_ := Aside0.mk (bB (g := gb279) (o := .cells #[.int .i64 t277, .int .i64 t278] 30 (0, 0)) (by (with_reducible repeat (first | refine bN ?_ _ | refine bD ?_ | refine bA ?_ _)); exact BK279.out) hb)
             have n5_ := Aside0.mk (bP (by repeat (first | (with_reducible first | exact HB.out | apply bL | apply bW | apply b1 | refine bS ?_ GE268.out | refine bS ?_ GE269.out | refine bS ?_ GE270.out | refine bS ?_ GE271.out | refine bS ?_ GE279.out) | exact HB.out)) hb)
             clear BK268
             clear BK269
             clear BK270
             clear BK271
             clear BK279
             clear HB
             have BK268 := n0_
             have BK269 := n1_
             have BK270 := n2_
             have BK271 := n3_
             have BK279 := n4_
             have HB := n5_
             clear n0_ n1_ n2_ n3_ n4_ n5_
             (try clear hb)
             (try clear hb2)
             (try clear hk)
             (try clear hi)
             refine hK.out _ _ ⟨(bC BK279.out 0).trans rfl, (bC BK279.out 1).trans rfl, (bC BK268.out 0).trans rfl, (bC BK268.out 1).trans rfl, (bC BK268.out 2).trans rfl, (bC BK268.out 3).trans rfl, (bC BK268.out 4).trans rfl, (bC BK268.out 5).trans rfl, (bC BK268.out 6).trans rfl, (bC BK268.out 7).trans rfl, (bC BK268.out 8).trans rfl, (bC BK268.out 9).trans rfl, (bC BK268.out 10).trans rfl, (bC BK268.out 11).trans rfl, (bC BK268.out 12).trans rfl, (bC BK268.out 13).trans rfl, (bC BK268.out 14).trans rfl, (bC BK268.out 15).trans rfl, (bC BK268.out 16).trans rfl, (bC BK268.out 17).trans rfl, (bC BK269.out 0).trans rfl, (bC BK269.out 1).trans rfl, (bC BK270.out 0).trans rfl, (bC BK270.out 1).trans rfl⟩ (fun hHeld => ?_)
             clear hK K
             refine norm_ (a' := ?_) ?_ ?_
             rotate_left
             ·
              show Act.put _ (some 59) _ = _
              simp only [Act.put, lA, lZ, lS, i64_w, i32_w]
              rfl
             as_aux_lemma =>
              refine pure_ (i := 6) (N := some 60) (v := ?_) (a' := ?_) #[t_,t_,t_,t_,t_,t_,t_,f_,f_,f_,f_,f_,f_,f_,f_,f_,f_,f_,f_,f_,f_,f_,f_,f_,f_,f_,f_,f_,f_] rfl rfl (any_of HT_.out (by kernel_rfl)) (fun _ _ _ h => h) (Or.inl ⟨by rfl, ?_⟩) ?_ ?_
              rotate_left
              ·
               intro w'
               go_simp
               with_reducible rfl
              rotate_left
              ·
               simp only [Act.put, lA, lZ, lS, i64_w, i32_w]
               rfl
              as_aux_lemma =>
               refine pure_ (i := 7) (N := some 61) (v := ?_) (a' := ?_) #[t_,t_,t_,t_,t_,t_,t_,t_,f_,f_,f_,f_,f_,f_,f_,f_,f_,f_,f_,f_,f_,f_,f_,f_,f_,f_,f_,f_,f_] rfl rfl (any_of HT_.out (by kernel_rfl)) (fun _ _ _ h => h) (Or.inl ⟨by rfl, ?_⟩) ?_ ?_
               rotate_left
               ·
                intro w'
                go_simp
                with_reducible rfl
               rotate_left
               ·
                simp only [Act.put, lA, lZ, lS, i64_w, i32_w]
                rfl
               as_aux_lemma =>
                refine pure_ (i := 9) (N := some 63) (v := ?_) (a' := ?_) #[t_,t_,t_,t_,t_,t_,t_,t_,f_,t_,f_,f_,f_,f_,f_,f_,f_,f_,f_,f_,f_,f_,f_,f_,f_,f_,f_,f_,f_] rfl rfl (any_of HT_.out (by kernel_rfl)) (fun _ _ _ h => h) (Or.inl ⟨by rfl, ?_⟩) ?_ ?_
                rotate_left
                ·
                 intro w'
                 go_simp
                 with_reducible rfl
                rotate_left
                ·
                 simp only [Act.put, lA, lZ, lS, i64_w, i32_w]
                 rfl
                as_aux_lemma =>
                 refine pure_ (i := 11) (N := some 65) (v := ?_) (a' := ?_) #[t_,t_,t_,t_,t_,t_,t_,t_,f_,t_,f_,t_,f_,f_,f_,f_,f_,f_,f_,f_,f_,f_,f_,f_,f_,f_,f_,f_,f_] rfl rfl (any_of HT_.out (by kernel_rfl)) (fun _ _ _ h => h) (Or.inl ⟨by rfl, ?_⟩) ?_ ?_
                 rotate_left
                 ·
                  intro w'
                  go_simp
                  with_reducible rfl
                 rotate_left
                 ·
                  simp only [Act.put, lA, lZ, lS, i64_w, i32_w]
                  rfl
                 as_aux_lemma =>
                  refine pure_ (i := 14) (N := some 68) (v := ?_) (a' := ?_) #[t_,t_,t_,t_,t_,t_,t_,t_,f_,t_,f_,t_,f_,f_,t_,f_,f_,f_,f_,f_,f_,f_,f_,f_,f_,f_,f_,f_,f_] rfl rfl (any_of HT_.out (by kernel_rfl)) (fun _ _ _ h => h) (Or.inl ⟨by rfl, ?_⟩) ?_ ?_
                  rotate_left
                  ·
                   intro w'
                   go_simp
                   with_reducible rfl
                  rotate_left
                  ·
                   simp only [Act.put, lA, lZ, lS, i64_w, i32_w]
                   rfl
                  as_aux_lemma =>
                   refine take_ (i := 8) (N := some 62) (v := ?_) (a' := ?_) #[t_,t_,t_,t_,t_,t_,t_,t_,t_,t_,f_,t_,f_,f_,t_,f_,f_,f_,f_,f_,f_,f_,f_,f_,f_,f_,f_,f_,f_] rfl rfl (take_ofW HT_.out HW_.out (by kernel_rfl)) (fun _ _ _ h => h) (Or.inl ⟨by rfl, ?_⟩) hHeld ?_ ?_
                   rotate_left
                   ·
                    rintro w' ⟨s0, s1, s2, s3, s4, s5, s6, s7, s8, s9, s10, s11, s12, s13, s14, s15, s16, s17, s18, s19, s20, s21, s22, s23⟩
                    first | (refine (load18 (by rfl) (by rfl) hu26 rfl hi26 s2 s3 s4 s5 s6 s7 s8 s9 s10 s11 s12 s13 s14 s15 s16 s17 s18 s19).trans ?_; with_reducible rfl) | (go_simp; with_reducible rfl)
                   rotate_left
                   ·
                    simp only [Act.put, lA, lZ, lS, i64_w, i32_w]
                    rfl
                   as_aux_lemma =>
                    refine take_ (i := 10) (N := some 64) (v := ?_) (a' := ?_) #[t_,t_,t_,t_,t_,t_,t_,t_,t_,t_,t_,t_,f_,f_,t_,f_,f_,f_,f_,f_,f_,f_,f_,f_,f_,f_,f_,f_,f_] rfl rfl (take_ofW HT_.out HW_.out (by kernel_rfl)) (fun _ _ _ h => h) (Or.inl ⟨by rfl, ?_⟩) hHeld ?_ ?_
                    rotate_left
                    ·
                     rintro w' ⟨s0, s1, s2, s3, s4, s5, s6, s7, s8, s9, s10, s11, s12, s13, s14, s15, s16, s17, s18, s19, s20, s21, s22, s23⟩
                     first | (refine (load18 (by rfl) (by rfl) hu26 rfl hi26 s2 s3 s4 s5 s6 s7 s8 s9 s10 s11 s12 s13 s14 s15 s16 s17 s18 s19).trans ?_; with_reducible rfl) | (go_simp; with_reducible rfl)
                    rotate_left
                    ·
                     simp only [Act.put, lA, lZ, lS, i64_w, i32_w]
                     rfl
                    as_aux_lemma =>
                     refine take_ (i := 12) (N := some 66) (v := ?_) (a' := ?_) #[t_,t_,t_,t_,t_,t_,t_,t_,t_,t_,t_,t_,t_,f_,t_,f_,f_,f_,f_,f_,f_,f_,f_,f_,f_,f_,f_,f_,f_] rfl rfl (take_ofW HT_.out HW_.out (by kernel_rfl)) (fun _ _ _ h => h) (Or.inl ⟨by rfl, ?_⟩) hHeld ?_ ?_
                     rotate_left
                     ·
                      rintro w' ⟨s0, s1, s2, s3, s4, s5, s6, s7, s8, s9, s10, s11, s12, s13, s14, s15, s16, s17, s18, s19, s20, s21, s22, s23⟩
                      first | (refine (load18 (by rfl) (by rfl) hu26 rfl hi26 s2 s3 s4 s5 s6 s7 s8 s9 s10 s11 s12 s13 s14 s15 s16 s17 s18 s19).trans ?_; with_reducible rfl) | (go_simp; with_reducible rfl)
                     rotate_left
                     ·
                      simp only [Act.put, lA, lZ, lS, i64_w, i32_w]
                      rfl
                     as_aux_lemma =>
                      refine take_ (i := 15) (N := some 69) (v := ?_) (a' := ?_) #[t_,t_,t_,t_,t_,t_,t_,t_,t_,t_,t_,t_,t_,f_,t_,t_,f_,f_,f_,f_,f_,f_,f_,f_,f_,f_,f_,f_,f_] rfl rfl (take_ofW HT_.out HW_.out (by kernel_rfl)) (fun _ _ _ h => h) (Or.inl ⟨by rfl, ?_⟩) hHeld ?_ ?_
                      rotate_left
                      ·
                       rintro w' ⟨s0, s1, s2, s3, s4, s5, s6, s7, s8, s9, s10, s11, s12, s13, s14, s15, s16, s17, s18, s19, s20, s21, s22, s23⟩
                       first | (refine (load18 (by rfl) (by rfl) hu26 rfl hi26 s2 s3 s4 s5 s6 s7 s8 s9 s10 s11 s12 s13 s14 s15 s16 s17 s18 s19).trans ?_; with_reducible rfl) | (go_simp; with_reducible rfl)
                      rotate_left
                      ·
                       simp only [Act.put, lA, lZ, lS, i64_w, i32_w]
                       rfl
                      as_aux_lemma =>
                       refine one_ (i := 13) (N := some 67) #[t_,t_,t_,t_,t_,t_,t_,t_,t_,t_,t_,t_,t_,t_,t_,t_,f_,f_,f_,f_,f_,f_,f_,f_,f_,f_,f_,f_,f_] rfl rfl (one_of HT_.out (by kernel_rfl)) (by decide) (fun K hK => ?_)
                       refine goes_ Try.func10 (by kernel_rfl) rfl #[.agg #[.string a0_0, .int .i64 a0_1, .int .i64 a0_2, .int .i64 a0_3, .slice A0_4 l0_4.length c0_4, .slice A0_5 l0_5.length c0_5, .slice A0_6 l0_6.length c0_6, .int .i64 a0_7, .int .i64 a0_8, .int .i64 a0_9, .int .i64 a0_10, .int .i64 a0_11, .int .i64 a0_12, .int .i64 a0_13, .int .i64 a0_14, .int .i64 a0_15, .int .i64 a0_16, .int .i64 a0_17], .int .i64 a1_0, .int .i64 a2_1] (by rfl) rfl rfl (by (try simp only [List.map_toArray, List.map_cons, List.map_nil]); first | done | rfl | (simp only [List.length_drop, List.length_take]; rfl)) ?_
                       with_reducible refine (seep_Ask.calls kj8 a0_0 a0_1 a0_2 a0_3 _ _ l0_4 _ _ l0_5 _ _ l0_6 a0_7 a0_8 a0_9 a0_10 a0_11 a0_12 a0_13 a0_14 a0_15 a0_16 a0_17 a1_0 a2_1 t282 _ ?side1 ?side2 ?side3 ?side4 ?side5 ?side6 A84.out).mono ?_
                       (case side1 => repeat (first | exact (Kd.C_below HR0_4.out HB.out) | (with_reducible refine Kd.C_alloc ?_ _) | (with_reducible refine Kd.C_drewN ?_ _) | (with_reducible refine Kd.C_drew ?_)))
                       (case side2 => exact HC0_4.out)
                       (case side3 => repeat (first | exact (Kd.C_below HR0_5.out HB.out) | (with_reducible refine Kd.C_alloc ?_ _) | (with_reducible refine Kd.C_drewN ?_ _) | (with_reducible refine Kd.C_drew ?_)))
                       (case side4 => exact HC0_5.out)
                       (case side5 => repeat (first | exact (Kd.C_below HR0_6.out HB.out) | (with_reducible refine Kd.C_alloc ?_ _) | (with_reducible refine Kd.C_drewN ?_ _) | (with_reducible refine Kd.C_drew ?_)))
                       (case side6 => exact HC0_6.out)
                       rintro e w91 ⟨rfl, hb⟩
                       refine ⟨_, rfl, ?_⟩
                       have n0_ := Aside0.mk (bB (g := gb268) (o := .cells #[.string a0_0, .int .i64 a0_1, .int .i64 a0_2, .int .i64 a0_3, .slice A0_4 l0_4.length c0_4, .slice A0_5 l0_5.length c0_5, .slice A0_6 l0_6.length c0_6, .int .i64 a0_7, .int .i64 a0_8, .int .i64 a0_9, .int .i64 a0_10, .int .i64 a0_11, .int .i64 a0_12, .int .i64 a0_13, .int .i64 a0_14, .int .i64 a0_15, .int .i64 a0_16, .int .i64 a0_17] 26 (0, 0)) (by (with_reducible repeat (first | refine bN ?_ _ | refine bD ?_ | refine bA ?_ _)); exact BK268.out) hb)
                       have n1_ := Aside0.mk (bB (g := gb269) (o := .cells #[.int .i64 a1_0, .int .i64 a1_1] 30 (0, 0)) (by (with_reducible repeat (first | refine bN ?_ _ | refine bD ?_ | refine bA ?_ _)); exact BK269.out) hb)
                       have n2_ := Aside0.mk (bB (g := gb270) (o := .cells #[.int .i64 a2_0, .int .i64 a2_1] 30 (0, 0)) (by (with_reducible repeat (first | refine bN ?_ _ | refine bD ?_ | refine bA ?_ _)); exact BK270.out) hb)
                       have n3_ := Aside0.mk (bB (g := gb271) (o := .cells #[.int .i64 a5_0, .int .i64 a5_1, .int .i64 a5_2, .int .i64 a5_3, .int .i64 a5_4] 32 (0, 0)) (by (with_reducible repeat (first | refine bN ?_ _ | refine bD ?_ | refine bA ?_ _)); exact BK271.out) hb)
                       have n4_ := Aside0.mk (bB (g := gb279) (o := .cells #[.int .i64 t277, .int .i64 t278] 30 (0, 0)) (by (with_reducible repeat (first | refine bN ?_ _ | refine bD ?_ | refine bA ?_ _)); exact BK279.out) hb)
                       have n5_ := Aside0.mk (bP (by repeat (first | (with_reducible first | exact HB.out | apply bL | apply bW | apply b1 | refine bS ?_ GE268.out | refine bS ?_ GE269.out | refine bS ?_ GE270.out | refine bS ?_ GE271.out | refine bS ?_ GE279.out) | exact HB.out)) hb)
                       clear BK268
                       clear BK269
                       clear BK270
                       clear BK271
                       clear BK279
                       clear HB
                       have BK268 := n0_
                       have BK269 := n1_
                       have BK270 := n2_
                       have BK271 := n3_
                       have BK279 := n4_
                       have HB := n5_
                       clear n0_ n1_ n2_ n3_ n4_ n5_
                       (try clear hb)
                       (try clear hb2)
                       (try clear hk)
                       (try clear hi)
                       refine hK.out _ _ ⟨(bC BK279.out 0).trans rfl, (bC BK279.out 1).trans rfl, (bC BK268.out 0).trans rfl, (bC BK268.out 1).trans rfl, (bC BK268.out 2).trans rfl, (bC BK268.out 3).trans rfl, (bC BK268.out 4).trans rfl, (bC BK268.out 5).trans rfl, (bC BK268.out 6).trans rfl, (bC BK268.out 7).trans rfl, (bC BK268.out 8).trans rfl, (bC BK268.out 9).trans rfl, (bC BK268.out 10).trans rfl, (bC BK268.out 11).trans rfl, (bC BK268.out 12).trans rfl, (bC BK268.out 13).trans rfl, (bC BK268.out 14).trans rfl, (bC BK268.out 15).trans rfl, (bC BK268.out 16).trans rfl, (bC BK268.out 17).trans rfl, (bC BK269.out 0).trans rfl, (bC BK269.out 1).trans rfl, (bC BK270.out 0).trans rfl, (bC BK270.out 1).trans rfl⟩ (fun hHeld => ?_)
                       clear hK K
                       refine norm_ (a' := ?_) ?_ ?_
                       rotate_left
                       ·
                        show Act.put _ (some 67) _ = _
                        simp only [Act.put, lA, lZ, lS, i64_w, i32_w]
                        rfl
                       as_aux_lemma =>
                        refine pure_ (i := 16) (N := some 70) (v := ?_) (a' := ?_) #[t_,t_,t_,t_,t_,t_,t_,t_,t_,t_,t_,t_,t_,t_,t_,t_,t_,f_,f_,f_,f_,f_,f_,f_,f_,f_,f_,f_,f_] rfl rfl (any_of HT_.out (by kernel_rfl)) (fun _ _ _ h => h) (Or.inl ⟨by rfl, ?_⟩) ?_ ?_
                        rotate_left
                        ·
                         intro w'
                         go_simp
                         with_reducible rfl
                        rotate_left
                        ·
                         simp only [Act.put, lA, lZ, lS, i64_w, i32_w]
                         rfl
                        as_aux_lemma =>
                         refine pure_ (i := 17) (N := some 71) (v := ?_) (a' := ?_) #[t_,t_,t_,t_,t_,t_,t_,t_,t_,t_,t_,t_,t_,t_,t_,t_,t_,t_,f_,f_,f_,f_,f_,f_,f_,f_,f_,f_,f_] rfl rfl (any_of HT_.out (by kernel_rfl)) (fun _ _ _ h => h) (Or.inl ⟨by rfl, ?_⟩) ?_ ?_
                         rotate_left
                         ·
                          intro w'
                          go_simp
                          with_reducible rfl
                         rotate_left
                         ·
                          simp only [Act.put, lA, lZ, lS, i64_w, i32_w]
                          rfl
                         as_aux_lemma =>
                          refine pure_ (i := 18) (N := some 72) (v := ?_) (a' := ?_) #[t_,t_,t_,t_,t_,t_,t_,t_,t_,t_,t_,t_,t_,t_,t_,t_,t_,t_,t_,f_,f_,f_,f_,f_,f_,f_,f_,f_,f_] rfl rfl (any_of HT_.out (by kernel_rfl)) (fun _ _ _ h => h) (Or.inl ⟨by rfl, ?_⟩) ?_ ?_
                          rotate_left
                          ·
                           intro w'
                           go_simp
                           with_reducible rfl
                          rotate_left
                          ·
                           simp only [Act.put, lA, lZ, lS, i64_w, i32_w]
                           rfl
                          as_aux_lemma =>
                           refine pure_ (i := 20) (N := some 74) (v := ?_) (a' := ?_) #[t_,t_,t_,t_,t_,t_,t_,t_,t_,t_,t_,t_,t_,t_,t_,t_,t_,t_,t_,f_,t_,f_,f_,f_,f_,f_,f_,f_,f_] rfl rfl (any_of HT_.out (by kernel_rfl)) (fun _ _ _ h => h) (Or.inl ⟨by rfl, ?_⟩) ?_ ?_
                           rotate_left
                           ·
                            intro w'
                            go_simp
                            with_reducible rfl
                           rotate_left
                           ·
                            simp only [Act.put, lA, lZ, lS, i64_w, i32_w]
                            rfl
                           as_aux_lemma =>
                            refine pure_ (i := 22) (N := some 76) (v := ?_) (a' := ?_) #[t_,t_,t_,t_,t_,t_,t_,t_,t_,t_,t_,t_,t_,t_,t_,t_,t_,t_,t_,f_,t_,f_,t_,f_,f_,f_,f_,f_,f_] rfl rfl (any_of HT_.out (by kernel_rfl)) (fun _ _ _ h => h) (Or.inl ⟨by rfl, ?_⟩) ?_ ?_
                            rotate_left
                            ·
                             intro w'
                             go_simp
                             with_reducible rfl
                            rotate_left
                            ·
                             simp only [Act.put, lA, lZ, lS, i64_w, i32_w]
                             rfl
                            as_aux_lemma =>
                             refine pure_ (i := 25) (N := some 79) (v := ?_) (a' := ?_) #[t_,t_,t_,t_,t_,t_,t_,t_,t_,t_,t_,t_,t_,t_,t_,t_,t_,t_,t_,f_,t_,f_,t_,f_,f_,t_,f_,f_,f_] rfl rfl (any_of HT_.out (by kernel_rfl)) (fun _ _ _ h => h) (Or.inl ⟨by rfl, ?_⟩) ?_ ?_
                             rotate_left
                             ·
                              intro w'
                              go_simp
                              with_reducible rfl
                             rotate_left
                             ·
                              simp only [Act.put, lA, lZ, lS, i64_w, i32_w]
                              rfl
                             as_aux_lemma =>
                              refine take_ (i := 19) (N := some 73) (v := ?_) (a' := ?_) #[t_,t_,t_,t_,t_,t_,t_,t_,t_,t_,t_,t_,t_,t_,t_,t_,t_,t_,t_,t_,t_,f_,t_,f_,f_,t_,f_,f_,f_] rfl rfl (take_ofW HT_.out HW_.out (by kernel_rfl)) (fun _ _ _ h => h) (Or.inl ⟨by rfl, ?_⟩) hHeld ?_ ?_
                              rotate_left
                              ·
                               rintro w' ⟨s0, s1, s2, s3, s4, s5, s6, s7, s8, s9, s10, s11, s12, s13, s14, s15, s16, s17, s18, s19, s20, s21, s22, s23⟩
                               first | (refine (load18 (by rfl) (by rfl) hu26 rfl hi26 s2 s3 s4 s5 s6 s7 s8 s9 s10 s11 s12 s13 s14 s15 s16 s17 s18 s19).trans ?_; with_reducible rfl) | (go_simp; with_reducible rfl)
                              rotate_left
                              ·
                               simp only [Act.put, lA, lZ, lS, i64_w, i32_w]
                               rfl
                              as_aux_lemma =>
                               refine take_ (i := 21) (N := some 75) (v := ?_) (a' := ?_) #[t_,t_,t_,t_,t_,t_,t_,t_,t_,t_,t_,t_,t_,t_,t_,t_,t_,t_,t_,t_,t_,t_,t_,f_,f_,t_,f_,f_,f_] rfl rfl (take_ofW HT_.out HW_.out (by kernel_rfl)) (fun _ _ _ h => h) (Or.inl ⟨by rfl, ?_⟩) hHeld ?_ ?_
                               rotate_left
                               ·
                                rintro w' ⟨s0, s1, s2, s3, s4, s5, s6, s7, s8, s9, s10, s11, s12, s13, s14, s15, s16, s17, s18, s19, s20, s21, s22, s23⟩
                                first | (refine (load18 (by rfl) (by rfl) hu26 rfl hi26 s2 s3 s4 s5 s6 s7 s8 s9 s10 s11 s12 s13 s14 s15 s16 s17 s18 s19).trans ?_; with_reducible rfl) | (go_simp; with_reducible rfl)
                               rotate_left
                               ·
                                simp only [Act.put, lA, lZ, lS, i64_w, i32_w]
                                rfl
                               as_aux_lemma =>
                                refine take_ (i := 23) (N := some 77) (v := ?_) (a' := ?_) #[t_,t_,t_,t_,t_,t_,t_,t_,t_,t_,t_,t_,t_,t_,t_,t_,t_,t_,t_,t_,t_,t_,t_,t_,f_,t_,f_,f_,f_] rfl rfl (take_ofW HT_.out HW_.out (by kernel_rfl)) (fun _ _ _ h => h) (Or.inl ⟨by rfl, ?_⟩) hHeld ?_ ?_
                                rotate_left
                                ·
                                 rintro w' ⟨s0, s1, s2, s3, s4, s5, s6, s7, s8, s9, s10, s11, s12, s13, s14, s15, s16, s17, s18, s19, s20, s21, s22, s23⟩
                                 first | (refine (load18 (by rfl) (by rfl) hu26 rfl hi26 s2 s3 s4 s5 s6 s7 s8 s9 s10 s11 s12 s13 s14 s15 s16 s17 s18 s19).trans ?_; with_reducible rfl) | (go_simp; with_reducible rfl)
                                rotate_left
                                ·
                                 simp only [Act.put, lA, lZ, lS, i64_w, i32_w]
                                 rfl
                                as_aux_lemma =>
                                 refine take_ (i := 26) (N := some 80) (v := ?_) (a' := ?_) #[t_,t_,t_,t_,t_,t_,t_,t_,t_,t_,t_,t_,t_,t_,t_,t_,t_,t_,t_,t_,t_,t_,t_,t_,f_,t_,t_,f_,f_] rfl rfl (take_ofW HT_.out HW_.out (by kernel_rfl)) (fun _ _ _ h => h) (Or.inl ⟨by rfl, ?_⟩) hHeld ?_ ?_
                                 rotate_left
                                 ·
                                  rintro w' ⟨s0, s1, s2, s3, s4, s5, s6, s7, s8, s9, s10, s11, s12, s13, s14, s15, s16, s17, s18, s19, s20, s21, s22, s23⟩
                                  first | (refine (load18 (by rfl) (by rfl) hu26 rfl hi26 s2 s3 s4 s5 s6 s7 s8 s9 s10 s11 s12 s13 s14 s15 s16 s17 s18 s19).trans ?_; with_reducible rfl) | (go_simp; with_reducible rfl)
                                 rotate_left
                                 ·
                                  simp only [Act.put, lA, lZ, lS, i64_w, i32_w]
                                  rfl
                                 as_aux_lemma =>
                                  refine one_ (i := 24) (N := some 78) #[t_,t_,t_,t_,t_,t_,t_,t_,t_,t_,t_,t_,t_,t_,t_,t_,t_,t_,t_,t_,t_,t_,t_,t_,t_,t_,t_,f_,f_] rfl rfl (one_of HT_.out (by kernel_rfl)) (by decide) (fun K hK => ?_)
                                  refine goes_ Try.func10 (by kernel_rfl) rfl #[.agg #[.string a0_0, .int .i64 a0_1, .int .i64 a0_2, .int .i64 a0_3, .slice A0_4 l0_4.length c0_4, .slice A0_5 l0_5.length c0_5, .slice A0_6 l0_6.length c0_6, .int .i64 a0_7, .int .i64 a0_8, .int .i64 a0_9, .int .i64 a0_10, .int .i64 a0_11, .int .i64 a0_12, .int .i64 a0_13, .int .i64 a0_14, .int .i64 a0_15, .int .i64 a0_16, .int .i64 a0_17], .int .i64 a1_1, .int .i64 a2_0] (by rfl) rfl rfl (by (try simp only [List.map_toArray, List.map_cons, List.map_nil]); first | done | rfl | (simp only [List.length_drop, List.length_take]; rfl)) ?_
                                  with_reducible refine (seep_Ask.calls kj8 a0_0 a0_1 a0_2 a0_3 _ _ l0_4 _ _ l0_5 _ _ l0_6 a0_7 a0_8 a0_9 a0_10 a0_11 a0_12 a0_13 a0_14 a0_15 a0_16 a0_17 a1_1 a2_0 t283 _ ?side1 ?side2 ?side3 ?side4 ?side5 ?side6 A86.out).mono ?_
                                  (case side1 => repeat (first | exact (Kd.C_below HR0_4.out HB.out) | (with_reducible refine Kd.C_alloc ?_ _) | (with_reducible refine Kd.C_drewN ?_ _) | (with_reducible refine Kd.C_drew ?_)))
                                  (case side2 => exact HC0_4.out)
                                  (case side3 => repeat (first | exact (Kd.C_below HR0_5.out HB.out) | (with_reducible refine Kd.C_alloc ?_ _) | (with_reducible refine Kd.C_drewN ?_ _) | (with_reducible refine Kd.C_drew ?_)))
                                  (case side4 => exact HC0_5.out)
                                  (case side5 => repeat (first | exact (Kd.C_below HR0_6.out HB.out) | (with_reducible refine Kd.C_alloc ?_ _) | (with_reducible refine Kd.C_drewN ?_ _) | (with_reducible refine Kd.C_drew ?_)))
                                  (case side6 => exact HC0_6.out)
                                  rintro e w92 ⟨rfl, hb⟩
                                  refine ⟨_, rfl, ?_⟩
                                  have n0_ := Aside0.mk (bB (g := gb268) (o := .cells #[.string a0_0, .int .i64 a0_1, .int .i64 a0_2, .int .i64 a0_3, .slice A0_4 l0_4.length c0_4, .slice A0_5 l0_5.length c0_5, .slice A0_6 l0_6.length c0_6, .int .i64 a0_7, .int .i64 a0_8, .int .i64 a0_9, .int .i64 a0_10, .int .i64 a0_11, .int .i64 a0_12, .int .i64 a0_13, .int .i64 a0_14, .int .i64 a0_15, .int .i64 a0_16, .int .i64 a0_17] 26 (0, 0)) (by (with_reducible repeat (first | refine bN ?_ _ | refine bD ?_ | refine bA ?_ _)); exact BK268.out) hb)
                                  have n1_ := Aside0.mk (bB (g := gb269) (o := .cells #[.int .i64 a1_0, .int .i64 a1_1] 30 (0, 0)) (by (with_reducible repeat (first | refine bN ?_ _ | refine bD ?_ | refine bA ?_ _)); exact BK269.out) hb)
                                  have n2_ := Aside0.mk (bB (g := gb270) (o := .cells #[.int .i64 a2_0, .int .i64 a2_1] 30 (0, 0)) (by (with_reducible repeat (first | refine bN ?_ _ | refine bD ?_ | refine bA ?_ _)); exact BK270.out) hb)
                                  have n3_ := Aside0.mk (bB (g := gb271) (o := .cells #[.int .i64 a5_0, .int .i64 a5_1, .int .i64 a5_2, .int .i64 a5_3, .int .i64 a5_4] 32 (0, 0)) (by (with_reducible repeat (first | refine bN ?_ _ | refine bD ?_ | refine bA ?_ _)); exact BK271.out) hb)
                                  have n4_ := Aside0.mk (bB (g := gb279) (o := .cells #[.int .i64 t277, .int .i64 t278] 30 (0, 0)) (by (with_reducible repeat (first | refine bN ?_ _ | refine bD ?_ | refine bA ?_ _)); exact BK279.out) hb)
                                  have n5_ := Aside0.mk (bP (by repeat (first | (with_reducible first | exact HB.out | apply bL | apply bW | apply b1 | refine bS ?_ GE268.out | refine bS ?_ GE269.out | refine bS ?_ GE270.out | refine bS ?_ GE271.out | refine bS ?_ GE279.out) | exact HB.out)) hb)
                                  clear BK268
                                  clear BK269
                                  clear BK270
                                  clear BK271
                                  clear BK279
                                  clear HB
                                  have BK268 := n0_
                                  have BK269 := n1_
                                  have BK270 := n2_
                                  have BK271 := n3_
                                  have BK279 := n4_
                                  have HB := n5_
                                  clear n0_ n1_ n2_ n3_ n4_ n5_
                                  (try clear hb)
                                  (try clear hb2)
                                  (try clear hk)
                                  (try clear hi)
                                  refine hK.out _ _ ⟨(bC BK279.out 0).trans rfl, (bC BK279.out 1).trans rfl, (bC BK268.out 0).trans rfl, (bC BK268.out 1).trans rfl, (bC BK268.out 2).trans rfl, (bC BK268.out 3).trans rfl, (bC BK268.out 4).trans rfl, (bC BK268.out 5).trans rfl, (bC BK268.out 6).trans rfl, (bC BK268.out 7).trans rfl, (bC BK268.out 8).trans rfl, (bC BK268.out 9).trans rfl, (bC BK268.out 10).trans rfl, (bC BK268.out 11).trans rfl, (bC BK268.out 12).trans rfl, (bC BK268.out 13).trans rfl, (bC BK268.out 14).trans rfl, (bC BK268.out 15).trans rfl, (bC BK268.out 16).trans rfl, (bC BK268.out 17).trans rfl, (bC BK269.out 0).trans rfl, (bC BK269.out 1).trans rfl, (bC BK270.out 0).trans rfl, (bC BK270.out 1).trans rfl⟩ (fun hHeld => ?_)
                                  clear hK K
                                  refine norm_ (a' := ?_) ?_ ?_
                                  rotate_left
                                  ·
                                   show Act.put _ (some 78) _ = _
                                   simp only [Act.put, lA, lZ, lS, i64_w, i32_w]
                                   rfl
                                  as_aux_lemma =>
                                   refine pure_ (i := 27) (N := some 81) (v := ?_) (a' := ?_) #[t_,t_,t_,t_,t_,t_,t_,t_,t_,t_,t_,t_,t_,t_,t_,t_,t_,t_,t_,t_,t_,t_,t_,t_,t_,t_,t_,t_,f_] rfl rfl (any_of HT_.out (by kernel_rfl)) (fun _ _ _ h => h) (Or.inl ⟨by rfl, ?_⟩) ?_ ?_
                                   rotate_left
                                   ·
                                    intro w'
                                    go_simp
                                    with_reducible rfl
                                   rotate_left
                                   ·
                                    simp only [Act.put, lA, lZ, lS, i64_w, i32_w]
                                    rfl
                                   as_aux_lemma =>
                                    refine pure_ (i := 28) (N := some 82) (v := ?_) (a' := ?_) #[t_,t_,t_,t_,t_,t_,t_,t_,t_,t_,t_,t_,t_,t_,t_,t_,t_,t_,t_,t_,t_,t_,t_,t_,t_,t_,t_,t_,t_] rfl rfl (any_of HT_.out (by kernel_rfl)) (fun _ _ _ h => h) (Or.inl ⟨by rfl, ?_⟩) ?_ ?_
                                    rotate_left
                                    ·
                                     intro w'
                                     go_simp
                                     with_reducible rfl
                                    rotate_left
                                    ·
                                     simp only [Act.put, lA, lZ, lS, i64_w, i32_w]
                                     rfl
                                    refine done_ (done_of HT_.out (by kernel_rfl)) ?_
                                    try go_wp2
                                    go_meet
                                    case rel => exact ⟨_, ((t283 != t278)), (by first | rfl | (simp; done) | (simp [*]; done)), H', ⟨by have := HJ8.out; first | omega | exact Nat.le_refl _⟩, ⟨by (with_reducible repeat (first | refine bN ?_ _ | refine bD ?_ | refine bA ?_ _)); exact BK268.out⟩, ⟨by (with_reducible repeat (first | refine bN ?_ _ | refine bD ?_ | refine bA ?_ _)); exact BK269.out⟩, ⟨by (with_reducible repeat (first | refine bN ?_ _ | refine bD ?_ | refine bA ?_ _)); exact BK270.out⟩, ⟨by (with_reducible repeat (first | refine bN ?_ _ | refine bD ?_ | refine bA ?_ _)); exact BK271.out⟩, ⟨by (with_reducible repeat (first | refine bN ?_ _ | refine bD ?_ | refine bA ?_ _)); exact BK279.out⟩, ⟨by repeat (first | (with_reducible first | exact HB.out | apply bL | apply bW | apply b1 | refine bS ?_ GE268.out | refine bS ?_ GE269.out | refine bS ?_ GE270.out | refine bS ?_ GE271.out | refine bS ?_ GE279.out) | exact HB.out)⟩⟩
      ·
       rw [if_neg c85] at H
       have c85b0 : (t282 == t277) = false := beq_eq_false_iff_ne.mpr c85
       have c85b1 : (t282 != t277) = true := bne_iff_ne.mpr c85
       (first | rw [c85b0] | (simp only [i64_w, i32_w]; rw [c85b0]) | skip)
       have H' := Aside0.mk H
       clear H
       try go_wp2
       have n0_ : Aside0 (((w75.setCell ⟨gb279, 0, none⟩ (.int .i64 t277)).setCell ⟨gb279, 1, none⟩ (.int .i64 t278)).heap[gb268]? = some (.cells #[.string a0_0, .int .i64 a0_1, .int .i64 a0_2, .int .i64 a0_3, .slice A0_4 l0_4.length c0_4, .slice A0_5 l0_5.length c0_5, .slice A0_6 l0_6.length c0_6, .int .i64 a0_7, .int .i64 a0_8, .int .i64 a0_9, .int .i64 a0_10, .int .i64 a0_11, .int .i64 a0_12, .int .i64 a0_13, .int .i64 a0_14, .int .i64 a0_15, .int .i64 a0_16, .int .i64 a0_17] 26 (0, 0))) := ⟨by (with_reducible repeat (first | refine bN ?_ _ | refine bD ?_ | refine bA ?_ _)); refine bR ?_ NB268_279.out _; (with_reducible repeat (first | refine bN ?_ _ | refine bD ?_ | refine bA ?_ _)); refine bR ?_ NB268_279.out _; (with_reducible repeat (first | refine bN ?_ _ | refine bD ?_ | refine bA ?_ _)); exact BK268.out⟩
       have n1_ : Aside0 (((w75.setCell ⟨gb279, 0, none⟩ (.int .i64 t277)).setCell ⟨gb279, 1, none⟩ (.int .i64 t278)).heap[gb269]? = some (.cells #[.int .i64 a1_0, .int .i64 a1_1] 30 (0, 0))) := ⟨by (with_reducible repeat (first | refine bN ?_ _ | refine bD ?_ | refine bA ?_ _)); refine bR ?_ NB269_279.out _; (with_reducible repeat (first | refine bN ?_ _ | refine bD ?_ | refine bA ?_ _)); refine bR ?_ NB269_279.out _; (with_reducible repeat (first | refine bN ?_ _ | refine bD ?_ | refine bA ?_ _)); exact BK269.out⟩
       have n2_ : Aside0 (((w75.setCell ⟨gb279, 0, none⟩ (.int .i64 t277)).setCell ⟨gb279, 1, none⟩ (.int .i64 t278)).heap[gb270]? = some (.cells #[.int .i64 a2_0, .int .i64 a2_1] 30 (0, 0))) := ⟨by (with_reducible repeat (first | refine bN ?_ _ | refine bD ?_ | refine bA ?_ _)); refine bR ?_ NB270_279.out _; (with_reducible repeat (first | refine bN ?_ _ | refine bD ?_ | refine bA ?_ _)); refine bR ?_ NB270_279.out _; (with_reducible repeat (first | refine bN ?_ _ | refine bD ?_ | refine bA ?_ _)); exact BK270.out⟩
       have n3_ : Aside0 (((w75.setCell ⟨gb279, 0, none⟩ (.int .i64 t277)).setCell ⟨gb279, 1, none⟩ (.int .i64 t278)).heap[gb271]? = some (.cells #[.int .i64 a5_0, .int .i64 a5_1, .int .i64 a5_2, .int .i64 a5_3, .int .i64 a5_4] 32 (0, 0))) := ⟨by (with_reducible repeat (first | refine bN ?_ _ | refine bD ?_ | refine bA ?_ _)); refine bR ?_ NB271_279.out _; (with_reducible repeat (first | refine bN ?_ _ | refine bD ?_ | refine bA ?_ _)); refine bR ?_ NB271_279.out _; (with_reducible repeat (first | refine bN ?_ _ | refine bD ?_ | refine bA ?_ _)); exact BK271.out⟩
       have n4_ : Aside0 (((w75.setCell ⟨gb279, 0, none⟩ (.int .i64 t277)).setCell ⟨gb279, 1, none⟩ (.int .i64 t278)).heap[gb279]? = some (.cells #[.int .i64 t277, .int .i64 t278] 30 (0, 0))) := ⟨by (with_reducible repeat (first | refine bN ?_ _ | refine bD ?_ | refine bA ?_ _)); refine bU (cs := #[.int .i64 t277, .int .i64 0]) ?_ 1 _ rfl; (with_reducible repeat (first | refine bN ?_ _ | refine bD ?_ | refine bA ?_ _)); refine bU (cs := #[.int .i64 0, .int .i64 0]) ?_ 0 _ rfl; (with_reducible repeat (first | refine bN ?_ _ | refine bD ?_ | refine bA ?_ _)); exact BK279.out⟩
       have n5_ : Aside0 (Below w.heap.size w ((w75.setCell ⟨gb279, 0, none⟩ (.int .i64 t277)).setCell ⟨gb279, 1, none⟩ (.int .i64 t278))) := ⟨by repeat (first | (with_reducible first | exact HB.out | apply bL | apply bW | apply b1 | refine bS ?_ GE268.out | refine bS ?_ GE269.out | refine bS ?_ GE270.out | refine bS ?_ GE271.out | refine bS ?_ GE279.out) | exact HB.out)⟩
       (try clear BK268)
       (try clear BK269)
       (try clear BK270)
       (try clear BK271)
       (try clear BK279)
       (try clear HB)
       generalize ((w75.setCell ⟨gb279, 0, none⟩ (.int .i64 t277)).setCell ⟨gb279, 1, none⟩ (.int .i64 t278)) = w93 at n0_ n1_ n2_ n3_ n4_ n5_ ⊢
       have BK268 := n0_
       have BK269 := n1_
       have BK270 := n2_
       have BK271 := n3_
       have BK279 := n4_
       have HB := n5_
       clear n0_ n1_ n2_ n3_ n4_ n5_
       have n0_ := Aside0.mk (bD BK268.out)
       have n1_ := Aside0.mk (bD BK269.out)
       have n2_ := Aside0.mk (bD BK270.out)
       have n3_ := Aside0.mk (bD BK271.out)
       have n4_ := Aside0.mk (bD BK279.out)
       have n5_ := Aside0.mk (b1 HB.out)
       clear BK268
       clear BK269
       clear BK270
       clear BK271
       clear BK279
       clear HB
       have BK268 := n0_
       have BK269 := n1_
       have BK270 := n2_
       have BK271 := n3_
       have BK279 := n4_
       have HB := n5_
       clear n0_ n1_ n2_ n3_ n4_ n5_
       refine start_ (n := 29) (S := fun w' => w'.cell? ⟨gb279, 0, none⟩ = some (.int .i64 t277) ∧ w'.cell? ⟨gb279, 1, none⟩ = some (.int .i64 t278) ∧ w'.cell? ⟨gb268, 0, none⟩ = some (.string a0_0) ∧ w'.cell? ⟨gb268, 1, none⟩ = some (.int .i64 a0_1) ∧ w'.cell? ⟨gb268, 2, none⟩ = some (.int .i64 a0_2) ∧ w'.cell? ⟨gb268, 3, none⟩ = some (.int .i64 a0_3) ∧ w'.cell? ⟨gb268, 4, none⟩ = some (.slice A0_4 l0_4.length c0_4) ∧ w'.cell? ⟨gb268, 5, none⟩ = some (.slice A0_5 l0_5.length c0_5) ∧ w'.cell? ⟨gb268, 6, none⟩ = some (.slice A0_6 l0_6.length c0_6) ∧ w'.cell? ⟨gb268, 7, none⟩ = some (.int .i64 a0_7) ∧ w'.cell? ⟨gb268, 8, none⟩ = some (.int .i64 a0_8) ∧ w'.cell? ⟨gb268, 9, none⟩ = some (.int .i64 a0_9) ∧ w'.cell? ⟨gb268, 10, none⟩ = some (.int .i64 a0_10) ∧ w'.cell? ⟨gb268, 11, none⟩ = some (.int .i64 a0_11) ∧ w'.cell? ⟨gb268, 12, none⟩ = some (.int .i64 a0_12) ∧ w'.cell? ⟨gb268, 13, none⟩ = some (.int .i64 a0_13) ∧ w'.cell? ⟨gb268, 14, none⟩ = some (.int .i64 a0_14) ∧ w'.cell? ⟨gb268, 15, none⟩ = some (.int .i64 a0_15) ∧ w'.cell? ⟨gb268, 16, none⟩ = some (.int .i64 a0_16) ∧ w'.cell? ⟨gb268, 17, none⟩ = some (.int .i64 a0_17) ∧ w'.cell? ⟨gb269, 0, none⟩ = some (.int .i64 a1_0) ∧ w'.cell? ⟨gb269, 1, none⟩ = some (.int .i64 a1_1) ∧ w'.cell? ⟨gb270, 0, none⟩ = some (.int .i64 a2_0) ∧ w'.cell? ⟨gb270, 1, none⟩ = some (.int .i64 a2_1)) (ds := []) #[f_,f_,f_,f_,f_,f_,f_,f_,f_,f_,f_,f_,f_,f_,f_,f_,f_,f_,f_,f_,f_,f_,f_,f_,f_,f_,f_,f_,f_] (by kernel_rfl) rfl rfl ⟨(bC BK279.out 0).trans rfl, (bC BK279.out 1).trans rfl, (bC BK268.out 0).trans rfl, (bC BK268.out 1).trans rfl, (bC BK268.out 2).trans rfl, (bC BK268.out 3).trans rfl, (bC BK268.out 4).trans rfl, (bC BK268.out 5).trans rfl, (bC BK268.out 6).trans rfl, (bC BK268.out 7).trans rfl, (bC BK268.out 8).trans rfl, (bC BK268.out 9).trans rfl, (bC BK268.out 10).trans rfl, (bC BK268.out 11).trans rfl, (bC BK268.out 12).trans rfl, (bC BK268.out 13).trans rfl, (bC BK268.out 14).trans rfl, (bC BK268.out 15).trans rfl, (bC BK268.out 16).trans rfl, (bC BK268.out 17).trans rfl, (bC BK269.out 0).trans rfl, (bC BK269.out 1).trans rfl, (bC BK270.out 0).trans rfl, (bC BK270.out 1).trans rfl⟩ (fun hHeld => ?_); refine with_tabW bournelaw20_SeepEncloses.tab7 bournelaw20_SeepEncloses.bits7 (fun HT_ HW_ => ?_)
       generalize w93.drew = w94 at BK268 BK269 BK270 BK271 BK279 HB hHeld ⊢
       as_aux_lemma =>
        refine pure_ (i := 2) (N := some 56) (v := ?_) (a' := ?_) #[f_,f_,t_,f_,f_,f_,f_,f_,f_,f_,f_,f_,f_,f_,f_,f_,f_,f_,f_,f_,f_,f_,f_,f_,f_,f_,f_,f_,f_] rfl rfl (any_of HT_.out (by kernel_rfl)) (fun _ _ _ h => h) (Or.inl ⟨by rfl, ?_⟩) ?_ ?_
        rotate_left
        ·
         intro w'
         go_simp
         with_reducible rfl
        rotate_left
        ·
         simp only [Act.put, lA, lZ, lS, i64_w, i32_w]
         rfl
        as_aux_lemma =>
         refine pure_ (i := 3) (N := some 57) (v := ?_) (a' := ?_) #[f_,f_,t_,t_,f_,f_,f_,f_,f_,f_,f_,f_,f_,f_,f_,f_,f_,f_,f_,f_,f_,f_,f_,f_,f_,f_,f_,f_,f_] rfl rfl (any_of HT_.out (by kernel_rfl)) (fun _ _ _ h => h) (Or.inl ⟨by rfl, ?_⟩) ?_ ?_
         rotate_left
         ·
          intro w'
          go_simp
          with_reducible rfl
         rotate_left
         ·
          simp only [Act.put, lA, lZ, lS, i64_w, i32_w]
          rfl
         as_aux_lemma =>
          refine take_ (i := 0) (N := some 54) (v := ?_) (a' := ?_) #[t_,f_,t_,t_,f_,f_,f_,f_,f_,f_,f_,f_,f_,f_,f_,f_,f_,f_,f_,f_,f_,f_,f_,f_,f_,f_,f_,f_,f_] rfl rfl (take_ofW HT_.out HW_.out (by kernel_rfl)) (fun _ _ _ h => h) (Or.inl ⟨by rfl, ?_⟩) hHeld ?_ ?_
          rotate_left
          ·
           rintro w' ⟨s0, s1, s2, s3, s4, s5, s6, s7, s8, s9, s10, s11, s12, s13, s14, s15, s16, s17, s18, s19, s20, s21, s22, s23⟩
           first | (refine (load18 (by rfl) (by rfl) hu26 rfl hi26 s2 s3 s4 s5 s6 s7 s8 s9 s10 s11 s12 s13 s14 s15 s16 s17 s18 s19).trans ?_; with_reducible rfl) | (go_simp; with_reducible rfl)
          rotate_left
          ·
           simp only [Act.put, lA, lZ, lS, i64_w, i32_w]
           rfl
          as_aux_lemma =>
           refine take_ (i := 1) (N := some 55) (v := ?_) (a' := ?_) #[t_,t_,t_,t_,f_,f_,f_,f_,f_,f_,f_,f_,f_,f_,f_,f_,f_,f_,f_,f_,f_,f_,f_,f_,f_,f_,f_,f_,f_] rfl rfl (take_ofW HT_.out HW_.out (by kernel_rfl)) (fun _ _ _ h => h) (Or.inl ⟨by rfl, ?_⟩) hHeld ?_ ?_
           rotate_left
           ·
            rintro w' ⟨s0, s1, s2, s3, s4, s5, s6, s7, s8, s9, s10, s11, s12, s13, s14, s15, s16, s17, s18, s19, s20, s21, s22, s23⟩
            first | (refine (load18 (by rfl) (by rfl) hu26 rfl hi26 s2 s3 s4 s5 s6 s7 s8 s9 s10 s11 s12 s13 s14 s15 s16 s17 s18 s19).trans ?_; with_reducible rfl) | (go_simp; with_reducible rfl)
           rotate_left
           ·
            simp only [Act.put, lA, lZ, lS, i64_w, i32_w]
            rfl
           as_aux_lemma =>
            refine one_ (i := 4) (N := some 58) #[t_,t_,t_,t_,t_,f_,f_,f_,f_,f_,f_,f_,f_,f_,f_,f_,f_,f_,f_,f_,f_,f_,f_,f_,f_,f_,f_,f_,f_] rfl rfl (one_of HT_.out (by kernel_rfl)) (by decide) (fun K hK => ?_)
            refine goes_ Try.func10 (by kernel_rfl) rfl #[.agg #[.string a0_0, .int .i64 a0_1, .int .i64 a0_2, .int .i64 a0_3, .slice A0_4 l0_4.length c0_4, .slice A0_5 l0_5.length c0_5, .slice A0_6 l0_6.length c0_6, .int .i64 a0_7, .int .i64 a0_8, .int .i64 a0_9, .int .i64 a0_10, .int .i64 a0_11, .int .i64 a0_12, .int .i64 a0_13, .int .i64 a0_14, .int .i64 a0_15, .int .i64 a0_16, .int .i64 a0_17], .int .i64 t275, .int .i64 t276] (by rfl) rfl rfl (by (try simp only [List.map_toArray, List.map_cons, List.map_nil]); first | done | rfl | (simp only [List.length_drop, List.length_take]; rfl)) ?_
            with_reducible refine (seep_Ask.calls kj8 a0_0 a0_1 a0_2 a0_3 _ _ l0_4 _ _ l0_5 _ _ l0_6 a0_7 a0_8 a0_9 a0_10 a0_11 a0_12 a0_13 a0_14 a0_15 a0_16 a0_17 t275 t276 t280 _ ?side1 ?side2 ?side3 ?side4 ?side5 ?side6 A81.out).mono ?_
            (case side1 => repeat (first | exact (Kd.C_below HR0_4.out HB.out) | (with_reducible refine Kd.C_alloc ?_ _) | (with_reducible refine Kd.C_drewN ?_ _) | (with_reducible refine Kd.C_drew ?_)))
            (case side2 => exact HC0_4.out)
            (case side3 => repeat (first | exact (Kd.C_below HR0_5.out HB.out) | (with_reducible refine Kd.C_alloc ?_ _) | (with_reducible refine Kd.C_drewN ?_ _) | (with_reducible refine Kd.C_drew ?_)))
            (case side4 => exact HC0_5.out)
            (case side5 => repeat (first | exact (Kd.C_below HR0_6.out HB.out) | (with_reducible refine Kd.C_alloc ?_ _) | (with_reducible refine Kd.C_drewN ?_ _) | (with_reducible refine Kd.C_drew ?_)))
            (case side6 => exact HC0_6.out)
            rintro e w95 ⟨rfl, hb⟩
            refine ⟨_, rfl, ?_⟩
            have n0_ := Aside0.mk (bB (g := gb268) (o := .cells #[.string a0_0, .int .i64 a0_1, .int .i64 a0_2, .int .i64 a0_3, .slice A0_4 l0_4.length c0_4, .slice A0_5 l0_5.length c0_5, .slice A0_6 l0_6.length c0_6, .int .i64 a0_7, .int .i64 a0_8, .int .i64 a0_9, .int .i64 a0_10, .int .i64 a0_11, .int .i64 a0_12, .int .i64 a0_13, .int .i64 a0_14, .int .i64 a0_15, .int .i64 a0_16, .int .i64 a0_17] 26 (0, 0)) (by (with_reducible repeat (first | refine bN ?_ _ | refine bD ?_ | refine bA ?_ _)); exact BK268.out) hb)
            have n1_ := Aside0.mk (bB (g := gb269) (o := .cells #[.int .i64 a1_0, .int .i64 a1_1] 30 (0, 0)) (by (with_reducible repeat (first | refine bN ?_ _ | refine bD ?_ | refine bA ?_ _)); exact BK269.out) hb)
            have n2_ := Aside0.mk (bB (g := gb270) (o := .cells #[.int .i64 a2_0, .int .i64 a2_1] 30 (0, 0)) (by (with_reducible repeat (first | refine bN ?_ _ | refine bD ?_ | refine bA ?_ _)); exact BK270.out) hb)
            have n3_ := Aside0.mk (bB (g := gb271) (o := .cells #[.int .i64 a5_0, .int .i64 a5_1, .int .i64 a5_2, .int .i64 a5_3, .int .i64 a5_4] 32 (0, 0)) (by (with_reducible repeat (first | refine bN ?_ _ | refine bD ?_ | refine bA ?_ _)); exact BK271.out) hb)
            have n4_ := Aside0.mk (bB (g := gb279) (o := .cells #[.int .i64 t277, .int .i64 t278] 30 (0, 0)) (by (with_reducible repeat (first | refine bN ?_ _ | refine bD ?_ | refine bA ?_ _)); exact BK279.out) hb)
            have n5_ := Aside0.mk (bP (by repeat (first | (with_reducible first | exact HB.out | apply bL | apply bW | apply b1 | refine bS ?_ GE268.out | refine bS ?_ GE269.out | refine bS ?_ GE270.out | refine bS ?_ GE271.out | refine bS ?_ GE279.out) | exact HB.out)) hb)
            clear BK268
            clear BK269
            clear BK270
            clear BK271
            clear BK279
            clear HB
            have BK268 := n0_
            have BK269 := n1_
            have BK270 := n2_
            have BK271 := n3_
            have BK279 := n4_
            have HB := n5_
            clear n0_ n1_ n2_ n3_ n4_ n5_
            (try clear hb)
            (try clear hb2)
            (try clear hk)
            (try clear hi)
            refine hK.out _ _ ⟨(bC BK279.out 0).trans rfl, (bC BK279.out 1).trans rfl, (bC BK268.out 0).trans rfl, (bC BK268.out 1).trans rfl, (bC BK268.out 2).trans rfl, (bC BK268.out 3).trans rfl, (bC BK268.out 4).trans rfl, (bC BK268.out 5).trans rfl, (bC BK268.out 6).trans rfl, (bC BK268.out 7).trans rfl, (bC BK268.out 8).trans rfl, (bC BK268.out 9).trans rfl, (bC BK268.out 10).trans rfl, (bC BK268.out 11).trans rfl, (bC BK268.out 12).trans rfl, (bC BK268.out 13).trans rfl, (bC BK268.out 14).trans rfl, (bC BK268.out 15).trans rfl, (bC BK268.out 16).trans rfl, (bC BK268.out 17).trans rfl, (bC BK269.out 0).trans rfl, (bC BK269.out 1).trans rfl, (bC BK270.out 0).trans rfl, (bC BK270.out 1).trans rfl⟩ (fun hHeld => ?_)
            clear hK K
            refine norm_ (a' := ?_) ?_ ?_
            rotate_left
            ·
             show Act.put _ (some 58) _ = _
             simp only [Act.put, lA, lZ, lS, i64_w, i32_w]
             rfl
            as_aux_lemma =>
             refine one_ (i := 5) (N := some 59) #[t_,t_,t_,t_,t_,t_,f_,f_,f_,f_,f_,f_,f_,f_,f_,f_,f_,f_,f_,f_,f_,f_,f_,f_,f_,f_,f_,f_,f_] rfl rfl (one_of HT_.out (by kernel_rfl)) (by decide) (fun K hK => ?_)
             refine goes_ Try.func22 (by kernel_rfl) rfl #[.agg #[.int .i64 t277, .int .i64 t278], .int .i64 t280] (by rfl) rfl rfl (by (try simp only [List.map_toArray, List.map_cons, List.map_nil]); first | done | rfl | (simp only [List.length_drop, List.length_take]; rfl)) ?_
             with_reducible refine (span_Has.calls t277 t278 t280 true _ A82.out).mono ?_
             rintro e w96 ⟨rfl, hb⟩
             refine ⟨_, rfl, ?_⟩
             have n0_ := Aside0.mk (bB (g := gb268) (o := .cells #[.string a0_0, .int .i64 a0_1, .int .i64 a0_2, .int .i64 a0_3, .slice A0_4 l0_4.length c0_4, .slice A0_5 l0_5.length c0_5, .slice A0_6 l0_6.length c0_6, .int .i64 a0_7, .int .i64 a0_8, .int .i64 a0_9, .int .i64 a0_10, .int .i64 a0_11, .int .i64 a0_12, .int .i64 a0_13, .int .i64 a0_14, .int .i64 a0_15, .int .i64 a0_16, .int .i64 a0_17] 26 (0, 0)) (by (with_reducible repeat (first | refine bN ?_ _ | refine bD ?_ | refine bA ?_ _)); exact BK268.out) hb)
             have n1_ := Aside0.mk (bB (g := gb269) (o := .cells #[.int .i64 a1_0, .int .i64 a1_1] 30 (0, 0)) (by (with_reducible repeat (first | refine bN ?_ _ | refine bD ?_ | refine bA ?_ _)); exact BK269.out) hb)
             have n2_ := Aside0.mk (bB (g := gb270) (o := .cells #[.int .i64 a2_0, .int .i64 a2_1] 30 (0, 0)) (by (with_reducible repeat (first | refine bN ?_ _ | refine bD ?_ | refine bA ?_ _)); exact BK270.out) hb)
             have n3_ := Aside0.mk (bB (g := gb271) (o := .cells #[.int .i64 a5_0, .int .i64 a5_1, .int .i64 a5_2, .int .i64 a5_3, .int .i64 a5_4] 32 (0, 0)) (by (with_reducible repeat (first | refine bN ?_ _ | refine bD ?_ | refine bA ?_ _)); exact BK271.out) hb)
             have n4_ := Aside0.mk (bB (g := gb279) (o := .cells #[.int .i64 t277, .int .i64 t278] 30 (0, 0)) (by (with_reducible repeat (first | refine bN ?_ _ | refine bD ?_ | refine bA ?_ _)); exact BK279.out) hb)
             have n5_ := Aside0.mk (bP (by repeat (first | (with_reducible first | exact HB.out | apply bL | apply bW | apply b1 | refine bS ?_ GE268.out | refine bS ?_ GE269.out | refine bS ?_ GE270.out | refine bS ?_ GE271.out | refine bS ?_ GE279.out) | exact HB.out)) hb)
             clear BK268
             clear BK269
             clear BK270
             clear BK271
             clear BK279
             clear HB
             have BK268 := n0_
             have BK269 := n1_
             have BK270 := n2_
             have BK271 := n3_
             have BK279 := n4_
             have HB := n5_
             clear n0_ n1_ n2_ n3_ n4_ n5_
             (try clear hb)
             (try clear hb2)
             (try clear hk)
             (try clear hi)
             refine hK.out _ _ ⟨(bC BK279.out 0).trans rfl, (bC BK279.out 1).trans rfl, (bC BK268.out 0).trans rfl, (bC BK268.out 1).trans rfl, (bC BK268.out 2).trans rfl, (bC BK268.out 3).trans rfl, (bC BK268.out 4).trans rfl, (bC BK268.out 5).trans rfl, (bC BK268.out 6).trans rfl, (bC BK268.out 7).trans rfl, (bC BK268.out 8).trans rfl, (bC BK268.out 9).trans rfl, (bC BK268.out 10).trans rfl, (bC BK268.out 11).trans rfl, (bC BK268.out 12).trans rfl, (bC BK268.out 13).trans rfl, (bC BK268.out 14).trans rfl, (bC BK268.out 15).trans rfl, (bC BK268.out 16).trans rfl, (bC BK268.out 17).trans rfl, (bC BK269.out 0).trans rfl, (bC BK269.out 1).trans rfl, (bC BK270.out 0).trans rfl, (bC BK270.out 1).trans rfl⟩ (fun hHeld => ?_)
             clear hK K
             refine norm_ (a' := ?_) ?_ ?_
             rotate_left
             ·
              show Act.put _ (some 59) _ = _
              simp only [Act.put, lA, lZ, lS, i64_w, i32_w]
              rfl
             as_aux_lemma =>
              refine pure_ (i := 6) (N := some 60) (v := ?_) (a' := ?_) #[t_,t_,t_,t_,t_,t_,t_,f_,f_,f_,f_,f_,f_,f_,f_,f_,f_,f_,f_,f_,f_,f_,f_,f_,f_,f_,f_,f_,f_] rfl rfl (any_of HT_.out (by kernel_rfl)) (fun _ _ _ h => h) (Or.inl ⟨by rfl, ?_⟩) ?_ ?_
              rotate_left
              ·
               intro w'
               go_simp
               with_reducible rfl
              rotate_left
              ·
               simp only [Act.put, lA, lZ, lS, i64_w, i32_w]
               rfl
              as_aux_lemma =>
               refine pure_ (i := 7) (N := some 61) (v := ?_) (a' := ?_) #[t_,t_,t_,t_,t_,t_,t_,t_,f_,f_,f_,f_,f_,f_,f_,f_,f_,f_,f_,f_,f_,f_,f_,f_,f_,f_,f_,f_,f_] rfl rfl (any_of HT_.out (by kernel_rfl)) (fun _ _ _ h => h) (Or.inl ⟨by rfl, ?_⟩) ?_ ?_
               rotate_left
               ·
                intro w'
                go_simp
                with_reducible rfl
               rotate_left
               ·
                simp only [Act.put, lA, lZ, lS, i64_w, i32_w]
                rfl
               as_aux_lemma =>
                refine pure_ (i := 9) (N := some 63) (v := ?_) (a' := ?_) #[t_,t_,t_,t_,t_,t_,t_,t_,f_,t_,f_,f_,f_,f_,f_,f_,f_,f_,f_,f_,f_,f_,f_,f_,f_,f_,f_,f_,f_] rfl rfl (any_of HT_.out (by kernel_rfl)) (fun _ _ _ h => h) (Or.inl ⟨by rfl, ?_⟩) ?_ ?_
                rotate_left
                ·
                 intro w'
                 go_simp
                 with_reducible rfl
                rotate_left
                ·
                 simp only [Act.put, lA, lZ, lS, i64_w, i32_w]
                 rfl
                as_aux_lemma =>
                 refine pure_ (i := 11) (N := some 65) (v := ?_) (a' := ?_) #[t_,t_,t_,t_,t_,t_,t_,t_,f_,t_,f_,t_,f_,f_,f_,f_,f_,f_,f_,f_,f_,f_,f_,f_,f_,f_,f_,f_,f_] rfl rfl (any_of HT_.out (by kernel_rfl)) (fun _ _ _ h => h) (Or.inl ⟨by rfl, ?_⟩) ?_ ?_
                 rotate_left
                 ·
                  intro w'
                  go_simp
                  with_reducible rfl
                 rotate_left
                 ·
                  simp only [Act.put, lA, lZ, lS, i64_w, i32_w]
                  rfl
                 as_aux_lemma =>
                  refine pure_ (i := 14) (N := some 68) (v := ?_) (a' := ?_) #[t_,t_,t_,t_,t_,t_,t_,t_,f_,t_,f_,t_,f_,f_,t_,f_,f_,f_,f_,f_,f_,f_,f_,f_,f_,f_,f_,f_,f_] rfl rfl (any_of HT_.out (by kernel_rfl)) (fun _ _ _ h => h) (Or.inl ⟨by rfl, ?_⟩) ?_ ?_
                  rotate_left
                  ·
                   intro w'
                   go_simp
                   with_reducible rfl
                  rotate_left
                  ·
                   simp only [Act.put, lA, lZ, lS, i64_w, i32_w]
                   rfl
                  as_aux_lemma =>
                   refine take_ (i := 8) (N := some 62) (v := ?_) (a' := ?_) #[t_,t_,t_,t_,t_,t_,t_,t_,t_,t_,f_,t_,f_,f_,t_,f_,f_,f_,f_,f_,f_,f_,f_,f_,f_,f_,f_,f_,f_] rfl rfl (take_ofW HT_.out HW_.out (by kernel_rfl)) (fun _ _ _ h => h) (Or.inl ⟨by rfl, ?_⟩) hHeld ?_ ?_
                   rotate_left
                   ·
                    rintro w' ⟨s0, s1, s2, s3, s4, s5, s6, s7, s8, s9, s10, s11, s12, s13, s14, s15, s16, s17, s18, s19, s20, s21, s22, s23⟩
                    first | (refine (load18 (by rfl) (by rfl) hu26 rfl hi26 s2 s3 s4 s5 s6 s7 s8 s9 s10 s11 s12 s13 s14 s15 s16 s17 s18 s19).trans ?_; with_reducible rfl) | (go_simp; with_reducible rfl)
                   rotate_left
                   ·
                    simp only [Act.put, lA, lZ, lS, i64_w, i32_w]
                    rfl
                   as_aux_lemma =>
                    refine take_ (i := 10) (N := some 64) (v := ?_) (a' := ?_) #[t_,t_,t_,t_,t_,t_,t_,t_,t_,t_,t_,t_,f_,f_,t_,f_,f_,f_,f_,f_,f_,f_,f_,f_,f_,f_,f_,f_,f_] rfl rfl (take_ofW HT_.out HW_.out (by kernel_rfl)) (fun _ _ _ h => h) (Or.inl ⟨by rfl, ?_⟩) hHeld ?_ ?_
                    rotate_left
                    ·
                     rintro w' ⟨s0, s1, s2, s3, s4, s5, s6, s7, s8, s9, s10, s11, s12, s13, s14, s15, s16, s17, s18, s19, s20, s21, s22, s23⟩
                     first | (refine (load18 (by rfl) (by rfl) hu26 rfl hi26 s2 s3 s4 s5 s6 s7 s8 s9 s10 s11 s12 s13 s14 s15 s16 s17 s18 s19).trans ?_; with_reducible rfl) | (go_simp; with_reducible rfl)
                    rotate_left
                    ·
                     simp only [Act.put, lA, lZ, lS, i64_w, i32_w]
                     rfl
                    as_aux_lemma =>
                     refine take_ (i := 12) (N := some 66) (v := ?_) (a' := ?_) #[t_,t_,t_,t_,t_,t_,t_,t_,t_,t_,t_,t_,t_,f_,t_,f_,f_,f_,f_,f_,f_,f_,f_,f_,f_,f_,f_,f_,f_] rfl rfl (take_ofW HT_.out HW_.out (by kernel_rfl)) (fun _ _ _ h => h) (Or.inl ⟨by rfl, ?_⟩) hHeld ?_ ?_
                     rotate_left
                     ·
                      rintro w' ⟨s0, s1, s2, s3, s4, s5, s6, s7, s8, s9, s10, s11, s12, s13, s14, s15, s16, s17, s18, s19, s20, s21, s22, s23⟩
                      first | (refine (load18 (by rfl) (by rfl) hu26 rfl hi26 s2 s3 s4 s5 s6 s7 s8 s9 s10 s11 s12 s13 s14 s15 s16 s17 s18 s19).trans ?_; with_reducible rfl) | (go_simp; with_reducible rfl)
                     rotate_left
                     ·
                      simp only [Act.put, lA, lZ, lS, i64_w, i32_w]
                      rfl
                     as_aux_lemma =>
                      refine take_ (i := 15) (N := some 69) (v := ?_) (a' := ?_) #[t_,t_,t_,t_,t_,t_,t_,t_,t_,t_,t_,t_,t_,f_,t_,t_,f_,f_,f_,f_,f_,f_,f_,f_,f_,f_,f_,f_,f_] rfl rfl (take_ofW HT_.out HW_.out (by kernel_rfl)) (fun _ _ _ h => h) (Or.inl ⟨by rfl, ?_⟩) hHeld ?_ ?_
                      rotate_left
                      ·
                       rintro w' ⟨s0, s1, s2, s3, s4, s5, s6, s7, s8, s9, s10, s11, s12, s13, s14, s15, s16, s17, s18, s19, s20, s21, s22, s23⟩
                       first | (refine (load18 (by rfl) (by rfl) hu26 rfl hi26 s2 s3 s4 s5 s6 s7 s8 s9 s10 s11 s12 s13 s14 s15 s16 s17 s18 s19).trans ?_; with_reducible rfl) | (go_simp; with_reducible rfl)
                      rotate_left
                      ·
                       simp only [Act.put, lA, lZ, lS, i64_w, i32_w]
                       rfl
                      as_aux_lemma =>
                       refine one_ (i := 13) (N := some 67) #[t_,t_,t_,t_,t_,t_,t_,t_,t_,t_,t_,t_,t_,t_,t_,t_,f_,f_,f_,f_,f_,f_,f_,f_,f_,f_,f_,f_,f_] rfl rfl (one_of HT_.out (by kernel_rfl)) (by decide) (fun K hK => ?_)
                       refine goes_ Try.func10 (by kernel_rfl) rfl #[.agg #[.string a0_0, .int .i64 a0_1, .int .i64 a0_2, .int .i64 a0_3, .slice A0_4 l0_4.length c0_4, .slice A0_5 l0_5.length c0_5, .slice A0_6 l0_6.length c0_6, .int .i64 a0_7, .int .i64 a0_8, .int .i64 a0_9, .int .i64 a0_10, .int .i64 a0_11, .int .i64 a0_12, .int .i64 a0_13, .int .i64 a0_14, .int .i64 a0_15, .int .i64 a0_16, .int .i64 a0_17], .int .i64 a1_0, .int .i64 a2_1] (by rfl) rfl rfl (by (try simp only [List.map_toArray, List.map_cons, List.map_nil]); first | done | rfl | (simp only [List.length_drop, List.length_take]; rfl)) ?_
                       with_reducible refine (seep_Ask.calls kj8 a0_0 a0_1 a0_2 a0_3 _ _ l0_4 _ _ l0_5 _ _ l0_6 a0_7 a0_8 a0_9 a0_10 a0_11 a0_12 a0_13 a0_14 a0_15 a0_16 a0_17 a1_0 a2_1 t282 _ ?side1 ?side2 ?side3 ?side4 ?side5 ?side6 A84.out).mono ?_
                       (case side1 => repeat (first | exact (Kd.C_below HR0_4.out HB.out) | (with_reducible refine Kd.C_alloc ?_ _) | (with_reducible refine Kd.C_drewN ?_ _) | (with_reducible refine Kd.C_drew ?_)))
                       (case side2 => exact HC0_4.out)
                       (case side3 => repeat (first | exact (Kd.C_below HR0_5.out HB.out) | (with_reducible refine Kd.C_alloc ?_ _) | (with_reducible refine Kd.C_drewN ?_ _) | (with_reducible refine Kd.C_drew ?_)))
                       (case side4 => exact HC0_5.out)
                       (case side5 => repeat (first | exact (Kd.C_below HR0_6.out HB.out) | (with_reducible refine Kd.C_alloc ?_ _) | (with_reducible refine Kd.C_drewN ?_ _) | (with_reducible refine Kd.C_drew ?_)))
                       (case side6 => exact HC0_6.out)
                       rintro e w97 ⟨rfl, hb⟩
                       refine ⟨_, rfl, ?_⟩
                       have n0_ := Aside0.mk (bB (g := gb268) (o := .cells #[.string a0_0, .int .i64 a0_1, .int .i64 a0_2, .int .i64 a0_3, .slice A0_4 l0_4.length c0_4, .slice A0_5 l0_5.length c0_5, .slice A0_6 l0_6.length c0_6, .int .i64 a0_7, .int .i64 a0_8, .int .i64 a0_9, .int .i64 a0_10, .int .i64 a0_11, .int .i64 a0_12, .int .i64 a0_13, .int .i64 a0_14, .int .i64 a0_15, .int .i64 a0_16, .int .i64 a0_17] 26 (0, 0)) (by (with_reducible repeat (first | refine bN ?_ _ | refine bD ?_ | refine bA ?_ _)); exact BK268.out) hb)
                       have n1_ := Aside0.mk (bB (g := gb269) (o := .cells #[.int .i64 a1_0, .int .i64 a1_1] 30 (0, 0)) (by (with_reducible repeat (first | refine bN ?_ _ | refine bD ?_ | refine bA ?_ _)); exact BK269.out) hb)
                       have n2_ := Aside0.mk (bB (g := gb270) (o := .cells #[.int .i64 a2_0, .int .i64 a2_1] 30 (0, 0)) (by (with_reducible repeat (first | refine bN ?_ _ | refine bD ?_ | refine bA ?_ _)); exact BK270.out) hb)
                       have n3_ := Aside0.mk (bB (g := gb271) (o := .cells #[.int .i64 a5_0, .int .i64 a5_1, .int .i64 a5_2, .int .i64 a5_3, .int .i64 a5_4] 32 (0, 0)) (by (with_reducible repeat (first | refine bN ?_ _ | refine bD ?_ | refine bA ?_ _)); exact BK271.out) hb)
                       have n4_ := Aside0.mk (bB (g := gb279) (o := .cells #[.int .i64 t277, .int .i64 t278] 30 (0, 0)) (by (with_reducible repeat (first | refine bN ?_ _ | refine bD ?_ | refine bA ?_ _)); exact BK279.out) hb)
                       have n5_ := Aside0.mk (bP (by repeat (first | (with_reducible first | exact HB.out | apply bL | apply bW | apply b1 | refine bS ?_ GE268.out | refine bS ?_ GE269.out | refine bS ?_ GE270.out | refine bS ?_ GE271.out | refine bS ?_ GE279.out) | exact HB.out)) hb)
                       clear BK268
                       clear BK269
                       clear BK270
                       clear BK271
                       clear BK279
                       clear HB
                       have BK268 := n0_
                       have BK269 := n1_
                       have BK270 := n2_
                       have BK271 := n3_
                       have BK279 := n4_
                       have HB := n5_
                       clear n0_ n1_ n2_ n3_ n4_ n5_
                       (try clear hb)
                       (try clear hb2)
                       (try clear hk)
                       (try clear hi)
                       refine hK.out _ _ ⟨(bC BK279.out 0).trans rfl, (bC BK279.out 1).trans rfl, (bC BK268.out 0).trans rfl, (bC BK268.out 1).trans rfl, (bC BK268.out 2).trans rfl, (bC BK268.out 3).trans rfl, (bC BK268.out 4).trans rfl, (bC BK268.out 5).trans rfl, (bC BK268.out 6).trans rfl, (bC BK268.out 7).trans rfl, (bC BK268.out 8).trans rfl, (bC BK268.out 9).trans rfl, (bC BK268.out 10).trans rfl, (bC BK268.out 11).trans rfl, (bC BK268.out 12).trans rfl, (bC BK268.out 13).trans rfl, (bC BK268.out 14).trans rfl, (bC BK268.out 15).trans rfl, (bC BK268.out 16).trans rfl, (bC BK268.out 17).trans rfl, (bC BK269.out 0).trans rfl, (bC BK269.out 1).trans rfl, (bC BK270.out 0).trans rfl, (bC BK270.out 1).trans rfl⟩ (fun hHeld => ?_)
                       clear hK K
                       refine norm_ (a' := ?_) ?_ ?_
                       rotate_left
                       ·
                        show Act.put _ (some 67) _ = _
                        simp only [Act.put, lA, lZ, lS, i64_w, i32_w]
                        rfl
                       as_aux_lemma =>
                        refine pure_ (i := 16) (N := some 70) (v := ?_) (a' := ?_) #[t_,t_,t_,t_,t_,t_,t_,t_,t_,t_,t_,t_,t_,t_,t_,t_,t_,f_,f_,f_,f_,f_,f_,f_,f_,f_,f_,f_,f_] rfl rfl (any_of HT_.out (by kernel_rfl)) (fun _ _ _ h => h) (Or.inl ⟨by rfl, ?_⟩) ?_ ?_
                        rotate_left
                        ·
                         intro w'
                         go_simp
                         with_reducible rfl
                        rotate_left
                        ·
                         simp only [Act.put, lA, lZ, lS, i64_w, i32_w]
                         rfl
                        as_aux_lemma =>
                         refine pure_ (i := 17) (N := some 71) (v := ?_) (a' := ?_) #[t_,t_,t_,t_,t_,t_,t_,t_,t_,t_,t_,t_,t_,t_,t_,t_,t_,t_,f_,f_,f_,f_,f_,f_,f_,f_,f_,f_,f_] rfl rfl (any_of HT_.out (by kernel_rfl)) (fun _ _ _ h => h) (Or.inl ⟨by rfl, ?_⟩) ?_ ?_
                         rotate_left
                         ·
                          intro w'
                          go_simp
                          with_reducible rfl
                         rotate_left
                         ·
                          simp only [Act.put, lA, lZ, lS, i64_w, i32_w]
                          rfl
                         as_aux_lemma =>
                          refine pure_ (i := 18) (N := some 72) (v := ?_) (a' := ?_) #[t_,t_,t_,t_,t_,t_,t_,t_,t_,t_,t_,t_,t_,t_,t_,t_,t_,t_,t_,f_,f_,f_,f_,f_,f_,f_,f_,f_,f_] rfl rfl (any_of HT_.out (by kernel_rfl)) (fun _ _ _ h => h) (Or.inl ⟨by rfl, ?_⟩) ?_ ?_
                          rotate_left
                          ·
                           intro w'
                           go_simp
                           with_reducible rfl
                          rotate_left
                          ·
                           simp only [Act.put, lA, lZ, lS, i64_w, i32_w]
                           rfl
                          as_aux_lemma =>
                           refine pure_ (i := 19) (N := some 73) (v := undef) (a' := ?_) #[t_,t_,t_,t_,t_,t_,t_,t_,t_,t_,t_,t_,t_,t_,t_,t_,t_,t_,t_,t_,f_,f_,f_,f_,f_,f_,f_,f_,f_] rfl rfl (any_of HT_.out (by kernel_rfl)) (fun _ _ _ h => h) (Or.inr ⟨by rfl, rfl⟩) ?_ ?_
                           rotate_left
                           ·
                            simp only [Act.put, lA, lZ, lS, i64_w, i32_w]
                            rfl
                           as_aux_lemma =>
                            refine pure_ (i := 20) (N := some 74) (v := undef) (a' := ?_) #[t_,t_,t_,t_,t_,t_,t_,t_,t_,t_,t_,t_,t_,t_,t_,t_,t_,t_,t_,t_,t_,f_,f_,f_,f_,f_,f_,f_,f_] rfl rfl (any_of HT_.out (by kernel_rfl)) (fun _ _ _ h => h) (Or.inr ⟨by rfl, rfl⟩) ?_ ?_
                            rotate_left
                            ·
                             simp only [Act.put, lA, lZ, lS, i64_w, i32_w]
                             rfl
                            as_aux_lemma =>
                             refine pure_ (i := 21) (N := some 75) (v := undef) (a' := ?_) #[t_,t_,t_,t_,t_,t_,t_,t_,t_,t_,t_,t_,t_,t_,t_,t_,t_,t_,t_,t_,t_,t_,f_,f_,f_,f_,f_,f_,f_] rfl rfl (any_of HT_.out (by kernel_rfl)) (fun _ _ _ h => h) (Or.inr ⟨by rfl, rfl⟩) ?_ ?_
                             rotate_left
                             ·
                              simp only [Act.put, lA, lZ, lS, i64_w, i32_w]
                              rfl
                             as_aux_lemma =>
                              refine pure_ (i := 22) (N := some 76) (v := undef) (a' := ?_) #[t_,t_,t_,t_,t_,t_,t_,t_,t_,t_,t_,t_,t_,t_,t_,t_,t_,t_,t_,t_,t_,t_,t_,f_,f_,f_,f_,f_,f_] rfl rfl (any_of HT_.out (by kernel_rfl)) (fun _ _ _ h => h) (Or.inr ⟨by rfl, rfl⟩) ?_ ?_
                              rotate_left
                              ·
                               simp only [Act.put, lA, lZ, lS, i64_w, i32_w]
                               rfl
                              as_aux_lemma =>
                               refine pure_ (i := 23) (N := some 77) (v := undef) (a' := ?_) #[t_,t_,t_,t_,t_,t_,t_,t_,t_,t_,t_,t_,t_,t_,t_,t_,t_,t_,t_,t_,t_,t_,t_,t_,f_,f_,f_,f_,f_] rfl rfl (any_of HT_.out (by kernel_rfl)) (fun _ _ _ h => h) (Or.inr ⟨by rfl, rfl⟩) ?_ ?_
                               rotate_left
                               ·
                                simp only [Act.put, lA, lZ, lS, i64_w, i32_w]
                                rfl
                               as_aux_lemma =>
                                refine pure_ (i := 24) (N := some 78) (v := undef) (a' := ?_) #[t_,t_,t_,t_,t_,t_,t_,t_,t_,t_,t_,t_,t_,t_,t_,t_,t_,t_,t_,t_,t_,t_,t_,t_,t_,f_,f_,f_,f_] rfl rfl (any_of HT_.out (by kernel_rfl)) (fun _ _ _ h => h) (Or.inr ⟨by rfl, rfl⟩) ?_ ?_
                                rotate_left
                                ·
                                 simp only [Act.put, lA, lZ, lS, i64_w, i32_w]
                                 rfl
                                as_aux_lemma =>
                                 refine pure_ (i := 25) (N := some 79) (v := undef) (a' := ?_) #[t_,t_,t_,t_,t_,t_,t_,t_,t_,t_,t_,t_,t_,t_,t_,t_,t_,t_,t_,t_,t_,t_,t_,t_,t_,t_,f_,f_,f_] rfl rfl (any_of HT_.out (by kernel_rfl)) (fun _ _ _ h => h) (Or.inr ⟨by rfl, rfl⟩) ?_ ?_
                                 rotate_left
                                 ·
                                  simp only [Act.put, lA, lZ, lS, i64_w, i32_w]
                                  rfl
                                 as_aux_lemma =>
                                  refine pure_ (i := 26) (N := some 80) (v := undef) (a' := ?_) #[t_,t_,t_,t_,t_,t_,t_,t_,t_,t_,t_,t_,t_,t_,t_,t_,t_,t_,t_,t_,t_,t_,t_,t_,t_,t_,t_,f_,f_] rfl rfl (any_of HT_.out (by kernel_rfl)) (fun _ _ _ h => h) (Or.inr ⟨by rfl, rfl⟩) ?_ ?_
                                  rotate_left
                                  ·
                                   simp only [Act.put, lA, lZ, lS, i64_w, i32_w]
                                   rfl
                                  as_aux_lemma =>
                                   refine pure_ (i := 27) (N := some 81) (v := undef) (a' := ?_) #[t_,t_,t_,t_,t_,t_,t_,t_,t_,t_,t_,t_,t_,t_,t_,t_,t_,t_,t_,t_,t_,t_,t_,t_,t_,t_,t_,t_,f_] rfl rfl (any_of HT_.out (by kernel_rfl)) (fun _ _ _ h => h) (Or.inr ⟨by rfl, rfl⟩) ?_ ?_
                                   rotate_left
                                   ·
                                    simp only [Act.put, lA, lZ, lS, i64_w, i32_w]
                                    rfl
                                   as_aux_lemma =>
                                    refine pure_ (i := 28) (N := some 82) (v := ?_) (a' := ?_) #[t_,t_,t_,t_,t_,t_,t_,t_,t_,t_,t_,t_,t_,t_,t_,t_,t_,t_,t_,t_,t_,t_,t_,t_,t_,t_,t_,t_,t_] rfl rfl (any_of HT_.out (by kernel_rfl)) (fun _ _ _ h => h) (Or.inl ⟨by rfl, ?_⟩) ?_ ?_
                                    rotate_left
                                    ·
                                     intro w'
                                     go_simp
                                     with_reducible rfl
                                    rotate_left
                                    ·
                                     simp only [Act.put, lA, lZ, lS, i64_w, i32_w]
                                     rfl
                                    refine done_ (done_of HT_.out (by kernel_rfl)) ?_
                                    try go_wp2
                                    go_meet
                                    case rel => exact ⟨_, (true), (by first | rfl | (simp; done) | (simp [*]; done)), H', ⟨by have := HJ8.out; first | omega | exact Nat.le_refl _⟩, ⟨by (with_reducible repeat (first | refine bN ?_ _ | refine bD ?_ | refine bA ?_ _)); exact BK268.out⟩, ⟨by (with_reducible repeat (first | refine bN ?_ _ | refine bD ?_ | refine bA ?_ _)); exact BK269.out⟩, ⟨by (with_reducible repeat (first | refine bN ?_ _ | refine bD ?_ | refine bA ?_ _)); exact BK270.out⟩, ⟨by (with_reducible repeat (first | refine bN ?_ _ | refine bD ?_ | refine bA ?_ _)); exact BK271.out⟩, ⟨by (with_reducible repeat (first | refine bN ?_ _ | refine bD ?_ | refine bA ?_ _)); exact BK279.out⟩, ⟨by repeat (first | (with_reducible first | exact HB.out | apply bL | apply bW | apply b1 | refine bS ?_ GE268.out | refine bS ?_ GE269.out | refine bS ?_ GE270.out | refine bS ?_ GE271.out | refine bS ?_ GE279.out) | exact HB.out)⟩⟩
     ·
      replace c83 := Bool.eq_false_iff.mpr c83
      subst c83
      have H1 : (bournelaw20_SeepEncloses.j1 kj8 t275 a6 t272 true a0_0 a0_1 a0_2 a0_3 l0_4 l0_5 l0_6 a0_7 a0_8 a0_9 a0_10 a0_11 a0_12 a0_13 a0_14 a0_15 a0_16 a0_17 a1_0 a1_1 a5_0 a5_1 a5_2 a5_3 a5_4) = some r := by rw [if_neg (show ¬ (false = true) by decide)] at H; exact H
      clear H
      have H := H1
      clear H1
      have H' := Aside0.mk H
      clear H
      try go_wp2
      have n0_ : Aside0 (((w75.setCell ⟨gb279, 0, none⟩ (.int .i64 t277)).setCell ⟨gb279, 1, none⟩ (.int .i64 t278)).heap[gb268]? = some (.cells #[.string a0_0, .int .i64 a0_1, .int .i64 a0_2, .int .i64 a0_3, .slice A0_4 l0_4.length c0_4, .slice A0_5 l0_5.length c0_5, .slice A0_6 l0_6.length c0_6, .int .i64 a0_7, .int .i64 a0_8, .int .i64 a0_9, .int .i64 a0_10, .int .i64 a0_11, .int .i64 a0_12, .int .i64 a0_13, .int .i64 a0_14, .int .i64 a0_15, .int .i64 a0_16, .int .i64 a0_17] 26 (0, 0))) := ⟨by (with_reducible repeat (first | refine bN ?_ _ | refine bD ?_ | refine bA ?_ _)); refine bR ?_ NB268_279.out _; (with_reducible repeat (first | refine bN ?_ _ | refine bD ?_ | refine bA ?_ _)); refine bR ?_ NB268_279.out _; (with_reducible repeat (first | refine bN ?_ _ | refine bD ?_ | refine bA ?_ _)); exact BK268.out⟩
      have n1_ : Aside0 (((w75.setCell ⟨gb279, 0, none⟩ (.int .i64 t277)).setCell ⟨gb279, 1, none⟩ (.int .i64 t278)).heap[gb269]? = some (.cells #[.int .i64 a1_0, .int .i64 a1_1] 30 (0, 0))) := ⟨by (with_reducible repeat (first | refine bN ?_ _ | refine bD ?_ | refine bA ?_ _)); refine bR ?_ NB269_279.out _; (with_reducible repeat (first | refine bN ?_ _ | refine bD ?_ | refine bA ?_ _)); refine bR ?_ NB269_279.out _; (with_reducible repeat (first | refine bN ?_ _ | refine bD ?_ | refine bA ?_ _)); exact BK269.out⟩
      have n2_ : Aside0 (((w75.setCell ⟨gb279, 0, none⟩ (.int .i64 t277)).setCell ⟨gb279, 1, none⟩ (.int .i64 t278)).heap[gb270]? = some (.cells #[.int .i64 a2_0, .int .i64 a2_1] 30 (0, 0))) := ⟨by (with_reducible repeat (first | refine bN ?_ _ | refine bD ?_ | refine bA ?_ _)); refine bR ?_ NB270_279.out _; (with_reducible repeat (first | refine bN ?_ _ | refine bD ?_ | refine bA ?_ _)); refine bR ?_ NB270_279.out _; (with_reducible repeat (first | refine bN ?_ _ | refine bD ?_ | refine bA ?_ _)); exact BK270.out⟩
      have n3_ : Aside0 (((w75.setCell ⟨gb279, 0, none⟩ (.int .i64 t277)).setCell ⟨gb279, 1, none⟩ (.int .i64 t278)).heap[gb271]? = some (.cells #[.int .i64 a5_0, .int .i64 a5_1, .int .i64 a5_2, .int .i64 a5_3, .int .i64 a5_4] 32 (0, 0))) := ⟨by (with_reducible repeat (first | refine bN ?_ _ | refine bD ?_ | refine bA ?_ _)); refine bR ?_ NB271_279.out _; (with_reducible repeat (first | refine bN ?_ _ | refine bD ?_ | refine bA ?_ _)); refine bR ?_ NB271_279.out _; (with_reducible repeat (first | refine bN ?_ _ | refine bD ?_ | refine bA ?_ _)); exact BK271.out⟩
      have n4_ : Aside0 (((w75.setCell ⟨gb279, 0, none⟩ (.int .i64 t277)).setCell ⟨gb279, 1, none⟩ (.int .i64 t278)).heap[gb279]? = some (.cells #[.int .i64 t277, .int .i64 t278] 30 (0, 0))) := ⟨by (with_reducible repeat (first | refine bN ?_ _ | refine bD ?_ | refine bA ?_ _)); refine bU (cs := #[.int .i64 t277, .int .i64 0]) ?_ 1 _ rfl; (with_reducible repeat (first | refine bN ?_ _ | refine bD ?_ | refine bA ?_ _)); refine bU (cs := #[.int .i64 0, .int .i64 0]) ?_ 0 _ rfl; (with_reducible repeat (first | refine bN ?_ _ | refine bD ?_ | refine bA ?_ _)); exact BK279.out⟩
      have n5_ : Aside0 (Below w.heap.size w ((w75.setCell ⟨gb279, 0, none⟩ (.int .i64 t277)).setCell ⟨gb279, 1, none⟩ (.int .i64 t278))) := ⟨by repeat (first | (with_reducible first | exact HB.out | apply bL | apply bW | apply b1 | refine bS ?_ GE268.out | refine bS ?_ GE269.out | refine bS ?_ GE270.out | refine bS ?_ GE271.out | refine bS ?_ GE279.out) | exact HB.out)⟩
      (try clear BK268)
      (try clear BK269)
      (try clear BK270)
      (try clear BK271)
      (try clear BK279)
      (try clear HB)
      generalize ((w75.setCell ⟨gb279, 0, none⟩ (.int .i64 t277)).setCell ⟨gb279, 1, none⟩ (.int .i64 t278)) = w98 at n0_ n1_ n2_ n3_ n4_ n5_ ⊢
      have BK268 := n0_
      have BK269 := n1_
      have BK270 := n2_
      have BK271 := n3_
      have BK279 := n4_
      have HB := n5_
      clear n0_ n1_ n2_ n3_ n4_ n5_
      have n0_ := Aside0.mk (bD BK268.out)
      have n1_ := Aside0.mk (bD BK269.out)
      have n2_ := Aside0.mk (bD BK270.out)
      have n3_ := Aside0.mk (bD BK271.out)
      have n4_ := Aside0.mk (bD BK279.out)
      have n5_ := Aside0.mk (b1 HB.out)
      clear BK268
      clear BK269
      clear BK270
      clear BK271
      clear BK279
      clear HB
      have BK268 := n0_
      have BK269 := n1_
      have BK270 := n2_
      have BK271 := n3_
      have BK279 := n4_
      have HB := n5_
      clear n0_ n1_ n2_ n3_ n4_ n5_
      refine start_ (n := 29) (S := fun w' => w'.cell? ⟨gb279, 0, none⟩ = some (.int .i64 t277) ∧ w'.cell? ⟨gb279, 1, none⟩ = some (.int .i64 t278) ∧ w'.cell? ⟨gb268, 0, none⟩ = some (.string a0_0) ∧ w'.cell? ⟨gb268, 1, none⟩ = some (.int .i64 a0_1) ∧ w'.cell? ⟨gb268, 2, none⟩ = some (.int .i64 a0_2) ∧ w'.cell? ⟨gb268, 3, none⟩ = some (.int .i64 a0_3) ∧ w'.cell? ⟨gb268, 4, none⟩ = some (.slice A0_4 l0_4.length c0_4) ∧ w'.cell? ⟨gb268, 5, none⟩ = some (.slice A0_5 l0_5.length c0_5) ∧ w'.cell? ⟨gb268, 6, none⟩ = some (.slice A0_6 l0_6.length c0_6) ∧ w'.cell? ⟨gb268, 7, none⟩ = some (.int .i64 a0_7) ∧ w'.cell? ⟨gb268, 8, none⟩ = some (.int .i64 a0_8) ∧ w'.cell? ⟨gb268, 9, none⟩ = some (.int .i64 a0_9) ∧ w'.cell? ⟨gb268, 10, none⟩ = some (.int .i64 a0_10) ∧ w'.cell? ⟨gb268, 11, none⟩ = some (.int .i64 a0_11) ∧ w'.cell? ⟨gb268, 12, none⟩ = some (.int .i64 a0_12) ∧ w'.cell? ⟨gb268, 13, none⟩ = some (.int .i64 a0_13) ∧ w'.cell? ⟨gb268, 14, none⟩ = some (.int .i64 a0_14) ∧ w'.cell? ⟨gb268, 15, none⟩ = some (.int .i64 a0_15) ∧ w'.cell? ⟨gb268, 16, none⟩ = some (.int .i64 a0_16) ∧ w'.cell? ⟨gb268, 17, none⟩ = some (.int .i64 a0_17)) (ds := []) #[f_,f_,f_,f_,f_,f_,f_,f_,f_,f_,f_,f_,f_,f_,f_,f_,f_,f_,f_,f_,f_,f_,f_,f_,f_,f_,f_,f_,f_] (by kernel_rfl) rfl rfl ⟨(bC BK279.out 0).trans rfl, (bC BK279.out 1).trans rfl, (bC BK268.out 0).trans rfl, (bC BK268.out 1).trans rfl, (bC BK268.out 2).trans rfl, (bC BK268.out 3).trans rfl, (bC BK268.out 4).trans rfl, (bC BK268.out 5).trans rfl, (bC BK268.out 6).trans rfl, (bC BK268.out 7).trans rfl, (bC BK268.out 8).trans rfl, (bC BK268.out 9).trans rfl, (bC BK268.out 10).trans rfl, (bC BK268.out 11).trans rfl, (bC BK268.out 12).trans rfl, (bC BK268.out 13).trans rfl, (bC BK268.out 14).trans rfl, (bC BK268.out 15).trans rfl, (bC BK268.out 16).trans rfl, (bC BK268.out 17).trans rfl⟩ (fun hHeld => ?_); refine with_tabW bournelaw20_SeepEncloses.tab7 bournelaw20_SeepEncloses.bits7 (fun HT_ HW_ => ?_)
      generalize w98.drew = w99 at BK268 BK269 BK270 BK271 BK279 HB hHeld ⊢
      as_aux_lemma =>
       refine pure_ (i := 2) (N := some 56) (v := ?_) (a' := ?_) #[f_,f_,t_,f_,f_,f_,f_,f_,f_,f_,f_,f_,f_,f_,f_,f_,f_,f_,f_,f_,f_,f_,f_,f_,f_,f_,f_,f_,f_] rfl rfl (any_of HT_.out (by kernel_rfl)) (fun _ _ _ h => h) (Or.inl ⟨by rfl, ?_⟩) ?_ ?_
       rotate_left
       ·
        intro w'
        go_simp
        with_reducible rfl
       rotate_left
       ·
        simp only [Act.put, lA, lZ, lS, i64_w, i32_w]
        rfl
       as_aux_lemma =>
        refine pure_ (i := 3) (N := some 57) (v := ?_) (a' := ?_) #[f_,f_,t_,t_,f_,f_,f_,f_,f_,f_,f_,f_,f_,f_,f_,f_,f_,f_,f_,f_,f_,f_,f_,f_,f_,f_,f_,f_,f_] rfl rfl (any_of HT_.out (by kernel_rfl)) (fun _ _ _ h => h) (Or.inl ⟨by rfl, ?_⟩) ?_ ?_
        rotate_left
        ·
         intro w'
         go_simp
         with_reducible rfl
        rotate_left
        ·
         simp only [Act.put, lA, lZ, lS, i64_w, i32_w]
         rfl
        as_aux_lemma =>
         refine take_ (i := 0) (N := some 54) (v := ?_) (a' := ?_) #[t_,f_,t_,t_,f_,f_,f_,f_,f_,f_,f_,f_,f_,f_,f_,f_,f_,f_,f_,f_,f_,f_,f_,f_,f_,f_,f_,f_,f_] rfl rfl (take_ofW HT_.out HW_.out (by kernel_rfl)) (fun _ _ _ h => h) (Or.inl ⟨by rfl, ?_⟩) hHeld ?_ ?_
         rotate_left
         ·
          rintro w' ⟨s0, s1, s2, s3, s4, s5, s6, s7, s8, s9, s10, s11, s12, s13, s14, s15, s16, s17, s18, s19⟩
          first | (refine (load18 (by rfl) (by rfl) hu26 rfl hi26 s2 s3 s4 s5 s6 s7 s8 s9 s10 s11 s12 s13 s14 s15 s16 s17 s18 s19).trans ?_; with_reducible rfl) | (go_simp; with_reducible rfl)
         rotate_left
         ·
          simp only [Act.put, lA, lZ, lS, i64_w, i32_w]
          rfl
         as_aux_lemma =>
          refine take_ (i := 1) (N := some 55) (v := ?_) (a' := ?_) #[t_,t_,t_,t_,f_,f_,f_,f_,f_,f_,f_,f_,f_,f_,f_,f_,f_,f_,f_,f_,f_,f_,f_,f_,f_,f_,f_,f_,f_] rfl rfl (take_ofW HT_.out HW_.out (by kernel_rfl)) (fun _ _ _ h => h) (Or.inl ⟨by rfl, ?_⟩) hHeld ?_ ?_
          rotate_left
          ·
           rintro w' ⟨s0, s1, s2, s3, s4, s5, s6, s7, s8, s9, s10, s11, s12, s13, s14, s15, s16, s17, s18, s19⟩
           first | (refine (load18 (by rfl) (by rfl) hu26 rfl hi26 s2 s3 s4 s5 s6 s7 s8 s9 s10 s11 s12 s13 s14 s15 s16 s17 s18 s19).trans ?_; with_reducible rfl) | (go_simp; with_reducible rfl)
          rotate_left
          ·
           simp only [Act.put, lA, lZ, lS, i64_w, i32_w]
           rfl
          as_aux_lemma =>
           refine one_ (i := 4) (N := some 58) #[t_,t_,t_,t_,t_,f_,f_,f_,f_,f_,f_,f_,f_,f_,f_,f_,f_,f_,f_,f_,f_,f_,f_,f_,f_,f_,f_,f_,f_] rfl rfl (one_of HT_.out (by kernel_rfl)) (by decide) (fun K hK => ?_)
           refine goes_ Try.func10 (by kernel_rfl) rfl #[.agg #[.string a0_0, .int .i64 a0_1, .int .i64 a0_2, .int .i64 a0_3, .slice A0_4 l0_4.length c0_4, .slice A0_5 l0_5.length c0_5, .slice A0_6 l0_6.length c0_6, .int .i64 a0_7, .int .i64 a0_8, .int .i64 a0_9, .int .i64 a0_10, .int .i64 a0_11, .int .i64 a0_12, .int .i64 a0_13, .int .i64 a0_14, .int .i64 a0_15, .int .i64 a0_16, .int .i64 a0_17], .int .i64 t275, .int .i64 t276] (by rfl) rfl rfl (by (try simp only [List.map_toArray, List.map_cons, List.map_nil]); first | done | rfl | (simp only [List.length_drop, List.length_take]; rfl)) ?_
           with_reducible refine (seep_Ask.calls kj8 a0_0 a0_1 a0_2 a0_3 _ _ l0_4 _ _ l0_5 _ _ l0_6 a0_7 a0_8 a0_9 a0_10 a0_11 a0_12 a0_13 a0_14 a0_15 a0_16 a0_17 t275 t276 t280 _ ?side1 ?side2 ?side3 ?side4 ?side5 ?side6 A81.out).mono ?_
           (case side1 => repeat (first | exact (Kd.C_below HR0_4.out HB.out) | (with_reducible refine Kd.C_alloc ?_ _) | (with_reducible refine Kd.C_drewN ?_ _) | (with_reducible refine Kd.C_drew ?_)))
           (case side2 => exact HC0_4.out)
           (case side3 => repeat (first | exact (Kd.C_below HR0_5.out HB.out) | (with_reducible refine Kd.C_alloc ?_ _) | (with_reducible refine Kd.C_drewN ?_ _) | (with_reducible refine Kd.C_drew ?_)))
           (case side4 => exact HC0_5.out)
           (case side5 => repeat (first | exact (Kd.C_below HR0_6.out HB.out) | (with_reducible refine Kd.C_alloc ?_ _) | (with_reducible refine Kd.C_drewN ?_ _) | (with_reducible refine Kd.C_drew ?_)))
           (case side6 => exact HC0_6.out)
           rintro e w100 ⟨rfl, hb⟩
           refine ⟨_, rfl, ?_⟩
           have n0_ := Aside0.mk (bB (g := gb268) (o := .cells #[.string a0_0, .int .i64 a0_1, .int .i64 a0_2, .int .i64 a0_3, .slice A0_4 l0_4.length c0_4, .slice A0_5 l0_5.length c0_5, .slice A0_6 l0_6.length c0_6, .int .i64 a0_7, .int .i64 a0_8, .int .i64 a0_9, .int .i64 a0_10, .int .i64 a0_11, .int .i64 a0_12, .int .i64 a0_13, .int .i64 a0_14, .int .i64 a0_15, .int .i64 a0_16, .int .i64 a0_17] 26 (0, 0)) (by (with_reducible repeat (first | refine bN ?_ _ | refine bD ?_ | refine bA ?_ _)); exact BK268.out) hb)
           have n1_ := Aside0.mk (bB (g := gb269) (o := .cells #[.int .i64 a1_0, .int .i64 a1_1] 30 (0, 0)) (by (with_reducible repeat (first | refine bN ?_ _ | refine bD ?_ | refine bA ?_ _)); exact BK269.out) hb)
           have n2_ := Aside0.mk (bB (g := gb270) (o := .cells #[.int .i64 a2_0, .int .i64 a2_1] 30 (0, 0)) (by (with_reducible repeat (first | refine bN ?_ _ | refine bD ?_ | refine bA ?_ _)); exact BK270.out) hb)
           have n3_ := Aside0.mk (bB (g := gb271) (o := .cells #[.int .i64 a5_0, .int .i64 a5_1, .int .i64 a5_2, .int .i64 a5_3, .int .i64 a5_4] 32 (0, 0)) (by (with_reducible repeat (first | refine bN ?_ _ | refine bD ?_ | refine bA ?_ _)); exact BK271.out) hb)
           have n4_ := Aside0.mk (bB (g := gb279) (o := .cells #[.int .i64 t277, .int .i64 t278] 30 (0, 0)) (by (with_reducible repeat (first | refine bN ?_ _ | refine bD ?_ | refine bA ?_ _)); exact BK279.out) hb)
           have n5_ := Aside0.mk (bP (by repeat (first | (with_reducible first | exact HB.out | apply bL | apply bW | apply b1 | refine bS ?_ GE268.out | refine bS ?_ GE269.out | refine bS ?_ GE270.out | refine bS ?_ GE271.out | refine bS ?_ GE279.out) | exact HB.out)) hb)
           clear BK268
           clear BK269
           clear BK270
           clear BK271
           clear BK279
           clear HB
           have BK268 := n0_
           have BK269 := n1_
           have BK270 := n2_
           have BK271 := n3_
           have BK279 := n4_
           have HB := n5_
           clear n0_ n1_ n2_ n3_ n4_ n5_
           (try clear hb)
           (try clear hb2)
           (try clear hk)
           (try clear hi)
           refine hK.out _ _ ⟨(bC BK279.out 0).trans rfl, (bC BK279.out 1).trans rfl, (bC BK268.out 0).trans rfl, (bC BK268.out 1).trans rfl, (bC BK268.out 2).trans rfl, (bC BK268.out 3).trans rfl, (bC BK268.out 4).trans rfl, (bC BK268.out 5).trans rfl, (bC BK268.out 6).trans rfl, (bC BK268.out 7).trans rfl, (bC BK268.out 8).trans rfl, (bC BK268.out 9).trans rfl, (bC BK268.out 10).trans rfl, (bC BK268.out 11).trans rfl, (bC BK268.out 12).trans rfl, (bC BK268.out 13).trans rfl, (bC BK268.out 14).trans rfl, (bC BK268.out 15).trans rfl, (bC BK268.out 16).trans rfl, (bC BK268.out 17).trans rfl⟩ (fun hHeld => ?_)
           clear hK K
           refine norm_ (a' := ?_) ?_ ?_
           rotate_left
           ·
            show Act.put _ (some 58) _ = _
            simp only [Act.put, lA, lZ, lS, i64_w, i32_w]
            rfl
           as_aux_lemma =>
            refine one_ (i := 5) (N := some 59) #[t_,t_,t_,t_,t_,t_,f_,f_,f_,f_,f_,f_,f_,f_,f_,f_,f_,f_,f_,f_,f_,f_,f_,f_,f_,f_,f_,f_,f_] rfl rfl (one_of HT_.out (by kernel_rfl)) (by decide) (fun K hK => ?_)
            refine goes_ Try.func22 (by kernel_rfl) rfl #[.agg #[.int .i64 t277, .int .i64 t278], .int .i64 t280] (by rfl) rfl rfl (by (try simp only [List.map_toArray, List.map_cons, List.map_nil]); first | done | rfl | (simp only [List.length_drop, List.length_take]; rfl)) ?_
            with_reducible refine (span_Has.calls t277 t278 t280 false _ A82.out).mono ?_
            rintro e w101 ⟨rfl, hb⟩
            refine ⟨_, rfl, ?_⟩
            have n0_ := Aside0.mk (bB (g := gb268) (o := .cells #[.string a0_0, .int .i64 a0_1, .int .i64 a0_2, .int .i64 a0_3, .slice A0_4 l0_4.length c0_4, .slice A0_5 l0_5.length c0_5, .slice A0_6 l0_6.length c0_6, .int .i64 a0_7, .int .i64 a0_8, .int .i64 a0_9, .int .i64 a0_10, .int .i64 a0_11, .int .i64 a0_12, .int .i64 a0_13, .int .i64 a0_14, .int .i64 a0_15, .int .i64 a0_16, .int .i64 a0_17] 26 (0, 0)) (by (with_reducible repeat (first | refine bN ?_ _ | refine bD ?_ | refine bA ?_ _)); exact BK268.out) hb)
            have n1_ := Aside0.mk (bB (g := gb269) (o := .cells #[.int .i64 a1_0, .int .i64 a1_1] 30 (0, 0)) (by (with_reducible repeat (first | refine bN ?_ _ | refine bD ?_ | refine bA ?_ _)); exact BK269.out) hb)
            have n2_ := Aside0.mk (bB (g := gb270) (o := .cells #[.int .i64 a2_0, .int .i64 a2_1] 30 (0, 0)) (by (with_reducible repeat (first | refine bN ?_ _ | refine bD ?_ | refine bA ?_ _)); exact BK270.out) hb)
            have n3_ := Aside0.mk (bB (g := gb271) (o := .cells #[.int .i64 a5_0, .int .i64 a5_1, .int .i64 a5_2, .int .i64 a5_3, .int .i64 a5_4] 32 (0, 0)) (by (with_reducible repeat (first | refine bN ?_ _ | refine bD ?_ | refine bA ?_ _)); exact BK271.out) hb)
            have n4_ := Aside0.mk (bB (g := gb279) (o := .cells #[.int .i64 t277, .int .i64 t278] 30 (0, 0)) (by (with_reducible repeat (first | refine bN ?_ _ | refine bD ?_ | refine bA ?_ _)); exact BK279.out) hb)
            have n5_ := Aside0.mk (bP (by repeat (first | (with_reducible first | exact HB.out | apply bL | apply bW | apply b1 | refine bS ?_ GE268.out | refine bS ?_ GE269.out | refine bS ?_ GE270.out | refine bS ?_ GE271.out | refine bS ?_ GE279.out) | exact HB.out)) hb)
            clear BK268
            clear BK269
            clear BK270
            clear BK271
            clear BK279
            clear HB
            have BK268 := n0_
            have BK269 := n1_
            have BK270 := n2_
            have BK271 := n3_
            have BK279 := n4_
            have HB := n5_
            clear n0_ n1_ n2_ n3_ n4_ n5_
            (try clear hb)
            (try clear hb2)
            (try clear hk)
            (try clear hi)
            refine hK.out _ _ ⟨(bC BK279.out 0).trans rfl, (bC BK279.out 1).trans rfl, (bC BK268.out 0).trans rfl, (bC BK268.out 1).trans rfl, (bC BK268.out 2).trans rfl, (bC BK268.out 3).trans rfl, (bC BK268.out 4).trans rfl, (bC BK268.out 5).trans rfl, (bC BK268.out 6).trans rfl, (bC BK268.out 7).trans rfl, (bC BK268.out 8).trans rfl, (bC BK268.out 9).trans rfl, (bC BK268.out 10).trans rfl, (bC BK268.out 11).trans rfl, (bC BK268.out 12).trans rfl, (bC BK268.out 13).trans rfl, (bC BK268.out 14).trans rfl, (bC BK268.out 15).trans rfl, (bC BK268.out 16).trans rfl, (bC BK268.out 17).trans rfl⟩ (fun hHeld => ?_)
            clear hK K
            refine norm_ (a' := ?_) ?_ ?_
            rotate_left
            ·
             show Act.put _ (some 59) _ = _
             simp only [Act.put, lA, lZ, lS, i64_w, i32_w]
             rfl
            as_aux_lemma =>
             refine pure_ (i := 6) (N := some 60) (v := ?_) (a' := ?_) #[t_,t_,t_,t_,t_,t_,t_,f_,f_,f_,f_,f_,f_,f_,f_,f_,f_,f_,f_,f_,f_,f_,f_,f_,f_,f_,f_,f_,f_] rfl rfl (any_of HT_.out (by kernel_rfl)) (fun _ _ _ h => h) (Or.inl ⟨by rfl, ?_⟩) ?_ ?_
             rotate_left
             ·
              intro w'
              go_simp
              with_reducible rfl
             rotate_left
             ·
              simp only [Act.put, lA, lZ, lS, i64_w, i32_w]
              rfl
             as_aux_lemma =>
              refine pure_ (i := 7) (N := some 61) (v := ?_) (a' := ?_) #[t_,t_,t_,t_,t_,t_,t_,t_,f_,f_,f_,f_,f_,f_,f_,f_,f_,f_,f_,f_,f_,f_,f_,f_,f_,f_,f_,f_,f_] rfl rfl (any_of HT_.out (by kernel_rfl)) (fun _ _ _ h => h) (Or.inl ⟨by rfl, ?_⟩) ?_ ?_
              rotate_left
              ·
               intro w'
               go_simp
               with_reducible rfl
              rotate_left
              ·
               simp only [Act.put, lA, lZ, lS, i64_w, i32_w]
               rfl
              as_aux_lemma =>
               refine pure_ (i := 8) (N := some 62) (v := undef) (a' := ?_) #[t_,t_,t_,t_,t_,t_,t_,t_,t_,f_,f_,f_,f_,f_,f_,f_,f_,f_,f_,f_,f_,f_,f_,f_,f_,f_,f_,f_,f_] rfl rfl (any_of HT_.out (by kernel_rfl)) (fun _ _ _ h => h) (Or.inr ⟨by rfl, rfl⟩) ?_ ?_
               rotate_left
               ·
                simp only [Act.put, lA, lZ, lS, i64_w, i32_w]
                rfl
               as_aux_lemma =>
                refine pure_ (i := 9) (N := some 63) (v := undef) (a' := ?_) #[t_,t_,t_,t_,t_,t_,t_,t_,t_,t_,f_,f_,f_,f_,f_,f_,f_,f_,f_,f_,f_,f_,f_,f_,f_,f_,f_,f_,f_] rfl rfl (any_of HT_.out (by kernel_rfl)) (fun _ _ _ h => h) (Or.inr ⟨by rfl, rfl⟩) ?_ ?_
                rotate_left
                ·
                 simp only [Act.put, lA, lZ, lS, i64_w, i32_w]
                 rfl
                as_aux_lemma =>
                 refine pure_ (i := 10) (N := some 64) (v := undef) (a' := ?_) #[t_,t_,t_,t_,t_,t_,t_,t_,t_,t_,t_,f_,f_,f_,f_,f_,f_,f_,f_,f_,f_,f_,f_,f_,f_,f_,f_,f_,f_] rfl rfl (any_of HT_.out (by kernel_rfl)) (fun _ _ _ h => h) (Or.inr ⟨by rfl, rfl⟩) ?_ ?_
                 rotate_left
                 ·
                  simp only [Act.put, lA, lZ, lS, i64_w, i32_w]
                  rfl
                 as_aux_lemma =>
                  refine pure_ (i := 11) (N := some 65) (v := undef) (a' := ?_) #[t_,t_,t_,t_,t_,t_,t_,t_,t_,t_,t_,t_,f_,f_,f_,f_,f_,f_,f_,f_,f_,f_,f_,f_,f_,f_,f_,f_,f_] rfl rfl (any_of HT_.out (by kernel_rfl)) (fun _ _ _ h => h) (Or.inr ⟨by rfl, rfl⟩) ?_ ?_
                  rotate_left
                  ·
                   simp only [Act.put, lA, lZ, lS, i64_w, i32_w]
                   rfl
                  as_aux_lemma =>
                   refine pure_ (i := 12) (N := some 66) (v := undef) (a' := ?_) #[t_,t_,t_,t_,t_,t_,t_,t_,t_,t_,t_,t_,t_,f_,f_,f_,f_,f_,f_,f_,f_,f_,f_,f_,f_,f_,f_,f_,f_] rfl rfl (any_of HT_.out (by kernel_rfl)) (fun _ _ _ h => h) (Or.inr ⟨by rfl, rfl⟩) ?_ ?_
                   rotate_left
                   ·
                    simp only [Act.put, lA, lZ, lS, i64_w, i32_w]
                    rfl
                   as_aux_lemma =>
                    refine pure_ (i := 13) (N := some 67) (v := undef) (a' := ?_) #[t_,t_,t_,t_,t_,t_,t_,t_,t_,t_,t_,t_,t_,t_,f_,f_,f_,f_,f_,f_,f_,f_,f_,f_,f_,f_,f_,f_,f_] rfl rfl (any_of HT_.out (by kernel_rfl)) (fun _ _ _ h => h) (Or.inr ⟨by rfl, rfl⟩) ?_ ?_
                    rotate_left
                    ·
                     simp only [Act.put, lA, lZ, lS, i64_w, i32_w]
                     rfl
                    as_aux_lemma =>
                     refine pure_ (i := 14) (N := some 68) (v := undef) (a' := ?_) #[t_,t_,t_,t_,t_,t_,t_,t_,t_,t_,t_,t_,t_,t_,t_,f_,f_,f_,f_,f_,f_,f_,f_,f_,f_,f_,f_,f_,f_] rfl rfl (any_of HT_.out (by kernel_rfl)) (fun _ _ _ h => h) (Or.inr ⟨by rfl, rfl⟩) ?_ ?_
                     rotate_left
                     ·
                      simp only [Act.put, lA, lZ, lS, i64_w, i32_w]
                      rfl
                     as_aux_lemma =>
                      refine pure_ (i := 15) (N := some 69) (v := undef) (a' := ?_) #[t_,t_,t_,t_,t_,t_,t_,t_,t_,t_,t_,t_,t_,t_,t_,t_,f_,f_,f_,f_,f_,f_,f_,f_,f_,f_,f_,f_,f_] rfl rfl (any_of HT_.out (by kernel_rfl)) (fun _ _ _ h => h) (Or.inr ⟨by rfl, rfl⟩) ?_ ?_
                      rotate_left
                      ·
                       simp only [Act.put, lA, lZ, lS, i64_w, i32_w]
                       rfl
                      as_aux_lemma =>
                       refine pure_ (i := 16) (N := some 70) (v := undef) (a' := ?_) #[t_,t_,t_,t_,t_,t_,t_,t_,t_,t_,t_,t_,t_,t_,t_,t_,t_,f_,f_,f_,f_,f_,f_,f_,f_,f_,f_,f_,f_] rfl rfl (any_of HT_.out (by kernel_rfl)) (fun _ _ _ h => h) (Or.inr ⟨by rfl, rfl⟩) ?_ ?_
                       rotate_left
                       ·
                        simp only [Act.put, lA, lZ, lS, i64_w, i32_w]
                        rfl
                       as_aux_lemma =>
                        refine pure_ (i := 17) (N := some 71) (v := ?_) (a' := ?_) #[t_,t_,t_,t_,t_,t_,t_,t_,t_,t_,t_,t_,t_,t_,t_,t_,t_,t_,f_,f_,f_,f_,f_,f_,f_,f_,f_,f_,f_] rfl rfl (any_of HT_.out (by kernel_rfl)) (fun _ _ _ h => h) (Or.inl ⟨by rfl, ?_⟩) ?_ ?_
                        rotate_left
                        ·
                         intro w'
                         go_simp
                         with_reducible rfl
                        rotate_left
                        ·
                         simp only [Act.put, lA, lZ, lS, i64_w, i32_w]
                         rfl
                        as_aux_lemma =>
                         refine pure_ (i := 18) (N := some 72) (v := ?_) (a' := ?_) #[t_,t_,t_,t_,t_,t_,t_,t_,t_,t_,t_,t_,t_,t_,t_,t_,t_,t_,t_,f_,f_,f_,f_,f_,f_,f_,f_,f_,f_] rfl rfl (any_of HT_.out (by kernel_rfl)) (fun _ _ _ h => h) (Or.inl ⟨by rfl, ?_⟩) ?_ ?_
                         rotate_left
                         ·
                          intro w'
                          go_simp
                          with_reducible rfl
                         rotate_left
                         ·
                          simp only [Act.put, lA, lZ, lS, i64_w, i32_w]
                          rfl
                         as_aux_lemma =>
                          refine pure_ (i := 19) (N := some 73) (v := undef) (a' := ?_) #[t_,t_,t_,t_,t_,t_,t_,t_,t_,t_,t_,t_,t_,t_,t_,t_,t_,t_,t_,t_,f_,f_,f_,f_,f_,f_,f_,f_,f_] rfl rfl (any_of HT_.out (by kernel_rfl)) (fun _ _ _ h => h) (Or.inr ⟨by rfl, rfl⟩) ?_ ?_
                          rotate_left
                          ·
                           simp only [Act.put, lA, lZ, lS, i64_w, i32_w]
                           rfl
                          as_aux_lemma =>
                           refine pure_ (i := 20) (N := some 74) (v := undef) (a' := ?_) #[t_,t_,t_,t_,t_,t_,t_,t_,t_,t_,t_,t_,t_,t_,t_,t_,t_,t_,t_,t_,t_,f_,f_,f_,f_,f_,f_,f_,f_] rfl rfl (any_of HT_.out (by kernel_rfl)) (fun _ _ _ h => h) (Or.inr ⟨by rfl, rfl⟩) ?_ ?_
                           rotate_left
                           ·
                            simp only [Act.put, lA, lZ, lS, i64_w, i32_w]
                            rfl
                           as_aux_lemma =>
                            refine pure_ (i := 21) (N := some 75) (v := undef) (a' := ?_) #[t_,t_,t_,t_,t_,t_,t_,t_,t_,t_,t_,t_,t_,t_,t_,t_,t_,t_,t_,t_,t_,t_,f_,f_,f_,f_,f_,f_,f_] rfl rfl (any_of HT_.out (by kernel_rfl)) (fun _ _ _ h => h) (Or.inr ⟨by rfl, rfl⟩) ?_ ?_
                            rotate_left
                            ·
                             simp only [Act.put, lA, lZ, lS, i64_w, i32_w]
                             rfl
                            as_aux_lemma =>
                             refine pure_ (i := 22) (N := some 76) (v := undef) (a' := ?_) #[t_,t_,t_,t_,t_,t_,t_,t_,t_,t_,t_,t_,t_,t_,t_,t_,t_,t_,t_,t_,t_,t_,t_,f_,f_,f_,f_,f_,f_] rfl rfl (any_of HT_.out (by kernel_rfl)) (fun _ _ _ h => h) (Or.inr ⟨by rfl, rfl⟩) ?_ ?_
                             rotate_left
                             ·
                              simp only [Act.put, lA, lZ, lS, i64_w, i32_w]
                              rfl
                             as_aux_lemma =>
                              refine pure_ (i := 23) (N := some 77) (v := undef) (a' := ?_) #[t_,t_,t_,t_,t_,t_,t_,t_,t_,t_,t_,t_,t_,t_,t_,t_,t_,t_,t_,t_,t_,t_,t_,t_,f_,f_,f_,f_,f_] rfl rfl (any_of HT_.out (by kernel_rfl)) (fun _ _ _ h => h) (Or.inr ⟨by rfl, rfl⟩) ?_ ?_
                              rotate_left
                              ·
                               simp only [Act.put, lA, lZ, lS, i64_w, i32_w]
                               rfl
                              as_aux_lemma =>
                               refine pure_ (i := 24) (N := some 78) (v := undef) (a' := ?_) #[t_,t_,t_,t_,t_,t_,t_,t_,t_,t_,t_,t_,t_,t_,t_,t_,t_,t_,t_,t_,t_,t_,t_,t_,t_,f_,f_,f_,f_] rfl rfl (any_of HT_.out (by kernel_rfl)) (fun _ _ _ h => h) (Or.inr ⟨by rfl, rfl⟩) ?_ ?_
                               rotate_left
                               ·
                                simp only [Act.put, lA, lZ, lS, i64_w, i32_w]
                                rfl
                               as_aux_lemma =>
                                refine pure_ (i := 25) (N := some 79) (v := undef) (a' := ?_) #[t_,t_,t_,t_,t_,t_,t_,t_,t_,t_,t_,t_,t_,t_,t_,t_,t_,t_,t_,t_,t_,t_,t_,t_,t_,t_,f_,f_,f_] rfl rfl (any_of HT_.out (by kernel_rfl)) (fun _ _ _ h => h) (Or.inr ⟨by rfl, rfl⟩) ?_ ?_
                                rotate_left
                                ·
                                 simp only [Act.put, lA, lZ, lS, i64_w, i32_w]
                                 rfl
                                as_aux_lemma =>
                                 refine pure_ (i := 26) (N := some 80) (v := undef) (a' := ?_) #[t_,t_,t_,t_,t_,t_,t_,t_,t_,t_,t_,t_,t_,t_,t_,t_,t_,t_,t_,t_,t_,t_,t_,t_,t_,t_,t_,f_,f_] rfl rfl (any_of HT_.out (by kernel_rfl)) (fun _ _ _ h => h) (Or.inr ⟨by rfl, rfl⟩) ?_ ?_
                                 rotate_left
                                 ·
                                  simp only [Act.put, lA, lZ, lS, i64_w, i32_w]
                                  rfl
                                 as_aux_lemma =>
                                  refine pure_ (i := 27) (N := some 81) (v := undef) (a' := ?_) #[t_,t_,t_,t_,t_,t_,t_,t_,t_,t_,t_,t_,t_,t_,t_,t_,t_,t_,t_,t_,t_,t_,t_,t_,t_,t_,t_,t_,f_] rfl rfl (any_of HT_.out (by kernel_rfl)) (fun _ _ _ h => h) (Or.inr ⟨by rfl, rfl⟩) ?_ ?_
                                  rotate_left
                                  ·
                                   simp only [Act.put, lA, lZ, lS, i64_w, i32_w]
                                   rfl
                                  as_aux_lemma =>
                                   refine pure_ (i := 28) (N := some 82) (v := ?_) (a' := ?_) #[t_,t_,t_,t_,t_,t_,t_,t_,t_,t_,t_,t_,t_,t_,t_,t_,t_,t_,t_,t_,t_,t_,t_,t_,t_,t_,t_,t_,t_] rfl rfl (any_of HT_.out (by kernel_rfl)) (fun _ _ _ h => h) (Or.inl ⟨by rfl, ?_⟩) ?_ ?_
                                   rotate_left
                                   ·
                                    intro w'
                                    go_simp
                                    with_reducible rfl
                                   rotate_left
                                   ·
                                    simp only [Act.put, lA, lZ, lS, i64_w, i32_w]
                                    rfl
                                   refine done_ (done_of HT_.out (by kernel_rfl)) ?_
                                   try go_wp2
                                   go_meet
                                   case rel => exact ⟨_, (true), (by first | rfl | (simp; done) | (simp [*]; done)), H', ⟨by have := HJ8.out; first | omega | exact Nat.le_refl _⟩, ⟨by (with_reducible repeat (first | refine bN ?_ _ | refine bD ?_ | refine bA ?_ _)); exact BK268.out⟩, ⟨by (with_reducible repeat (first | refine bN ?_ _ | refine bD ?_ | refine bA ?_ _)); exact BK269.out⟩, ⟨by (with_reducible repeat (first | refine bN ?_ _ | refine bD ?_ | refine bA ?_ _)); exact BK270.out⟩, ⟨by (with_reducible repeat (first | refine bN ?_ _ | refine bD ?_ | refine bA ?_ _)); exact BK271.out⟩, ⟨by (with_reducible repeat (first | refine bN ?_ _ | refine bD ?_ | refine bA ?_ _)); exact BK279.out⟩, ⟨by repeat (first | (with_reducible first | exact HB.out | apply bL | apply bW | apply b1 | refine bS ?_ GE268.out | refine bS ?_ GE269.out | refine bS ?_ GE270.out | refine bS ?_ GE271.out | refine bS ?_ GE279.out) | exact HB.out)⟩⟩
    case rest =>
     clear HC60
     try clear c1
     try clear c2
     try clear p2
     try clear c8
     try clear c10
     try clear c22
     try clear c83
     obtain ⟨kq, x82_59, rfl, HA, HJ59, BK268, BK269, BK270, BK271, BK279, HB⟩ := hcut
     cases kq with
     | zero => exact absurd HA.out (by simp [bournelaw20_SeepEncloses.j1])
     | succ kj59 =>
      have H := HA.out
      clear HA
      simp only [bournelaw20_SeepEncloses.j1] at H
      by_cases c102 : x82_59 = true
      ·
       subst c102
       have H1 : (some false) = some r := by rw [if_pos rfl] at H; exact H
       clear H
       have H := H1
       clear H1
       exact absurd (H.trans (congrArg some hT.out)) (by simp)
      ·
       replace c102 := Bool.eq_false_iff.mpr c102
       subst c102
       have H1 : (if a6 = true then (bournelaw20_SeepEncloses.j2 kj59 t275 a6 t272 1 a0_0 a0_1 a0_2 a0_3 l0_4 l0_5 l0_6 a0_7 a0_8 a0_9 a0_10 a0_11 a0_12 a0_13 a0_14 a0_15 a0_16 a0_17 a1_0 a1_1 a5_0 a5_1 a5_2 a5_3 a5_4) else (bournelaw20_SeepEncloses.j2 kj59 t275 a6 t272 0 a0_0 a0_1 a0_2 a0_3 l0_4 l0_5 l0_6 a0_7 a0_8 a0_9 a0_10 a0_11 a0_12 a0_13 a0_14 a0_15 a0_16 a0_17 a1_0 a1_1 a5_0 a5_1 a5_2 a5_3 a5_4)) = some r := by rw [if_neg (show ¬ (false = true) by decide)] at H; exact H
       clear H
       have H := H1
       clear H1
       have HC103 := Aside0.mk H
       clear H
       go_upto_if 83 with (fail)
       go_cut [17] (fun v17 wc => ∃ (kq : Nat) (x17_102 : Int), v17 = .int .i64 x17_102 ∧ Aside0 (bournelaw20_SeepEncloses.j2 kq t275 a6 t272 x17_102 a0_0 a0_1 a0_2 a0_3 l0_4 l0_5 l0_6 a0_7 a0_8 a0_9 a0_10 a0_11 a0_12 a0_13 a0_14 a0_15 a0_16 a0_17 a1_0 a1_1 a5_0 a5_1 a5_2 a5_3 a5_4 = some r) ∧ Aside0 (kq ≤ kj59) ∧ Aside0 (wc.heap[gb268]? = some (.cells #[.string a0_0, .int .i64 a0_1, .int .i64 a0_2, .int .i64 a0_3, (.slice A0_4 l0_4.length c0_4), (.slice A0_5 l0_5.length c0_5), (.slice A0_6 l0_6.length c0_6), .int .i64 a0_7, .int .i64 a0_8, .int .i64 a0_9, .int .i64 a0_10, .int .i64 a0_11, .int .i64 a0_12, .int .i64 a0_13, .int .i64 a0_14, .int .i64 a0_15, .int .i64 a0_16, .int .i64 a0_17] 26 (0, 0))) ∧ Aside0 (wc.heap[gb269]? = some (.cells #[.int .i64 a1_0, .int .i64 a1_1] 30 (0, 0))) ∧ Aside0 (wc.heap[gb270]? = some (.cells #[.int .i64 a2_0, .int .i64 a2_1] 30 (0, 0))) ∧ Aside0 (wc.heap[gb271]? = some (.cells #[.int .i64 a5_0, .int .i64 a5_1, .int .i64 a5_2, .int .i64 a5_3, .int .i64 a5_4] 32 (0, 0))) ∧ Aside0 (wc.heap[gb279]? = some (.cells #[.int .i64 t277, .int .i64 t278] 30 (0, 0))) ∧ Aside0 (Below w.heap.size w wc))
       case first =>
        have H := HC103.out
        clear HC103
        by_cases c104 : a6 = true
        ·
         subst c104
         have H1 : (bournelaw20_SeepEncloses.j2 kj59 t275 true t272 1 a0_0 a0_1 a0_2 a0_3 l0_4 l0_5 l0_6 a0_7 a0_8 a0_9 a0_10 a0_11 a0_12 a0_13 a0_14 a0_15 a0_16 a0_17 a1_0 a1_1 a5_0 a5_1 a5_2 a5_3 a5_4) = some r := by rw [if_pos rfl] at H; exact H
         clear H
         have H := H1
         clear H1
         have H' := Aside0.mk H
         clear H
         as_aux_lemma =>
           go_wp2
           go_meet
           case rel => exact ⟨_, (1), (by first | rfl | (simp; done) | (simp [*]; done)), H', ⟨by have := HJ8.out; have := HJ59.out; first | omega | exact Nat.le_refl _⟩, ⟨by (with_reducible repeat (first | refine bN ?_ _ | refine bD ?_ | refine bA ?_ _)); exact BK268.out⟩, ⟨by (with_reducible repeat (first | refine bN ?_ _ | refine bD ?_ | refine bA ?_ _)); exact BK269.out⟩, ⟨by (with_reducible repeat (first | refine bN ?_ _ | refine bD ?_ | refine bA ?_ _)); exact BK270.out⟩, ⟨by (with_reducible repeat (first | refine bN ?_ _ | refine bD ?_ | refine bA ?_ _)); exact BK271.out⟩, ⟨by (with_reducible repeat (first | refine bN ?_ _ | refine bD ?_ | refine bA ?_ _)); exact BK279.out⟩, ⟨by repeat (first | (with_reducible first | exact HB.out | apply bL | apply bW | apply b1 | refine bS ?_ GE268.out | refine bS ?_ GE269.out | refine bS ?_ GE270.out | refine bS ?_ GE271.out | refine bS ?_ GE279.out) | exact HB.out)⟩⟩
        ·
         replace c104 := Bool.eq_false_iff.mpr c104
         subst c104
         have H1 : (bournelaw20_SeepEncloses.j2 kj59 t275 false t272 0 a0_0 a0_1 a0_2 a0_3 l0_4 l0_5 l0_6 a0_7 a0_8 a0_9 a0_10 a0_11 a0_12 a0_13 a0_14 a0_15 a0_16 a0_17 a1_0 a1_1 a5_0 a5_1 a5_2 a5_3 a5_4) = some r := by rw [if_neg (show ¬ (false = true) by decide)] at H; exact H
         clear H
         have H := H1
         clear H1
         have H' := Aside0.mk H
         clear H
         as_aux_lemma =>
           go_wp2
           go_meet
           case rel => exact ⟨_, (0), (by first | rfl | (simp; done) | (simp [*]; done)), H', ⟨by have := HJ8.out; have := HJ59.out; first | omega | exact Nat.le_refl _⟩, ⟨by (with_reducible repeat (first | refine bN ?_ _ | refine bD ?_ | refine bA ?_ _)); exact BK268.out⟩, ⟨by (with_reducible repeat (first | refine bN ?_ _ | refine bD ?_ | refine bA ?_ _)); exact BK269.out⟩, ⟨by (with_reducible repeat (first | refine bN ?_ _ | refine bD ?_ | refine bA ?_ _)); exact BK270.out⟩, ⟨by (with_reducible repeat (first | refine bN ?_ _ | refine bD ?_ | refine bA ?_ _)); exact BK271.out⟩, ⟨by (with_reducible repeat (first | refine bN ?_ _ | refine bD ?_ | refine bA ?_ _)); exact BK279.out⟩, ⟨by repeat (first | (with_reducible first | exact HB.out | apply bL | apply bW | apply b1 | refine bS ?_ GE268.out | refine bS ?_ GE269.out | refine bS ?_ GE270.out | refine bS ?_ GE271.out | refine bS ?_ GE279.out) | exact HB.out)⟩⟩
       case rest =>
        clear HC103
        try clear c1
        try clear c2
        try clear p2
        try clear c8
        try clear c10
        try clear c22
        try clear c83
        try clear c102
        try clear c104
        try clear p2
        obtain ⟨kq, x17_102, rfl, HA, HJ102, BK268, BK269, BK270, BK271, BK279, HB⟩ := hcut
        cases kq with
        | zero => exact absurd HA.out (by simp [bournelaw20_SeepEncloses.j2])
        | succ kj102 =>
         have H := HA.out
         clear HA
         simp only [bournelaw20_SeepEncloses.j2] at H
         have HC105 := Aside0.mk H
         clear H
         go_upto_region 12 with (fail)
         go_cut [93] (fun v93 wc => ∃ (kq : Nat) (x93_104 : Bool), v93 = .bool x93_104 ∧ Aside0 (bournelaw20_SeepEncloses.j3 kq t275 a6 t272 x93_104 a0_0 a0_1 a0_2 a0_3 l0_4 l0_5 l0_6 a0_7 a0_8 a0_9 a0_10 a0_11 a0_12 a0_13 a0_14 a0_15 a0_16 a0_17 a1_0 a1_1 a5_0 a5_1 a5_2 a5_3 a5_4 = some r) ∧ Aside0 (kq ≤ kj102) ∧ Aside0 (wc.heap[gb268]? = some (.cells #[.string a0_0, .int .i64 a0_1, .int .i64 a0_2, .int .i64 a0_3, (.slice A0_4 l0_4.length c0_4), (.slice A0_5 l0_5.length c0_5), (.slice A0_6 l0_6.length c0_6), .int .i64 a0_7, .int .i64 a0_8, .int .i64 a0_9, .int .i64 a0_10, .int .i64 a0_11, .int .i64 a0_12, .int .i64 a0_13, .int .i64 a0_14, .int .i64 a0_15, .int .i64 a0_16, .int .i64 a0_17] 26 (0, 0))) ∧ Aside0 (wc.heap[gb269]? = some (.cells #[.int .i64 a1_0, .int .i64 a1_1] 30 (0, 0))) ∧ Aside0 (wc.heap[gb270]? = some (.cells #[.int .i64 a2_0, .int .i64 a2_1] 30 (0, 0))) ∧ Aside0 (wc.heap[gb271]? = some (.cells #[.int .i64 a5_0, .int .i64 a5_1, .int .i64 a5_2, .int .i64 a5_3, .int .i64 a5_4] 32 (0, 0))) ∧ Aside0 (wc.heap[gb279]? = some (.cells #[.int .i64 t277, .int .i64 t278] 30 (0, 0))) ∧ Aside0 (Below w.heap.size w wc))
         case first =>
          have H := HC105.out
          clear HC105
          replace H := Option.bind_eq_some_iff.mp H
          obtain ⟨t284, A1060, H⟩ := H
          have A106 := Aside0.mk A1060
          clear A1060
          by_cases c107 : t284 = true
          ·
           subst c107
           have H1 : (bournelaw20_SeepEncloses.j3 kj102 t275 a6 t272 (a0_1 != 3) a0_0 a0_1 a0_2 a0_3 l0_4 l0_5 l0_6 a0_7 a0_8 a0_9 a0_10 a0_11 a0_12 a0_13 a0_14 a0_15 a0_16 a0_17 a1_0 a1_1 a5_0 a5_1 a5_2 a5_3 a5_4) = some r := by rw [if_pos rfl] at H; exact H
           clear H
           have H := H1
           clear H1
           have H' := Aside0.mk H
           clear H
           have hnb108 := NB271_268.out
           have hnc108 := NB268_271.out
           have hnb109 := NB271_269.out
           have hnc109 := NB269_271.out
           have hnb110 := NB271_270.out
           have hnc110 := NB270_271.out
           have hnb111 := NB271_279.out
           have hnc111 := NB279_271.out
           have hcz112_0 : wc.cell? ⟨gb271, 0, none⟩ = some (.int .i64 a5_0) := (bC BK271.out 0).trans rfl
           have hcz112_1 : wc.cell? ⟨gb271, 1, none⟩ = some (.int .i64 a5_1) := (bC BK271.out 1).trans rfl
           have hcz112_2 : wc.cell? ⟨gb271, 2, none⟩ = some (.int .i64 a5_2) := (bC BK271.out 2).trans rfl
           have hcz112_3 : wc.cell? ⟨gb271, 3, none⟩ = some (.int .i64 a5_3) := (bC BK271.out 3).trans rfl
           have hcz112_4 : wc.cell? ⟨gb271, 4, none⟩ = some (.int .i64 a5_4) := (bC BK271.out 4).trans rfl
           have hfz112_0 := bF BK271.out 0
           have hfz112_1 := bF BK271.out 1
           have hfz112_2 := bF BK271.out 2
           have hfz112_3 := bF BK271.out 3
           have hfz112_4 := bF BK271.out 4
           as_aux_lemma =>
             go_wp2_with (first | ((with_reducible refine gate_callee (f := 22) rfl ?_); refine goesL_ (some 87) rfl rfl Try.func22 (by kernel_rfl) rfl #[.agg #[.int .i64 a5_3, .int .i64 a5_4], .int .i64 x17_102] rfl (by (try simp only [List.map_toArray, List.map_cons, List.map_nil]); first | done | rfl | (simp only [List.length_drop, List.length_take]; rfl)) ?_; (with_reducible refine (span_Has.calls a5_3 a5_4 x17_102 true _ A106.out).mono ?_); rintro e w113 ⟨rfl, hb⟩; refine ⟨_, rfl, ?_⟩; have n0_ := Aside0.mk (bB (g := gb268) (o := .cells #[.string a0_0, .int .i64 a0_1, .int .i64 a0_2, .int .i64 a0_3, .slice A0_4 l0_4.length c0_4, .slice A0_5 l0_5.length c0_5, .slice A0_6 l0_6.length c0_6, .int .i64 a0_7, .int .i64 a0_8, .int .i64 a0_9, .int .i64 a0_10, .int .i64 a0_11, .int .i64 a0_12, .int .i64 a0_13, .int .i64 a0_14, .int .i64 a0_15, .int .i64 a0_16, .int .i64 a0_17] 26 (0, 0)) (by (with_reducible repeat (first | refine bN ?_ _ | refine bD ?_ | refine bA ?_ _)); exact BK268.out) hb); have n1_ := Aside0.mk (bB (g := gb269) (o := .cells #[.int .i64 a1_0, .int .i64 a1_1] 30 (0, 0)) (by (with_reducible repeat (first | refine bN ?_ _ | refine bD ?_ | refine bA ?_ _)); exact BK269.out) hb); have n2_ := Aside0.mk (bB (g := gb270) (o := .cells #[.int .i64 a2_0, .int .i64 a2_1] 30 (0, 0)) (by (with_reducible repeat (first | refine bN ?_ _ | refine bD ?_ | refine bA ?_ _)); exact BK270.out) hb); have n3_ := Aside0.mk (bB (g := gb271) (o := .cells #[.int .i64 a5_0, .int .i64 a5_1, .int .i64 a5_2, .int .i64 a5_3, .int .i64 a5_4] 32 (0, 0)) (by (with_reducible repeat (first | refine bN ?_ _ | refine bD ?_ | refine bA ?_ _)); exact BK271.out) hb); have n4_ := Aside0.mk (bB (g := gb279) (o := .cells #[.int .i64 t277, .int .i64 t278] 30 (0, 0)) (by (with_reducible repeat (first | refine bN ?_ _ | refine bD ?_ | refine bA ?_ _)); exact BK279.out) hb); have n5_ := Aside0.mk (bP (by repeat (first | (with_reducible first | exact HB.out | apply bL | apply bW | apply b1 | refine bS ?_ GE268.out | refine bS ?_ GE269.out | refine bS ?_ GE270.out | refine bS ?_ GE271.out | refine bS ?_ GE279.out) | exact HB.out)) hb); clear BK268; clear BK269; clear BK270; clear BK271; clear BK279; clear HB; have BK268 := n0_; have BK269 := n1_; have BK270 := n2_; have BK271 := n3_; have BK279 := n4_; have HB := n5_; clear n0_ n1_ n2_ n3_ n4_ n5_; (try clear hb); (try clear hb2); (try clear hk); (try clear hi); have hnb114 := NB268_269.out; have hnc114 := NB269_268.out; have hnb115 := NB268_270.out; have hnc115 := NB270_268.out; have hnb116 := NB268_279.out; have hnc116 := NB279_268.out; have hcz117_0 : w113.cell? ⟨gb268, 0, none⟩ = some (.string a0_0) := (bC BK268.out 0).trans rfl; have hcz117_1 : w113.cell? ⟨gb268, 1, none⟩ = some (.int .i64 a0_1) := (bC BK268.out 1).trans rfl; have hcz117_2 : w113.cell? ⟨gb268, 2, none⟩ = some (.int .i64 a0_2) := (bC BK268.out 2).trans rfl; have hcz117_3 : w113.cell? ⟨gb268, 3, none⟩ = some (.int .i64 a0_3) := (bC BK268.out 3).trans rfl; have hcz117_4 : w113.cell? ⟨gb268, 4, none⟩ = some (.slice A0_4 l0_4.length c0_4) := (bC BK268.out 4).trans rfl; have hcz117_5 : w113.cell? ⟨gb268, 5, none⟩ = some (.slice A0_5 l0_5.length c0_5) := (bC BK268.out 5).trans rfl; have hcz117_6 : w113.cell? ⟨gb268, 6, none⟩ = some (.slice A0_6 l0_6.length c0_6) := (bC BK268.out 6).trans rfl; have hcz117_7 : w113.cell? ⟨gb268, 7, none⟩ = some (.int .i64 a0_7) := (bC BK268.out 7).trans rfl; have hcz117_8 : w113.cell? ⟨gb268, 8, none⟩ = some (.int .i64 a0_8) := (bC BK268.out 8).trans rfl; have hcz117_9 : w113.cell? ⟨gb268, 9, none⟩ = some (.int .i64 a0_9) := (bC BK268.out 9).trans rfl; have hcz117_10 : w113.cell? ⟨gb268, 10, none⟩ = some (.int .i64 a0_10) := (bC BK268.out 10).trans rfl; have hcz117_11 : w113.cell? ⟨gb268, 11, none⟩ = some (.int .i64 a0_11) := (bC BK268.out 11).trans rfl; have hcz117_12 : w113.cell? ⟨gb268, 12, none⟩ = some (.int .i64 a0_12) := (bC BK268.out 12).trans rfl; have hcz117_13 : w113.cell? ⟨gb268, 13, none⟩ = some (.int .i64 a0_13) := (bC BK268.out 13).trans rfl; have hcz117_14 : w113.cell? ⟨gb268, 14, none⟩ = some (.int .i64 a0_14) := (bC BK268.out 14).trans rfl; have hcz117_15 : w113.cell? ⟨gb268, 15, none⟩ = some (.int .i64 a0_15) := (bC BK268.out 15).trans rfl; have hcz117_16 : w113.cell? ⟨gb268, 16, none⟩ = some (.int .i64 a0_16) := (bC BK268.out 16).trans rfl; have hcz117_17 : w113.cell? ⟨gb268, 17, none⟩ = some (.int .i64 a0_17) := (bC BK268.out 17).trans rfl; have hfz117_0 := bF BK268.out 0; have hfz117_1 := bF BK268.out 1; have hfz117_2 := bF BK268.out 2; have hfz117_3 := bF BK268.out 3; have hfz117_4 := bF BK268.out 4; have hfz117_5 := bF BK268.out 5; have hfz117_6 := bF BK268.out 6; have hfz117_7 := bF BK268.out 7; have hfz117_8 := bF BK268.out 8; have hfz117_9 := bF BK268.out 9; have hfz117_10 := bF BK268.out 10; have hfz117_11 := bF BK268.out 11; have hfz117_12 := bF BK268.out 12; have hfz117_13 := bF BK268.out 13; have hfz117_14 := bF BK268.out 14; have hfz117_15 := bF BK268.out 15; have hfz117_16 := bF BK268.out 16; have hfz117_17 := bF BK268.out 17) | ((with_reducible refine gate_load 26 7 rfl ?_); refine box_load (g := gb268) (cs := #[.string a0_0, .int .i64 a0_1, .int .i64 a0_2, .int .i64 a0_3, .slice A0_4 l0_4.length c0_4, .slice A0_5 l0_5.length c0_5, .slice A0_6 l0_6.length c0_6, .int .i64 a0_7, .int .i64 a0_8, .int .i64 a0_9, .int .i64 a0_10, .int .i64 a0_11, .int .i64 a0_12, .int .i64 a0_13, .int .i64 a0_14, .int .i64 a0_15, .int .i64 a0_16, .int .i64 a0_17]) ?hw rfl (by (with_reducible repeat (first | refine bN ?_ _ | refine bD ?_ | refine bA ?_ _)); with_reducible exact BK268.out) ?ha hu26 rfl ?hi ?_; (case hw => first | exact wanted_none rfl | rfl); (case ha => first | rfl | (go_simp; done)); (case hi => first | rfl | kernel_rfl)))
             go_meet
             case rel => exact ⟨_, ((a0_1 != 3)), (by first | rfl | (simp; done) | (simp [*]; done)), H', ⟨by have := HJ8.out; have := HJ59.out; have := HJ102.out; first | omega | exact Nat.le_refl _⟩, ⟨by (with_reducible repeat (first | refine bN ?_ _ | refine bD ?_ | refine bA ?_ _)); exact BK268.out⟩, ⟨by (with_reducible repeat (first | refine bN ?_ _ | refine bD ?_ | refine bA ?_ _)); exact BK269.out⟩, ⟨by (with_reducible repeat (first | refine bN ?_ _ | refine bD ?_ | refine bA ?_ _)); exact BK270.out⟩, ⟨by (with_reducible repeat (first | refine bN ?_ _ | refine bD ?_ | refine bA ?_ _)); exact BK271.out⟩, ⟨by (with_reducible repeat (first | refine bN ?_ _ | refine bD ?_ | refine bA ?_ _)); exact BK279.out⟩, ⟨by repeat (first | (with_reducible first | exact HB.out | apply bL | apply bW | apply b1 | refine bS ?_ GE268.out | refine bS ?_ GE269.out | refine bS ?_ GE270.out | refine bS ?_ GE271.out | refine bS ?_ GE279.out) | exact HB.out)⟩⟩
          ·
           replace c107 := Bool.eq_false_iff.mpr c107
           subst c107
           have H1 : (bournelaw20_SeepEncloses.j3 kj102 t275 a6 t272 true a0_0 a0_1 a0_2 a0_3 l0_4 l0_5 l0_6 a0_7 a0_8 a0_9 a0_10 a0_11 a0_12 a0_13 a0_14 a0_15 a0_16 a0_17 a1_0 a1_1 a5_0 a5_1 a5_2 a5_3 a5_4) = some r := by rw [if_neg (show ¬ (false = true) by decide)] at H; exact H
           clear H
           have H := H1
           clear H1
           have H' := Aside0.mk H
           clear H
           have hnb118 := NB271_268.out
           have hnc118 := NB268_271.out
           have hnb119 := NB271_269.out
           have hnc119 := NB269_271.out
           have hnb120 := NB271_270.out
           have hnc120 := NB270_271.out
           have hnb121 := NB271_279.out
           have hnc121 := NB279_271.out
           have hcz122_0 : wc.cell? ⟨gb271, 0, none⟩ = some (.int .i64 a5_0) := (bC BK271.out 0).trans rfl
           have hcz122_1 : wc.cell? ⟨gb271, 1, none⟩ = some (.int .i64 a5_1) := (bC BK271.out 1).trans rfl
           have hcz122_2 : wc.cell? ⟨gb271, 2, none⟩ = some (.int .i64 a5_2) := (bC BK271.out 2).trans rfl
           have hcz122_3 : wc.cell? ⟨gb271, 3, none⟩ = some (.int .i64 a5_3) := (bC BK271.out 3).trans rfl
           have hcz122_4 : wc.cell? ⟨gb271, 4, none⟩ = some (.int .i64 a5_4) := (bC BK271.out 4).trans rfl
           have hfz122_0 := bF BK271.out 0
           have hfz122_1 := bF BK271.out 1
           have hfz122_2 := bF BK271.out 2
           have hfz122_3 := bF BK271.out 3
           have hfz122_4 := bF BK271.out 4
           as_aux_lemma =>
             go_wp2_with (first | ((with_reducible refine gate_callee (f := 22) rfl ?_); refine goesL_ (some 87) rfl rfl Try.func22 (by kernel_rfl) rfl #[.agg #[.int .i64 a5_3, .int .i64 a5_4], .int .i64 x17_102] rfl (by (try simp only [List.map_toArray, List.map_cons, List.map_nil]); first | done | rfl | (simp only [List.length_drop, List.length_take]; rfl)) ?_; (with_reducible refine (span_Has.calls a5_3 a5_4 x17_102 false _ A106.out).mono ?_); rintro e w123 ⟨rfl, hb⟩; refine ⟨_, rfl, ?_⟩; have n0_ := Aside0.mk (bB (g := gb268) (o := .cells #[.string a0_0, .int .i64 a0_1, .int .i64 a0_2, .int .i64 a0_3, .slice A0_4 l0_4.length c0_4, .slice A0_5 l0_5.length c0_5, .slice A0_6 l0_6.length c0_6, .int .i64 a0_7, .int .i64 a0_8, .int .i64 a0_9, .int .i64 a0_10, .int .i64 a0_11, .int .i64 a0_12, .int .i64 a0_13, .int .i64 a0_14, .int .i64 a0_15, .int .i64 a0_16, .int .i64 a0_17] 26 (0, 0)) (by (with_reducible repeat (first | refine bN ?_ _ | refine bD ?_ | refine bA ?_ _)); exact BK268.out) hb); have n1_ := Aside0.mk (bB (g := gb269) (o := .cells #[.int .i64 a1_0, .int .i64 a1_1] 30 (0, 0)) (by (with_reducible repeat (first | refine bN ?_ _ | refine bD ?_ | refine bA ?_ _)); exact BK269.out) hb); have n2_ := Aside0.mk (bB (g := gb270) (o := .cells #[.int .i64 a2_0, .int .i64 a2_1] 30 (0, 0)) (by (with_reducible repeat (first | refine bN ?_ _ | refine bD ?_ | refine bA ?_ _)); exact BK270.out) hb); have n3_ := Aside0.mk (bB (g := gb271) (o := .cells #[.int .i64 a5_0, .int .i64 a5_1, .int .i64 a5_2, .int .i64 a5_3, .int .i64 a5_4] 32 (0, 0)) (by (with_reducible repeat (first | refine bN ?_ _ | refine bD ?_ | refine bA ?_ _)); exact BK271.out) hb); have n4_ := Aside0.mk (bB (g := gb279) (o := .cells #[.int .i64 t277, .int .i64 t278] 30 (0, 0)) (by (with_reducible repeat (first | refine bN ?_ _ | refine bD ?_ | refine bA ?_ _)); exact BK279.out) hb); have n5_ := Aside0.mk (bP (by repeat (first | (with_reducible first | exact HB.out | apply bL | apply bW | apply b1 | refine bS ?_ GE268.out | refine bS ?_ GE269.out | refine bS ?_ GE270.out | refine bS ?_ GE271.out | refine bS ?_ GE279.out) | exact HB.out)) hb); clear BK268; clear BK269; clear BK270; clear BK271; clear BK279; clear HB; have BK268 := n0_; have BK269 := n1_; have BK270 := n2_; have BK271 := n3_; have BK279 := n4_; have HB := n5_; clear n0_ n1_ n2_ n3_ n4_ n5_; (try clear hb); (try clear hb2); (try clear hk); (try clear hi)) | ((with_reducible refine gate_load 26 7 rfl ?_); refine box_load (g := gb268) (cs := #[.string a0_0, .int .i64 a0_1, .int .i64 a0_2, .int .i64 a0_3, .slice A0_4 l0_4.length c0_4, .slice A0_5 l0_5.length c0_5, .slice A0_6 l0_6.length c0_6, .int .i64 a0_7, .int .i64 a0_8, .int .i64 a0_9, .int .i64 a0_10, .int .i64 a0_11, .int .i64 a0_12, .int .i64 a0_13, .int .i64 a0_14, .int .i64 a0_15, .int .i64 a0_16, .int .i64 a0_17]) ?hw rfl (by (with_reducible repeat (first | refine bN ?_ _ | refine bD ?_ | refine bA ?_ _)); with_reducible exact BK268.out) ?ha hu26 rfl ?hi ?_; (case hw => first | exact wanted_none rfl | rfl); (case ha => first | rfl | (go_simp; done)); (case hi => first | rfl | kernel_rfl)))
             go_meet
             case rel => exact ⟨_, (true), (by first | rfl | (simp; done) | (simp [*]; done)), H', ⟨by have := HJ8.out; have := HJ59.out; have := HJ102.out; first | omega | exact Nat.le_refl _⟩, ⟨by (with_reducible repeat (first | refine bN ?_ _ | refine bD ?_ | refine bA ?_ _)); exact BK268.out⟩, ⟨by (with_reducible repeat (first | refine bN ?_ _ | refine bD ?_ | refine bA ?_ _)); exact BK269.out⟩, ⟨by (with_reducible repeat (first | refine bN ?_ _ | refine bD ?_ | refine bA ?_ _)); exact BK270.out⟩, ⟨by (with_reducible repeat (first | refine bN ?_ _ | refine bD ?_ | refine bA ?_ _)); exact BK271.out⟩, ⟨by (with_reducible repeat (first | refine bN ?_ _ | refine bD ?_ | refine bA ?_ _)); exact BK279.out⟩, ⟨by repeat (first | (with_reducible first | exact HB.out | apply bL | apply bW | apply b1 | refine bS ?_ GE268.out | refine bS ?_ GE269.out | refine bS ?_ GE270.out | refine bS ?_ GE271.out | refine bS ?_ GE279.out) | exact HB.out)⟩⟩
         case rest =>
          clear HC105
          try clear c1
          try clear c2
          try clear p2
          try clear c8
          try clear c10
          try clear c11
          try clear c12
          try clear c22
          try clear c83
          try clear c102
          try clear c104
          try clear c107
          try clear c108
          try clear c109
          try clear c110
          try clear c111
          try clear c114
          try clear c115
          try clear c116
          try clear c118
          try clear c119
          try clear c120
          try clear c121
          try clear hcz112_0
          try clear hcz112_1
          try clear hcz112_2
          try clear hcz112_3
          try clear hcz112_4
          try clear hcz117_0
          try clear hcz117_1
          try clear hcz117_10
          try clear hcz117_11
          try clear hcz117_12
          try clear hcz117_13
          try clear hcz117_14
          try clear hcz117_15
          try clear hcz117_16
          try clear hcz117_17
          try clear hcz117_2
          try clear hcz117_3
          try clear hcz117_4
          try clear hcz117_5
          try clear hcz117_6
          try clear hcz117_7
          try clear hcz117_8
          try clear hcz117_9
          try clear hcz122_0
          try clear hcz122_1
          try clear hcz122_2
          try clear hcz122_3
          try clear hcz122_4
          try clear hfz112_0
          try clear hfz112_1
          try clear hfz112_2
          try clear hfz112_3
          try clear hfz112_4
          try clear hfz117_0
          try clear hfz117_1
          try clear hfz117_10
          try clear hfz117_11
          try clear hfz117_12
          try clear hfz117_13
          try clear hfz117_14
          try clear hfz117_15
          try clear hfz117_16
          try clear hfz117_17
          try clear hfz117_2
          try clear hfz117_3
          try clear hfz117_4
          try clear hfz117_5
          try clear hfz117_6
          try clear hfz117_7
          try clear hfz117_8
          try clear hfz117_9
          try clear hfz122_0
          try clear hfz122_1
          try clear hfz122_2
          try clear hfz122_3
          try clear hfz122_4
          try clear p2
          obtain ⟨kq, x93_104, rfl, HA, HJ104, BK268, BK269, BK270, BK271, BK279, HB⟩ := hcut
          cases kq with
          | zero => exact absurd HA.out (by simp [bournelaw20_SeepEncloses.j3])
          | succ kj104 =>
           have H := HA.out
           clear HA
           simp only [bournelaw20_SeepEncloses.j3] at H
           by_cases c124 : x93_104 = true
           ·
            subst c124
            have H1 : (some t272) = some r := by rw [if_pos rfl] at H; exact H
            clear H
            have H := H1
            clear H1
            obtain rfl := Option.some.inj H
            as_aux_lemma =>
              go_wp2
              go_ret
              exact ⟨by first | rfl | (simp [errW_none, errW_some] <;> rfl) | (simp [*, errW_none, errW_some] <;> rfl), by repeat (first | (with_reducible first | exact HB.out | apply bL | apply bW | apply b1 | refine bS ?_ GE268.out | refine bS ?_ GE269.out | refine bS ?_ GE270.out | refine bS ?_ GE271.out | refine bS ?_ GE279.out) | exact HB.out)⟩
           ·
            replace c124 := Bool.eq_false_iff.mpr c124
            subst c124
            have H1 : ((seep_Siphon.f a0_0 a0_1 a0_2 a0_3 l0_4 l0_5 l0_6 a0_7 a0_8 a0_9 a0_10 a0_11 a0_12 a0_13 a0_14 a0_15 a0_16 a0_17 0 0 false a6 t275).bind fun bt285 => (if bt285.2.2.2 = true then (bournelaw20_SeepEncloses.j4 kj104 t272 1 a0_0 a0_1 a0_2 a0_3 l0_4 l0_5 l0_6 a0_7 a0_8 a0_9 a0_10 a0_11 a0_12 a0_13 a0_14 a0_15 a0_16 a0_17 a1_0 a1_1 a5_0 a5_1 a5_2 a5_3 a5_4) else (bournelaw20_SeepEncloses.j4 kj104 t272 0 a0_0 a0_1 a0_2 a0_3 l0_4 l0_5 l0_6 a0_7 a0_8 a0_9 a0_10 a0_11 a0_12 a0_13 a0_14 a0_15 a0_16 a0_17 a1_0 a1_1 a5_0 a5_1 a5_2 a5_3 a5_4))) = some r := by rw [if_neg (show ¬ (false = true) by decide)] at H; exact H
            clear H
            have H := H1
            clear H1
            replace H := Option.bind_eq_some_iff.mp H
            obtain ⟨⟨t285, t286, t287, t288⟩, A1250, H⟩ := H
            dsimp only at H
            have A125 := Aside0.mk A1250
            clear A1250
            have HC126 := Aside0.mk H
            clear H
            have hnb127 := NB268_269.out
            have hnc127 := NB269_268.out
            have hnb128 := NB268_270.out
            have hnc128 := NB270_268.out
            have hnb129 := NB268_271.out
            have hnc129 := NB271_268.out
            have hnb130 := NB268_279.out
            have hnc130 := NB279_268.out
            have hcz131_0 : wc.cell? ⟨gb268, 0, none⟩ = some (.string a0_0) := (bC BK268.out 0).trans rfl
            have hcz131_1 : wc.cell? ⟨gb268, 1, none⟩ = some (.int .i64 a0_1) := (bC BK268.out 1).trans rfl
            have hcz131_2 : wc.cell? ⟨gb268, 2, none⟩ = some (.int .i64 a0_2) := (bC BK268.out 2).trans rfl
            have hcz131_3 : wc.cell? ⟨gb268, 3, none⟩ = some (.int .i64 a0_3) := (bC BK268.out 3).trans rfl
            have hcz131_4 : wc.cell? ⟨gb268, 4, none⟩ = some (.slice A0_4 l0_4.length c0_4) := (bC BK268.out 4).trans rfl
            have hcz131_5 : wc.cell? ⟨gb268, 5, none⟩ = some (.slice A0_5 l0_5.length c0_5) := (bC BK268.out 5).trans rfl
            have hcz131_6 : wc.cell? ⟨gb268, 6, none⟩ = some (.slice A0_6 l0_6.length c0_6) := (bC BK268.out 6).trans rfl
            have hcz131_7 : wc.cell? ⟨gb268, 7, none⟩ = some (.int .i64 a0_7) := (bC BK268.out 7).trans rfl
            have hcz131_8 : wc.cell? ⟨gb268, 8, none⟩ = some (.int .i64 a0_8) := (bC BK268.out 8).trans rfl
            have hcz131_9 : wc.cell? ⟨gb268, 9, none⟩ = some (.int .i64 a0_9) := (bC BK268.out 9).trans rfl
            have hcz131_10 : wc.cell? ⟨gb268, 10, none⟩ = some (.int .i64 a0_10) := (bC BK268.out 10).trans rfl
            have hcz131_11 : wc.cell? ⟨gb268, 11, none⟩ = some (.int .i64 a0_11) := (bC BK268.out 11).trans rfl
            have hcz131_12 : wc.cell? ⟨gb268, 12, none⟩ = some (.int .i64 a0_12) := (bC BK268.out 12).trans rfl
            have hcz131_13 : wc.cell? ⟨gb268, 13, none⟩ = some (.int .i64 a0_13) := (bC BK268.out 13).trans rfl
            have hcz131_14 : wc.cell? ⟨gb268, 14, none⟩ = some (.int .i64 a0_14) := (bC BK268.out 14).trans rfl
            have hcz131_15 : wc.cell? ⟨gb268, 15, none⟩ = some (.int .i64 a0_15) := (bC BK268.out 15).trans rfl
            have hcz131_16 : wc.cell? ⟨gb268, 16, none⟩ = some (.int .i64 a0_16) := (bC BK268.out 16).trans rfl
            have hcz131_17 : wc.cell? ⟨gb268, 17, none⟩ = some (.int .i64 a0_17) := (bC BK268.out 17).trans rfl
            have hfz131_0 := bF BK268.out 0
            have hfz131_1 := bF BK268.out 1
            have hfz131_2 := bF BK268.out 2
            have hfz131_3 := bF BK268.out 3
            have hfz131_4 := bF BK268.out 4
            have hfz131_5 := bF BK268.out 5
            have hfz131_6 := bF BK268.out 6
            have hfz131_7 := bF BK268.out 7
            have hfz131_8 := bF BK268.out 8
            have hfz131_9 := bF BK268.out 9
            have hfz131_10 := bF BK268.out 10
            have hfz131_11 := bF BK268.out 11
            have hfz131_12 := bF BK268.out 12
            have hfz131_13 := bF BK268.out 13
            have hfz131_14 := bF BK268.out 14
            have hfz131_15 := bF BK268.out 15
            have hfz131_16 := bF BK268.out 16
            have hfz131_17 := bF BK268.out 17
            go_upto_if 100 with (first | ((with_reducible refine gate_callee (f := 14) rfl ?_); refine goesL_ (some 99) rfl rfl Try.func14 (by kernel_rfl) rfl #[.agg #[.string a0_0, .int .i64 a0_1, .int .i64 a0_2, .int .i64 a0_3, .slice A0_4 l0_4.length c0_4, .slice A0_5 l0_5.length c0_5, .slice A0_6 l0_6.length c0_6, .int .i64 a0_7, .int .i64 a0_8, .int .i64 a0_9, .int .i64 a0_10, .int .i64 a0_11, .int .i64 a0_12, .int .i64 a0_13, .int .i64 a0_14, .int .i64 a0_15, .int .i64 a0_16, .int .i64 a0_17], .agg #[.int .i64 0, .int .i64 0, .bool false, .bool a6], .int .i64 t275] rfl (by (try simp only [List.map_toArray, List.map_cons, List.map_nil]); first | done | rfl | (simp only [List.length_drop, List.length_take]; rfl)) ?_; (with_reducible refine (seep_Siphon.calls a0_0 a0_1 a0_2 a0_3 _ _ l0_4 _ _ l0_5 _ _ l0_6 a0_7 a0_8 a0_9 a0_10 a0_11 a0_12 a0_13 a0_14 a0_15 a0_16 a0_17 0 0 false a6 t275 t285 t286 t287 t288 _ ?side1 ?side2 ?side3 ?side4 ?side5 ?side6 A125.out).mono ?_); (case side1 => repeat (first | exact (Kd.C_below HR0_4.out HB.out) | (with_reducible refine Kd.C_alloc ?_ _) | (with_reducible refine Kd.C_drewN ?_ _) | (with_reducible refine Kd.C_drew ?_))); (case side2 => exact HC0_4.out); (case side3 => repeat (first | exact (Kd.C_below HR0_5.out HB.out) | (with_reducible refine Kd.C_alloc ?_ _) | (with_reducible refine Kd.C_drewN ?_ _) | (with_reducible refine Kd.C_drew ?_))); (case side4 => exact HC0_5.out); (case side5 => repeat (first | exact (Kd.C_below HR0_6.out HB.out) | (with_reducible refine Kd.C_alloc ?_ _) | (with_reducible refine Kd.C_drewN ?_ _) | (with_reducible refine Kd.C_drew ?_))); (case side6 => exact HC0_6.out); rintro e w132 ⟨rfl, hb⟩; refine ⟨_, rfl, ?_⟩; have n0_ := Aside0.mk (bB (g := gb268) (o := .cells #[.string a0_0, .int .i64 a0_1, .int .i64 a0_2, .int .i64 a0_3, .slice A0_4 l0_4.length c0_4, .slice A0_5 l0_5.length c0_5, .slice A0_6 l0_6.length c0_6, .int .i64 a0_7, .int .i64 a0_8, .int .i64 a0_9, .int .i64 a0_10, .int .i64 a0_11, .int .i64 a0_12, .int .i64 a0_13, .int .i64 a0_14, .int .i64 a0_15, .int .i64 a0_16, .int .i64 a0_17] 26 (0, 0)) (by (with_reducible repeat (first | refine bN ?_ _ | refine bD ?_ | refine bA ?_ _)); exact BK268.out) hb); have n1_ := Aside0.mk (bB (g := gb269) (o := .cells #[.int .i64 a1_0, .int .i64 a1_1] 30 (0, 0)) (by (with_reducible repeat (first | refine bN ?_ _ | refine bD ?_ | refine bA ?_ _)); exact BK269.out) hb); have n2_ := Aside0.mk (bB (g := gb270) (o := .cells #[.int .i64 a2_0, .int .i64 a2_1] 30 (0, 0)) (by (with_reducible repeat (first | refine bN ?_ _ | refine bD ?_ | refine bA ?_ _)); exact BK270.out) hb); have n3_ := Aside0.mk (bB (g := gb271) (o := .cells #[.int .i64 a5_0, .int .i64 a5_1, .int .i64 a5_2, .int .i64 a5_3, .int .i64 a5_4] 32 (0, 0)) (by (with_reducible repeat (first | refine bN ?_ _ | refine bD ?_ | refine bA ?_ _)); exact BK271.out) hb); have n4_ := Aside0.mk (bB (g := gb279) (o := .cells #[.int .i64 t277, .int .i64 t278] 30 (0, 0)) (by (with_reducible repeat (first | refine bN ?_ _ | refine bD ?_ | refine bA ?_ _)); exact BK279.out) hb); have n5_ := Aside0.mk (bP (by repeat (first | (with_reducible first | exact HB.out | apply bL | apply bW | apply b1 | refine bS ?_ GE268.out | refine bS ?_ GE269.out | refine bS ?_ GE270.out | refine bS ?_ GE271.out | refine bS ?_ GE279.out) | exact HB.out)) hb); clear BK268; clear BK269; clear BK270; clear BK271; clear BK279; clear HB; have BK268 := n0_; have BK269 := n1_; have BK270 := n2_; have BK271 := n3_; have BK279 := n4_; have HB := n5_; clear n0_ n1_ n2_ n3_ n4_ n5_; (try clear hb); (try clear hb2); (try clear hk); (try clear hi)) | ((with_reducible refine gate_load 26 7 rfl ?_); refine box_load (g := gb268) (cs := #[.string a0_0, .int .i64 a0_1, .int .i64 a0_2, .int .i64 a0_3, .slice A0_4 l0_4.length c0_4, .slice A0_5 l0_5.length c0_5, .slice A0_6 l0_6.length c0_6, .int .i64 a0_7, .int .i64 a0_8, .int .i64 a0_9, .int .i64 a0_10, .int .i64 a0_11, .int .i64 a0_12, .int .i64 a0_13, .int .i64 a0_14, .int .i64 a0_15, .int .i64 a0_16, .int .i64 a0_17]) ?hw rfl (by (with_reducible repeat (first | refine bN ?_ _ | refine bD ?_ | refine bA ?_ _)); with_reducible exact BK268.out) ?ha hu26 rfl ?hi ?_; (case hw => first | exact wanted_none rfl | rfl); (case ha => first | rfl | (go_simp; done)); (case hi => first | rfl | kernel_rfl)))
            (try simp only [Act.put, lA, lZ, lS])
            go_cut [18] (fun v18 wc => ∃ (kq : Nat) (x18_125 : Int), v18 = .int .i64 x18_125 ∧ Aside0 (bournelaw20_SeepEncloses.j4 kq t272 x18_125 a0_0 a0_1 a0_2 a0_3 l0_4 l0_5 l0_6 a0_7 a0_8 a0_9 a0_10 a0_11 a0_12 a0_13 a0_14 a0_15 a0_16 a0_17 a1_0 a1_1 a5_0 a5_1 a5_2 a5_3 a5_4 = some r) ∧ Aside0 (kq ≤ kj104) ∧ Aside0 (wc.heap[gb268]? = some (.cells #[.string a0_0, .int .i64 a0_1, .int .i64 a0_2, .int .i64 a0_3, (.slice A0_4 l0_4.length c0_4), (.slice A0_5 l0_5.length c0_5), (.slice A0_6 l0_6.length c0_6), .int .i64 a0_7, .int .i64 a0_8, .int .i64 a0_9, .int .i64 a0_10, .int .i64 a0_11, .int .i64 a0_12, .int .i64 a0_13, .int .i64 a0_14, .int .i64 a0_15, .int .i64 a0_16, .int .i64 a0_17] 26 (0, 0))) ∧ Aside0 (wc.heap[gb269]? = some (.cells #[.int .i64 a1_0, .int .i64 a1_1] 30 (0, 0))) ∧ Aside0 (wc.heap[gb270]? = some (.cells #[.int .i64 a2_0, .int .i64 a2_1] 30 (0, 0))) ∧ Aside0 (wc.heap[gb271]? = some (.cells #[.int .i64 a5_0, .int .i64 a5_1, .int .i64 a5_2, .int .i64 a5_3, .int .i64 a5_4] 32 (0, 0))) ∧ Aside0 (wc.heap[gb279]? = some (.cells #[.int .i64 t277, .int .i64 t278] 30 (0, 0))) ∧ Aside0 (Below w.heap.size w wc))
            case first =>
             have H := HC126.out
             clear HC126
             by_cases c133 : t288 = true
             ·
              subst c133
              have H1 : (bournelaw20_SeepEncloses.j4 kj104 t272 1 a0_0 a0_1 a0_2 a0_3 l0_4 l0_5 l0_6 a0_7 a0_8 a0_9 a0_10 a0_11 a0_12 a0_13 a0_14 a0_15 a0_16 a0_17 a1_0 a1_1 a5_0 a5_1 a5_2 a5_3 a5_4) = some r := by rw [if_pos rfl] at H; exact H
              clear H
              have H := H1
              clear H1
              have H' := Aside0.mk H
              clear H
              as_aux_lemma =>
                go_wp2
                go_meet
                case rel => exact ⟨_, (1), (by first | rfl | (simp; done) | (simp [*]; done)), H', ⟨by have := HJ8.out; have := HJ59.out; have := HJ102.out; have := HJ104.out; first | omega | exact Nat.le_refl _⟩, ⟨by (with_reducible repeat (first | refine bN ?_ _ | refine bD ?_ | refine bA ?_ _)); exact BK268.out⟩, ⟨by (with_reducible repeat (first | refine bN ?_ _ | refine bD ?_ | refine bA ?_ _)); exact BK269.out⟩, ⟨by (with_reducible repeat (first | refine bN ?_ _ | refine bD ?_ | refine bA ?_ _)); exact BK270.out⟩, ⟨by (with_reducible repeat (first | refine bN ?_ _ | refine bD ?_ | refine bA ?_ _)); exact BK271.out⟩, ⟨by (with_reducible repeat (first | refine bN ?_ _ | refine bD ?_ | refine bA ?_ _)); exact BK279.out⟩, ⟨by repeat (first | (with_reducible first | exact HB.out | apply bL | apply bW | apply b1 | refine bS ?_ GE268.out | refine bS ?_ GE269.out | refine bS ?_ GE270.out | refine bS ?_ GE271.out | refine bS ?_ GE279.out) | exact HB.out)⟩⟩
             ·
              replace c133 := Bool.eq_false_iff.mpr c133
              subst c133
              have H1 : (bournelaw20_SeepEncloses.j4 kj104 t272 0 a0_0 a0_1 a0_2 a0_3 l0_4 l0_5 l0_6 a0_7 a0_8 a0_9 a0_10 a0_11 a0_12 a0_13 a0_14 a0_15 a0_16 a0_17 a1_0 a1_1 a5_0 a5_1 a5_2 a5_3 a5_4) = some r := by rw [if_neg (show ¬ (false = true) by decide)] at H; exact H
              clear H
              have H := H1
              clear H1
              have H' := Aside0.mk H
              clear H
              as_aux_lemma =>
                go_wp2
                go_meet
                case rel => exact ⟨_, (0), (by first | rfl | (simp; done) | (simp [*]; done)), H', ⟨by have := HJ8.out; have := HJ59.out; have := HJ102.out; have := HJ104.out; first | omega | exact Nat.le_refl _⟩, ⟨by (with_reducible repeat (first | refine bN ?_ _ | refine bD ?_ | refine bA ?_ _)); exact BK268.out⟩, ⟨by (with_reducible repeat (first | refine bN ?_ _ | refine bD ?_ | refine bA ?_ _)); exact BK269.out⟩, ⟨by (with_reducible repeat (first | refine bN ?_ _ | refine bD ?_ | refine bA ?_ _)); exact BK270.out⟩, ⟨by (with_reducible repeat (first | refine bN ?_ _ | refine bD ?_ | refine bA ?_ _)); exact BK271.out⟩, ⟨by (with_reducible repeat (first | refine bN ?_ _ | refine bD ?_ | refine bA ?_ _)); exact BK279.out⟩, ⟨by repeat (first | (with_reducible first | exact HB.out | apply bL | apply bW | apply b1 | refine bS ?_ GE268.out | refine bS ?_ GE269.out | refine bS ?_ GE270.out | refine bS ?_ GE271.out | refine bS ?_ GE279.out) | exact HB.out)⟩⟩
            case rest =>
             clear HC126
             try clear c1
             try clear c2
             try clear p2
             try clear c8
             try clear c10
             try clear c11
             try clear c12
             try clear c13
             try clear c14
             try clear c22
             try clear c83
             try clear c102
             try clear c104
             try clear c107
             try clear c108
             try clear c109
             try clear c110
             try clear c111
             try clear c114
             try clear c115
             try clear c116
             try clear c118
             try clear c119
             try clear c120
             try clear c121
             try clear c124
             try clear c127
             try clear c128
             try clear c129
             try clear c130
             try clear c133
             try clear hcz112_0
             try clear hcz112_1
             try clear hcz112_2
             try clear hcz112_3
             try clear hcz112_4
             try clear hcz117_0
             try clear hcz117_1
             try clear hcz117_10
             try clear hcz117_11
             try clear hcz117_12
             try clear hcz117_13
             try clear hcz117_14
             try clear hcz117_15
             try clear hcz117_16
             try clear hcz117_17
             try clear hcz117_2
             try clear hcz117_3
             try clear hcz117_4
             try clear hcz117_5
             try clear hcz117_6
             try clear hcz117_7
             try clear hcz117_8
             try clear hcz117_9
             try clear hcz122_0
             try clear hcz122_1
             try clear hcz122_2
             try clear hcz122_3
             try clear hcz122_4
             try clear hcz131_0
             try clear hcz131_1
             try clear hcz131_10
             try clear hcz131_11
             try clear hcz131_12
             try clear hcz131_13
             try clear hcz131_14
             try clear hcz131_15
             try clear hcz131_16
             try clear hcz131_17
             try clear hcz131_2
             try clear hcz131_3
             try clear hcz131_4
             try clear hcz131_5
             try clear hcz131_6
             try clear hcz131_7
             try clear hcz131_8
             try clear hcz131_9
             try clear hfz112_0
             try clear hfz112_1
             try clear hfz112_2
             try clear hfz112_3
             try clear hfz112_4
             try clear hfz117_0
             try clear hfz117_1
             try clear hfz117_10
             try clear hfz117_11
             try clear hfz117_12
             try clear hfz117_13
             try clear hfz117_14
             try clear hfz117_15
             try clear hfz117_16
             try clear hfz117_17
             try clear hfz117_2
             try clear hfz117_3
             try clear hfz117_4
             try clear hfz117_5
             try clear hfz117_6
             try clear hfz117_7
             try clear hfz117_8
             try clear hfz117_9
             try clear hfz122_0
             try clear hfz122_1
             try clear hfz122_2
             try clear hfz122_3
             try clear hfz122_4
             try clear hfz131_0
             try clear hfz131_1
             try clear hfz131_10
             try clear hfz131_11
             try clear hfz131_12
             try clear hfz131_13
             try clear hfz131_14
             try clear hfz131_15
             try clear hfz131_16
             try clear hfz131_17
             try clear hfz131_2
             try clear hfz131_3
             try clear hfz131_4
             try clear hfz131_5
             try clear hfz131_6
             try clear hfz131_7
             try clear hfz131_8
             try clear hfz131_9
             try clear p2
             obtain ⟨kq, x18_125, rfl, HA, HJ125, BK268, BK269, BK270, BK271, BK279, HB⟩ := hcut
             cases kq with
             | zero => exact absurd HA.out (by simp [bournelaw20_SeepEncloses.j4])
             | succ kj125 =>
              have H := HA.out
              clear HA
              simp only [bournelaw20_SeepEncloses.j4] at H
              replace H := Option.bind_eq_some_iff.mp H
              obtain ⟨⟨t289, t290, t291, t292, t293⟩, A1340, H⟩ := H
              dsimp only at H
              have A134 := Aside0.mk A1340
              clear A1340
              by_cases c135 : t272 = true
              ·
               subst c135
               have H1 : ((span_Has.f t292 t293 x18_125).bind fun t295 => (if t295 = true then (if t292 ≥ 0 then (if t293 ≤ 1 then (if (t289 == a5_0 && (t290 == a5_1)) = true then (some (t291 == a5_2)) else (some false)) else (some false)) else (some false)) else (some false))) = some r := by rw [if_pos rfl] at H; exact H
               clear H
               have H := H1
               clear H1
               replace H := Option.bind_eq_some_iff.mp H
               obtain ⟨t295, A1360, H⟩ := H
               have A136 := Aside0.mk A1360
               clear A1360
               by_cases c137 : t295 = true
               ·
                subst c137
                have H1 : (if t292 ≥ 0 then (if t293 ≤ 1 then (if (t289 == a5_0 && (t290 == a5_1)) = true then (some (t291 == a5_2)) else (some false)) else (some false)) else (some false)) = some r := by rw [if_pos rfl] at H; exact H
                clear H
                have H := H1
                clear H1
                by_cases c138 : t292 ≥ 0
                ·
                 rw [if_pos c138] at H
                 have c138b0 : decide (0 ≤ t292) = true := decide_eq_true c138
                 clear c138
                 by_cases c139 : t293 ≤ 1
                 ·
                  rw [if_pos c139] at H
                  have c139b0 : decide (t293 ≤ 1) = true := decide_eq_true c139
                  clear c139
                  by_cases c140 : (t289 == a5_0 && (t290 == a5_1)) = true
                  ·
                   rw [if_pos c140] at H
                   have c140b0 : (t289 == a5_0 && (t290 == a5_1)) = true := c140
                   (try (have c140b1 : decide (t289 = a5_0 && (t290 == a5_1)) = true := by simpa using c140))
                   (try (have c140b2 : (t289 == a5_0 && (t290 == a5_1)) = true := by simpa using c140))
                   clear c140
                   obtain rfl := Option.some.inj H
                   have hnb141 := NB268_269.out
                   have hnc141 := NB269_268.out
                   have hnb142 := NB268_270.out
                   have hnc142 := NB270_268.out
                   have hnb143 := NB268_271.out
                   have hnc143 := NB271_268.out
                   have hnb144 := NB268_279.out
                   have hnc144 := NB279_268.out
                   have hcz145_0 : wc.cell? ⟨gb268, 0, none⟩ = some (.string a0_0) := (bC BK268.out 0).trans rfl
                   have hcz145_1 : wc.cell? ⟨gb268, 1, none⟩ = some (.int .i64 a0_1) := (bC BK268.out 1).trans rfl
                   have hcz145_2 : wc.cell? ⟨gb268, 2, none⟩ = some (.int .i64 a0_2) := (bC BK268.out 2).trans rfl
                   have hcz145_3 : wc.cell? ⟨gb268, 3, none⟩ = some (.int .i64 a0_3) := (bC BK268.out 3).trans rfl
                   have hcz145_4 : wc.cell? ⟨gb268, 4, none⟩ = some (.slice A0_4 l0_4.length c0_4) := (bC BK268.out 4).trans rfl
                   have hcz145_5 : wc.cell? ⟨gb268, 5, none⟩ = some (.slice A0_5 l0_5.length c0_5) := (bC BK268.out 5).trans rfl
                   have hcz145_6 : wc.cell? ⟨gb268, 6, none⟩ = some (.slice A0_6 l0_6.length c0_6) := (bC BK268.out 6).trans rfl
                   have hcz145_7 : wc.cell? ⟨gb268, 7, none⟩ = some (.int .i64 a0_7) := (bC BK268.out 7).trans rfl
                   have hcz145_8 : wc.cell? ⟨gb268, 8, none⟩ = some (.int .i64 a0_8) := (bC BK268.out 8).trans rfl
                   have hcz145_9 : wc.cell? ⟨gb268, 9, none⟩ = some (.int .i64 a0_9) := (bC BK268.out 9).trans rfl
                   have hcz145_10 : wc.cell? ⟨gb268, 10, none⟩ = some (.int .i64 a0_10) := (bC BK268.out 10).trans rfl
                   have hcz145_11 : wc.cell? ⟨gb268, 11, none⟩ = some (.int .i64 a0_11) := (bC BK268.out 11).trans rfl
                   have hcz145_12 : wc.cell? ⟨gb268, 12, none⟩ = some (.int .i64 a0_12) := (bC BK268.out 12).trans rfl
                   have hcz145_13 : wc.cell? ⟨gb268, 13, none⟩ = some (.int .i64 a0_13) := (bC BK268.out 13).trans rfl
                   have hcz145_14 : wc.cell? ⟨gb268, 14, none⟩ = some (.int .i64 a0_14) := (bC BK268.out 14).trans rfl
                   have hcz145_15 : wc.cell? ⟨gb268, 15, none⟩ = some (.int .i64 a0_15) := (bC BK268.out 15).trans rfl
                   have hcz145_16 : wc.cell? ⟨gb268, 16, none⟩ = some (.int .i64 a0_16) := (bC BK268.out 16).trans rfl
                   have hcz145_17 : wc.cell? ⟨gb268, 17, none⟩ = some (.int .i64 a0_17) := (bC BK268.out 17).trans rfl
                   have hfz145_0 := bF BK268.out 0
                   have hfz145_1 := bF BK268.out 1
                   have hfz145_2 := bF BK268.out 2
                   have hfz145_3 := bF BK268.out 3
                   have hfz145_4 := bF BK268.out 4
                   have hfz145_5 := bF BK268.out 5
                   have hfz145_6 := bF BK268.out 6
                   have hfz145_7 := bF BK268.out 7
                   have hfz145_8 := bF BK268.out 8
                   have hfz145_9 := bF BK268.out 9
                   have hfz145_10 := bF BK268.out 10
                   have hfz145_11 := bF BK268.out 11
                   have hfz145_12 := bF BK268.out 12
                   have hfz145_13 := bF BK268.out 13
                   have hfz145_14 := bF BK268.out 14
                   have hfz145_15 := bF BK268.out 15
                   have hfz145_16 := bF BK268.out 16
                   have hfz145_17 := bF BK268.out 17
                   have hnb146 := NB271_269.out
                   have hnc146 := NB269_271.out
                   have hnb147 := NB271_270.out
                   have hnc147 := NB270_271.out
                   have hnb148 := NB271_279.out
                   have hnc148 := NB279_271.out
                   have hcz149_0 : wc.cell? ⟨gb271, 0, none⟩ = some (.int .i64 a5_0) := (bC BK271.out 0).trans rfl
                   have hcz149_1 : wc.cell? ⟨gb271, 1, none⟩ = some (.int .i64 a5_1) := (bC BK271.out 1).trans rfl
                   have hcz149_2 : wc.cell? ⟨gb271, 2, none⟩ = some (.int .i64 a5_2) := (bC BK271.out 2).trans rfl
                   have hcz149_3 : wc.cell? ⟨gb271, 3, none⟩ = some (.int .i64 a5_3) := (bC BK271.out 3).trans rfl
                   have hcz149_4 : wc.cell? ⟨gb271, 4, none⟩ = some (.int .i64 a5_4) := (bC BK271.out 4).trans rfl
                   have hfz149_0 := bF BK271.out 0
                   have hfz149_1 := bF BK271.out 1
                   have hfz149_2 := bF BK271.out 2
                   have hfz149_3 := bF BK271.out 3
                   have hfz149_4 := bF BK271.out 4
                   have hnb150 := NB269_270.out
                   have hnc150 := NB270_269.out
                   have hnb151 := NB269_279.out
                   have hnc151 := NB279_269.out
                   have hcz152_0 : wc.cell? ⟨gb269, 0, none⟩ = some (.int .i64 a1_0) := (bC BK269.out 0).trans rfl
                   have hcz152_1 : wc.cell? ⟨gb269, 1, none⟩ = some (.int .i64 a1_1) := (bC BK269.out 1).trans rfl
                   have hfz152_0 := bF BK269.out 0
                   have hfz152_1 := bF BK269.out 1
                   as_aux_lemma =>
                     go_wp2_with (first | ((with_reducible refine gate_callee (f := 16) rfl ?_); refine goesL_ (some 104) rfl rfl Try.func16 (by kernel_rfl) rfl #[.agg #[.string a0_0, .int .i64 a0_1, .int .i64 a0_2, .int .i64 a0_3, .slice A0_4 l0_4.length c0_4, .slice A0_5 l0_5.length c0_5, .slice A0_6 l0_6.length c0_6, .int .i64 a0_7, .int .i64 a0_8, .int .i64 a0_9, .int .i64 a0_10, .int .i64 a0_11, .int .i64 a0_12, .int .i64 a0_13, .int .i64 a0_14, .int .i64 a0_15, .int .i64 a0_16, .int .i64 a0_17], .agg #[.int .i64 a5_0, .int .i64 a5_1, .int .i64 a5_2, .int .i64 a5_3, .int .i64 a5_4], .agg #[.int .i64 a1_0, .int .i64 a1_1]] rfl (by (try simp only [List.map_toArray, List.map_cons, List.map_nil]); first | done | rfl | (simp only [List.length_drop, List.length_take]; rfl)) ?_; (with_reducible refine (seep_Maybe.calls a0_0 a0_1 a0_2 a0_3 _ _ l0_4 _ _ l0_5 _ _ l0_6 a0_7 a0_8 a0_9 a0_10 a0_11 a0_12 a0_13 a0_14 a0_15 a0_16 a0_17 a5_0 a5_1 a5_2 a5_3 a5_4 a1_0 a1_1 t289 t290 t291 t292 t293 _ ?side1 ?side2 ?side3 ?side4 ?side5 ?side6 A134.out).mono ?_); (case side1 => repeat (first | exact (Kd.C_below HR0_4.out HB.out) | (with_reducible refine Kd.C_alloc ?_ _) | (with_reducible refine Kd.C_drewN ?_ _) | (with_reducible refine Kd.C_drew ?_))); (case side2 => exact HC0_4.out); (case side3 => repeat (first | exact (Kd.C_below HR0_5.out HB.out) | (with_reducible refine Kd.C_alloc ?_ _) | (with_reducible refine Kd.C_drewN ?_ _) | (with_reducible refine Kd.C_drew ?_))); (case side4 => exact HC0_5.out); (case side5 => repeat (first | exact (Kd.C_below HR0_6.out HB.out) | (with_reducible refine Kd.C_alloc ?_ _) | (with_reducible refine Kd.C_drewN ?_ _) | (with_reducible refine Kd.C_drew ?_))); (case side6 => exact HC0_6.out); rintro e w153 ⟨rfl, hb⟩; refine ⟨_, rfl, ?_⟩; have n0_ := Aside0.mk (bB (g := gb268) (o := .cells #[.string a0_0, .int .i64 a0_1, .int .i64 a0_2, .int .i64 a0_3, .slice A0_4 l0_4.length c0_4, .slice A0_5 l0_5.length c0_5, .slice A0_6 l0_6.length c0_6, .int .i64 a0_7, .int .i64 a0_8, .int .i64 a0_9, .int .i64 a0_10, .int .i64 a0_11, .int .i64 a0_12, .int .i64 a0_13, .int .i64 a0_14, .int .i64 a0_15, .int .i64 a0_16, .int .i64 a0_17] 26 (0, 0)) (by (with_reducible repeat (first | refine bN ?_ _ | refine bD ?_ | refine bA ?_ _)); exact BK268.out) hb); have n1_ := Aside0.mk (bB (g := gb269) (o := .cells #[.int .i64 a1_0, .int .i64 a1_1] 30 (0, 0)) (by (with_reducible repeat (first | refine bN ?_ _ | refine bD ?_ | refine bA ?_ _)); exact BK269.out) hb); have n2_ := Aside0.mk (bB (g := gb270) (o := .cells #[.int .i64 a2_0, .int .i64 a2_1] 30 (0, 0)) (by (with_reducible repeat (first | refine bN ?_ _ | refine bD ?_ | refine bA ?_ _)); exact BK270.out) hb); have n3_ := Aside0.mk (bB (g := gb271) (o := .cells #[.int .i64 a5_0, .int .i64 a5_1, .int .i64 a5_2, .int .i64 a5_3, .int .i64 a5_4] 32 (0, 0)) (by (with_reducible repeat (first | refine bN ?_ _ | refine bD ?_ | refine bA ?_ _)); exact BK271.out) hb); have n4_ := Aside0.mk (bB (g := gb279) (o := .cells #[.int .i64 t277, .int .i64 t278] 30 (0, 0)) (by (with_reducible repeat (first | refine bN ?_ _ | refine bD ?_ | refine bA ?_ _)); exact BK279.out) hb); have n5_ := Aside0.mk (bP (by repeat (first | (with_reducible first | exact HB.out | apply bL | apply bW | apply b1 | refine bS ?_ GE268.out | refine bS ?_ GE269.out | refine bS ?_ GE270.out | refine bS ?_ GE271.out | refine bS ?_ GE279.out) | exact HB.out)) hb); clear BK268; clear BK269; clear BK270; clear BK271; clear BK279; clear HB; have BK268 := n0_; have BK269 := n1_; have BK270 := n2_; have BK271 := n3_; have BK279 := n4_; have HB := n5_; clear n0_ n1_ n2_ n3_ n4_ n5_; (try clear hb); (try clear hb2); (try clear hk); (try clear hi)) | ((with_reducible refine gate_dst (N := 19) rfl ?_); refine box_event ?hg (N := 19) ?hd (cs := #[.int .i64 0, .int .i64 0, .int .i64 0, .int .i64 0, .int .i64 0]) (t := 32) ?hr ?_; (case hd => rfl); (case hg => rfl); (case hr => first | (go_simp; done) | (go_simp; rfl)); intro gb294 hg w154 hbox hb; have n0_ := Aside0.mk (bB (g := gb268) (o := .cells #[.string a0_0, .int .i64 a0_1, .int .i64 a0_2, .int .i64 a0_3, .slice A0_4 l0_4.length c0_4, .slice A0_5 l0_5.length c0_5, .slice A0_6 l0_6.length c0_6, .int .i64 a0_7, .int .i64 a0_8, .int .i64 a0_9, .int .i64 a0_10, .int .i64 a0_11, .int .i64 a0_12, .int .i64 a0_13, .int .i64 a0_14, .int .i64 a0_15, .int .i64 a0_16, .int .i64 a0_17] 26 (0, 0)) (by (with_reducible repeat (first | refine bN ?_ _ | refine bD ?_ | refine bA ?_ _)); exact BK268.out) hb); have n1_ := Aside0.mk (bB (g := gb269) (o := .cells #[.int .i64 a1_0, .int .i64 a1_1] 30 (0, 0)) (by (with_reducible repeat (first | refine bN ?_ _ | refine bD ?_ | refine bA ?_ _)); exact BK269.out) hb); have n2_ := Aside0.mk (bB (g := gb270) (o := .cells #[.int .i64 a2_0, .int .i64 a2_1] 30 (0, 0)) (by (with_reducible repeat (first | refine bN ?_ _ | refine bD ?_ | refine bA ?_ _)); exact BK270.out) hb); have n3_ := Aside0.mk (bB (g := gb271) (o := .cells #[.int .i64 a5_0, .int .i64 a5_1, .int .i64 a5_2, .int .i64 a5_3, .int .i64 a5_4] 32 (0, 0)) (by (with_reducible repeat (first | refine bN ?_ _ | refine bD ?_ | refine bA ?_ _)); exact BK271.out) hb); have n4_ := Aside0.mk (bB (g := gb279) (o := .cells #[.int .i64 t277, .int .i64 t278] 30 (0, 0)) (by (with_reducible repeat (first | refine bN ?_ _ | refine bD ?_ | refine bA ?_ _)); exact BK279.out) hb); have n5_ := Aside0.mk (bP (by repeat (first | (with_reducible first | exact HB.out | apply bL | apply bW | apply b1 | refine bS ?_ GE268.out | refine bS ?_ GE269.out | refine bS ?_ GE270.out | refine bS ?_ GE271.out | refine bS ?_ GE279.out) | exact HB.out)) hb); have n6_ := Aside0.mk (hbox); have n7_ := Aside0.mk ((by rw [hg]; exact (bZ (by repeat (first | (with_reducible first | exact HB.out | apply bL | apply bW | apply b1 | refine bS ?_ GE268.out | refine bS ?_ GE269.out | refine bS ?_ GE270.out | refine bS ?_ GE271.out | refine bS ?_ GE279.out) | exact HB.out))) : w.heap.size ≤ gb294)); have n8_ := Aside0.mk ((by rw [hg]; exact (bZ (by repeat (first | (with_reducible first | exact HB.out | apply bL | apply bW | apply b1 | refine bS ?_ GE268.out | refine bS ?_ GE269.out | refine bS ?_ GE270.out | refine bS ?_ GE271.out | refine bS ?_ GE279.out) | exact HB.out))) : w.heap.size ≤ gb294)); have n9_ := Aside0.mk ((by rw [hg]; exact Nat.ne_of_lt (bT (g := gb268) (o := .cells #[.string a0_0, .int .i64 a0_1, .int .i64 a0_2, .int .i64 a0_3, .slice A0_4 l0_4.length c0_4, .slice A0_5 l0_5.length c0_5, .slice A0_6 l0_6.length c0_6, .int .i64 a0_7, .int .i64 a0_8, .int .i64 a0_9, .int .i64 a0_10, .int .i64 a0_11, .int .i64 a0_12, .int .i64 a0_13, .int .i64 a0_14, .int .i64 a0_15, .int .i64 a0_16, .int .i64 a0_17] 26 (0, 0)) (by (with_reducible repeat (first | refine bN ?_ _ | refine bD ?_ | refine bA ?_ _)); exact BK268.out)) : gb268 ≠ gb294)); have n10_ := Aside0.mk ((by rw [hg]; exact Nat.ne_of_gt (bT (g := gb268) (o := .cells #[.string a0_0, .int .i64 a0_1, .int .i64 a0_2, .int .i64 a0_3, .slice A0_4 l0_4.length c0_4, .slice A0_5 l0_5.length c0_5, .slice A0_6 l0_6.length c0_6, .int .i64 a0_7, .int .i64 a0_8, .int .i64 a0_9, .int .i64 a0_10, .int .i64 a0_11, .int .i64 a0_12, .int .i64 a0_13, .int .i64 a0_14, .int .i64 a0_15, .int .i64 a0_16, .int .i64 a0_17] 26 (0, 0)) (by (with_reducible repeat (first | refine bN ?_ _ | refine bD ?_ | refine bA ?_ _)); exact BK268.out)) : gb294 ≠ gb268)); have n11_ := Aside0.mk ((by rw [hg]; exact Nat.ne_of_lt (bT (g := gb269) (o := .cells #[.int .i64 a1_0, .int .i64 a1_1] 30 (0, 0)) (by (with_reducible repeat (first | refine bN ?_ _ | refine bD ?_ | refine bA ?_ _)); exact BK269.out)) : gb269 ≠ gb294)); have n12_ := Aside0.mk ((by rw [hg]; exact Nat.ne_of_gt (bT (g := gb269) (o := .cells #[.int .i64 a1_0, .int .i64 a1_1] 30 (0, 0)) (by (with_reducible repeat (first | refine bN ?_ _ | refine bD ?_ | refine bA ?_ _)); exact BK269.out)) : gb294 ≠ gb269)); have n13_ := Aside0.mk ((by rw [hg]; exact Nat.ne_of_lt (bT (g := gb270) (o := .cells #[.int .i64 a2_0, .int .i64 a2_1] 30 (0, 0)) (by (with_reducible repeat (first | refine bN ?_ _ | refine bD ?_ | refine bA ?_ _)); exact BK270.out)) : gb270 ≠ gb294)); have n14_ := Aside0.mk ((by rw [hg]; exact Nat.ne_of_gt (bT (g := gb270) (o := .cells #[.int .i64 a2_0, .int .i64 a2_1] 30 (0, 0)) (by (with_reducible repeat (first | refine bN ?_ _ | refine bD ?_ | refine bA ?_ _)); exact BK270.out)) : gb294 ≠ gb270)); have n15_ := Aside0.mk ((by rw [hg]; exact Nat.ne_of_lt (bT (g := gb271) (o := .cells #[.int .i64 a5_0, .int .i64 a5_1, .int .i64 a5_2, .int .i64 a5_3, .int .i64 a5_4] 32 (0, 0)) (by (with_reducible repeat (first | refine bN ?_ _ | refine bD ?_ | refine bA ?_ _)); exact BK271.out)) : gb271 ≠ gb294)); have n16_ := Aside0.mk ((by rw [hg]; exact Nat.ne_of_gt (bT (g := gb271) (o := .cells #[.int .i64 a5_0, .int .i64 a5_1, .int .i64 a5_2, .int .i64 a5_3, .int .i64 a5_4] 32 (0, 0)) (by (with_reducible repeat (first | refine bN ?_ _ | refine bD ?_ | refine bA ?_ _)); exact BK271.out)) : gb294 ≠ gb271)); have n17_ := Aside0.mk ((by rw [hg]; exact Nat.ne_of_lt (bT (g := gb279) (o := .cells #[.int .i64 t277, .int .i64 t278] 30 (0, 0)) (by (with_reducible repeat (first | refine bN ?_ _ | refine bD ?_ | refine bA ?_ _)); exact BK279.out)) : gb279 ≠ gb294)); have n18_ := Aside0.mk ((by rw [hg]; exact Nat.ne_of_gt (bT (g := gb279) (o := .cells #[.int .i64 t277, .int .i64 t278] 30 (0, 0)) (by (with_reducible repeat (first | refine bN ?_ _ | refine bD ?_ | refine bA ?_ _)); exact BK279.out)) : gb294 ≠ gb279)); clear BK268; clear BK269; clear BK270; clear BK271; clear BK279; clear HB; have BK268 := n0_; have BK269 := n1_; have BK270 := n2_; have BK271 := n3_; have BK279 := n4_; have HB := n5_; have BK294 := n6_; have GW294 := n7_; have GE294 := n8_; have NB268_294 := n9_; have NB294_268 := n10_; have NB269_294 := n11_; have NB294_269 := n12_; have NB270_294 := n13_; have NB294_270 := n14_; have NB271_294 := n15_; have NB294_271 := n16_; have NB279_294 := n17_; have NB294_279 := n18_; clear n0_ n1_ n2_ n3_ n4_ n5_ n6_ n7_ n8_ n9_ n10_ n11_ n12_ n13_ n14_ n15_ n16_ n17_ n18_; clear hb hbox hg; have hnb155 := NB294_268.out; have hnc155 := NB268_294.out; have hnb156 := NB294_269.out; have hnc156 := NB269_294.out; have hnb157 := NB294_270.out; have hnc157 := NB270_294.out; have hnb158 := NB294_271.out; have hnc158 := NB271_294.out; have hnb159 := NB294_279.out; have hnc159 := NB279_294.out; have hcz160_0 : w154.cell? ⟨gb294, 0, none⟩ = some (.int .i64 0) := (bC BK294.out 0).trans rfl; have hcz160_1 : w154.cell? ⟨gb294, 1, none⟩ = some (.int .i64 0) := (bC BK294.out 1).trans rfl; have hcz160_2 : w154.cell? ⟨gb294, 2, none⟩ = some (.int .i64 0) := (bC BK294.out 2).trans rfl; have hcz160_3 : w154.cell? ⟨gb294, 3, none⟩ = some (.int .i64 0) := (bC BK294.out 3).trans rfl; have hcz160_4 : w154.cell? ⟨gb294, 4, none⟩ = some (.int .i64 0) := (bC BK294.out 4).trans rfl; have hfz160_0 := bF BK294.out 0; have hfz160_1 := bF BK294.out 1; have hfz160_2 := bF BK294.out 2; have hfz160_3 := bF BK294.out 3; have hfz160_4 := bF BK294.out 4) | (go_at_call 22; (with_reducible refine (span_Has.calls t292 t293 x18_125 true _ A136.out).mono ?_); rintro e w161 ⟨rfl, hb⟩; (try clear A136); have n0_ := Aside0.mk (bB (g := gb268) (o := .cells #[.string a0_0, .int .i64 a0_1, .int .i64 a0_2, .int .i64 a0_3, .slice A0_4 l0_4.length c0_4, .slice A0_5 l0_5.length c0_5, .slice A0_6 l0_6.length c0_6, .int .i64 a0_7, .int .i64 a0_8, .int .i64 a0_9, .int .i64 a0_10, .int .i64 a0_11, .int .i64 a0_12, .int .i64 a0_13, .int .i64 a0_14, .int .i64 a0_15, .int .i64 a0_16, .int .i64 a0_17] 26 (0, 0)) (by (with_reducible repeat (first | refine bN ?_ _ | refine bD ?_ | refine bA ?_ _)); refine bR ?_ NB268_294.out _; (with_reducible repeat (first | refine bN ?_ _ | refine bD ?_ | refine bA ?_ _)); refine bR ?_ NB268_294.out _; (with_reducible repeat (first | refine bN ?_ _ | refine bD ?_ | refine bA ?_ _)); refine bR ?_ NB268_294.out _; (with_reducible repeat (first | refine bN ?_ _ | refine bD ?_ | refine bA ?_ _)); refine bR ?_ NB268_294.out _; (with_reducible repeat (first | refine bN ?_ _ | refine bD ?_ | refine bA ?_ _)); refine bR ?_ NB268_294.out _; (with_reducible repeat (first | refine bN ?_ _ | refine bD ?_ | refine bA ?_ _)); exact BK268.out) hb); have n1_ := Aside0.mk (bB (g := gb269) (o := .cells #[.int .i64 a1_0, .int .i64 a1_1] 30 (0, 0)) (by (with_reducible repeat (first | refine bN ?_ _ | refine bD ?_ | refine bA ?_ _)); refine bR ?_ NB269_294.out _; (with_reducible repeat (first | refine bN ?_ _ | refine bD ?_ | refine bA ?_ _)); refine bR ?_ NB269_294.out _; (with_reducible repeat (first | refine bN ?_ _ | refine bD ?_ | refine bA ?_ _)); refine bR ?_ NB269_294.out _; (with_reducible repeat (first | refine bN ?_ _ | refine bD ?_ | refine bA ?_ _)); refine bR ?_ NB269_294.out _; (with_reducible repeat (first | refine bN ?_ _ | refine bD ?_ | refine bA ?_ _)); refine bR ?_ NB269_294.out _; (with_reducible repeat (first | refine bN ?_ _ | refine bD ?_ | refine bA ?_ _)); exact BK269.out) hb); have n2_ := Aside0.mk (bB (g := gb270) (o := .cells #[.int .i64 a2_0, .int .i64 a2_1] 30 (0, 0)) (by (with_reducible repeat (first | refine bN ?_ _ | refine bD ?_ | refine bA ?_ _)); refine bR ?_ NB270_294.out _; (with_reducible repeat (first | refine bN ?_ _ | refine bD ?_ | refine bA ?_ _)); refine bR ?_ NB270_294.out _; (with_reducible repeat (first | refine bN ?_ _ | refine bD ?_ | refine bA ?_ _)); refine bR ?_ NB270_294.out _; (with_reducible repeat (first | refine bN ?_ _ | refine bD ?_ | refine bA ?_ _)); refine bR ?_ NB270_294.out _; (with_reducible repeat (first | refine bN ?_ _ | refine bD ?_ | refine bA ?_ _)); refine bR ?_ NB270_294.out _; (with_reducible repeat (first | refine bN ?_ _ | refine bD ?_ | refine bA ?_ _)); exact BK270.out) hb); have n3_ := Aside0.mk (bB (g := gb271) (o := .cells #[.int .i64 a5_0, .int .i64 a5_1, .int .i64 a5_2, .int .i64 a5_3, .int .i64 a5_4] 32 (0, 0)) (by (with_reducible repeat (first | refine bN ?_ _ | refine bD ?_ | refine bA ?_ _)); refine bR ?_ NB271_294.out _; (with_reducible repeat (first | refine bN ?_ _ | refine bD ?_ | refine bA ?_ _)); refine bR ?_ NB271_294.out _; (with_reducible repeat (first | refine bN ?_ _ | refine bD ?_ | refine bA ?_ _)); refine bR ?_ NB271_294.out _; (with_reducible repeat (first | refine bN ?_ _ | refine bD ?_ | refine bA ?_ _)); refine bR ?_ NB271_294.out _; (with_reducible repeat (first | refine bN ?_ _ | refine bD ?_ | refine bA ?_ _)); refine bR ?_ NB271_294.out _; (with_reducible repeat (first | refine bN ?_ _ | refine bD ?_ | refine bA ?_ _)); exact BK271.out) hb); have n4_ := Aside0.mk (bB (g := gb279) (o := .cells #[.int .i64 t277, .int .i64 t278] 30 (0, 0)) (by (with_reducible repeat (first | refine bN ?_ _ | refine bD ?_ | refine bA ?_ _)); refine bR ?_ NB279_294.out _; (with_reducible repeat (first | refine bN ?_ _ | refine bD ?_ | refine bA ?_ _)); refine bR ?_ NB279_294.out _; (with_reducible repeat (first | refine bN ?_ _ | refine bD ?_ | refine bA ?_ _)); refine bR ?_ NB279_294.out _; (with_reducible repeat (first | refine bN ?_ _ | refine bD ?_ | refine bA ?_ _)); refine bR ?_ NB279_294.out _; (with_reducible repeat (first | refine bN ?_ _ | refine bD ?_ | refine bA ?_ _)); refine bR ?_ NB279_294.out _; (with_reducible repeat (first | refine bN ?_ _ | refine bD ?_ | refine bA ?_ _)); exact BK279.out) hb); have n5_ := Aside0.mk (bB (g := gb294) (o := .cells #[.int .i64 t289, .int .i64 t290, .int .i64 t291, .int .i64 t292, .int .i64 t293] 32 (0, 0)) (by (with_reducible repeat (first | refine bN ?_ _ | refine bD ?_ | refine bA ?_ _)); refine bU (cs := #[.int .i64 t289, .int .i64 t290, .int .i64 t291, .int .i64 t292, .int .i64 0]) ?_ 4 _ rfl; (with_reducible repeat (first | refine bN ?_ _ | refine bD ?_ | refine bA ?_ _)); refine bU (cs := #[.int .i64 t289, .int .i64 t290, .int .i64 t291, .int .i64 0, .int .i64 0]) ?_ 3 _ rfl; (with_reducible repeat (first | refine bN ?_ _ | refine bD ?_ | refine bA ?_ _)); refine bU (cs := #[.int .i64 t289, .int .i64 t290, .int .i64 0, .int .i64 0, .int .i64 0]) ?_ 2 _ rfl; (with_reducible repeat (first | refine bN ?_ _ | refine bD ?_ | refine bA ?_ _)); refine bU (cs := #[.int .i64 t289, .int .i64 0, .int .i64 0, .int .i64 0, .int .i64 0]) ?_ 1 _ rfl; (with_reducible repeat (first | refine bN ?_ _ | refine bD ?_ | refine bA ?_ _)); refine bU (cs := #[.int .i64 0, .int .i64 0, .int .i64 0, .int .i64 0, .int .i64 0]) ?_ 0 _ rfl; (with_reducible repeat (first | refine bN ?_ _ | refine bD ?_ | refine bA ?_ _)); exact BK294.out) hb); have n6_ := Aside0.mk (bP (by repeat (first | (with_reducible first | exact HB.out | apply bL | apply bW | apply b1 | refine bS ?_ GE268.out | refine bS ?_ GE269.out | refine bS ?_ GE270.out | refine bS ?_ GE271.out | refine bS ?_ GE279.out | refine bS ?_ GE294.out) | exact HB.out)) hb); clear BK268; clear BK269; clear BK270; clear BK271; clear BK279; clear BK294; clear HB; have BK268 := n0_; have BK269 := n1_; have BK270 := n2_; have BK271 := n3_; have BK279 := n4_; have BK294 := n5_; have HB := n6_; clear n0_ n1_ n2_ n3_ n4_ n5_ n6_; (try clear hb); (try clear hb2); (try clear hk); (try clear hi); have hcz162_0 : w161.cell? ⟨gb294, 0, none⟩ = some (.int .i64 t289) := (bC BK294.out 0).trans rfl; have hcz162_1 : w161.cell? ⟨gb294, 1, none⟩ = some (.int .i64 t290) := (bC BK294.out 1).trans rfl; have hcz162_2 : w161.cell? ⟨gb294, 2, none⟩ = some (.int .i64 t291) := (bC BK294.out 2).trans rfl; have hcz162_3 : w161.cell? ⟨gb294, 3, none⟩ = some (.int .i64 t292) := (bC BK294.out 3).trans rfl; have hcz162_4 : w161.cell? ⟨gb294, 4, none⟩ = some (.int .i64 t293) := (bC BK294.out 4).trans rfl; have hfz162_0 := bF BK294.out 0; have hfz162_1 := bF BK294.out 1; have hfz162_2 := bF BK294.out 2; have hfz162_3 := bF BK294.out 3; have hfz162_4 := bF BK294.out 4; have hcz163_0 : w161.cell? ⟨gb271, 0, none⟩ = some (.int .i64 a5_0) := (bC BK271.out 0).trans rfl; have hcz163_1 : w161.cell? ⟨gb271, 1, none⟩ = some (.int .i64 a5_1) := (bC BK271.out 1).trans rfl; have hcz163_2 : w161.cell? ⟨gb271, 2, none⟩ = some (.int .i64 a5_2) := (bC BK271.out 2).trans rfl; have hcz163_3 : w161.cell? ⟨gb271, 3, none⟩ = some (.int .i64 a5_3) := (bC BK271.out 3).trans rfl; have hcz163_4 : w161.cell? ⟨gb271, 4, none⟩ = some (.int .i64 a5_4) := (bC BK271.out 4).trans rfl; have hfz163_0 := bF BK271.out 0; have hfz163_1 := bF BK271.out 1; have hfz163_2 := bF BK271.out 2; have hfz163_3 := bF BK271.out 3; have hfz163_4 := bF BK271.out 4) | ((with_reducible refine gate_load 26 7 rfl ?_); refine box_load (g := gb268) (cs := #[.string a0_0, .int .i64 a0_1, .int .i64 a0_2, .int .i64 a0_3, .slice A0_4 l0_4.length c0_4, .slice A0_5 l0_5.length c0_5, .slice A0_6 l0_6.length c0_6, .int .i64 a0_7, .int .i64 a0_8, .int .i64 a0_9, .int .i64 a0_10, .int .i64 a0_11, .int .i64 a0_12, .int .i64 a0_13, .int .i64 a0_14, .int .i64 a0_15, .int .i64 a0_16, .int .i64 a0_17]) ?hw rfl (by (with_reducible repeat (first | refine bN ?_ _ | refine bD ?_ | refine bA ?_ _)); with_reducible exact BK268.out) ?ha hu26 rfl ?hi ?_; (case hw => first | exact wanted_none rfl | rfl); (case ha => first | rfl | (go_simp; done)); (case hi => first | rfl | kernel_rfl)) | ((with_reducible refine gate_load 26 7 rfl ?_); refine box_load (g := gb268) (cs := #[.string a0_0, .int .i64 a0_1, .int .i64 a0_2, .int .i64 a0_3, .slice A0_4 l0_4.length c0_4, .slice A0_5 l0_5.length c0_5, .slice A0_6 l0_6.length c0_6, .int .i64 a0_7, .int .i64 a0_8, .int .i64 a0_9, .int .i64 a0_10, .int .i64 a0_11, .int .i64 a0_12, .int .i64 a0_13, .int .i64 a0_14, .int .i64 a0_15, .int .i64 a0_16, .int .i64 a0_17]) ?hw rfl (by (with_reducible repeat (first | refine bN ?_ _ | refine bD ?_ | refine bA ?_ _)); refine bR ?_ NB268_294.out _; (with_reducible repeat (first | refine bN ?_ _ | refine bD ?_ | refine bA ?_ _)); refine bR ?_ NB268_294.out _; (with_reducible repeat (first | refine bN ?_ _ | refine bD ?_ | refine bA ?_ _)); refine bR ?_ NB268_294.out _; (with_reducible repeat (first | refine bN ?_ _ | refine bD ?_ | refine bA ?_ _)); refine bR ?_ NB268_294.out _; (with_reducible repeat (first | refine bN ?_ _ | refine bD ?_ | refine bA ?_ _)); refine bR ?_ NB268_294.out _; (with_reducible repeat (first | refine bN ?_ _ | refine bD ?_ | refine bA ?_ _)); with_reducible exact BK268.out) ?ha hu26 rfl ?hi ?_; (case hw => first | exact wanted_none rfl | rfl); (case ha => first | rfl | (go_simp; done)); (case hi => first | rfl | kernel_rfl)))
                     go_ret
                     exact ⟨by first | rfl | (simp [errW_none, errW_some] <;> rfl) | (simp [*, errW_none, errW_some] <;> rfl), by repeat (first | (with_reducible first | exact HB.out | apply bL | apply bW | apply b1 | refine bS ?_ GE268.out | refine bS ?_ GE269.out | refine bS ?_ GE270.out | refine bS ?_ GE271.out | refine bS ?_ GE279.out | refine bS ?_ GE294.out) | exact HB.out)⟩
                  ·
                   rw [if_neg c140] at H
                   have c140b0 : (t289 == a5_0 && (t290 == a5_1)) = false := by simpa using c140
                   (try (have c140b1 : decide (t289 = a5_0 && (t290 == a5_1)) = false := by simpa using c140))
                   (try (have c140b2 : (t289 == a5_0 && (t290 == a5_1)) = false := by simpa using c140))
                   (try (have c140b3 : ¬ (t289 = a5_0 && (t290 == a5_1)) := by simpa using c140))
                   clear c140
                   exact absurd (H.trans (congrArg some hT.out)) (by simp)
                 ·
                  rw [if_neg c139] at H
                  have c139b0 : decide (t293 ≤ 1) = false := decide_eq_false c139
                  clear c139
                  exact absurd (H.trans (congrArg some hT.out)) (by simp)
                ·
                 rw [if_neg c138] at H
                 have c138b0 : decide (0 ≤ t292) = false := decide_eq_false c138
                 clear c138
                 exact absurd (H.trans (congrArg some hT.out)) (by simp)
               ·
                replace c137 := Bool.eq_false_iff.mpr c137
                subst c137
                have H1 : (some false) = some r := by rw [if_neg (show ¬ (false = true) by decide)] at H; exact H
                clear H
                have H := H1
                clear H1
                exact absurd (H.trans (congrArg some hT.out)) (by simp)
              ·
               replace c135 := Bool.eq_false_iff.mpr c135
               subst c135
               have H1 : (some false) = some r := by rw [if_neg (show ¬ (false = true) by decide)] at H; exact H
               clear H
               have H := H1
               clear H1
               exact absurd (H.trans (congrArg some hT.out)) (by simp)
def bournelaw20_SeepEncloses.Pure : Prop := ∀ (a0_0 : ByteArray) (a0_1 : Int) (a0_2 : Int) (a0_3 : Int) (l0_4 : List (S90)) (l0_5 : List (S90)) (l0_6 : List (S90)) (a0_7 : Int) (a0_8 : Int) (a0_9 : Int) (a0_10 : Int) (a0_11 : Int) (a0_12 : Int) (a0_13 : Int) (a0_14 : Int) (a0_15 : Int) (a0_16 : Int) (a0_17 : Int) (a1_0 : Int) (a1_1 : Int) (a2_0 : Int) (a2_1 : Int) (a3 : Int) (a4 : Int) (a5_0 : Int) (a5_1 : Int) (a5_2 : Int) (a5_3 : Int) (a5_4 : Int) (a6 : Bool), a0_0.size ≤ maxLen → (Lit.int .i64 a0_1).wf = true → (Lit.int .i64 a0_2).wf = true → (Lit.int .i64 a0_3).wf = true → l0_4.length ≤ maxLen → (∀ y, y ∈ l0_4 → w90 y) → l0_5.length ≤ maxLen → (∀ y, y ∈ l0_5 → w90 y) → l0_6.length ≤ maxLen → (∀ y, y ∈ l0_6 → w90 y) → (Lit.int .i64 a0_7).wf = true → (Lit.int .i64 a0_8).wf = true → (Lit.int .i64 a0_9).wf = true → (Lit.int .i64 a0_10).wf = true → (Lit.int .i64 a0_11).wf = true → (Lit.int .i64 a0_12).wf = true → (Lit.int .i64 a0_13).wf = true → (Lit.int .i64 a0_14).wf = true → (Lit.int .i64 a0_15).wf = true → (Lit.int .i64 a0_16).wf = true → (Lit.int .i64 a0_17).wf = true → (Lit.int .i64 a1_0).wf = true → (Lit.int .i64 a1_1).wf = true → (Lit.int .i64 a2_0).wf = true → (Lit.int .i64 a2_1).wf = true → (Lit.int .i64 a3).wf = true → (Lit.int .i64 a4).wf = true → (Lit.int .i64 a5_0).wf = true → (Lit.int .i64 a5_1).wf = true → (Lit.int .i64 a5_2).wf = true → (Lit.int .i64 a5_3).wf = true → (Lit.int .i64 a5_4).wf = true → ∃ k, bournelaw20_SeepEncloses.f k a0_0 a0_1 a0_2 a0_3 l0_4 l0_5 l0_6 a0_7 a0_8 a0_9 a0_10 a0_11 a0_12 a0_13 a0_14 a0_15 a0_16 a0_17 a1_0 a1_1 a2_0 a2_1 a3 a4 a5_0 a5_1 a5_2 a5_3 a5_4 a6 = some true
theorem bournelaw20_SeepEncloses.walk (P_ : bournelaw20_SeepEncloses.Pure) (a0_0 : ByteArray) (a0_1 : Int) (a0_2 : Int) (a0_3 : Int) (A0_4 : Option Addr) (c0_4 : Nat) (l0_4 : List (S90)) (A0_5 : Option Addr) (c0_5 : Nat) (l0_5 : List (S90)) (A0_6 : Option Addr) (c0_6 : Nat) (l0_6 : List (S90)) (a0_7 : Int) (a0_8 : Int) (a0_9 : Int) (a0_10 : Int) (a0_11 : Int) (a0_12 : Int) (a0_13 : Int) (a0_14 : Int) (a0_15 : Int) (a0_16 : Int) (a0_17 : Int) (a1_0 : Int) (a1_1 : Int) (a2_0 : Int) (a2_1 : Int) (a3 : Int) (a4 : Int) (a5_0 : Int) (a5_1 : Int) (a5_2 : Int) (a5_3 : Int) (a5_4 : Int) (a6 : Bool) (w : World) (hr0_4 : Kd.C k90 w A0_4 l0_4.length l0_4) (hc0_4 : l0_4.length ≤ c0_4) (hr0_5 : Kd.C k90 w A0_5 l0_5.length l0_5) (hc0_5 : l0_5.length ≤ c0_5) (hr0_6 : Kd.C k90 w A0_6 l0_6.length l0_6) (hc0_6 : l0_6.length ≤ c0_6) (y0 : a0_0.size ≤ maxLen) (y1 : (Lit.int .i64 a0_1).wf = true) (y2 : (Lit.int .i64 a0_2).wf = true) (y3 : (Lit.int .i64 a0_3).wf = true) (y4 : l0_4.length ≤ maxLen) (y5 : (∀ y, y ∈ l0_4 → w90 y)) (y6 : l0_5.length ≤ maxLen) (y7 : (∀ y, y ∈ l0_5 → w90 y)) (y8 : l0_6.length ≤ maxLen) (y9 : (∀ y, y ∈ l0_6 → w90 y)) (y10 : (Lit.int .i64 a0_7).wf = true) (y11 : (Lit.int .i64 a0_8).wf = true) (y12 : (Lit.int .i64 a0_9).wf = true) (y13 : (Lit.int .i64 a0_10).wf = true) (y14 : (Lit.int .i64 a0_11).wf = true) (y15 : (Lit.int .i64 a0_12).wf = true) (y16 : (Lit.int .i64 a0_13).wf = true) (y17 : (Lit.int .i64 a0_14).wf = true) (y18 : (Lit.int .i64 a0_15).wf = true) (y19 : (Lit.int .i64 a0_16).wf = true) (y20 : (Lit.int .i64 a0_17).wf = true) (y21 : (Lit.int .i64 a1_0).wf = true) (y22 : (Lit.int .i64 a1_1).wf = true) (y23 : (Lit.int .i64 a2_0).wf = true) (y24 : (Lit.int .i64 a2_1).wf = true) (y25 : (Lit.int .i64 a3).wf = true) (y26 : (Lit.int .i64 a4).wf = true) (y27 : (Lit.int .i64 a5_0).wf = true) (y28 : (Lit.int .i64 a5_1).wf = true) (y29 : (Lit.int .i64 a5_2).wf = true) (y30 : (Lit.int .i64 a5_3).wf = true) (y31 : (Lit.int .i64 a5_4).wf = true) :
  Calls Try.prog 7 #[.agg #[.string a0_0, .int .i64 a0_1, .int .i64 a0_2, .int .i64 a0_3, .slice A0_4 l0_4.length c0_4, .slice A0_5 l0_5.length c0_5, .slice A0_6 l0_6.length c0_6, .int .i64 a0_7, .int .i64 a0_8, .int .i64 a0_9, .int .i64 a0_10, .int .i64 a0_11, .int .i64 a0_12, .int .i64 a0_13, .int .i64 a0_14, .int .i64 a0_15, .int .i64 a0_16, .int .i64 a0_17], .agg #[.int .i64 a1_0, .int .i64 a1_1], .agg #[.int .i64 a2_0, .int .i64 a2_1], .int .i64 a3, .int .i64 a4, .agg #[.int .i64 a5_0, .int .i64 a5_1, .int .i64 a5_2, .int .i64 a5_3, .int .i64 a5_4], .bool a6] w fun e w' => e = .returned (.bool true) ∧ Below w.heap.size w w' := by
 obtain ⟨k, h⟩ := P_ a0_0 a0_1 a0_2 a0_3 l0_4 l0_5 l0_6 a0_7 a0_8 a0_9 a0_10 a0_11 a0_12 a0_13 a0_14 a0_15 a0_16 a0_17 a1_0 a1_1 a2_0 a2_1 a3 a4 a5_0 a5_1 a5_2 a5_3 a5_4 a6 y0 y1 y2 y3 y4 y5 y6 y7 y8 y9 y10 y11 y12 y13 y14 y15 y16 y17 y18 y19 y20 y21 y22 y23 y24 y25 y26 y27 y28 y29 y30 y31
 refine (bournelaw20_SeepEncloses.calls k a0_0 a0_1 a0_2 a0_3 A0_4 c0_4 l0_4 A0_5 c0_5 l0_5 A0_6 c0_6 l0_6 a0_7 a0_8 a0_9 a0_10 a0_11 a0_12 a0_13 a0_14 a0_15 a0_16 a0_17 a1_0 a1_1 a2_0 a2_1 a3 a4 a5_0 a5_1 a5_2 a5_3 a5_4 a6 true w hr0_4 hc0_4 hr0_5 hc0_5 hr0_6 hc0_6 ⟨rfl⟩ h).mono ?_
 rintro e w' ⟨rfl, hd⟩
 exact ⟨rfl, hd⟩

end Go.Proofs.Ytacpiaiohcblfaa.Fn
