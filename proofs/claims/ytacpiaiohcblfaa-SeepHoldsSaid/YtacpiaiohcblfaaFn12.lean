-- written by this session's program myprint.py out of the translation; Lean checks it
import Derived.Test.YtacpiaiohcblfaaFn0
import Derived.Test.YtacpiaiohcblfaaBox
import Derived.Test.YtacpiaiohcblfaaRdT
import Derived.Test.YtacpiaiohcblfaaFn5
import Derived.Test.YtacpiaiohcblfaaFn7
namespace Go.Proofs.Ytacpiaiohcblfaa.Fn
open Go.Proofs.Ytacpiaiohcblfaa.Rd (w90)
open Go.RowKit Go.Proofs.YtacpiaiohcblfaaW.PrintWords Go.Proofs.YtacpiaiohcblfaaW.PrintLast Go.Proofs.YtacpiaiohcblfaaW.PrintMore
attribute [local go_sem] max2_int min2_int max_two min_two max_three min_three max_four min_four   -- for this text's walks alone
set_option linter.unusedVariables false
set_option linter.unusedSimpArgs false

/-! ### bournelaw20_SeepHolds: function 5 -/
mutual
def bournelaw20_SeepHolds.l0 : Nat → List Int → Bool → Bool → Int → ByteArray → Int → Int → Int → List (S90) → List (S90) → List (S90) → Int → Int → Int → Int → Int → Int → Int → Int → Int → Int → Int → Int → Int → Bool → Bool → Option (Bool)
  | 0, _, _, _, _, _, _, _, _, _, _, _, _, _, _, _, _, _, _, _, _, _, _, _, _, _, _ => none
  | k + 1, x2, x7, x9, x10, x222000, x222001, x222002, x222003, x222004, x222005, x222006, x222007, x222008, x222009, x222010, x222011, x222012, x222013, x222014, x222015, x222016, x222017, x224000, x224001, x224002, x224003 => if x10 < (x2.length : Int) then (if 0 ≤ x10 then ((seep_Siphon.f x222000 x222001 x222002 x222003 x222004 x222005 x222006 x222007 x222008 x222009 x222010 x222011 x222012 x222013 x222014 x222015 x222016 x222017 x224000 x224001 x224002 x224003 (rd x2 x10)).bind fun bt225 => (if (rd x2 x10) ≥ x222013 then (bournelaw20_SeepHolds.j1 k x2 x7 true x10 x222000 x222001 x222002 x222003 x222004 x222005 x222006 x222007 x222008 x222009 x222010 x222011 x222012 x222013 x222014 x222015 x222016 x222017 bt225.1 bt225.2.1 bt225.2.2.1 bt225.2.2.2) else (bournelaw20_SeepHolds.j1 k x2 x7 x9 x10 x222000 x222001 x222002 x222003 x222004 x222005 x222006 x222007 x222008 x222009 x222010 x222011 x222012 x222013 x222014 x222015 x222016 x222017 bt225.1 bt225.2.1 bt225.2.2.1 bt225.2.2.2))) else (none)) else (some x7)
def bournelaw20_SeepHolds.j1 : Nat → List Int → Bool → Bool → Int → ByteArray → Int → Int → Int → List (S90) → List (S90) → List (S90) → Int → Int → Int → Int → Int → Int → Int → Int → Int → Int → Int → Int → Int → Bool → Bool → Option (Bool)
  | 0, _, _, _, _, _, _, _, _, _, _, _, _, _, _, _, _, _, _, _, _, _, _, _, _, _, _ => none
  | k + 1, x2, x7, x9, x10, x222000, x222001, x222002, x222003, x222004, x222005, x222006, x222007, x222008, x222009, x222010, x222011, x222012, x222013, x222014, x222015, x222016, x222017, x224000, x224001, x224002, x224003 => if 0 ≤ x10 then (if x10 < (x2.length : Int) then (if (rd x2 x10) ≤ x222014 then (bournelaw20_SeepHolds.j2 k x2 x7 false x10 x222000 x222001 x222002 x222003 x222004 x222005 x222006 x222007 x222008 x222009 x222010 x222011 x222012 x222013 x222014 x222015 x222016 x222017 x224000 x224001 x224002 x224003) else (bournelaw20_SeepHolds.j2 k x2 x7 x9 x10 x222000 x222001 x222002 x222003 x222004 x222005 x222006 x222007 x222008 x222009 x222010 x222011 x222012 x222013 x222014 x222015 x222016 x222017 x224000 x224001 x224002 x224003)) else (none)) else (none)
def bournelaw20_SeepHolds.j2 : Nat → List Int → Bool → Bool → Int → ByteArray → Int → Int → Int → List (S90) → List (S90) → List (S90) → Int → Int → Int → Int → Int → Int → Int → Int → Int → Int → Int → Int → Int → Bool → Bool → Option (Bool)
  | 0, _, _, _, _, _, _, _, _, _, _, _, _, _, _, _, _, _, _, _, _, _, _, _, _, _, _ => none
  | k + 1, x2, x7, x9, x10, x222000, x222001, x222002, x222003, x222004, x222005, x222006, x222007, x222008, x222009, x222010, x222011, x222012, x222013, x222014, x222015, x222016, x222017, x224000, x224001, x224002, x224003 => if (x224003 != x9) = true then (bournelaw20_SeepHolds.j3 k x2 x7 x9 x10 true x222000 x222001 x222002 x222003 x222004 x222005 x222006 x222007 x222008 x222009 x222010 x222011 x222012 x222013 x222014 x222015 x222016 x222017 x224000 x224001 x224002 x224003) else (if x224000 = 1 then (if x224001 = 2 then (bournelaw20_SeepHolds.j3 k x2 x7 x9 x10 x224002 x222000 x222001 x222002 x222003 x222004 x222005 x222006 x222007 x222008 x222009 x222010 x222011 x222012 x222013 x222014 x222015 x222016 x222017 x224000 x224001 x224002 x224003) else (bournelaw20_SeepHolds.j3 k x2 x7 x9 x10 true x222000 x222001 x222002 x222003 x222004 x222005 x222006 x222007 x222008 x222009 x222010 x222011 x222012 x222013 x222014 x222015 x222016 x222017 x224000 x224001 x224002 x224003)) else (bournelaw20_SeepHolds.j3 k x2 x7 x9 x10 true x222000 x222001 x222002 x222003 x222004 x222005 x222006 x222007 x222008 x222009 x222010 x222011 x222012 x222013 x222014 x222015 x222016 x222017 x224000 x224001 x224002 x224003))
def bournelaw20_SeepHolds.j3 : Nat → List Int → Bool → Bool → Int → Bool → ByteArray → Int → Int → Int → List (S90) → List (S90) → List (S90) → Int → Int → Int → Int → Int → Int → Int → Int → Int → Int → Int → Int → Int → Bool → Bool → Option (Bool)
  | 0, _, _, _, _, _, _, _, _, _, _, _, _, _, _, _, _, _, _, _, _, _, _, _, _, _, _, _ => none
  | k + 1, x2, x7, x9, x10, x66, x222000, x222001, x222002, x222003, x222004, x222005, x222006, x222007, x222008, x222009, x222010, x222011, x222012, x222013, x222014, x222015, x222016, x222017, x224000, x224001, x224002, x224003 => if x66 = true then (some false) else (bournelaw20_SeepHolds.l0 k x2 x7 x9 (wrap64 (x10 + 1)) x222000 x222001 x222002 x222003 x222004 x222005 x222006 x222007 x222008 x222009 x222010 x222011 x222012 x222013 x222014 x222015 x222016 x222017 x224000 x224001 x224002 x224003)
end
def bournelaw20_SeepHolds.f (k : Nat) (a0_0 : ByteArray) (a0_1 : Int) (a0_2 : Int) (a0_3 : Int) (l0_4 : List (S90)) (l0_5 : List (S90)) (l0_6 : List (S90)) (a0_7 : Int) (a0_8 : Int) (a0_9 : Int) (a0_10 : Int) (a0_11 : Int) (a0_12 : Int) (a0_13 : Int) (a0_14 : Int) (a0_15 : Int) (a0_16 : Int) (a0_17 : Int) (a1 : Bool) (l2 : List Int) : Option (Bool) := (bournelaw20_small.f k).bind fun t222 => (if a0_13 ≤ a0_14 then (some t222) else (bournelaw20_SeepHolds.l0 k l2 t222 a1 0 a0_0 3 a0_2 a0_3 l0_4 l0_5 l0_6 a0_7 a0_8 a0_9 a0_10 a0_11 a0_12 a0_13 a0_14 a0_15 a0_16 a0_17 1 2 false a1))
theorem bournelaw20_SeepHolds.mono_l : ∀ k, (∀ y0 y1 y2 y3 y4 y5 y6 y7 y8 y9 y10 y11 y12 y13 y14 y15 y16 y17 y18 y19 y20 y21 y22 y23 y24 y25, LeO (bournelaw20_SeepHolds.l0 k y0 y1 y2 y3 y4 y5 y6 y7 y8 y9 y10 y11 y12 y13 y14 y15 y16 y17 y18 y19 y20 y21 y22 y23 y24 y25) (bournelaw20_SeepHolds.l0 (k + 1) y0 y1 y2 y3 y4 y5 y6 y7 y8 y9 y10 y11 y12 y13 y14 y15 y16 y17 y18 y19 y20 y21 y22 y23 y24 y25)) ∧ (∀ y0 y1 y2 y3 y4 y5 y6 y7 y8 y9 y10 y11 y12 y13 y14 y15 y16 y17 y18 y19 y20 y21 y22 y23 y24 y25, LeO (bournelaw20_SeepHolds.j1 k y0 y1 y2 y3 y4 y5 y6 y7 y8 y9 y10 y11 y12 y13 y14 y15 y16 y17 y18 y19 y20 y21 y22 y23 y24 y25) (bournelaw20_SeepHolds.j1 (k + 1) y0 y1 y2 y3 y4 y5 y6 y7 y8 y9 y10 y11 y12 y13 y14 y15 y16 y17 y18 y19 y20 y21 y22 y23 y24 y25)) ∧ (∀ y0 y1 y2 y3 y4 y5 y6 y7 y8 y9 y10 y11 y12 y13 y14 y15 y16 y17 y18 y19 y20 y21 y22 y23 y24 y25, LeO (bournelaw20_SeepHolds.j2 k y0 y1 y2 y3 y4 y5 y6 y7 y8 y9 y10 y11 y12 y13 y14 y15 y16 y17 y18 y19 y20 y21 y22 y23 y24 y25) (bournelaw20_SeepHolds.j2 (k + 1) y0 y1 y2 y3 y4 y5 y6 y7 y8 y9 y10 y11 y12 y13 y14 y15 y16 y17 y18 y19 y20 y21 y22 y23 y24 y25)) ∧ (∀ y0 y1 y2 y3 y4 y5 y6 y7 y8 y9 y10 y11 y12 y13 y14 y15 y16 y17 y18 y19 y20 y21 y22 y23 y24 y25 y26, LeO (bournelaw20_SeepHolds.j3 k y0 y1 y2 y3 y4 y5 y6 y7 y8 y9 y10 y11 y12 y13 y14 y15 y16 y17 y18 y19 y20 y21 y22 y23 y24 y25 y26) (bournelaw20_SeepHolds.j3 (k + 1) y0 y1 y2 y3 y4 y5 y6 y7 y8 y9 y10 y11 y12 y13 y14 y15 y16 y17 y18 y19 y20 y21 y22 y23 y24 y25 y26))
  | 0 => ⟨fun _ _ _ _ _ _ _ _ _ _ _ _ _ _ _ _ _ _ _ _ _ _ _ _ _ _ r h => by simp [bournelaw20_SeepHolds.l0] at h, fun _ _ _ _ _ _ _ _ _ _ _ _ _ _ _ _ _ _ _ _ _ _ _ _ _ _ r h => by simp [bournelaw20_SeepHolds.j1] at h, fun _ _ _ _ _ _ _ _ _ _ _ _ _ _ _ _ _ _ _ _ _ _ _ _ _ _ r h => by simp [bournelaw20_SeepHolds.j2] at h, fun _ _ _ _ _ _ _ _ _ _ _ _ _ _ _ _ _ _ _ _ _ _ _ _ _ _ _ r h => by simp [bournelaw20_SeepHolds.j3] at h⟩
  | k + 1 => by
    obtain ⟨ih0, ih1, ih2, ih3⟩ := bournelaw20_SeepHolds.mono_l k
    refine ⟨?_, ?_, ?_, ?_⟩
    · intro y0 y1 y2 y3 y4 y5 y6 y7 y8 y9 y10 y11 y12 y13 y14 y15 y16 y17 y18 y19 y20 y21 y22 y23 y24 y25
      unfold bournelaw20_SeepHolds.l0
      repeat' first
      | (with_reducible exact ih0 _ _ _ _ _ _ _ _ _ _ _ _ _ _ _ _ _ _ _ _ _ _ _ _ _ _)
      | (with_reducible exact ih1 _ _ _ _ _ _ _ _ _ _ _ _ _ _ _ _ _ _ _ _ _ _ _ _ _ _)
      | (with_reducible exact ih2 _ _ _ _ _ _ _ _ _ _ _ _ _ _ _ _ _ _ _ _ _ _ _ _ _ _)
      | (with_reducible exact ih3 _ _ _ _ _ _ _ _ _ _ _ _ _ _ _ _ _ _ _ _ _ _ _ _ _ _ _)
      | (with_reducible exact bournelaw20_small.mono _)
      | (with_reducible exact LeO.refl _)
      | (with_reducible exact LeO.none _)
      | (with_reducible refine LeO.ite ?_ ?_)
      | (with_reducible refine LeO.bind ?_ (fun _ => ?_))
      | exact ih0 _ _ _ _ _ _ _ _ _ _ _ _ _ _ _ _ _ _ _ _ _ _ _ _ _ _
      | exact ih1 _ _ _ _ _ _ _ _ _ _ _ _ _ _ _ _ _ _ _ _ _ _ _ _ _ _
      | exact ih2 _ _ _ _ _ _ _ _ _ _ _ _ _ _ _ _ _ _ _ _ _ _ _ _ _ _
      | exact ih3 _ _ _ _ _ _ _ _ _ _ _ _ _ _ _ _ _ _ _ _ _ _ _ _ _ _ _
      | exact bournelaw20_small.mono _
      | exact LeO.none _
      | refine LeO.ite ?_ ?_
      | refine LeO.bind ?_ (fun _ => ?_)
    · intro y0 y1 y2 y3 y4 y5 y6 y7 y8 y9 y10 y11 y12 y13 y14 y15 y16 y17 y18 y19 y20 y21 y22 y23 y24 y25
      unfold bournelaw20_SeepHolds.j1
      repeat' first
      | (with_reducible exact ih0 _ _ _ _ _ _ _ _ _ _ _ _ _ _ _ _ _ _ _ _ _ _ _ _ _ _)
      | (with_reducible exact ih1 _ _ _ _ _ _ _ _ _ _ _ _ _ _ _ _ _ _ _ _ _ _ _ _ _ _)
      | (with_reducible exact ih2 _ _ _ _ _ _ _ _ _ _ _ _ _ _ _ _ _ _ _ _ _ _ _ _ _ _)
      | (with_reducible exact ih3 _ _ _ _ _ _ _ _ _ _ _ _ _ _ _ _ _ _ _ _ _ _ _ _ _ _ _)
      | (with_reducible exact bournelaw20_small.mono _)
      | (with_reducible exact LeO.refl _)
      | (with_reducible exact LeO.none _)
      | (with_reducible refine LeO.ite ?_ ?_)
      | (with_reducible refine LeO.bind ?_ (fun _ => ?_))
      | exact ih0 _ _ _ _ _ _ _ _ _ _ _ _ _ _ _ _ _ _ _ _ _ _ _ _ _ _
      | exact ih1 _ _ _ _ _ _ _ _ _ _ _ _ _ _ _ _ _ _ _ _ _ _ _ _ _ _
      | exact ih2 _ _ _ _ _ _ _ _ _ _ _ _ _ _ _ _ _ _ _ _ _ _ _ _ _ _
      | exact ih3 _ _ _ _ _ _ _ _ _ _ _ _ _ _ _ _ _ _ _ _ _ _ _ _ _ _ _
      | exact bournelaw20_small.mono _
      | exact LeO.none _
      | refine LeO.ite ?_ ?_
      | refine LeO.bind ?_ (fun _ => ?_)
    · intro y0 y1 y2 y3 y4 y5 y6 y7 y8 y9 y10 y11 y12 y13 y14 y15 y16 y17 y18 y19 y20 y21 y22 y23 y24 y25
      unfold bournelaw20_SeepHolds.j2
      repeat' first
      | (with_reducible exact ih0 _ _ _ _ _ _ _ _ _ _ _ _ _ _ _ _ _ _ _ _ _ _ _ _ _ _)
      | (with_reducible exact ih1 _ _ _ _ _ _ _ _ _ _ _ _ _ _ _ _ _ _ _ _ _ _ _ _ _ _)
      | (with_reducible exact ih2 _ _ _ _ _ _ _ _ _ _ _ _ _ _ _ _ _ _ _ _ _ _ _ _ _ _)
      | (with_reducible exact ih3 _ _ _ _ _ _ _ _ _ _ _ _ _ _ _ _ _ _ _ _ _ _ _ _ _ _ _)
      | (with_reducible exact bournelaw20_small.mono _)
      | (with_reducible exact LeO.refl _)
      | (with_reducible exact LeO.none _)
      | (with_reducible refine LeO.ite ?_ ?_)
      | (with_reducible refine LeO.bind ?_ (fun _ => ?_))
      | exact ih0 _ _ _ _ _ _ _ _ _ _ _ _ _ _ _ _ _ _ _ _ _ _ _ _ _ _
      | exact ih1 _ _ _ _ _ _ _ _ _ _ _ _ _ _ _ _ _ _ _ _ _ _ _ _ _ _
      | exact ih2 _ _ _ _ _ _ _ _ _ _ _ _ _ _ _ _ _ _ _ _ _ _ _ _ _ _
      | exact ih3 _ _ _ _ _ _ _ _ _ _ _ _ _ _ _ _ _ _ _ _ _ _ _ _ _ _ _
      | exact bournelaw20_small.mono _
      | exact LeO.none _
      | refine LeO.ite ?_ ?_
      | refine LeO.bind ?_ (fun _ => ?_)
    · intro y0 y1 y2 y3 y4 y5 y6 y7 y8 y9 y10 y11 y12 y13 y14 y15 y16 y17 y18 y19 y20 y21 y22 y23 y24 y25 y26
      unfold bournelaw20_SeepHolds.j3
      repeat' first
      | (with_reducible exact ih0 _ _ _ _ _ _ _ _ _ _ _ _ _ _ _ _ _ _ _ _ _ _ _ _ _ _)
      | (with_reducible exact ih1 _ _ _ _ _ _ _ _ _ _ _ _ _ _ _ _ _ _ _ _ _ _ _ _ _ _)
      | (with_reducible exact ih2 _ _ _ _ _ _ _ _ _ _ _ _ _ _ _ _ _ _ _ _ _ _ _ _ _ _)
      | (with_reducible exact ih3 _ _ _ _ _ _ _ _ _ _ _ _ _ _ _ _ _ _ _ _ _ _ _ _ _ _ _)
      | (with_reducible exact bournelaw20_small.mono _)
      | (with_reducible exact LeO.refl _)
      | (with_reducible exact LeO.none _)
      | (with_reducible refine LeO.ite ?_ ?_)
      | (with_reducible refine LeO.bind ?_ (fun _ => ?_))
      | exact ih0 _ _ _ _ _ _ _ _ _ _ _ _ _ _ _ _ _ _ _ _ _ _ _ _ _ _
      | exact ih1 _ _ _ _ _ _ _ _ _ _ _ _ _ _ _ _ _ _ _ _ _ _ _ _ _ _
      | exact ih2 _ _ _ _ _ _ _ _ _ _ _ _ _ _ _ _ _ _ _ _ _ _ _ _ _ _
      | exact ih3 _ _ _ _ _ _ _ _ _ _ _ _ _ _ _ _ _ _ _ _ _ _ _ _ _ _ _
      | exact bournelaw20_small.mono _
      | exact LeO.none _
      | refine LeO.ite ?_ ?_
      | refine LeO.bind ?_ (fun _ => ?_)
theorem bournelaw20_SeepHolds.mono : ∀ a0 a1 a2 a3 a4 a5 a6 a7 a8 a9 a10 a11 a12 a13 a14 a15 a16 a17 a18 a19 k, LeO (bournelaw20_SeepHolds.f k a0 a1 a2 a3 a4 a5 a6 a7 a8 a9 a10 a11 a12 a13 a14 a15 a16 a17 a18 a19) (bournelaw20_SeepHolds.f (k + 1) a0 a1 a2 a3 a4 a5 a6 a7 a8 a9 a10 a11 a12 a13 a14 a15 a16 a17 a18 a19) := by
  intro a0 a1 a2 a3 a4 a5 a6 a7 a8 a9 a10 a11 a12 a13 a14 a15 a16 a17 a18 a19 k
  obtain ⟨ih0, ih1, ih2, ih3⟩ := bournelaw20_SeepHolds.mono_l k
  unfold bournelaw20_SeepHolds.f
  repeat' first
      | (with_reducible exact ih0 _ _ _ _ _ _ _ _ _ _ _ _ _ _ _ _ _ _ _ _ _ _ _ _ _ _)
      | (with_reducible exact ih1 _ _ _ _ _ _ _ _ _ _ _ _ _ _ _ _ _ _ _ _ _ _ _ _ _ _)
      | (with_reducible exact ih2 _ _ _ _ _ _ _ _ _ _ _ _ _ _ _ _ _ _ _ _ _ _ _ _ _ _)
      | (with_reducible exact ih3 _ _ _ _ _ _ _ _ _ _ _ _ _ _ _ _ _ _ _ _ _ _ _ _ _ _ _)
      | (with_reducible exact bournelaw20_small.mono _)
      | (with_reducible exact LeO.refl _)
      | (with_reducible exact LeO.none _)
      | (with_reducible refine LeO.ite ?_ ?_)
      | (with_reducible refine LeO.bind ?_ (fun _ => ?_))
      | exact ih0 _ _ _ _ _ _ _ _ _ _ _ _ _ _ _ _ _ _ _ _ _ _ _ _ _ _
      | exact ih1 _ _ _ _ _ _ _ _ _ _ _ _ _ _ _ _ _ _ _ _ _ _ _ _ _ _
      | exact ih2 _ _ _ _ _ _ _ _ _ _ _ _ _ _ _ _ _ _ _ _ _ _ _ _ _ _
      | exact ih3 _ _ _ _ _ _ _ _ _ _ _ _ _ _ _ _ _ _ _ _ _ _ _ _ _ _ _
      | exact bournelaw20_small.mono _
      | exact LeO.none _
      | refine LeO.ite ?_ ?_
      | refine LeO.bind ?_ (fun _ => ?_)
def bournelaw20_SeepHolds.T10 : Bool × List (List Nat × List Nat) := (true, [([], []), ([], []), ([], []), ([], []), ([2, 3], [2, 3]), ([4], [4]), ([0, 1, 5], [0, 1, 5]), ([6, 6, 0, 1, 2, 3, 4, 5, 6], [6])])
def bournelaw20_SeepHolds.B10 : List Nat := [0, 0, 0, 0, 12, 28, 63, 127]
theorem bournelaw20_SeepHolds.tab10 : rtab .any (opsOf Try.f5 10) = bournelaw20_SeepHolds.T10 := by kernel_rfl
theorem bournelaw20_SeepHolds.bits10 : waitsOk bournelaw20_SeepHolds.T10.2 bournelaw20_SeepHolds.B10 = true := by kernel_rfl
set_option maxHeartbeats 8000000 in
set_option maxRecDepth 100000 in
theorem bournelaw20_SeepHolds.calls (k : Nat) (a0_0 : ByteArray) (a0_1 : Int) (a0_2 : Int) (a0_3 : Int) (A0_4 : Option Addr) (c0_4 : Nat) (l0_4 : List (S90)) (A0_5 : Option Addr) (c0_5 : Nat) (l0_5 : List (S90)) (A0_6 : Option Addr) (c0_6 : Nat) (l0_6 : List (S90)) (a0_7 : Int) (a0_8 : Int) (a0_9 : Int) (a0_10 : Int) (a0_11 : Int) (a0_12 : Int) (a0_13 : Int) (a0_14 : Int) (a0_15 : Int) (a0_16 : Int) (a0_17 : Int) (a1 : Bool) (A2 : Option Addr) (c2 : Nat) (l2 : List Int) (r : Bool) (w : World) (hr0_4 : Kd.C k90 w A0_4 l0_4.length l0_4) (hc0_4 : l0_4.length ≤ c0_4) (hr0_5 : Kd.C k90 w A0_5 l0_5.length l0_5) (hc0_5 : l0_5.length ≤ c0_5) (hr0_6 : Kd.C k90 w A0_6 l0_6.length l0_6) (hc0_6 : l0_6.length ≤ c0_6) (hr2 : Kd.C (Kd.int .i64) w A2 l2.length l2) (hc2 : l2.length ≤ c2) (hT : Aside0 (r = true)) (h : bournelaw20_SeepHolds.f k a0_0 a0_1 a0_2 a0_3 l0_4 l0_5 l0_6 a0_7 a0_8 a0_9 a0_10 a0_11 a0_12 a0_13 a0_14 a0_15 a0_16 a0_17 a1 l2 = some r) :
    Calls Try.prog 5 #[.agg #[.string a0_0, .int .i64 a0_1, .int .i64 a0_2, .int .i64 a0_3, .slice A0_4 l0_4.length c0_4, .slice A0_5 l0_5.length c0_5, .slice A0_6 l0_6.length c0_6, .int .i64 a0_7, .int .i64 a0_8, .int .i64 a0_9, .int .i64 a0_10, .int .i64 a0_11, .int .i64 a0_12, .int .i64 a0_13, .int .i64 a0_14, .int .i64 a0_15, .int .i64 a0_16, .int .i64 a0_17], .bool a1, .slice A2 l2.length c2] w fun e w' => e = .returned (.bool r) ∧ Below w.heap.size w w' := by
  have hu26 := Try.underlying26
  have hu28 := Try.underlying28
  have HR0_4 := Aside0.mk hr0_4
  have HC0_4 := Aside0.mk hc0_4
  clear hr0_4 hc0_4
  have HR0_5 := Aside0.mk hr0_5
  have HC0_5 := Aside0.mk hc0_5
  clear hr0_5 hc0_5
  have HR0_6 := Aside0.mk hr0_6
  have HC0_6 := Aside0.mk hc0_6
  clear hr0_6 hc0_6
  have HR2 := Aside0.mk hr2
  have HC2 := Aside0.mk hc2
  clear hr2 hc2
  have HB := Aside0.mk (Below.refl w.heap.size w)
  have H : ((bournelaw20_small.f k).bind fun t222 => (if a0_13 ≤ a0_14 then (some t222) else (bournelaw20_SeepHolds.l0 k l2 t222 a1 0 a0_0 3 a0_2 a0_3 l0_4 l0_5 l0_6 a0_7 a0_8 a0_9 a0_10 a0_11 a0_12 a0_13 a0_14 a0_15 a0_16 a0_17 1 2 false a1))) = some r := h
  clear h
  replace H := Option.bind_eq_some_iff.mp H
  obtain ⟨t222, A40, H⟩ := H
  have A4 := Aside0.mk A40
  clear A40
  by_cases c5 : a0_13 ≤ a0_14
  · rw [if_pos c5] at H
    have c5b0 : decide (a0_13 ≤ a0_14) = true := decide_eq_true c5
    clear c5
    obtain rfl := Option.some.inj H
    go_enter Try.func5, Try.ntmps5
    (try simp only [List.append_eq, List.cons_append, List.nil_append])
    as_aux_lemma =>
      go_wp2_with (first | ((with_reducible refine gate_dst (N := 3) rfl ?_); refine box_event ?hg (N := 3) ?hd (cs := #[.string a0_0, .int .i64 a0_1, .int .i64 a0_2, .int .i64 a0_3, .slice A0_4 l0_4.length c0_4, .slice A0_5 l0_5.length c0_5, .slice A0_6 l0_6.length c0_6, .int .i64 a0_7, .int .i64 a0_8, .int .i64 a0_9, .int .i64 a0_10, .int .i64 a0_11, .int .i64 a0_12, .int .i64 a0_13, .int .i64 a0_14, .int .i64 a0_15, .int .i64 a0_16, .int .i64 a0_17]) (t := 26) ?hr ?_; (case hd => rfl); (case hg => rfl); (case hr => first | (go_simp; done) | (go_simp; rfl)); intro gb221 hg w6 hbox hb; have n0_ := Aside0.mk (below_step (by repeat (first | (with_reducible first | exact HB.out | apply below_alloc | apply pw_below_drewN | apply below_drew1) | exact HB.out)) hb); have n1_ := Aside0.mk (hbox); have n2_ := Aside0.mk ((by rw [hg]; exact (below_size (by repeat (first | (with_reducible first | exact HB.out | apply below_alloc | apply pw_below_drewN | apply below_drew1) | exact HB.out))) : w.heap.size ≤ gb221)); have n3_ := Aside0.mk ((by rw [hg]; exact (below_size (by repeat (first | (with_reducible first | exact HB.out | apply below_alloc | apply pw_below_drewN | apply below_drew1) | exact HB.out))) : w.heap.size ≤ gb221)); clear HB; have HB := n0_; have BK221 := n1_; have GW221 := n2_; have GE221 := n3_; clear n0_ n1_ n2_ n3_; clear hb hbox hg) | ((with_reducible refine gate_callee (f := 9) rfl ?_); refine goesL_ (some 11) rfl rfl Try.func9 (by kernel_rfl) rfl #[] rfl (by (try simp only [List.map_toArray, List.map_cons, List.map_nil]); first | done | rfl | (simp only [List.length_drop, List.length_take]; rfl)) ?_; (with_reducible refine (bournelaw20_small.calls k  t222 _ A4.out).mono ?_); rintro e w7 ⟨rfl, hb⟩; refine ⟨_, rfl, ?_⟩; have n0_ := Aside0.mk (blk_below (g := gb221) (o := .cells #[.string a0_0, .int .i64 a0_1, .int .i64 a0_2, .int .i64 a0_3, .slice A0_4 l0_4.length c0_4, .slice A0_5 l0_5.length c0_5, .slice A0_6 l0_6.length c0_6, .int .i64 a0_7, .int .i64 a0_8, .int .i64 a0_9, .int .i64 a0_10, .int .i64 a0_11, .int .i64 a0_12, .int .i64 a0_13, .int .i64 a0_14, .int .i64 a0_15, .int .i64 a0_16, .int .i64 a0_17] 26 (0, 0)) (by (with_reducible repeat (first | refine blk_drewN ?_ _ | refine blk_drew ?_ | refine blk_alloc ?_ _)); exact BK221.out) hb); have n1_ := Aside0.mk (below_step (by repeat (first | (with_reducible first | exact HB.out | apply below_alloc | apply pw_below_drewN | apply below_drew1 | refine below_set ?_ GE221.out) | exact HB.out)) hb); clear BK221; clear HB; have BK221 := n0_; have HB := n1_; clear n0_ n1_; (try clear hb); (try clear hb2); (try clear hk); (try clear hi); have hcz8_0 : w7.cell? ⟨gb221, 0, none⟩ = some (.string a0_0) := (blk_cell BK221.out 0).trans rfl; have hcz8_1 : w7.cell? ⟨gb221, 1, none⟩ = some (.int .i64 a0_1) := (blk_cell BK221.out 1).trans rfl; have hcz8_2 : w7.cell? ⟨gb221, 2, none⟩ = some (.int .i64 a0_2) := (blk_cell BK221.out 2).trans rfl; have hcz8_3 : w7.cell? ⟨gb221, 3, none⟩ = some (.int .i64 a0_3) := (blk_cell BK221.out 3).trans rfl; have hcz8_4 : w7.cell? ⟨gb221, 4, none⟩ = some (.slice A0_4 l0_4.length c0_4) := (blk_cell BK221.out 4).trans rfl; have hcz8_5 : w7.cell? ⟨gb221, 5, none⟩ = some (.slice A0_5 l0_5.length c0_5) := (blk_cell BK221.out 5).trans rfl; have hcz8_6 : w7.cell? ⟨gb221, 6, none⟩ = some (.slice A0_6 l0_6.length c0_6) := (blk_cell BK221.out 6).trans rfl; have hcz8_7 : w7.cell? ⟨gb221, 7, none⟩ = some (.int .i64 a0_7) := (blk_cell BK221.out 7).trans rfl; have hcz8_8 : w7.cell? ⟨gb221, 8, none⟩ = some (.int .i64 a0_8) := (blk_cell BK221.out 8).trans rfl; have hcz8_9 : w7.cell? ⟨gb221, 9, none⟩ = some (.int .i64 a0_9) := (blk_cell BK221.out 9).trans rfl; have hcz8_10 : w7.cell? ⟨gb221, 10, none⟩ = some (.int .i64 a0_10) := (blk_cell BK221.out 10).trans rfl; have hcz8_11 : w7.cell? ⟨gb221, 11, none⟩ = some (.int .i64 a0_11) := (blk_cell BK221.out 11).trans rfl; have hcz8_12 : w7.cell? ⟨gb221, 12, none⟩ = some (.int .i64 a0_12) := (blk_cell BK221.out 12).trans rfl; have hcz8_13 : w7.cell? ⟨gb221, 13, none⟩ = some (.int .i64 a0_13) := (blk_cell BK221.out 13).trans rfl; have hcz8_14 : w7.cell? ⟨gb221, 14, none⟩ = some (.int .i64 a0_14) := (blk_cell BK221.out 14).trans rfl; have hcz8_15 : w7.cell? ⟨gb221, 15, none⟩ = some (.int .i64 a0_15) := (blk_cell BK221.out 15).trans rfl; have hcz8_16 : w7.cell? ⟨gb221, 16, none⟩ = some (.int .i64 a0_16) := (blk_cell BK221.out 16).trans rfl; have hcz8_17 : w7.cell? ⟨gb221, 17, none⟩ = some (.int .i64 a0_17) := (blk_cell BK221.out 17).trans rfl; have hfz8_0 := blk_frozen BK221.out 0; have hfz8_1 := blk_frozen BK221.out 1; have hfz8_2 := blk_frozen BK221.out 2; have hfz8_3 := blk_frozen BK221.out 3; have hfz8_4 := blk_frozen BK221.out 4; have hfz8_5 := blk_frozen BK221.out 5; have hfz8_6 := blk_frozen BK221.out 6; have hfz8_7 := blk_frozen BK221.out 7; have hfz8_8 := blk_frozen BK221.out 8; have hfz8_9 := blk_frozen BK221.out 9; have hfz8_10 := blk_frozen BK221.out 10; have hfz8_11 := blk_frozen BK221.out 11; have hfz8_12 := blk_frozen BK221.out 12; have hfz8_13 := blk_frozen BK221.out 13; have hfz8_14 := blk_frozen BK221.out 14; have hfz8_15 := blk_frozen BK221.out 15; have hfz8_16 := blk_frozen BK221.out 16; have hfz8_17 := blk_frozen BK221.out 17) | ((with_reducible refine gate_load 26 3 rfl ?_); refine box_load (g := gb221) (cs := #[.string a0_0, .int .i64 a0_1, .int .i64 a0_2, .int .i64 a0_3, .slice A0_4 l0_4.length c0_4, .slice A0_5 l0_5.length c0_5, .slice A0_6 l0_6.length c0_6, .int .i64 a0_7, .int .i64 a0_8, .int .i64 a0_9, .int .i64 a0_10, .int .i64 a0_11, .int .i64 a0_12, .int .i64 a0_13, .int .i64 a0_14, .int .i64 a0_15, .int .i64 a0_16, .int .i64 a0_17]) ?hw rfl (by (with_reducible repeat (first | refine blk_drewN ?_ _ | refine blk_drew ?_ | refine blk_alloc ?_ _)); with_reducible exact BK221.out) ?ha hu26 rfl ?hi ?_; (case hw => first | exact wanted_none rfl | rfl); (case ha => first | rfl | (go_simp; done)); (case hi => first | rfl | kernel_rfl)))
      go_ret
      exact ⟨by first | rfl | (simp [errW_none, errW_some] <;> rfl) | (simp [*, errW_none, errW_some] <;> rfl), by repeat (first | (with_reducible first | exact HB.out | apply below_alloc | apply pw_below_drewN | apply below_drew1 | refine below_set ?_ GE221.out) | exact HB.out)⟩
  · rw [if_neg c5] at H
    have c5b0 : decide (a0_13 ≤ a0_14) = false := decide_eq_false c5
    clear c5
    have H' := Aside0.mk H
    clear H
    go_enter Try.func5, Try.ntmps5
    (try simp only [List.append_eq, List.cons_append, List.nil_append])
    go_wp2_with (first | ((with_reducible refine gate_dst (N := 3) rfl ?_); refine box_event ?hg (N := 3) ?hd (cs := #[.string a0_0, .int .i64 a0_1, .int .i64 a0_2, .int .i64 a0_3, .slice A0_4 l0_4.length c0_4, .slice A0_5 l0_5.length c0_5, .slice A0_6 l0_6.length c0_6, .int .i64 a0_7, .int .i64 a0_8, .int .i64 a0_9, .int .i64 a0_10, .int .i64 a0_11, .int .i64 a0_12, .int .i64 a0_13, .int .i64 a0_14, .int .i64 a0_15, .int .i64 a0_16, .int .i64 a0_17]) (t := 26) ?hr ?_; (case hd => rfl); (case hg => rfl); (case hr => first | (go_simp; done) | (go_simp; rfl)); intro gb221 hg w9 hbox hb; have n0_ := Aside0.mk (below_step (by repeat (first | (with_reducible first | exact HB.out | apply below_alloc | apply pw_below_drewN | apply below_drew1) | exact HB.out)) hb); have n1_ := Aside0.mk (hbox); have n2_ := Aside0.mk ((by rw [hg]; exact (below_size (by repeat (first | (with_reducible first | exact HB.out | apply below_alloc | apply pw_below_drewN | apply below_drew1) | exact HB.out))) : w.heap.size ≤ gb221)); have n3_ := Aside0.mk ((by rw [hg]; exact (below_size (by repeat (first | (with_reducible first | exact HB.out | apply below_alloc | apply pw_below_drewN | apply below_drew1) | exact HB.out))) : w.heap.size ≤ gb221)); clear HB; have HB := n0_; have BK221 := n1_; have GW221 := n2_; have GE221 := n3_; clear n0_ n1_ n2_ n3_; clear hb hbox hg) | ((with_reducible refine gate_callee (f := 9) rfl ?_); refine goesL_ (some 11) rfl rfl Try.func9 (by kernel_rfl) rfl #[] rfl (by (try simp only [List.map_toArray, List.map_cons, List.map_nil]); first | done | rfl | (simp only [List.length_drop, List.length_take]; rfl)) ?_; (with_reducible refine (bournelaw20_small.calls k  t222 _ A4.out).mono ?_); rintro e w10 ⟨rfl, hb⟩; refine ⟨_, rfl, ?_⟩; have n0_ := Aside0.mk (blk_below (g := gb221) (o := .cells #[.string a0_0, .int .i64 a0_1, .int .i64 a0_2, .int .i64 a0_3, .slice A0_4 l0_4.length c0_4, .slice A0_5 l0_5.length c0_5, .slice A0_6 l0_6.length c0_6, .int .i64 a0_7, .int .i64 a0_8, .int .i64 a0_9, .int .i64 a0_10, .int .i64 a0_11, .int .i64 a0_12, .int .i64 a0_13, .int .i64 a0_14, .int .i64 a0_15, .int .i64 a0_16, .int .i64 a0_17] 26 (0, 0)) (by (with_reducible repeat (first | refine blk_drewN ?_ _ | refine blk_drew ?_ | refine blk_alloc ?_ _)); exact BK221.out) hb); have n1_ := Aside0.mk (below_step (by repeat (first | (with_reducible first | exact HB.out | apply below_alloc | apply pw_below_drewN | apply below_drew1 | refine below_set ?_ GE221.out) | exact HB.out)) hb); clear BK221; clear HB; have BK221 := n0_; have HB := n1_; clear n0_ n1_; (try clear hb); (try clear hb2); (try clear hk); (try clear hi); have hcz11_0 : w10.cell? ⟨gb221, 0, none⟩ = some (.string a0_0) := (blk_cell BK221.out 0).trans rfl; have hcz11_1 : w10.cell? ⟨gb221, 1, none⟩ = some (.int .i64 a0_1) := (blk_cell BK221.out 1).trans rfl; have hcz11_2 : w10.cell? ⟨gb221, 2, none⟩ = some (.int .i64 a0_2) := (blk_cell BK221.out 2).trans rfl; have hcz11_3 : w10.cell? ⟨gb221, 3, none⟩ = some (.int .i64 a0_3) := (blk_cell BK221.out 3).trans rfl; have hcz11_4 : w10.cell? ⟨gb221, 4, none⟩ = some (.slice A0_4 l0_4.length c0_4) := (blk_cell BK221.out 4).trans rfl; have hcz11_5 : w10.cell? ⟨gb221, 5, none⟩ = some (.slice A0_5 l0_5.length c0_5) := (blk_cell BK221.out 5).trans rfl; have hcz11_6 : w10.cell? ⟨gb221, 6, none⟩ = some (.slice A0_6 l0_6.length c0_6) := (blk_cell BK221.out 6).trans rfl; have hcz11_7 : w10.cell? ⟨gb221, 7, none⟩ = some (.int .i64 a0_7) := (blk_cell BK221.out 7).trans rfl; have hcz11_8 : w10.cell? ⟨gb221, 8, none⟩ = some (.int .i64 a0_8) := (blk_cell BK221.out 8).trans rfl; have hcz11_9 : w10.cell? ⟨gb221, 9, none⟩ = some (.int .i64 a0_9) := (blk_cell BK221.out 9).trans rfl; have hcz11_10 : w10.cell? ⟨gb221, 10, none⟩ = some (.int .i64 a0_10) := (blk_cell BK221.out 10).trans rfl; have hcz11_11 : w10.cell? ⟨gb221, 11, none⟩ = some (.int .i64 a0_11) := (blk_cell BK221.out 11).trans rfl; have hcz11_12 : w10.cell? ⟨gb221, 12, none⟩ = some (.int .i64 a0_12) := (blk_cell BK221.out 12).trans rfl; have hcz11_13 : w10.cell? ⟨gb221, 13, none⟩ = some (.int .i64 a0_13) := (blk_cell BK221.out 13).trans rfl; have hcz11_14 : w10.cell? ⟨gb221, 14, none⟩ = some (.int .i64 a0_14) := (blk_cell BK221.out 14).trans rfl; have hcz11_15 : w10.cell? ⟨gb221, 15, none⟩ = some (.int .i64 a0_15) := (blk_cell BK221.out 15).trans rfl; have hcz11_16 : w10.cell? ⟨gb221, 16, none⟩ = some (.int .i64 a0_16) := (blk_cell BK221.out 16).trans rfl; have hcz11_17 : w10.cell? ⟨gb221, 17, none⟩ = some (.int .i64 a0_17) := (blk_cell BK221.out 17).trans rfl; have hfz11_0 := blk_frozen BK221.out 0; have hfz11_1 := blk_frozen BK221.out 1; have hfz11_2 := blk_frozen BK221.out 2; have hfz11_3 := blk_frozen BK221.out 3; have hfz11_4 := blk_frozen BK221.out 4; have hfz11_5 := blk_frozen BK221.out 5; have hfz11_6 := blk_frozen BK221.out 6; have hfz11_7 := blk_frozen BK221.out 7; have hfz11_8 := blk_frozen BK221.out 8; have hfz11_9 := blk_frozen BK221.out 9; have hfz11_10 := blk_frozen BK221.out 10; have hfz11_11 := blk_frozen BK221.out 11; have hfz11_12 := blk_frozen BK221.out 12; have hfz11_13 := blk_frozen BK221.out 13; have hfz11_14 := blk_frozen BK221.out 14; have hfz11_15 := blk_frozen BK221.out 15; have hfz11_16 := blk_frozen BK221.out 16; have hfz11_17 := blk_frozen BK221.out 17) | ((with_reducible refine gate_dst (N := 8) rfl ?_); refine box_event ?hg (N := 8) ?hd (cs := #[.int .i64 0, .int .i64 0, .bool false, .bool false]) (t := 28) ?hr ?_; (case hd => rfl); (case hg => rfl); (case hr => first | (go_simp; done) | (go_simp; rfl)); intro gb223 hg w12 hbox hb; have n0_ := Aside0.mk (blk_below (g := gb221) (o := .cells #[.string a0_0, .int .i64 3, .int .i64 a0_2, .int .i64 a0_3, .slice A0_4 l0_4.length c0_4, .slice A0_5 l0_5.length c0_5, .slice A0_6 l0_6.length c0_6, .int .i64 a0_7, .int .i64 a0_8, .int .i64 a0_9, .int .i64 a0_10, .int .i64 a0_11, .int .i64 a0_12, .int .i64 a0_13, .int .i64 a0_14, .int .i64 a0_15, .int .i64 a0_16, .int .i64 a0_17] 26 (0, 0)) (by (with_reducible repeat (first | refine blk_drewN ?_ _ | refine blk_drew ?_ | refine blk_alloc ?_ _)); refine blk_put (cs := #[.string a0_0, .int .i64 a0_1, .int .i64 a0_2, .int .i64 a0_3, .slice A0_4 l0_4.length c0_4, .slice A0_5 l0_5.length c0_5, .slice A0_6 l0_6.length c0_6, .int .i64 a0_7, .int .i64 a0_8, .int .i64 a0_9, .int .i64 a0_10, .int .i64 a0_11, .int .i64 a0_12, .int .i64 a0_13, .int .i64 a0_14, .int .i64 a0_15, .int .i64 a0_16, .int .i64 a0_17]) ?_ 1 _ rfl; (with_reducible repeat (first | refine blk_drewN ?_ _ | refine blk_drew ?_ | refine blk_alloc ?_ _)); exact BK221.out) hb); have n1_ := Aside0.mk (below_step (by repeat (first | (with_reducible first | exact HB.out | apply below_alloc | apply pw_below_drewN | apply below_drew1 | refine below_set ?_ GE221.out) | exact HB.out)) hb); have n2_ := Aside0.mk (hbox); have n3_ := Aside0.mk ((by rw [hg]; exact (below_size (by repeat (first | (with_reducible first | exact HB.out | apply below_alloc | apply pw_below_drewN | apply below_drew1 | refine below_set ?_ GE221.out) | exact HB.out))) : w.heap.size ≤ gb223)); have n4_ := Aside0.mk ((by rw [hg]; exact (below_size (by repeat (first | (with_reducible first | exact HB.out | apply below_alloc | apply pw_below_drewN | apply below_drew1 | refine below_set ?_ GE221.out) | exact HB.out))) : w.heap.size ≤ gb223)); have n5_ := Aside0.mk ((by rw [hg]; exact Nat.ne_of_lt (blk_lt (g := gb221) (o := .cells #[.string a0_0, .int .i64 3, .int .i64 a0_2, .int .i64 a0_3, .slice A0_4 l0_4.length c0_4, .slice A0_5 l0_5.length c0_5, .slice A0_6 l0_6.length c0_6, .int .i64 a0_7, .int .i64 a0_8, .int .i64 a0_9, .int .i64 a0_10, .int .i64 a0_11, .int .i64 a0_12, .int .i64 a0_13, .int .i64 a0_14, .int .i64 a0_15, .int .i64 a0_16, .int .i64 a0_17] 26 (0, 0)) (by (with_reducible repeat (first | refine blk_drewN ?_ _ | refine blk_drew ?_ | refine blk_alloc ?_ _)); refine blk_put (cs := #[.string a0_0, .int .i64 a0_1, .int .i64 a0_2, .int .i64 a0_3, .slice A0_4 l0_4.length c0_4, .slice A0_5 l0_5.length c0_5, .slice A0_6 l0_6.length c0_6, .int .i64 a0_7, .int .i64 a0_8, .int .i64 a0_9, .int .i64 a0_10, .int .i64 a0_11, .int .i64 a0_12, .int .i64 a0_13, .int .i64 a0_14, .int .i64 a0_15, .int .i64 a0_16, .int .i64 a0_17]) ?_ 1 _ rfl; (with_reducible repeat (first | refine blk_drewN ?_ _ | refine blk_drew ?_ | refine blk_alloc ?_ _)); exact BK221.out)) : gb221 ≠ gb223)); have n6_ := Aside0.mk ((by rw [hg]; exact Nat.ne_of_gt (blk_lt (g := gb221) (o := .cells #[.string a0_0, .int .i64 3, .int .i64 a0_2, .int .i64 a0_3, .slice A0_4 l0_4.length c0_4, .slice A0_5 l0_5.length c0_5, .slice A0_6 l0_6.length c0_6, .int .i64 a0_7, .int .i64 a0_8, .int .i64 a0_9, .int .i64 a0_10, .int .i64 a0_11, .int .i64 a0_12, .int .i64 a0_13, .int .i64 a0_14, .int .i64 a0_15, .int .i64 a0_16, .int .i64 a0_17] 26 (0, 0)) (by (with_reducible repeat (first | refine blk_drewN ?_ _ | refine blk_drew ?_ | refine blk_alloc ?_ _)); refine blk_put (cs := #[.string a0_0, .int .i64 a0_1, .int .i64 a0_2, .int .i64 a0_3, .slice A0_4 l0_4.length c0_4, .slice A0_5 l0_5.length c0_5, .slice A0_6 l0_6.length c0_6, .int .i64 a0_7, .int .i64 a0_8, .int .i64 a0_9, .int .i64 a0_10, .int .i64 a0_11, .int .i64 a0_12, .int .i64 a0_13, .int .i64 a0_14, .int .i64 a0_15, .int .i64 a0_16, .int .i64 a0_17]) ?_ 1 _ rfl; (with_reducible repeat (first | refine blk_drewN ?_ _ | refine blk_drew ?_ | refine blk_alloc ?_ _)); exact BK221.out)) : gb223 ≠ gb221)); clear BK221; clear HB; have BK221 := n0_; have HB := n1_; have BK223 := n2_; have GW223 := n3_; have GE223 := n4_; have NB221_223 := n5_; have NB223_221 := n6_; clear n0_ n1_ n2_ n3_ n4_ n5_ n6_; clear hb hbox hg; have hnb13 := NB223_221.out; have hnc13 := NB221_223.out; have hcz14_0 : w12.cell? ⟨gb223, 0, none⟩ = some (.int .i64 0) := (blk_cell BK223.out 0).trans rfl; have hcz14_1 : w12.cell? ⟨gb223, 1, none⟩ = some (.int .i64 0) := (blk_cell BK223.out 1).trans rfl; have hcz14_2 : w12.cell? ⟨gb223, 2, none⟩ = some (.bool false) := (blk_cell BK223.out 2).trans rfl; have hcz14_3 : w12.cell? ⟨gb223, 3, none⟩ = some (.bool false) := (blk_cell BK223.out 3).trans rfl; have hfz14_0 := blk_frozen BK223.out 0; have hfz14_1 := blk_frozen BK223.out 1; have hfz14_2 := blk_frozen BK223.out 2; have hfz14_3 := blk_frozen BK223.out 3) | ((with_reducible refine gate_load 26 3 rfl ?_); refine box_load (g := gb221) (cs := #[.string a0_0, .int .i64 a0_1, .int .i64 a0_2, .int .i64 a0_3, .slice A0_4 l0_4.length c0_4, .slice A0_5 l0_5.length c0_5, .slice A0_6 l0_6.length c0_6, .int .i64 a0_7, .int .i64 a0_8, .int .i64 a0_9, .int .i64 a0_10, .int .i64 a0_11, .int .i64 a0_12, .int .i64 a0_13, .int .i64 a0_14, .int .i64 a0_15, .int .i64 a0_16, .int .i64 a0_17]) ?hw rfl (by (with_reducible repeat (first | refine blk_drewN ?_ _ | refine blk_drew ?_ | refine blk_alloc ?_ _)); with_reducible exact BK221.out) ?ha hu26 rfl ?hi ?_; (case hw => first | exact wanted_none rfl | rfl); (case ha => first | rfl | (go_simp; done)); (case hi => first | rfl | kernel_rfl)) | ((with_reducible refine gate_load 26 3 rfl ?_); refine box_load (g := gb221) (cs := #[.string a0_0, .int .i64 3, .int .i64 a0_2, .int .i64 a0_3, .slice A0_4 l0_4.length c0_4, .slice A0_5 l0_5.length c0_5, .slice A0_6 l0_6.length c0_6, .int .i64 a0_7, .int .i64 a0_8, .int .i64 a0_9, .int .i64 a0_10, .int .i64 a0_11, .int .i64 a0_12, .int .i64 a0_13, .int .i64 a0_14, .int .i64 a0_15, .int .i64 a0_16, .int .i64 a0_17]) ?hw rfl (by (with_reducible repeat (first | refine blk_drewN ?_ _ | refine blk_drew ?_ | refine blk_alloc ?_ _)); refine blk_put (cs := #[.string a0_0, .int .i64 a0_1, .int .i64 a0_2, .int .i64 a0_3, .slice A0_4 l0_4.length c0_4, .slice A0_5 l0_5.length c0_5, .slice A0_6 l0_6.length c0_6, .int .i64 a0_7, .int .i64 a0_8, .int .i64 a0_9, .int .i64 a0_10, .int .i64 a0_11, .int .i64 a0_12, .int .i64 a0_13, .int .i64 a0_14, .int .i64 a0_15, .int .i64 a0_16, .int .i64 a0_17]) ?_ 1 _ rfl; (with_reducible repeat (first | refine blk_drewN ?_ _ | refine blk_drew ?_ | refine blk_alloc ?_ _)); with_reducible exact BK221.out) ?ha hu26 rfl ?hi ?_; (case hw => first | exact wanted_none rfl | rfl); (case ha => first | rfl | (go_simp; done)); (case hi => first | rfl | kernel_rfl)))
    go_loopg [9, 10] k (fun kq v9 v10 w' => ∃ (x9_1 : Bool) (x10_1 : Int) (x224000_1 : Int) (x224001_1 : Int) (x224002_1 : Bool) (x224003_1 : Bool), v9 = .bool x9_1 ∧ v10 = .int .i64 x10_1 ∧ Aside0 (bournelaw20_SeepHolds.l0 kq l2 t222 x9_1 x10_1 a0_0 3 a0_2 a0_3 l0_4 l0_5 l0_6 a0_7 a0_8 a0_9 a0_10 a0_11 a0_12 a0_13 a0_14 a0_15 a0_16 a0_17 x224000_1 x224001_1 x224002_1 x224003_1 = some r) ∧ Aside0 (kq ≤ k) ∧ Aside0 (w'.heap[gb221]? = some (.cells #[.string a0_0, .int .i64 3, .int .i64 a0_2, .int .i64 a0_3, (.slice A0_4 l0_4.length c0_4), (.slice A0_5 l0_5.length c0_5), (.slice A0_6 l0_6.length c0_6), .int .i64 a0_7, .int .i64 a0_8, .int .i64 a0_9, .int .i64 a0_10, .int .i64 a0_11, .int .i64 a0_12, .int .i64 a0_13, .int .i64 a0_14, .int .i64 a0_15, .int .i64 a0_16, .int .i64 a0_17] 26 (0, 0))) ∧ Aside0 (w'.heap[gb223]? = some (.cells #[.int .i64 x224000_1, .int .i64 x224001_1, .bool x224002_1, .bool x224003_1] 28 (0, 0))) ∧ Aside0 (Below w.heap.size w w'))
    case atStart => exact ⟨(a1), (0), (1), (2), (false), (a1), (by first | rfl | (simp; done) | (simp [*]; done)), (by first | rfl | (simp; done) | (simp [*]; done)), H', ⟨Nat.le_refl _⟩, ⟨by (with_reducible repeat (first | refine blk_drewN ?_ _ | refine blk_drew ?_ | refine blk_alloc ?_ _)); refine blk_far ?_ NB221_223.out _; (with_reducible repeat (first | refine blk_drewN ?_ _ | refine blk_drew ?_ | refine blk_alloc ?_ _)); refine blk_far ?_ NB221_223.out _; (with_reducible repeat (first | refine blk_drewN ?_ _ | refine blk_drew ?_ | refine blk_alloc ?_ _)); refine blk_far ?_ NB221_223.out _; (with_reducible repeat (first | refine blk_drewN ?_ _ | refine blk_drew ?_ | refine blk_alloc ?_ _)); refine blk_far ?_ NB221_223.out _; (with_reducible repeat (first | refine blk_drewN ?_ _ | refine blk_drew ?_ | refine blk_alloc ?_ _)); exact BK221.out⟩, ⟨by (with_reducible repeat (first | refine blk_drewN ?_ _ | refine blk_drew ?_ | refine blk_alloc ?_ _)); refine blk_put (cs := #[.int .i64 1, .int .i64 2, .bool false, .bool false]) ?_ 3 _ rfl; (with_reducible repeat (first | refine blk_drewN ?_ _ | refine blk_drew ?_ | refine blk_alloc ?_ _)); refine blk_put (cs := #[.int .i64 1, .int .i64 2, .bool false, .bool false]) ?_ 2 _ rfl; (with_reducible repeat (first | refine blk_drewN ?_ _ | refine blk_drew ?_ | refine blk_alloc ?_ _)); refine blk_put (cs := #[.int .i64 1, .int .i64 0, .bool false, .bool false]) ?_ 1 _ rfl; (with_reducible repeat (first | refine blk_drewN ?_ _ | refine blk_drew ?_ | refine blk_alloc ?_ _)); refine blk_put (cs := #[.int .i64 0, .int .i64 0, .bool false, .bool false]) ?_ 0 _ rfl; (with_reducible repeat (first | refine blk_drewN ?_ _ | refine blk_drew ?_ | refine blk_alloc ?_ _)); exact BK223.out⟩, ⟨by repeat (first | (with_reducible first | exact HB.out | apply below_alloc | apply pw_below_drewN | apply below_drew1 | refine below_set ?_ GE221.out | refine below_set ?_ GE223.out) | exact HB.out)⟩⟩
    case round =>
      clear H'
      try clear c1
      try clear c2
      try clear p2
      try clear c5
      try clear c5b0
      try clear c9
      try clear c13
      try clear hcz11_0
      try clear hcz11_1
      try clear hcz11_10
      try clear hcz11_11
      try clear hcz11_12
      try clear hcz11_13
      try clear hcz11_14
      try clear hcz11_15
      try clear hcz11_16
      try clear hcz11_17
      try clear hcz11_2
      try clear hcz11_3
      try clear hcz11_4
      try clear hcz11_5
      try clear hcz11_6
      try clear hcz11_7
      try clear hcz11_8
      try clear hcz11_9
      try clear hcz14_0
      try clear hcz14_1
      try clear hcz14_2
      try clear hcz14_3
      try clear hcz8_0
      try clear hcz8_1
      try clear hcz8_10
      try clear hcz8_11
      try clear hcz8_12
      try clear hcz8_13
      try clear hcz8_14
      try clear hcz8_15
      try clear hcz8_16
      try clear hcz8_17
      try clear hcz8_2
      try clear hcz8_3
      try clear hcz8_4
      try clear hcz8_5
      try clear hcz8_6
      try clear hcz8_7
      try clear hcz8_8
      try clear hcz8_9
      try clear hfz11_0
      try clear hfz11_1
      try clear hfz11_10
      try clear hfz11_11
      try clear hfz11_12
      try clear hfz11_13
      try clear hfz11_14
      try clear hfz11_15
      try clear hfz11_16
      try clear hfz11_17
      try clear hfz11_2
      try clear hfz11_3
      try clear hfz11_4
      try clear hfz11_5
      try clear hfz11_6
      try clear hfz11_7
      try clear hfz11_8
      try clear hfz11_9
      try clear hfz14_0
      try clear hfz14_1
      try clear hfz14_2
      try clear hfz14_3
      try clear hfz8_0
      try clear hfz8_1
      try clear hfz8_10
      try clear hfz8_11
      try clear hfz8_12
      try clear hfz8_13
      try clear hfz8_14
      try clear hfz8_15
      try clear hfz8_16
      try clear hfz8_17
      try clear hfz8_2
      try clear hfz8_3
      try clear hfz8_4
      try clear hfz8_5
      try clear hfz8_6
      try clear hfz8_7
      try clear hfz8_8
      try clear hfz8_9
      obtain ⟨x9_1, x10_1, x224000_1, x224001_1, x224002_1, x224003_1, rfl, rfl, HA, HK1, BK221, BK223, HB⟩ := hrel
      cases gk with
      | zero => exact absurd HA.out (by simp [bournelaw20_SeepHolds.l0])
      | succ k1 =>
        have H := HA.out
        clear HA
        simp only [bournelaw20_SeepHolds.l0] at H
        by_cases c15 : x10_1 < (l2.length : Int)
        · rw [if_pos c15] at H
          have c15b0 : decide (x10_1 < (l2.length : Int)) = true := decide_eq_true c15
          clear c15
          by_cases c16 : 0 ≤ x10_1
          · rw [if_pos c16] at H
            have c16b0 : decide (0 ≤ x10_1) = true := decide_eq_true c16
            clear c16
            replace H := Option.bind_eq_some_iff.mp H
            obtain ⟨⟨t225, t226, t227, t228⟩, A170, H⟩ := H
            dsimp only at H
            have A17 := Aside0.mk A170
            clear A170
            have HC18 := Aside0.mk H
            clear H
            try go_wp2
            have n0_ := Aside0.mk (blk_drew BK221.out)
            have n1_ := Aside0.mk (blk_drew BK223.out)
            have n2_ := Aside0.mk (below_drew1 HB.out)
            clear BK221
            clear BK223
            clear HB
            have BK221 := n0_
            have BK223 := n1_
            have HB := n2_
            clear n0_ n1_ n2_
            have p224 : 0 ≤ (x10_1 : Int) := of_decide_eq_true (by first | (with_reducible assumption) | assumption)
            have q224 : x10_1 < (l2.length : Int) := of_decide_eq_true (by first | (with_reducible assumption) | assumption)
            obtain ⟨ad224, e224, hx224_0⟩ := Kd.at_int HR2.out x10_1 p224 q224
            have hw224_0 := hx224_0
            cases e224
            replace hx224_0 := (HB.out.cell (World.block_lt_of_cell? w _ hx224_0)).trans hx224_0
            replace p224 := eq_true p224
            replace q224 := eq_true q224
            refine start_ (n := 8) (S := fun w' => w'.cell? ⟨gb221, 0, none⟩ = some (.string a0_0) ∧ w'.cell? ⟨gb221, 1, none⟩ = some (.int .i64 3) ∧ w'.cell? ⟨gb221, 2, none⟩ = some (.int .i64 a0_2) ∧ w'.cell? ⟨gb221, 3, none⟩ = some (.int .i64 a0_3) ∧ w'.cell? ⟨gb221, 4, none⟩ = some (.slice A0_4 l0_4.length c0_4) ∧ w'.cell? ⟨gb221, 5, none⟩ = some (.slice A0_5 l0_5.length c0_5) ∧ w'.cell? ⟨gb221, 6, none⟩ = some (.slice A0_6 l0_6.length c0_6) ∧ w'.cell? ⟨gb221, 7, none⟩ = some (.int .i64 a0_7) ∧ w'.cell? ⟨gb221, 8, none⟩ = some (.int .i64 a0_8) ∧ w'.cell? ⟨gb221, 9, none⟩ = some (.int .i64 a0_9) ∧ w'.cell? ⟨gb221, 10, none⟩ = some (.int .i64 a0_10) ∧ w'.cell? ⟨gb221, 11, none⟩ = some (.int .i64 a0_11) ∧ w'.cell? ⟨gb221, 12, none⟩ = some (.int .i64 a0_12) ∧ w'.cell? ⟨gb221, 13, none⟩ = some (.int .i64 a0_13) ∧ w'.cell? ⟨gb221, 14, none⟩ = some (.int .i64 a0_14) ∧ w'.cell? ⟨gb221, 15, none⟩ = some (.int .i64 a0_15) ∧ w'.cell? ⟨gb221, 16, none⟩ = some (.int .i64 a0_16) ∧ w'.cell? ⟨gb221, 17, none⟩ = some (.int .i64 a0_17) ∧ w'.cell? ⟨gb223, 0, none⟩ = some (.int .i64 x224000_1) ∧ w'.cell? ⟨gb223, 1, none⟩ = some (.int .i64 x224001_1) ∧ w'.cell? ⟨gb223, 2, none⟩ = some (.bool x224002_1) ∧ w'.cell? ⟨gb223, 3, none⟩ = some (.bool x224003_1) ∧ w'.cell? (ad224.add (x10_1).toNat) = some (.int .i64 (rd l2 x10_1))) (ds := [7]) #[false, false, false, false, false, false, false, false] (by kernel_rfl) rfl rfl ⟨(blk_cell BK221.out 0).trans rfl, (blk_cell BK221.out 1).trans rfl, (blk_cell BK221.out 2).trans rfl, (blk_cell BK221.out 3).trans rfl, (blk_cell BK221.out 4).trans rfl, (blk_cell BK221.out 5).trans rfl, (blk_cell BK221.out 6).trans rfl, (blk_cell BK221.out 7).trans rfl, (blk_cell BK221.out 8).trans rfl, (blk_cell BK221.out 9).trans rfl, (blk_cell BK221.out 10).trans rfl, (blk_cell BK221.out 11).trans rfl, (blk_cell BK221.out 12).trans rfl, (blk_cell BK221.out 13).trans rfl, (blk_cell BK221.out 14).trans rfl, (blk_cell BK221.out 15).trans rfl, (blk_cell BK221.out 16).trans rfl, (blk_cell BK221.out 17).trans rfl, (blk_cell BK223.out 0).trans rfl, (blk_cell BK223.out 1).trans rfl, (blk_cell BK223.out 2).trans rfl, (blk_cell BK223.out 3).trans rfl, ((HB.out.cell (World.block_lt_of_cell? w _ hw224_0)).trans hw224_0)⟩ (fun hHeld => ?_); refine with_tabW bournelaw20_SeepHolds.tab10 bournelaw20_SeepHolds.bits10 (fun HT_ HW_ => ?_)
            generalize wr.drew = w19 at BK221 BK223 HB hx224_0 hHeld ⊢
            as_aux_lemma =>
             refine pure_ (i := 2) (N := some 30) (v := ?_) (a' := ?_) #[false, false, true, false, false, false, false, false] rfl rfl (any_of HT_.out (by kernel_rfl)) (fun _ _ _ h => h) (Or.inl ⟨by rfl, ?_⟩) ?_ ?_
             rotate_left
             · intro w'
               go_simp
               with_reducible rfl
             rotate_left
             · simp only [Act.put, List.setIfInBounds_toArray, List.set_cons_zero, List.set_cons_succ, i64_w, i32_w]
               rfl
             as_aux_lemma =>
              refine pure_ (i := 3) (N := some 31) (v := ?_) (a' := ?_) #[false, false, true, true, false, false, false, false] rfl rfl (any_of HT_.out (by kernel_rfl)) (fun _ _ _ h => h) (Or.inl ⟨by rfl, ?_⟩) ?_ ?_
              rotate_left
              · intro w'
                go_simp
                with_reducible rfl
              rotate_left
              · simp only [Act.put, List.setIfInBounds_toArray, List.set_cons_zero, List.set_cons_succ, i64_w, i32_w]
                rfl
              as_aux_lemma =>
               refine pure_ (i := 4) (N := some 32) (v := ?_) (a' := ?_) #[false, false, true, true, true, false, false, false] rfl rfl (any_of HT_.out (by kernel_rfl)) (fun _ _ _ h => h) (Or.inl ⟨by rfl, ?_⟩) ?_ ?_
               rotate_left
               · intro w'
                 go_simp
                 with_reducible rfl
               rotate_left
               · simp only [Act.put, List.setIfInBounds_toArray, List.set_cons_zero, List.set_cons_succ, i64_w, i32_w]
                 rfl
               as_aux_lemma =>
                refine take_ (i := 0) (N := some 28) (v := ?_) (a' := ?_) #[true, false, true, true, true, false, false, false] rfl rfl (take_ofW HT_.out HW_.out (by kernel_rfl)) (fun _ _ _ h => h) (Or.inl ⟨by rfl, ?_⟩) hHeld ?_ ?_
                rotate_left
                · rintro w' ⟨s0, s1, s2, s3, s4, s5, s6, s7, s8, s9, s10, s11, s12, s13, s14, s15, s16, s17, s18, s19, s20, s21, s22⟩
                  go_simp
                  with_reducible rfl
                rotate_left
                · simp only [Act.put, List.setIfInBounds_toArray, List.set_cons_zero, List.set_cons_succ, i64_w, i32_w]
                  rfl
                as_aux_lemma =>
                 refine take_ (i := 1) (N := some 29) (v := ?_) (a' := ?_) #[true, true, true, true, true, false, false, false] rfl rfl (take_ofW HT_.out HW_.out (by kernel_rfl)) (fun _ _ _ h => h) (Or.inl ⟨by rfl, ?_⟩) hHeld ?_ ?_
                 rotate_left
                 · rintro w' ⟨s0, s1, s2, s3, s4, s5, s6, s7, s8, s9, s10, s11, s12, s13, s14, s15, s16, s17, s18, s19, s20, s21, s22⟩
                   go_simp
                   with_reducible rfl
                 rotate_left
                 · simp only [Act.put, List.setIfInBounds_toArray, List.set_cons_zero, List.set_cons_succ, i64_w, i32_w]
                   rfl
                 as_aux_lemma =>
                  refine take_ (i := 5) (N := some 33) (v := ?_) (a' := ?_) #[true, true, true, true, true, true, false, false] rfl rfl (take_ofW HT_.out HW_.out (by kernel_rfl)) (fun _ _ _ h => h) (Or.inl ⟨by rfl, ?_⟩) hHeld ?_ ?_
                  rotate_left
                  · rintro w' ⟨s0, s1, s2, s3, s4, s5, s6, s7, s8, s9, s10, s11, s12, s13, s14, s15, s16, s17, s18, s19, s20, s21, s22⟩
                    go_simp
                    with_reducible rfl
                  rotate_left
                  · simp only [Act.put, List.setIfInBounds_toArray, List.set_cons_zero, List.set_cons_succ, i64_w, i32_w]
                    rfl
                  as_aux_lemma =>
                   refine one_ (i := 6) (N := some 34) #[true, true, true, true, true, true, true, false] rfl rfl (one_of HT_.out (by kernel_rfl)) (by decide) (fun K hK => ?_)
                   refine goes_ Try.func14 (by kernel_rfl) rfl #[.agg #[.string a0_0, .int .i64 3, .int .i64 a0_2, .int .i64 a0_3, .slice A0_4 l0_4.length c0_4, .slice A0_5 l0_5.length c0_5, .slice A0_6 l0_6.length c0_6, .int .i64 a0_7, .int .i64 a0_8, .int .i64 a0_9, .int .i64 a0_10, .int .i64 a0_11, .int .i64 a0_12, .int .i64 a0_13, .int .i64 a0_14, .int .i64 a0_15, .int .i64 a0_16, .int .i64 a0_17], .agg #[.int .i64 x224000_1, .int .i64 x224001_1, .bool x224002_1, .bool x224003_1], .int .i64 (rd l2 x10_1)] (by rfl) rfl rfl (by (try simp only [List.map_toArray, List.map_cons, List.map_nil]); first | done | rfl | (simp only [List.length_drop, List.length_take]; rfl)) ?_
                   with_reducible refine (seep_Siphon.calls a0_0 3 a0_2 a0_3 _ _ l0_4 _ _ l0_5 _ _ l0_6 a0_7 a0_8 a0_9 a0_10 a0_11 a0_12 a0_13 a0_14 a0_15 a0_16 a0_17 x224000_1 x224001_1 x224002_1 x224003_1 (rd l2 x10_1) t225 t226 t227 t228 _ ?side1 ?side2 ?side3 ?side4 ?side5 ?side6 A17.out).mono ?_
                   (case side1 => repeat (first | exact (Kd.C_below HR0_4.out HB.out) | (with_reducible refine Kd.C_alloc ?_ _) | (with_reducible refine Kd.C_drewN ?_ _) | (with_reducible refine Kd.C_drew ?_)))
                   (case side2 => exact HC0_4.out)
                   (case side3 => repeat (first | exact (Kd.C_below HR0_5.out HB.out) | (with_reducible refine Kd.C_alloc ?_ _) | (with_reducible refine Kd.C_drewN ?_ _) | (with_reducible refine Kd.C_drew ?_)))
                   (case side4 => exact HC0_5.out)
                   (case side5 => repeat (first | exact (Kd.C_below HR0_6.out HB.out) | (with_reducible refine Kd.C_alloc ?_ _) | (with_reducible refine Kd.C_drewN ?_ _) | (with_reducible refine Kd.C_drew ?_)))
                   (case side6 => exact HC0_6.out)
                   rintro e w20 ⟨rfl, hb⟩
                   refine ⟨_, rfl, ?_⟩
                   have n0_ := Aside0.mk (blk_below (g := gb221) (o := .cells #[.string a0_0, .int .i64 3, .int .i64 a0_2, .int .i64 a0_3, .slice A0_4 l0_4.length c0_4, .slice A0_5 l0_5.length c0_5, .slice A0_6 l0_6.length c0_6, .int .i64 a0_7, .int .i64 a0_8, .int .i64 a0_9, .int .i64 a0_10, .int .i64 a0_11, .int .i64 a0_12, .int .i64 a0_13, .int .i64 a0_14, .int .i64 a0_15, .int .i64 a0_16, .int .i64 a0_17] 26 (0, 0)) (by (with_reducible repeat (first | refine blk_drewN ?_ _ | refine blk_drew ?_ | refine blk_alloc ?_ _)); exact BK221.out) hb)
                   have n1_ := Aside0.mk (blk_below (g := gb223) (o := .cells #[.int .i64 x224000_1, .int .i64 x224001_1, .bool x224002_1, .bool x224003_1] 28 (0, 0)) (by (with_reducible repeat (first | refine blk_drewN ?_ _ | refine blk_drew ?_ | refine blk_alloc ?_ _)); exact BK223.out) hb)
                   have n2_ := Aside0.mk (below_step (by repeat (first | (with_reducible first | exact HB.out | apply below_alloc | apply pw_below_drewN | apply below_drew1 | refine below_set ?_ GE221.out | refine below_set ?_ GE223.out) | exact HB.out)) hb)
                   clear BK221
                   clear BK223
                   clear HB
                   have BK221 := n0_
                   have BK223 := n1_
                   have HB := n2_
                   clear n0_ n1_ n2_
                   (try clear hb)
                   (try clear hb2)
                   (try clear hk)
                   (try clear hi)
                   refine hK.out _ _ ⟨(blk_cell BK221.out 0).trans rfl, (blk_cell BK221.out 1).trans rfl, (blk_cell BK221.out 2).trans rfl, (blk_cell BK221.out 3).trans rfl, (blk_cell BK221.out 4).trans rfl, (blk_cell BK221.out 5).trans rfl, (blk_cell BK221.out 6).trans rfl, (blk_cell BK221.out 7).trans rfl, (blk_cell BK221.out 8).trans rfl, (blk_cell BK221.out 9).trans rfl, (blk_cell BK221.out 10).trans rfl, (blk_cell BK221.out 11).trans rfl, (blk_cell BK221.out 12).trans rfl, (blk_cell BK221.out 13).trans rfl, (blk_cell BK221.out 14).trans rfl, (blk_cell BK221.out 15).trans rfl, (blk_cell BK221.out 16).trans rfl, (blk_cell BK221.out 17).trans rfl, (blk_cell BK223.out 0).trans rfl, (blk_cell BK223.out 1).trans rfl, (blk_cell BK223.out 2).trans rfl, (blk_cell BK223.out 3).trans rfl, ((HB.out.cell (World.block_lt_of_cell? w _ hw224_0)).trans hw224_0)⟩ (fun hHeld => ?_)
                   clear hK K
                   refine norm_ (a' := ?_) ?_ ?_
                   rotate_left
                   · show Act.put _ (some 34) _ = _
                     simp only [Act.put, List.setIfInBounds_toArray, List.set_cons_zero, List.set_cons_succ, i64_w, i32_w]
                     rfl
                   refine last_ (i := 7) (N := none) #[true, true, true, true, true, true, true, true] rfl rfl (one_of HT_.out (by kernel_rfl)) (by decide) (fun K hK => ?_)
                   have hs21 : w20.cell? ⟨gb223, 0, none⟩ = some (.int .i64 x224000_1) := (blk_cell BK223.out 0).trans rfl
                   have hfs21 := blk_frozen BK223.out 0
                   have hns21_0 := NB221_223.out
                   have hms21_0 := NB223_221.out
                   have hs22 : w20.cell? ⟨gb223, 1, none⟩ = some (.int .i64 x224001_1) := (blk_cell BK223.out 1).trans rfl
                   have hfs22 := blk_frozen BK223.out 1
                   have hns22_0 := NB221_223.out
                   have hms22_0 := NB223_221.out
                   have hs23 : w20.cell? ⟨gb223, 2, none⟩ = some (.bool x224002_1) := (blk_cell BK223.out 2).trans rfl
                   have hfs23 := blk_frozen BK223.out 2
                   have hns23_0 := NB221_223.out
                   have hms23_0 := NB223_221.out
                   have hs24 : w20.cell? ⟨gb223, 3, none⟩ = some (.bool x224003_1) := (blk_cell BK223.out 3).trans rfl
                   have hfs24 := blk_frozen BK223.out 3
                   have hns24_0 := NB221_223.out
                   have hms24_0 := NB223_221.out
                   refine skip_ (w1 := ?_) (by rfl) rfl ?_ ?_
                   rotate_left
                   · go_simp
                     rfl
                   refine hK.out _ _ ?_
                   clear hK K
                   refine done_ (done_of HT_.out (by kernel_rfl)) ?_
                   try go_wp2
                   have n0_ : Aside0 (((((w20.setCell ⟨gb223, 0, none⟩ (.int .i64 t225)).setCell ⟨gb223, 1, none⟩ (.int .i64 t226)).setCell ⟨gb223, 2, none⟩ (.bool t227)).setCell ⟨gb223, 3, none⟩ (.bool t228)).heap[gb221]? = some (.cells #[.string a0_0, .int .i64 3, .int .i64 a0_2, .int .i64 a0_3, .slice A0_4 l0_4.length c0_4, .slice A0_5 l0_5.length c0_5, .slice A0_6 l0_6.length c0_6, .int .i64 a0_7, .int .i64 a0_8, .int .i64 a0_9, .int .i64 a0_10, .int .i64 a0_11, .int .i64 a0_12, .int .i64 a0_13, .int .i64 a0_14, .int .i64 a0_15, .int .i64 a0_16, .int .i64 a0_17] 26 (0, 0))) := ⟨by (with_reducible repeat (first | refine blk_drewN ?_ _ | refine blk_drew ?_ | refine blk_alloc ?_ _)); refine blk_far ?_ NB221_223.out _; (with_reducible repeat (first | refine blk_drewN ?_ _ | refine blk_drew ?_ | refine blk_alloc ?_ _)); refine blk_far ?_ NB221_223.out _; (with_reducible repeat (first | refine blk_drewN ?_ _ | refine blk_drew ?_ | refine blk_alloc ?_ _)); refine blk_far ?_ NB221_223.out _; (with_reducible repeat (first | refine blk_drewN ?_ _ | refine blk_drew ?_ | refine blk_alloc ?_ _)); refine blk_far ?_ NB221_223.out _; (with_reducible repeat (first | refine blk_drewN ?_ _ | refine blk_drew ?_ | refine blk_alloc ?_ _)); exact BK221.out⟩
                   have n1_ : Aside0 (((((w20.setCell ⟨gb223, 0, none⟩ (.int .i64 t225)).setCell ⟨gb223, 1, none⟩ (.int .i64 t226)).setCell ⟨gb223, 2, none⟩ (.bool t227)).setCell ⟨gb223, 3, none⟩ (.bool t228)).heap[gb223]? = some (.cells #[.int .i64 t225, .int .i64 t226, .bool t227, .bool t228] 28 (0, 0))) := ⟨by (with_reducible repeat (first | refine blk_drewN ?_ _ | refine blk_drew ?_ | refine blk_alloc ?_ _)); refine blk_put (cs := #[.int .i64 t225, .int .i64 t226, .bool t227, .bool x224003_1]) ?_ 3 _ rfl; (with_reducible repeat (first | refine blk_drewN ?_ _ | refine blk_drew ?_ | refine blk_alloc ?_ _)); refine blk_put (cs := #[.int .i64 t225, .int .i64 t226, .bool x224002_1, .bool x224003_1]) ?_ 2 _ rfl; (with_reducible repeat (first | refine blk_drewN ?_ _ | refine blk_drew ?_ | refine blk_alloc ?_ _)); refine blk_put (cs := #[.int .i64 t225, .int .i64 x224001_1, .bool x224002_1, .bool x224003_1]) ?_ 1 _ rfl; (with_reducible repeat (first | refine blk_drewN ?_ _ | refine blk_drew ?_ | refine blk_alloc ?_ _)); refine blk_put (cs := #[.int .i64 x224000_1, .int .i64 x224001_1, .bool x224002_1, .bool x224003_1]) ?_ 0 _ rfl; (with_reducible repeat (first | refine blk_drewN ?_ _ | refine blk_drew ?_ | refine blk_alloc ?_ _)); exact BK223.out⟩
                   have n2_ : Aside0 (Below w.heap.size w ((((w20.setCell ⟨gb223, 0, none⟩ (.int .i64 t225)).setCell ⟨gb223, 1, none⟩ (.int .i64 t226)).setCell ⟨gb223, 2, none⟩ (.bool t227)).setCell ⟨gb223, 3, none⟩ (.bool t228))) := ⟨by repeat (first | (with_reducible first | exact HB.out | apply below_alloc | apply pw_below_drewN | apply below_drew1 | refine below_set ?_ GE221.out | refine below_set ?_ GE223.out) | exact HB.out)⟩
                   (try clear BK221)
                   (try clear BK223)
                   (try clear HB)
                   generalize ((((w20.setCell ⟨gb223, 0, none⟩ (.int .i64 t225)).setCell ⟨gb223, 1, none⟩ (.int .i64 t226)).setCell ⟨gb223, 2, none⟩ (.bool t227)).setCell ⟨gb223, 3, none⟩ (.bool t228)) = w25 at n0_ n1_ n2_ ⊢
                   have BK221 := n0_
                   have BK223 := n1_
                   have HB := n2_
                   clear n0_ n1_ n2_
                   have n0_ := Aside0.mk (blk_drew BK221.out)
                   have n1_ := Aside0.mk (blk_drew BK223.out)
                   have n2_ := Aside0.mk (below_drew1 HB.out)
                   clear BK221
                   clear BK223
                   clear HB
                   have BK221 := n0_
                   have BK223 := n1_
                   have HB := n2_
                   clear n0_ n1_ n2_
                   have p229 : 0 ≤ (x10_1 : Int) := of_decide_eq_true (by first | (with_reducible assumption) | assumption)
                   have q229 : x10_1 < (l2.length : Int) := of_decide_eq_true (by first | (with_reducible assumption) | assumption)
                   obtain ⟨ad229, e229, hx229_0⟩ := Kd.at_int HR2.out x10_1 p229 q229
                   have hw229_0 := hx229_0
                   obtain rfl : ad224 = ad229 := (by injection e229)
                   replace hx229_0 := (HB.out.cell (World.block_lt_of_cell? w _ hx229_0)).trans hx229_0
                   replace p229 := eq_true p229
                   replace q229 := eq_true q229
                   refine start_ (n := 7) (S := fun w' => w'.cell? ⟨gb221, 0, none⟩ = some (.string a0_0) ∧ w'.cell? ⟨gb221, 1, none⟩ = some (.int .i64 3) ∧ w'.cell? ⟨gb221, 2, none⟩ = some (.int .i64 a0_2) ∧ w'.cell? ⟨gb221, 3, none⟩ = some (.int .i64 a0_3) ∧ w'.cell? ⟨gb221, 4, none⟩ = some (.slice A0_4 l0_4.length c0_4) ∧ w'.cell? ⟨gb221, 5, none⟩ = some (.slice A0_5 l0_5.length c0_5) ∧ w'.cell? ⟨gb221, 6, none⟩ = some (.slice A0_6 l0_6.length c0_6) ∧ w'.cell? ⟨gb221, 7, none⟩ = some (.int .i64 a0_7) ∧ w'.cell? ⟨gb221, 8, none⟩ = some (.int .i64 a0_8) ∧ w'.cell? ⟨gb221, 9, none⟩ = some (.int .i64 a0_9) ∧ w'.cell? ⟨gb221, 10, none⟩ = some (.int .i64 a0_10) ∧ w'.cell? ⟨gb221, 11, none⟩ = some (.int .i64 a0_11) ∧ w'.cell? ⟨gb221, 12, none⟩ = some (.int .i64 a0_12) ∧ w'.cell? ⟨gb221, 13, none⟩ = some (.int .i64 a0_13) ∧ w'.cell? ⟨gb221, 14, none⟩ = some (.int .i64 a0_14) ∧ w'.cell? ⟨gb221, 15, none⟩ = some (.int .i64 a0_15) ∧ w'.cell? ⟨gb221, 16, none⟩ = some (.int .i64 a0_16) ∧ w'.cell? ⟨gb221, 17, none⟩ = some (.int .i64 a0_17) ∧ w'.cell? (ad224.add (x10_1).toNat) = some (.int .i64 (rd l2 x10_1))) (ds := []) #[false, false, false, false, false, false, false] (by kernel_rfl) rfl rfl ⟨(blk_cell BK221.out 0).trans rfl, (blk_cell BK221.out 1).trans rfl, (blk_cell BK221.out 2).trans rfl, (blk_cell BK221.out 3).trans rfl, (blk_cell BK221.out 4).trans rfl, (blk_cell BK221.out 5).trans rfl, (blk_cell BK221.out 6).trans rfl, (blk_cell BK221.out 7).trans rfl, (blk_cell BK221.out 8).trans rfl, (blk_cell BK221.out 9).trans rfl, (blk_cell BK221.out 10).trans rfl, (blk_cell BK221.out 11).trans rfl, (blk_cell BK221.out 12).trans rfl, (blk_cell BK221.out 13).trans rfl, (blk_cell BK221.out 14).trans rfl, (blk_cell BK221.out 15).trans rfl, (blk_cell BK221.out 16).trans rfl, (blk_cell BK221.out 17).trans rfl, ((HB.out.cell (World.block_lt_of_cell? w _ hw229_0)).trans hw229_0)⟩ (fun hHeld => ?_)
                   generalize w25.drew = w26 at BK221 BK223 HB hx229_0 hHeld ⊢
                   as_aux_lemma =>
                    refine pure_ (i := 0) (N := some 35) (v := ?_) (a' := ?_) #[true, false, false, false, false, false, false] rfl rfl (by kernel_rfl) (fun _ _ _ h => h) (Or.inl ⟨by rfl, ?_⟩) ?_ ?_
                    rotate_left
                    · intro w'
                      go_simp
                      with_reducible rfl
                    rotate_left
                    · simp only [Act.put, List.setIfInBounds_toArray, List.set_cons_zero, List.set_cons_succ, i64_w, i32_w]
                      rfl
                    as_aux_lemma =>
                     refine pure_ (i := 1) (N := some 36) (v := ?_) (a' := ?_) #[true, true, false, false, false, false, false] rfl rfl (by kernel_rfl) (fun _ _ _ h => h) (Or.inl ⟨by rfl, ?_⟩) ?_ ?_
                     rotate_left
                     · intro w'
                       go_simp
                       with_reducible rfl
                     rotate_left
                     · simp only [Act.put, List.setIfInBounds_toArray, List.set_cons_zero, List.set_cons_succ, i64_w, i32_w]
                       rfl
                     as_aux_lemma =>
                      refine pure_ (i := 2) (N := some 37) (v := ?_) (a' := ?_) #[true, true, true, false, false, false, false] rfl rfl (by kernel_rfl) (fun _ _ _ h => h) (Or.inl ⟨by rfl, ?_⟩) ?_ ?_
                      rotate_left
                      · intro w'
                        go_simp
                        with_reducible rfl
                      rotate_left
                      · simp only [Act.put, List.setIfInBounds_toArray, List.set_cons_zero, List.set_cons_succ, i64_w, i32_w]
                        rfl
                      as_aux_lemma =>
                       refine pure_ (i := 4) (N := some 39) (v := ?_) (a' := ?_) #[true, true, true, false, true, false, false] rfl rfl (by kernel_rfl) (fun _ _ _ h => h) (Or.inl ⟨by rfl, ?_⟩) ?_ ?_
                       rotate_left
                       · intro w'
                         go_simp
                         with_reducible rfl
                       rotate_left
                       · simp only [Act.put, List.setIfInBounds_toArray, List.set_cons_zero, List.set_cons_succ, i64_w, i32_w]
                         rfl
                       as_aux_lemma =>
                        refine take_ (i := 3) (N := some 38) (v := ?_) (a' := ?_) #[true, true, true, true, true, false, false] rfl rfl (by kernel_rfl) (fun _ _ _ h => h) (Or.inl ⟨by rfl, ?_⟩) hHeld ?_ ?_
                        rotate_left
                        · rintro w' ⟨s0, s1, s2, s3, s4, s5, s6, s7, s8, s9, s10, s11, s12, s13, s14, s15, s16, s17, s18⟩
                          go_simp
                          with_reducible rfl
                        rotate_left
                        · simp only [Act.put, List.setIfInBounds_toArray, List.set_cons_zero, List.set_cons_succ, i64_w, i32_w]
                          rfl
                        as_aux_lemma =>
                         refine take_ (i := 5) (N := some 40) (v := ?_) (a' := ?_) #[true, true, true, true, true, true, false] rfl rfl (by kernel_rfl) (fun _ _ _ h => h) (Or.inl ⟨by rfl, ?_⟩) hHeld ?_ ?_
                         rotate_left
                         · rintro w' ⟨s0, s1, s2, s3, s4, s5, s6, s7, s8, s9, s10, s11, s12, s13, s14, s15, s16, s17, s18⟩
                           go_simp
                           with_reducible rfl
                         rotate_left
                         · simp only [Act.put, List.setIfInBounds_toArray, List.set_cons_zero, List.set_cons_succ, i64_w, i32_w]
                           rfl
                         as_aux_lemma =>
                          refine pure_ (i := 6) (N := some 41) (v := ?_) (a' := ?_) #[true, true, true, true, true, true, true] rfl rfl (by kernel_rfl) (fun _ _ _ h => h) (Or.inl ⟨by rfl, ?_⟩) ?_ ?_
                          rotate_left
                          · intro w'
                            go_simp
                            with_reducible rfl
                          rotate_left
                          · simp only [Act.put, List.setIfInBounds_toArray, List.set_cons_zero, List.set_cons_succ, i64_w, i32_w]
                            rfl
                          refine done_ (by kernel_rfl) ?_
                          go_upto_if 41 with (fail)
                          go_cut [9] (fun v9 wc => ∃ (kq : Nat) (x9_17 : Bool), v9 = .bool x9_17 ∧ Aside0 (bournelaw20_SeepHolds.j1 kq l2 t222 x9_17 x10_1 a0_0 3 a0_2 a0_3 l0_4 l0_5 l0_6 a0_7 a0_8 a0_9 a0_10 a0_11 a0_12 a0_13 a0_14 a0_15 a0_16 a0_17 t225 t226 t227 t228 = some r) ∧ Aside0 (kq ≤ k1) ∧ Aside0 (wc.heap[gb221]? = some (.cells #[.string a0_0, .int .i64 3, .int .i64 a0_2, .int .i64 a0_3, (.slice A0_4 l0_4.length c0_4), (.slice A0_5 l0_5.length c0_5), (.slice A0_6 l0_6.length c0_6), .int .i64 a0_7, .int .i64 a0_8, .int .i64 a0_9, .int .i64 a0_10, .int .i64 a0_11, .int .i64 a0_12, .int .i64 a0_13, .int .i64 a0_14, .int .i64 a0_15, .int .i64 a0_16, .int .i64 a0_17] 26 (0, 0))) ∧ Aside0 (wc.heap[gb223]? = some (.cells #[.int .i64 t225, .int .i64 t226, .bool t227, .bool t228] 28 (0, 0))) ∧ Aside0 (Below w.heap.size w wc))
                          case first =>
                            have H := HC18.out
                            clear HC18
                            by_cases c27 : (rd l2 x10_1) ≥ a0_13
                            · rw [if_pos c27] at H
                              have c27b0 : decide (a0_13 ≤ (rd l2 x10_1)) = true := decide_eq_true c27
                              clear c27
                              (first | rw [c27b0] | (simp only [i64_w, i32_w]; rw [c27b0]) | skip)
                              have H' := Aside0.mk H
                              clear H
                              as_aux_lemma =>
                                go_wp2
                                go_meet
                                case rel => exact ⟨_, (true), (by first | rfl | (simp; done) | (simp [*]; done)), H', ⟨by have := HK1.out; first | omega | exact Nat.le_refl _⟩, ⟨by (with_reducible repeat (first | refine blk_drewN ?_ _ | refine blk_drew ?_ | refine blk_alloc ?_ _)); exact BK221.out⟩, ⟨by (with_reducible repeat (first | refine blk_drewN ?_ _ | refine blk_drew ?_ | refine blk_alloc ?_ _)); exact BK223.out⟩, ⟨by repeat (first | (with_reducible first | exact HB.out | apply below_alloc | apply pw_below_drewN | apply below_drew1 | refine below_set ?_ GE221.out | refine below_set ?_ GE223.out) | exact HB.out)⟩⟩
                            · rw [if_neg c27] at H
                              have c27b0 : decide (a0_13 ≤ (rd l2 x10_1)) = false := decide_eq_false c27
                              clear c27
                              (first | rw [c27b0] | (simp only [i64_w, i32_w]; rw [c27b0]) | skip)
                              have H' := Aside0.mk H
                              clear H
                              as_aux_lemma =>
                                go_wp2
                                go_meet
                                case rel => exact ⟨_, (x9_1), (by first | rfl | (simp; done) | (simp [*]; done)), H', ⟨by have := HK1.out; first | omega | exact Nat.le_refl _⟩, ⟨by (with_reducible repeat (first | refine blk_drewN ?_ _ | refine blk_drew ?_ | refine blk_alloc ?_ _)); exact BK221.out⟩, ⟨by (with_reducible repeat (first | refine blk_drewN ?_ _ | refine blk_drew ?_ | refine blk_alloc ?_ _)); exact BK223.out⟩, ⟨by repeat (first | (with_reducible first | exact HB.out | apply below_alloc | apply pw_below_drewN | apply below_drew1 | refine below_set ?_ GE221.out | refine below_set ?_ GE223.out) | exact HB.out)⟩⟩
                          case rest =>
                            clear HC18
                            try clear c1
                            try clear c2
                            try clear p2
                            try clear q2
                            try clear hx2
                            try clear c5
                            try clear c5b0
                            try clear c9
                            try clear c13
                            try clear c14
                            try clear c15
                            try clear c15b0
                            try clear c16
                            try clear c16b0
                            try clear p22
                            try clear q22
                            try clear hx22
                            try clear c27
                            try clear c27b0
                            try clear hcz11_0
                            try clear hcz11_1
                            try clear hcz11_10
                            try clear hcz11_11
                            try clear hcz11_12
                            try clear hcz11_13
                            try clear hcz11_14
                            try clear hcz11_15
                            try clear hcz11_16
                            try clear hcz11_17
                            try clear hcz11_2
                            try clear hcz11_3
                            try clear hcz11_4
                            try clear hcz11_5
                            try clear hcz11_6
                            try clear hcz11_7
                            try clear hcz11_8
                            try clear hcz11_9
                            try clear hcz14_0
                            try clear hcz14_1
                            try clear hcz14_2
                            try clear hcz14_3
                            try clear hcz8_0
                            try clear hcz8_1
                            try clear hcz8_10
                            try clear hcz8_11
                            try clear hcz8_12
                            try clear hcz8_13
                            try clear hcz8_14
                            try clear hcz8_15
                            try clear hcz8_16
                            try clear hcz8_17
                            try clear hcz8_2
                            try clear hcz8_3
                            try clear hcz8_4
                            try clear hcz8_5
                            try clear hcz8_6
                            try clear hcz8_7
                            try clear hcz8_8
                            try clear hcz8_9
                            try clear hfz11_0
                            try clear hfz11_1
                            try clear hfz11_10
                            try clear hfz11_11
                            try clear hfz11_12
                            try clear hfz11_13
                            try clear hfz11_14
                            try clear hfz11_15
                            try clear hfz11_16
                            try clear hfz11_17
                            try clear hfz11_2
                            try clear hfz11_3
                            try clear hfz11_4
                            try clear hfz11_5
                            try clear hfz11_6
                            try clear hfz11_7
                            try clear hfz11_8
                            try clear hfz11_9
                            try clear hfz14_0
                            try clear hfz14_1
                            try clear hfz14_2
                            try clear hfz14_3
                            try clear hfz8_0
                            try clear hfz8_1
                            try clear hfz8_10
                            try clear hfz8_11
                            try clear hfz8_12
                            try clear hfz8_13
                            try clear hfz8_14
                            try clear hfz8_15
                            try clear hfz8_16
                            try clear hfz8_17
                            try clear hfz8_2
                            try clear hfz8_3
                            try clear hfz8_4
                            try clear hfz8_5
                            try clear hfz8_6
                            try clear hfz8_7
                            try clear hfz8_8
                            try clear hfz8_9
                            try clear hx224_0
                            try clear hx229_0
                            try clear p2
                            try clear p224
                            try clear p229
                            try clear q224
                            try clear q229
                            obtain ⟨kq, x9_17, rfl, HA, HJ17, BK221, BK223, HB⟩ := hcut
                            cases kq with
                            | zero => exact absurd HA.out (by simp [bournelaw20_SeepHolds.j1])
                            | succ kj17 =>
                              have H := HA.out
                              clear HA
                              simp only [bournelaw20_SeepHolds.j1] at H
                              by_cases c28 : 0 ≤ x10_1
                              · rw [if_pos c28] at H
                                have c28b0 : decide (0 ≤ x10_1) = true := decide_eq_true c28
                                clear c28
                                by_cases c29 : x10_1 < (l2.length : Int)
                                · rw [if_pos c29] at H
                                  have c29b0 : decide (x10_1 < (l2.length : Int)) = true := decide_eq_true c29
                                  clear c29
                                  have HC30 := Aside0.mk H
                                  clear H
                                  try go_wp2
                                  have n0_ := Aside0.mk (blk_drew BK221.out)
                                  have n1_ := Aside0.mk (blk_drew BK223.out)
                                  have n2_ := Aside0.mk (below_drew1 HB.out)
                                  clear BK221
                                  clear BK223
                                  clear HB
                                  have BK221 := n0_
                                  have BK223 := n1_
                                  have HB := n2_
                                  clear n0_ n1_ n2_
                                  have p230 : 0 ≤ (x10_1 : Int) := of_decide_eq_true (by first | (with_reducible assumption) | assumption)
                                  have q230 : x10_1 < (l2.length : Int) := of_decide_eq_true (by first | (with_reducible assumption) | assumption)
                                  obtain ⟨ad230, e230, hx230_0⟩ := Kd.at_int HR2.out x10_1 p230 q230
                                  have hw230_0 := hx230_0
                                  obtain rfl : ad224 = ad230 := (by injection e230)
                                  replace hx230_0 := (HB.out.cell (World.block_lt_of_cell? w _ hx230_0)).trans hx230_0
                                  replace p230 := eq_true p230
                                  replace q230 := eq_true q230
                                  refine start_ (n := 7) (S := fun w' => w'.cell? ⟨gb221, 0, none⟩ = some (.string a0_0) ∧ w'.cell? ⟨gb221, 1, none⟩ = some (.int .i64 3) ∧ w'.cell? ⟨gb221, 2, none⟩ = some (.int .i64 a0_2) ∧ w'.cell? ⟨gb221, 3, none⟩ = some (.int .i64 a0_3) ∧ w'.cell? ⟨gb221, 4, none⟩ = some (.slice A0_4 l0_4.length c0_4) ∧ w'.cell? ⟨gb221, 5, none⟩ = some (.slice A0_5 l0_5.length c0_5) ∧ w'.cell? ⟨gb221, 6, none⟩ = some (.slice A0_6 l0_6.length c0_6) ∧ w'.cell? ⟨gb221, 7, none⟩ = some (.int .i64 a0_7) ∧ w'.cell? ⟨gb221, 8, none⟩ = some (.int .i64 a0_8) ∧ w'.cell? ⟨gb221, 9, none⟩ = some (.int .i64 a0_9) ∧ w'.cell? ⟨gb221, 10, none⟩ = some (.int .i64 a0_10) ∧ w'.cell? ⟨gb221, 11, none⟩ = some (.int .i64 a0_11) ∧ w'.cell? ⟨gb221, 12, none⟩ = some (.int .i64 a0_12) ∧ w'.cell? ⟨gb221, 13, none⟩ = some (.int .i64 a0_13) ∧ w'.cell? ⟨gb221, 14, none⟩ = some (.int .i64 a0_14) ∧ w'.cell? ⟨gb221, 15, none⟩ = some (.int .i64 a0_15) ∧ w'.cell? ⟨gb221, 16, none⟩ = some (.int .i64 a0_16) ∧ w'.cell? ⟨gb221, 17, none⟩ = some (.int .i64 a0_17) ∧ w'.cell? (ad224.add (x10_1).toNat) = some (.int .i64 (rd l2 x10_1))) (ds := []) #[false, false, false, false, false, false, false] (by kernel_rfl) rfl rfl ⟨(blk_cell BK221.out 0).trans rfl, (blk_cell BK221.out 1).trans rfl, (blk_cell BK221.out 2).trans rfl, (blk_cell BK221.out 3).trans rfl, (blk_cell BK221.out 4).trans rfl, (blk_cell BK221.out 5).trans rfl, (blk_cell BK221.out 6).trans rfl, (blk_cell BK221.out 7).trans rfl, (blk_cell BK221.out 8).trans rfl, (blk_cell BK221.out 9).trans rfl, (blk_cell BK221.out 10).trans rfl, (blk_cell BK221.out 11).trans rfl, (blk_cell BK221.out 12).trans rfl, (blk_cell BK221.out 13).trans rfl, (blk_cell BK221.out 14).trans rfl, (blk_cell BK221.out 15).trans rfl, (blk_cell BK221.out 16).trans rfl, (blk_cell BK221.out 17).trans rfl, ((HB.out.cell (World.block_lt_of_cell? w _ hw230_0)).trans hw230_0)⟩ (fun hHeld => ?_)
                                  generalize wc.drew = w31 at BK221 BK223 HB hx230_0 hHeld ⊢
                                  as_aux_lemma =>
                                   refine pure_ (i := 0) (N := some 42) (v := ?_) (a' := ?_) #[true, false, false, false, false, false, false] rfl rfl (by kernel_rfl) (fun _ _ _ h => h) (Or.inl ⟨by rfl, ?_⟩) ?_ ?_
                                   rotate_left
                                   · intro w'
                                     go_simp
                                     with_reducible rfl
                                   rotate_left
                                   · simp only [Act.put, List.setIfInBounds_toArray, List.set_cons_zero, List.set_cons_succ, i64_w, i32_w]
                                     rfl
                                   as_aux_lemma =>
                                    refine pure_ (i := 1) (N := some 43) (v := ?_) (a' := ?_) #[true, true, false, false, false, false, false] rfl rfl (by kernel_rfl) (fun _ _ _ h => h) (Or.inl ⟨by rfl, ?_⟩) ?_ ?_
                                    rotate_left
                                    · intro w'
                                      go_simp
                                      with_reducible rfl
                                    rotate_left
                                    · simp only [Act.put, List.setIfInBounds_toArray, List.set_cons_zero, List.set_cons_succ, i64_w, i32_w]
                                      rfl
                                    as_aux_lemma =>
                                     refine pure_ (i := 2) (N := some 44) (v := ?_) (a' := ?_) #[true, true, true, false, false, false, false] rfl rfl (by kernel_rfl) (fun _ _ _ h => h) (Or.inl ⟨by rfl, ?_⟩) ?_ ?_
                                     rotate_left
                                     · intro w'
                                       go_simp
                                       with_reducible rfl
                                     rotate_left
                                     · simp only [Act.put, List.setIfInBounds_toArray, List.set_cons_zero, List.set_cons_succ, i64_w, i32_w]
                                       rfl
                                     as_aux_lemma =>
                                      refine pure_ (i := 4) (N := some 46) (v := ?_) (a' := ?_) #[true, true, true, false, true, false, false] rfl rfl (by kernel_rfl) (fun _ _ _ h => h) (Or.inl ⟨by rfl, ?_⟩) ?_ ?_
                                      rotate_left
                                      · intro w'
                                        go_simp
                                        with_reducible rfl
                                      rotate_left
                                      · simp only [Act.put, List.setIfInBounds_toArray, List.set_cons_zero, List.set_cons_succ, i64_w, i32_w]
                                        rfl
                                      as_aux_lemma =>
                                       refine take_ (i := 3) (N := some 45) (v := ?_) (a' := ?_) #[true, true, true, true, true, false, false] rfl rfl (by kernel_rfl) (fun _ _ _ h => h) (Or.inl ⟨by rfl, ?_⟩) hHeld ?_ ?_
                                       rotate_left
                                       · rintro w' ⟨s0, s1, s2, s3, s4, s5, s6, s7, s8, s9, s10, s11, s12, s13, s14, s15, s16, s17, s18⟩
                                         go_simp
                                         with_reducible rfl
                                       rotate_left
                                       · simp only [Act.put, List.setIfInBounds_toArray, List.set_cons_zero, List.set_cons_succ, i64_w, i32_w]
                                         rfl
                                       as_aux_lemma =>
                                        refine take_ (i := 5) (N := some 47) (v := ?_) (a' := ?_) #[true, true, true, true, true, true, false] rfl rfl (by kernel_rfl) (fun _ _ _ h => h) (Or.inl ⟨by rfl, ?_⟩) hHeld ?_ ?_
                                        rotate_left
                                        · rintro w' ⟨s0, s1, s2, s3, s4, s5, s6, s7, s8, s9, s10, s11, s12, s13, s14, s15, s16, s17, s18⟩
                                          go_simp
                                          with_reducible rfl
                                        rotate_left
                                        · simp only [Act.put, List.setIfInBounds_toArray, List.set_cons_zero, List.set_cons_succ, i64_w, i32_w]
                                          rfl
                                        as_aux_lemma =>
                                         refine pure_ (i := 6) (N := some 48) (v := ?_) (a' := ?_) #[true, true, true, true, true, true, true] rfl rfl (by kernel_rfl) (fun _ _ _ h => h) (Or.inl ⟨by rfl, ?_⟩) ?_ ?_
                                         rotate_left
                                         · intro w'
                                           go_simp
                                           with_reducible rfl
                                         rotate_left
                                         · simp only [Act.put, List.setIfInBounds_toArray, List.set_cons_zero, List.set_cons_succ, i64_w, i32_w]
                                           rfl
                                         refine done_ (by kernel_rfl) ?_
                                         go_upto_if 48 with (fail)
                                         go_cut [9] (fun v9 wc => ∃ (kq : Nat) (x9_29 : Bool), v9 = .bool x9_29 ∧ Aside0 (bournelaw20_SeepHolds.j2 kq l2 t222 x9_29 x10_1 a0_0 3 a0_2 a0_3 l0_4 l0_5 l0_6 a0_7 a0_8 a0_9 a0_10 a0_11 a0_12 a0_13 a0_14 a0_15 a0_16 a0_17 t225 t226 t227 t228 = some r) ∧ Aside0 (kq ≤ kj17) ∧ Aside0 (wc.heap[gb221]? = some (.cells #[.string a0_0, .int .i64 3, .int .i64 a0_2, .int .i64 a0_3, (.slice A0_4 l0_4.length c0_4), (.slice A0_5 l0_5.length c0_5), (.slice A0_6 l0_6.length c0_6), .int .i64 a0_7, .int .i64 a0_8, .int .i64 a0_9, .int .i64 a0_10, .int .i64 a0_11, .int .i64 a0_12, .int .i64 a0_13, .int .i64 a0_14, .int .i64 a0_15, .int .i64 a0_16, .int .i64 a0_17] 26 (0, 0))) ∧ Aside0 (wc.heap[gb223]? = some (.cells #[.int .i64 t225, .int .i64 t226, .bool t227, .bool t228] 28 (0, 0))) ∧ Aside0 (Below w.heap.size w wc))
                                         case first =>
                                           have H := HC30.out
                                           clear HC30
                                           by_cases c32 : (rd l2 x10_1) ≤ a0_14
                                           · rw [if_pos c32] at H
                                             have c32b0 : decide ((rd l2 x10_1) ≤ a0_14) = true := decide_eq_true c32
                                             clear c32
                                             (first | rw [c32b0] | (simp only [i64_w, i32_w]; rw [c32b0]) | skip)
                                             have H' := Aside0.mk H
                                             clear H
                                             as_aux_lemma =>
                                               go_wp2
                                               go_meet
                                               case rel => exact ⟨_, (false), (by first | rfl | (simp; done) | (simp [*]; done)), H', ⟨by have := HK1.out; have := HJ17.out; first | omega | exact Nat.le_refl _⟩, ⟨by (with_reducible repeat (first | refine blk_drewN ?_ _ | refine blk_drew ?_ | refine blk_alloc ?_ _)); exact BK221.out⟩, ⟨by (with_reducible repeat (first | refine blk_drewN ?_ _ | refine blk_drew ?_ | refine blk_alloc ?_ _)); exact BK223.out⟩, ⟨by repeat (first | (with_reducible first | exact HB.out | apply below_alloc | apply pw_below_drewN | apply below_drew1 | refine below_set ?_ GE221.out | refine below_set ?_ GE223.out) | exact HB.out)⟩⟩
                                           · rw [if_neg c32] at H
                                             have c32b0 : decide ((rd l2 x10_1) ≤ a0_14) = false := decide_eq_false c32
                                             clear c32
                                             (first | rw [c32b0] | (simp only [i64_w, i32_w]; rw [c32b0]) | skip)
                                             have H' := Aside0.mk H
                                             clear H
                                             as_aux_lemma =>
                                               go_wp2
                                               go_meet
                                               case rel => exact ⟨_, (x9_17), (by first | rfl | (simp; done) | (simp [*]; done)), H', ⟨by have := HK1.out; have := HJ17.out; first | omega | exact Nat.le_refl _⟩, ⟨by (with_reducible repeat (first | refine blk_drewN ?_ _ | refine blk_drew ?_ | refine blk_alloc ?_ _)); exact BK221.out⟩, ⟨by (with_reducible repeat (first | refine blk_drewN ?_ _ | refine blk_drew ?_ | refine blk_alloc ?_ _)); exact BK223.out⟩, ⟨by repeat (first | (with_reducible first | exact HB.out | apply below_alloc | apply pw_below_drewN | apply below_drew1 | refine below_set ?_ GE221.out | refine below_set ?_ GE223.out) | exact HB.out)⟩⟩
                                         case rest =>
                                           clear HC30
                                           try clear c1
                                           try clear c2
                                           try clear p2
                                           try clear q2
                                           try clear hx2
                                           try clear c3
                                           try clear c5
                                           try clear c5b0
                                           try clear c9
                                           try clear c13
                                           try clear c14
                                           try clear c15
                                           try clear c15b0
                                           try clear c16
                                           try clear c16b0
                                           try clear p22
                                           try clear q22
                                           try clear hx22
                                           try clear p23
                                           try clear q23
                                           try clear hx23
                                           try clear c27
                                           try clear c27b0
                                           try clear c28
                                           try clear c28b0
                                           try clear c29
                                           try clear c29b0
                                           try clear c32
                                           try clear c32b0
                                           try clear hcz11_0
                                           try clear hcz11_1
                                           try clear hcz11_10
                                           try clear hcz11_11
                                           try clear hcz11_12
                                           try clear hcz11_13
                                           try clear hcz11_14
                                           try clear hcz11_15
                                           try clear hcz11_16
                                           try clear hcz11_17
                                           try clear hcz11_2
                                           try clear hcz11_3
                                           try clear hcz11_4
                                           try clear hcz11_5
                                           try clear hcz11_6
                                           try clear hcz11_7
                                           try clear hcz11_8
                                           try clear hcz11_9
                                           try clear hcz14_0
                                           try clear hcz14_1
                                           try clear hcz14_2
                                           try clear hcz14_3
                                           try clear hcz8_0
                                           try clear hcz8_1
                                           try clear hcz8_10
                                           try clear hcz8_11
                                           try clear hcz8_12
                                           try clear hcz8_13
                                           try clear hcz8_14
                                           try clear hcz8_15
                                           try clear hcz8_16
                                           try clear hcz8_17
                                           try clear hcz8_2
                                           try clear hcz8_3
                                           try clear hcz8_4
                                           try clear hcz8_5
                                           try clear hcz8_6
                                           try clear hcz8_7
                                           try clear hcz8_8
                                           try clear hcz8_9
                                           try clear hfz11_0
                                           try clear hfz11_1
                                           try clear hfz11_10
                                           try clear hfz11_11
                                           try clear hfz11_12
                                           try clear hfz11_13
                                           try clear hfz11_14
                                           try clear hfz11_15
                                           try clear hfz11_16
                                           try clear hfz11_17
                                           try clear hfz11_2
                                           try clear hfz11_3
                                           try clear hfz11_4
                                           try clear hfz11_5
                                           try clear hfz11_6
                                           try clear hfz11_7
                                           try clear hfz11_8
                                           try clear hfz11_9
                                           try clear hfz14_0
                                           try clear hfz14_1
                                           try clear hfz14_2
                                           try clear hfz14_3
                                           try clear hfz8_0
                                           try clear hfz8_1
                                           try clear hfz8_10
                                           try clear hfz8_11
                                           try clear hfz8_12
                                           try clear hfz8_13
                                           try clear hfz8_14
                                           try clear hfz8_15
                                           try clear hfz8_16
                                           try clear hfz8_17
                                           try clear hfz8_2
                                           try clear hfz8_3
                                           try clear hfz8_4
                                           try clear hfz8_5
                                           try clear hfz8_6
                                           try clear hfz8_7
                                           try clear hfz8_8
                                           try clear hfz8_9
                                           try clear hx224_0
                                           try clear hx229_0
                                           try clear hx230_0
                                           try clear p2
                                           try clear p22
                                           try clear p224
                                           try clear p229
                                           try clear p230
                                           try clear q2
                                           try clear q22
                                           try clear q224
                                           try clear q229
                                           try clear q230
                                           obtain ⟨kq, x9_29, rfl, HA, HJ29, BK221, BK223, HB⟩ := hcut
                                           cases kq with
                                           | zero => exact absurd HA.out (by simp [bournelaw20_SeepHolds.j2])
                                           | succ kj29 =>
                                             have H := HA.out
                                             clear HA
                                             simp only [bournelaw20_SeepHolds.j2] at H
                                             have HC33 := Aside0.mk H
                                             clear H
                                             go_upto_region 15 with (fail)
                                             go_cut [66] (fun v66 wc => ∃ (kq : Nat) (x66_32 : Bool), v66 = .bool x66_32 ∧ Aside0 (bournelaw20_SeepHolds.j3 kq l2 t222 x9_29 x10_1 x66_32 a0_0 3 a0_2 a0_3 l0_4 l0_5 l0_6 a0_7 a0_8 a0_9 a0_10 a0_11 a0_12 a0_13 a0_14 a0_15 a0_16 a0_17 t225 t226 t227 t228 = some r) ∧ Aside0 (kq ≤ kj29) ∧ Aside0 (wc.heap[gb221]? = some (.cells #[.string a0_0, .int .i64 3, .int .i64 a0_2, .int .i64 a0_3, (.slice A0_4 l0_4.length c0_4), (.slice A0_5 l0_5.length c0_5), (.slice A0_6 l0_6.length c0_6), .int .i64 a0_7, .int .i64 a0_8, .int .i64 a0_9, .int .i64 a0_10, .int .i64 a0_11, .int .i64 a0_12, .int .i64 a0_13, .int .i64 a0_14, .int .i64 a0_15, .int .i64 a0_16, .int .i64 a0_17] 26 (0, 0))) ∧ Aside0 (wc.heap[gb223]? = some (.cells #[.int .i64 t225, .int .i64 t226, .bool t227, .bool t228] 28 (0, 0))) ∧ Aside0 (Below w.heap.size w wc))
                                             case first =>
                                               have H := HC33.out
                                               clear HC33
                                               by_cases c34 : (t228 != x9_29) = true
                                               · rw [if_pos c34] at H
                                                 have c34b0 : (t228 != x9_29) = true := c34
                                                 (try (have c34b1 : decide (t228 = x9_29) = false := by simpa using c34))
                                                 (try (have c34b2 : (t228 == x9_29) = false := by simpa using c34))
                                                 (try (have c34b3 : ¬ (t228 = x9_29) := by simpa using c34))
                                                 clear c34
                                                 (first | rw [c34b0] | (simp only [i64_w, i32_w]; rw [c34b0]) | skip)
                                                 have H' := Aside0.mk H
                                                 clear H
                                                 have hnb35 := NB223_221.out
                                                 have hnc35 := NB221_223.out
                                                 have hcz36_0 : wc.cell? ⟨gb223, 0, none⟩ = some (.int .i64 t225) := (blk_cell BK223.out 0).trans rfl
                                                 have hcz36_1 : wc.cell? ⟨gb223, 1, none⟩ = some (.int .i64 t226) := (blk_cell BK223.out 1).trans rfl
                                                 have hcz36_2 : wc.cell? ⟨gb223, 2, none⟩ = some (.bool t227) := (blk_cell BK223.out 2).trans rfl
                                                 have hcz36_3 : wc.cell? ⟨gb223, 3, none⟩ = some (.bool t228) := (blk_cell BK223.out 3).trans rfl
                                                 have hfz36_0 := blk_frozen BK223.out 0
                                                 have hfz36_1 := blk_frozen BK223.out 1
                                                 have hfz36_2 := blk_frozen BK223.out 2
                                                 have hfz36_3 := blk_frozen BK223.out 3
                                                 as_aux_lemma =>
                                                   go_wp2
                                                   go_meet
                                                   case rel => exact ⟨_, (true), (by first | rfl | (simp; done) | (simp [*]; done)), H', ⟨by have := HK1.out; have := HJ17.out; have := HJ29.out; first | omega | exact Nat.le_refl _⟩, ⟨by (with_reducible repeat (first | refine blk_drewN ?_ _ | refine blk_drew ?_ | refine blk_alloc ?_ _)); exact BK221.out⟩, ⟨by (with_reducible repeat (first | refine blk_drewN ?_ _ | refine blk_drew ?_ | refine blk_alloc ?_ _)); exact BK223.out⟩, ⟨by repeat (first | (with_reducible first | exact HB.out | apply below_alloc | apply pw_below_drewN | apply below_drew1 | refine below_set ?_ GE221.out | refine below_set ?_ GE223.out) | exact HB.out)⟩⟩
                                               · rw [if_neg c34] at H
                                                 have c34b0 : (t228 != x9_29) = false := by simpa using c34
                                                 (try (have c34b1 : decide (t228 = x9_29) = true := by simpa using c34))
                                                 (try (have c34b2 : (t228 == x9_29) = true := by simpa using c34))
                                                 clear c34
                                                 (first | rw [c34b0] | (simp only [i64_w, i32_w]; rw [c34b0]) | skip)
                                                 by_cases c37 : t225 = 1
                                                 · rw [if_pos c37] at H
                                                   have c37b0 : (t225 == 1) = true := beq_iff_eq.mpr c37
                                                   have c37b1 : (t225 != 1) = false := bne_eq_false_iff_eq.mpr c37
                                                   clear c37
                                                   by_cases c38 : t226 = 2
                                                   · rw [if_pos c38] at H
                                                     have c38b0 : (t226 == 2) = true := beq_iff_eq.mpr c38
                                                     have c38b1 : (t226 != 2) = false := bne_eq_false_iff_eq.mpr c38
                                                     clear c38
                                                     have H' := Aside0.mk H
                                                     clear H
                                                     have hnb39 := NB223_221.out
                                                     have hnc39 := NB221_223.out
                                                     have hcz40_0 : wc.cell? ⟨gb223, 0, none⟩ = some (.int .i64 t225) := (blk_cell BK223.out 0).trans rfl
                                                     have hcz40_1 : wc.cell? ⟨gb223, 1, none⟩ = some (.int .i64 t226) := (blk_cell BK223.out 1).trans rfl
                                                     have hcz40_2 : wc.cell? ⟨gb223, 2, none⟩ = some (.bool t227) := (blk_cell BK223.out 2).trans rfl
                                                     have hcz40_3 : wc.cell? ⟨gb223, 3, none⟩ = some (.bool t228) := (blk_cell BK223.out 3).trans rfl
                                                     have hfz40_0 := blk_frozen BK223.out 0
                                                     have hfz40_1 := blk_frozen BK223.out 1
                                                     have hfz40_2 := blk_frozen BK223.out 2
                                                     have hfz40_3 := blk_frozen BK223.out 3
                                                     as_aux_lemma =>
                                                       go_wp2
                                                       go_meet
                                                       case rel => exact ⟨_, (t227), (by first | rfl | (simp; done) | (simp [*]; done)), H', ⟨by have := HK1.out; have := HJ17.out; have := HJ29.out; first | omega | exact Nat.le_refl _⟩, ⟨by (with_reducible repeat (first | refine blk_drewN ?_ _ | refine blk_drew ?_ | refine blk_alloc ?_ _)); exact BK221.out⟩, ⟨by (with_reducible repeat (first | refine blk_drewN ?_ _ | refine blk_drew ?_ | refine blk_alloc ?_ _)); exact BK223.out⟩, ⟨by repeat (first | (with_reducible first | exact HB.out | apply below_alloc | apply pw_below_drewN | apply below_drew1 | refine below_set ?_ GE221.out | refine below_set ?_ GE223.out) | exact HB.out)⟩⟩
                                                   · rw [if_neg c38] at H
                                                     have c38b0 : (t226 == 2) = false := beq_eq_false_iff_ne.mpr c38
                                                     have c38b1 : (t226 != 2) = true := bne_iff_ne.mpr c38
                                                     have H' := Aside0.mk H
                                                     clear H
                                                     have hnb41 := NB223_221.out
                                                     have hnc41 := NB221_223.out
                                                     have hcz42_0 : wc.cell? ⟨gb223, 0, none⟩ = some (.int .i64 t225) := (blk_cell BK223.out 0).trans rfl
                                                     have hcz42_1 : wc.cell? ⟨gb223, 1, none⟩ = some (.int .i64 t226) := (blk_cell BK223.out 1).trans rfl
                                                     have hcz42_2 : wc.cell? ⟨gb223, 2, none⟩ = some (.bool t227) := (blk_cell BK223.out 2).trans rfl
                                                     have hcz42_3 : wc.cell? ⟨gb223, 3, none⟩ = some (.bool t228) := (blk_cell BK223.out 3).trans rfl
                                                     have hfz42_0 := blk_frozen BK223.out 0
                                                     have hfz42_1 := blk_frozen BK223.out 1
                                                     have hfz42_2 := blk_frozen BK223.out 2
                                                     have hfz42_3 := blk_frozen BK223.out 3
                                                     as_aux_lemma =>
                                                       go_wp2
                                                       go_meet
                                                       case rel => exact ⟨_, (true), (by first | rfl | (simp; done) | (simp [*]; done)), H', ⟨by have := HK1.out; have := HJ17.out; have := HJ29.out; first | omega | exact Nat.le_refl _⟩, ⟨by (with_reducible repeat (first | refine blk_drewN ?_ _ | refine blk_drew ?_ | refine blk_alloc ?_ _)); exact BK221.out⟩, ⟨by (with_reducible repeat (first | refine blk_drewN ?_ _ | refine blk_drew ?_ | refine blk_alloc ?_ _)); exact BK223.out⟩, ⟨by repeat (first | (with_reducible first | exact HB.out | apply below_alloc | apply pw_below_drewN | apply below_drew1 | refine below_set ?_ GE221.out | refine below_set ?_ GE223.out) | exact HB.out)⟩⟩
                                                 · rw [if_neg c37] at H
                                                   have c37b0 : (t225 == 1) = false := beq_eq_false_iff_ne.mpr c37
                                                   have c37b1 : (t225 != 1) = true := bne_iff_ne.mpr c37
                                                   have H' := Aside0.mk H
                                                   clear H
                                                   have hnb43 := NB223_221.out
                                                   have hnc43 := NB221_223.out
                                                   have hcz44_0 : wc.cell? ⟨gb223, 0, none⟩ = some (.int .i64 t225) := (blk_cell BK223.out 0).trans rfl
                                                   have hcz44_1 : wc.cell? ⟨gb223, 1, none⟩ = some (.int .i64 t226) := (blk_cell BK223.out 1).trans rfl
                                                   have hcz44_2 : wc.cell? ⟨gb223, 2, none⟩ = some (.bool t227) := (blk_cell BK223.out 2).trans rfl
                                                   have hcz44_3 : wc.cell? ⟨gb223, 3, none⟩ = some (.bool t228) := (blk_cell BK223.out 3).trans rfl
                                                   have hfz44_0 := blk_frozen BK223.out 0
                                                   have hfz44_1 := blk_frozen BK223.out 1
                                                   have hfz44_2 := blk_frozen BK223.out 2
                                                   have hfz44_3 := blk_frozen BK223.out 3
                                                   as_aux_lemma =>
                                                     go_wp2
                                                     go_meet
                                                     case rel => exact ⟨_, (true), (by first | rfl | (simp; done) | (simp [*]; done)), H', ⟨by have := HK1.out; have := HJ17.out; have := HJ29.out; first | omega | exact Nat.le_refl _⟩, ⟨by (with_reducible repeat (first | refine blk_drewN ?_ _ | refine blk_drew ?_ | refine blk_alloc ?_ _)); exact BK221.out⟩, ⟨by (with_reducible repeat (first | refine blk_drewN ?_ _ | refine blk_drew ?_ | refine blk_alloc ?_ _)); exact BK223.out⟩, ⟨by repeat (first | (with_reducible first | exact HB.out | apply below_alloc | apply pw_below_drewN | apply below_drew1 | refine below_set ?_ GE221.out | refine below_set ?_ GE223.out) | exact HB.out)⟩⟩
                                             case rest =>
                                               clear HC33
                                               try clear c1
                                               try clear c2
                                               try clear p2
                                               try clear q2
                                               try clear hx2
                                               try clear c3
                                               try clear c4
                                               try clear c5
                                               try clear c5b0
                                               try clear c9
                                               try clear c13
                                               try clear c14
                                               try clear c15
                                               try clear c15b0
                                               try clear c16
                                               try clear c16b0
                                               try clear p22
                                               try clear q22
                                               try clear hx22
                                               try clear p23
                                               try clear q23
                                               try clear hx23
                                               try clear c27
                                               try clear c27b0
                                               try clear c28
                                               try clear c28b0
                                               try clear c29
                                               try clear c29b0
                                               try clear c32
                                               try clear c32b0
                                               try clear c34
                                               try clear c34b0
                                               try clear c34b1
                                               try clear c34b2
                                               try clear c35
                                               try clear c37
                                               try clear c37b0
                                               try clear c37b1
                                               try clear c38
                                               try clear c38b0
                                               try clear c38b1
                                               try clear c39
                                               try clear c41
                                               try clear c43
                                               try clear hcz11_0
                                               try clear hcz11_1
                                               try clear hcz11_10
                                               try clear hcz11_11
                                               try clear hcz11_12
                                               try clear hcz11_13
                                               try clear hcz11_14
                                               try clear hcz11_15
                                               try clear hcz11_16
                                               try clear hcz11_17
                                               try clear hcz11_2
                                               try clear hcz11_3
                                               try clear hcz11_4
                                               try clear hcz11_5
                                               try clear hcz11_6
                                               try clear hcz11_7
                                               try clear hcz11_8
                                               try clear hcz11_9
                                               try clear hcz14_0
                                               try clear hcz14_1
                                               try clear hcz14_2
                                               try clear hcz14_3
                                               try clear hcz36_0
                                               try clear hcz36_1
                                               try clear hcz36_2
                                               try clear hcz36_3
                                               try clear hcz40_0
                                               try clear hcz40_1
                                               try clear hcz40_2
                                               try clear hcz40_3
                                               try clear hcz42_0
                                               try clear hcz42_1
                                               try clear hcz42_2
                                               try clear hcz42_3
                                               try clear hcz44_0
                                               try clear hcz44_1
                                               try clear hcz44_2
                                               try clear hcz44_3
                                               try clear hcz8_0
                                               try clear hcz8_1
                                               try clear hcz8_10
                                               try clear hcz8_11
                                               try clear hcz8_12
                                               try clear hcz8_13
                                               try clear hcz8_14
                                               try clear hcz8_15
                                               try clear hcz8_16
                                               try clear hcz8_17
                                               try clear hcz8_2
                                               try clear hcz8_3
                                               try clear hcz8_4
                                               try clear hcz8_5
                                               try clear hcz8_6
                                               try clear hcz8_7
                                               try clear hcz8_8
                                               try clear hcz8_9
                                               try clear hfz11_0
                                               try clear hfz11_1
                                               try clear hfz11_10
                                               try clear hfz11_11
                                               try clear hfz11_12
                                               try clear hfz11_13
                                               try clear hfz11_14
                                               try clear hfz11_15
                                               try clear hfz11_16
                                               try clear hfz11_17
                                               try clear hfz11_2
                                               try clear hfz11_3
                                               try clear hfz11_4
                                               try clear hfz11_5
                                               try clear hfz11_6
                                               try clear hfz11_7
                                               try clear hfz11_8
                                               try clear hfz11_9
                                               try clear hfz14_0
                                               try clear hfz14_1
                                               try clear hfz14_2
                                               try clear hfz14_3
                                               try clear hfz36_0
                                               try clear hfz36_1
                                               try clear hfz36_2
                                               try clear hfz36_3
                                               try clear hfz40_0
                                               try clear hfz40_1
                                               try clear hfz40_2
                                               try clear hfz40_3
                                               try clear hfz42_0
                                               try clear hfz42_1
                                               try clear hfz42_2
                                               try clear hfz42_3
                                               try clear hfz44_0
                                               try clear hfz44_1
                                               try clear hfz44_2
                                               try clear hfz44_3
                                               try clear hfz8_0
                                               try clear hfz8_1
                                               try clear hfz8_10
                                               try clear hfz8_11
                                               try clear hfz8_12
                                               try clear hfz8_13
                                               try clear hfz8_14
                                               try clear hfz8_15
                                               try clear hfz8_16
                                               try clear hfz8_17
                                               try clear hfz8_2
                                               try clear hfz8_3
                                               try clear hfz8_4
                                               try clear hfz8_5
                                               try clear hfz8_6
                                               try clear hfz8_7
                                               try clear hfz8_8
                                               try clear hfz8_9
                                               try clear hx224_0
                                               try clear hx229_0
                                               try clear hx230_0
                                               try clear p2
                                               try clear p22
                                               try clear p224
                                               try clear p229
                                               try clear p23
                                               try clear p230
                                               try clear q2
                                               try clear q22
                                               try clear q224
                                               try clear q229
                                               try clear q23
                                               try clear q230
                                               obtain ⟨kq, x66_32, rfl, HA, HJ32, BK221, BK223, HB⟩ := hcut
                                               cases kq with
                                               | zero => exact absurd HA.out (by simp [bournelaw20_SeepHolds.j3])
                                               | succ kj32 =>
                                                 have H := HA.out
                                                 clear HA
                                                 simp only [bournelaw20_SeepHolds.j3] at H
                                                 by_cases c45 : x66_32 = true
                                                 · subst c45
                                                   have H1 : (some false) = some r := by rw [if_pos rfl] at H; exact H
                                                   clear H
                                                   have H := H1
                                                   clear H1
                                                   exact absurd (H.trans (congrArg some hT.out)) (by simp)
                                                 · replace c45 := Bool.eq_false_iff.mpr c45
                                                   subst c45
                                                   have H1 : (bournelaw20_SeepHolds.l0 kj32 l2 t222 x9_29 (wrap64 (x10_1 + 1)) a0_0 3 a0_2 a0_3 l0_4 l0_5 l0_6 a0_7 a0_8 a0_9 a0_10 a0_11 a0_12 a0_13 a0_14 a0_15 a0_16 a0_17 t225 t226 t227 t228) = some r := by rw [if_neg (show ¬ (false = true) by decide)] at H; exact H
                                                   clear H
                                                   have H := H1
                                                   clear H1
                                                   have H' := Aside0.mk H
                                                   clear H
                                                   go_wp2
                                                   go_roundg kj32
                                                   case measure => have := HK1.out; have := HJ17.out; have := HJ29.out; have := HJ32.out; omega
                                                   case rel => exact ⟨(x9_29), (wrap64 (x10_1 + 1)), (t225), (t226), (t227), (t228), (by first | rfl | (simp; done) | (simp [*]; done)), (by first | rfl | (simp; done) | (simp [*]; done)), H', ⟨by have := HK1.out; have := HJ17.out; have := HJ29.out; have := HJ32.out; omega⟩, ⟨by (with_reducible repeat (first | refine blk_drewN ?_ _ | refine blk_drew ?_ | refine blk_alloc ?_ _)); exact BK221.out⟩, ⟨by (with_reducible repeat (first | refine blk_drewN ?_ _ | refine blk_drew ?_ | refine blk_alloc ?_ _)); exact BK223.out⟩, ⟨by repeat (first | (with_reducible first | exact HB.out | apply below_alloc | apply pw_below_drewN | apply below_drew1 | refine below_set ?_ GE221.out | refine below_set ?_ GE223.out) | exact HB.out)⟩⟩
                                · rw [if_neg c29] at H
                                  exact absurd H (by simp)
                              · rw [if_neg c28] at H
                                exact absurd H (by simp)
          · rw [if_neg c16] at H
            exact absurd H (by simp)
        · rw [if_neg c15] at H
          have c15b0 : decide (x10_1 < (l2.length : Int)) = false := decide_eq_false c15
          clear c15
          obtain rfl := Option.some.inj H
          as_aux_lemma =>
            go_wp2
            go_ret
            exact ⟨by first | rfl | (simp [errW_none, errW_some] <;> rfl) | (simp [*, errW_none, errW_some] <;> rfl), by repeat (first | (with_reducible first | exact HB.out | apply below_alloc | apply pw_below_drewN | apply below_drew1 | refine below_set ?_ GE221.out | refine below_set ?_ GE223.out) | exact HB.out)⟩
def bournelaw20_SeepHolds.Pure : Prop := ∀ (a0_0 : ByteArray) (a0_1 : Int) (a0_2 : Int) (a0_3 : Int) (l0_4 : List (S90)) (l0_5 : List (S90)) (l0_6 : List (S90)) (a0_7 : Int) (a0_8 : Int) (a0_9 : Int) (a0_10 : Int) (a0_11 : Int) (a0_12 : Int) (a0_13 : Int) (a0_14 : Int) (a0_15 : Int) (a0_16 : Int) (a0_17 : Int) (a1 : Bool) (l2 : List Int), a0_0.size ≤ maxLen → (Lit.int .i64 a0_1).wf = true → (Lit.int .i64 a0_2).wf = true → (Lit.int .i64 a0_3).wf = true → l0_4.length ≤ maxLen → (∀ y, y ∈ l0_4 → w90 y) → l0_5.length ≤ maxLen → (∀ y, y ∈ l0_5 → w90 y) → l0_6.length ≤ maxLen → (∀ y, y ∈ l0_6 → w90 y) → (Lit.int .i64 a0_7).wf = true → (Lit.int .i64 a0_8).wf = true → (Lit.int .i64 a0_9).wf = true → (Lit.int .i64 a0_10).wf = true → (Lit.int .i64 a0_11).wf = true → (Lit.int .i64 a0_12).wf = true → (Lit.int .i64 a0_13).wf = true → (Lit.int .i64 a0_14).wf = true → (Lit.int .i64 a0_15).wf = true → (Lit.int .i64 a0_16).wf = true → (Lit.int .i64 a0_17).wf = true → l2.length ≤ maxLen → (∀ y, y ∈ l2 → (Lit.int .i64 y).wf = true) → ∃ k, bournelaw20_SeepHolds.f k a0_0 a0_1 a0_2 a0_3 l0_4 l0_5 l0_6 a0_7 a0_8 a0_9 a0_10 a0_11 a0_12 a0_13 a0_14 a0_15 a0_16 a0_17 a1 l2 = some true
theorem bournelaw20_SeepHolds.walk (P_ : bournelaw20_SeepHolds.Pure) (a0_0 : ByteArray) (a0_1 : Int) (a0_2 : Int) (a0_3 : Int) (A0_4 : Option Addr) (c0_4 : Nat) (l0_4 : List (S90)) (A0_5 : Option Addr) (c0_5 : Nat) (l0_5 : List (S90)) (A0_6 : Option Addr) (c0_6 : Nat) (l0_6 : List (S90)) (a0_7 : Int) (a0_8 : Int) (a0_9 : Int) (a0_10 : Int) (a0_11 : Int) (a0_12 : Int) (a0_13 : Int) (a0_14 : Int) (a0_15 : Int) (a0_16 : Int) (a0_17 : Int) (a1 : Bool) (A2 : Option Addr) (c2 : Nat) (l2 : List Int) (w : World) (hr0_4 : Kd.C k90 w A0_4 l0_4.length l0_4) (hc0_4 : l0_4.length ≤ c0_4) (hr0_5 : Kd.C k90 w A0_5 l0_5.length l0_5) (hc0_5 : l0_5.length ≤ c0_5) (hr0_6 : Kd.C k90 w A0_6 l0_6.length l0_6) (hc0_6 : l0_6.length ≤ c0_6) (hr2 : Kd.C (Kd.int .i64) w A2 l2.length l2) (hc2 : l2.length ≤ c2) (y0 : a0_0.size ≤ maxLen) (y1 : (Lit.int .i64 a0_1).wf = true) (y2 : (Lit.int .i64 a0_2).wf = true) (y3 : (Lit.int .i64 a0_3).wf = true) (y4 : l0_4.length ≤ maxLen) (y5 : (∀ y, y ∈ l0_4 → w90 y)) (y6 : l0_5.length ≤ maxLen) (y7 : (∀ y, y ∈ l0_5 → w90 y)) (y8 : l0_6.length ≤ maxLen) (y9 : (∀ y, y ∈ l0_6 → w90 y)) (y10 : (Lit.int .i64 a0_7).wf = true) (y11 : (Lit.int .i64 a0_8).wf = true) (y12 : (Lit.int .i64 a0_9).wf = true) (y13 : (Lit.int .i64 a0_10).wf = true) (y14 : (Lit.int .i64 a0_11).wf = true) (y15 : (Lit.int .i64 a0_12).wf = true) (y16 : (Lit.int .i64 a0_13).wf = true) (y17 : (Lit.int .i64 a0_14).wf = true) (y18 : (Lit.int .i64 a0_15).wf = true) (y19 : (Lit.int .i64 a0_16).wf = true) (y20 : (Lit.int .i64 a0_17).wf = true) (y21 : l2.length ≤ maxLen) (y22 : (∀ y, y ∈ l2 → (Lit.int .i64 y).wf = true)) :
    Calls Try.prog 5 #[.agg #[.string a0_0, .int .i64 a0_1, .int .i64 a0_2, .int .i64 a0_3, .slice A0_4 l0_4.length c0_4, .slice A0_5 l0_5.length c0_5, .slice A0_6 l0_6.length c0_6, .int .i64 a0_7, .int .i64 a0_8, .int .i64 a0_9, .int .i64 a0_10, .int .i64 a0_11, .int .i64 a0_12, .int .i64 a0_13, .int .i64 a0_14, .int .i64 a0_15, .int .i64 a0_16, .int .i64 a0_17], .bool a1, .slice A2 l2.length c2] w fun e w' => e = .returned (.bool true) ∧ Below w.heap.size w w' := by
  obtain ⟨k, h⟩ := P_ a0_0 a0_1 a0_2 a0_3 l0_4 l0_5 l0_6 a0_7 a0_8 a0_9 a0_10 a0_11 a0_12 a0_13 a0_14 a0_15 a0_16 a0_17 a1 l2 y0 y1 y2 y3 y4 y5 y6 y7 y8 y9 y10 y11 y12 y13 y14 y15 y16 y17 y18 y19 y20 y21 y22
  refine (bournelaw20_SeepHolds.calls k a0_0 a0_1 a0_2 a0_3 A0_4 c0_4 l0_4 A0_5 c0_5 l0_5 A0_6 c0_6 l0_6 a0_7 a0_8 a0_9 a0_10 a0_11 a0_12 a0_13 a0_14 a0_15 a0_16 a0_17 a1 A2 c2 l2 true w hr0_4 hc0_4 hr0_5 hc0_5 hr0_6 hc0_6 hr2 hc2 ⟨rfl⟩ h).mono ?_
  rintro e w' ⟨rfl, hd⟩
  exact ⟨rfl, hd⟩

end Go.Proofs.Ytacpiaiohcblfaa.Fn
