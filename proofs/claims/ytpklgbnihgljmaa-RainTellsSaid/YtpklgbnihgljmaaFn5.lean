-- written by this session's program myprint.py out of the translation; Lean checks it
import Derived.Test.YtpklgbnihgljmaaFn0
import Derived.Test.YtpklgbnihgljmaaFn2
import Derived.Test.YtpklgbnihgljmaaFn4
namespace Go.Proofs.Ytpklgbnihgljmaa.Fn
open Go.RowKit Go.Proofs.YtpklgbnihgljmaaW.PrintWords Go.Proofs.YtpklgbnihgljmaaW.PrintLast Go.Proofs.YtpklgbnihgljmaaW.PrintMore
open World renaming block_lt_of_cell? → wL
open Bool renaming true → T, false → F
open List renaming setIfInBounds_toArray → lA, set_cons_zero → lZ, set_cons_succ → lS
open Go.Proofs.YtpklgbnihgljmaaW.PrintWords renaming blk_drewN → bN, blk_drew → bD, blk_alloc → bA, below_set → bS, blk_cell → bC, blk_below → bB, blk_frozen → bF, pw_below_drewN → bW, below_drew1 → b1, below_alloc → bL, below_step → bP, below_size → bZ, blk_far → bR, blk_put → bU, blk_lt → bT
attribute [local go_sem] max2_int min2_int max_two min_two max_three min_three max_four min_four
set_option linter.unusedVariables false
set_option linter.unusedSimpArgs false
mutual
def rain_Cells.l0 : Nat → List Int → Int → List (S50) → List (S40) → Int → Int → ByteArray → List ByteArray → Int → List (S56) → List (S104) → List (S106) → List (S67) → List (S108) → List (S110) → List Int → Int → Option ((List (S40)))
 | 0, _, _, _, _, _, _, _, _, _, _, _, _, _, _, _, _, _ => none
 | k + 1, x1, x2, x3, x9, x19, x20, x126000, x126001, x126002, x126003, x126004, x126005, x126006, x126007, x126008, x126009, x126010 => if x20 < x19 then (if x20 < (x1.length : Int) then (if 0 ≤ x20 then ((rain_radarSpan.f k (rd x1 x20) x2).bind fun bt128 => (if x9.length < 8796093022208 then (rain_Cells.l0 k x1 x2 x3 (x9 ++ [(⟨bt128.1, bt128.2⟩ : S40)]) x19 (wrap64 (x20 + 1)) x126000 x126001 x126002 x126003 x126004 x126005 x126006 x126007 x126008 x126009 x126010) else (none))) else (none)) else ((rain_radarSpan.f k 0 x2).bind fun bt133 => (if x9.length < 8796093022208 then (rain_Cells.l0 k x1 x2 x3 (x9 ++ [(⟨bt133.1, bt133.2⟩ : S40)]) x19 (wrap64 (x20 + 1)) x126000 x126001 x126002 x126003 x126004 x126005 x126006 x126007 x126008 x126009 x126010) else (none)))) else (rain_Cells.l1 k x9 x3 (x3.length : Int) 0 x126000 x126001 x126002 x126003 x126004 x126005 x126006 x126007 x126008 x126009 x126010)
def rain_Cells.l1 : Nat → List (S40) → List (S50) → Int → Int → ByteArray → List ByteArray → Int → List (S56) → List (S104) → List (S106) → List (S67) → List (S108) → List (S110) → List Int → Int → Option ((List (S40)))
 | 0, _, _, _, _, _, _, _, _, _, _, _, _, _, _, _ => none
 | k + 1, x9, x38, x39, x40, x126000, x126001, x126002, x126003, x126004, x126005, x126006, x126007, x126008, x126009, x126010 => if x40 < x39 then (if 0 ≤ x40 then (if x40 < (x38.length : Int) then (if ((rd_T50 x38 x40).f0) < 0 then (rain_Cells.j2 k x9 x38 x39 x40 true x126000 x126001 x126002 x126003 x126004 x126005 x126006 x126007 x126008 x126009 x126010 ((rd_T50 x38 x40).f0) ((rd_T50 x38 x40).f1) ((rd_T50 x38 x40).f2.f0) ((rd_T50 x38 x40).f2.f1)) else (if ((rd_T50 x38 x40).f0) ≥ (x126006.length : Int) then (rain_Cells.j2 k x9 x38 x39 x40 true x126000 x126001 x126002 x126003 x126004 x126005 x126006 x126007 x126008 x126009 x126010 ((rd_T50 x38 x40).f0) ((rd_T50 x38 x40).f1) ((rd_T50 x38 x40).f2.f0) ((rd_T50 x38 x40).f2.f1)) else (if 0 ≤ ((rd_T50 x38 x40).f0) then (if ((rd_T50 x38 x40).f0) < (x126006.length : Int) then (rain_Cells.j2 k x9 x38 x39 x40 (((rd_T67 x126006 ((rd_T50 x38 x40).f0)).f1) != 1) x126000 x126001 x126002 x126003 x126004 x126005 x126006 x126007 x126008 x126009 x126010 ((rd_T50 x38 x40).f0) ((rd_T50 x38 x40).f1) ((rd_T50 x38 x40).f2.f0) ((rd_T50 x38 x40).f2.f1)) else (none)) else (none)))) else (none)) else (none)) else (some x9)
def rain_Cells.j2 : Nat → List (S40) → List (S50) → Int → Int → Bool → ByteArray → List ByteArray → Int → List (S56) → List (S104) → List (S106) → List (S67) → List (S108) → List (S110) → List Int → Int → Int → Int → Int → Int → Option ((List (S40)))
 | 0, _, _, _, _, _, _, _, _, _, _, _, _, _, _, _, _, _, _, _, _ => none
 | k + 1, x9, x38, x39, x40, x64, x126000, x126001, x126002, x126003, x126004, x126005, x126006, x126007, x126008, x126009, x126010, x140000, x140001, x140002, x140003 => if x64 = true then (rain_Cells.l1 k x9 x38 x39 (wrap64 (x40 + 1)) x126000 x126001 x126002 x126003 x126004 x126005 x126006 x126007 x126008 x126009 x126010) else (if 0 ≤ x140000 then (if x140000 < (x126006.length : Int) then (if ((rd_T67 x126006 x140000).f2) < 0 then (rain_Cells.j3 k x9 ((rd_T67 x126006 x140000).f2) x38 x39 x40 true x126000 x126001 x126002 x126003 x126004 x126005 x126006 x126007 x126008 x126009 x126010 x140000 x140001 x140002 x140003) else (if ((rd_T67 x126006 x140000).f2) ≥ (x9.length : Int) then (rain_Cells.j3 k x9 ((rd_T67 x126006 x140000).f2) x38 x39 x40 true x126000 x126001 x126002 x126003 x126004 x126005 x126006 x126007 x126008 x126009 x126010 x140000 x140001 x140002 x140003) else ((span_Right.f x140002 x140003).bind fun t142 => (rain_Cells.j3 k x9 ((rd_T67 x126006 x140000).f2) x38 x39 x40 (!t142) x126000 x126001 x126002 x126003 x126004 x126005 x126006 x126007 x126008 x126009 x126010 x140000 x140001 x140002 x140003)))) else (none)) else (none))
def rain_Cells.j3 : Nat → List (S40) → Int → List (S50) → Int → Int → Bool → ByteArray → List ByteArray → Int → List (S56) → List (S104) → List (S106) → List (S67) → List (S108) → List (S110) → List Int → Int → Int → Int → Int → Int → Option ((List (S40)))
 | 0, _, _, _, _, _, _, _, _, _, _, _, _, _, _, _, _, _, _, _, _, _ => none
 | k + 1, x9, x14, x38, x39, x40, x85, x126000, x126001, x126002, x126003, x126004, x126005, x126006, x126007, x126008, x126009, x126010, x140000, x140001, x140002, x140003 => if x85 = true then (rain_Cells.l1 k x9 x38 x39 (wrap64 (x40 + 1)) x126000 x126001 x126002 x126003 x126004 x126005 x126006 x126007 x126008 x126009 x126010) else (if 0 ≤ x14 then (if x14 < (x9.length : Int) then ((span_Meet.f ((rd_T40 x9 x14).f0) ((rd_T40 x9 x14).f1) x140002 x140003).bind fun bt144 => (if bt144.2.2 = true then (rain_Cells.l1 k (x9.set (x14 : Int).toNat (⟨bt144.1, bt144.2.1⟩ : S40)) x38 x39 (wrap64 (x40 + 1)) x126000 x126001 x126002 x126003 x126004 x126005 x126006 x126007 x126008 x126009 x126010) else (rain_Cells.l1 k x9 x38 x39 (wrap64 (x40 + 1)) x126000 x126001 x126002 x126003 x126004 x126005 x126006 x126007 x126008 x126009 x126010))) else (none)) else (none))
end
def rain_Cells.f (k : Nat) (a0_0 : ByteArray) (l0_1 : List ByteArray) (a0_2 : Int) (l0_3 : List (S56)) (l0_4 : List (S104)) (l0_5 : List (S106)) (l0_6 : List (S67)) (l0_7 : List (S108)) (l0_8 : List (S110)) (l0_9 : List Int) (a0_10 : Int) (l1 : List Int) (a2 : Int) (l3 : List (S50)) : Option ((List (S40))) := (exact_Clamp.f a0_2 0 64).bind fun t126 => (rain_Cells.l0 k l1 a2 l3 ([] : List (S40)) t126 0 a0_0 l0_1 a0_2 l0_3 l0_4 l0_5 l0_6 l0_7 l0_8 l0_9 a0_10)
theorem rain_Cells.mono_l : ∀ k, (∀ y0 y1 y2 y3 y4 y5 y6 y7 y8 y9 y10 y11 y12 y13 y14 y15 y16, LeO (rain_Cells.l0 k y0 y1 y2 y3 y4 y5 y6 y7 y8 y9 y10 y11 y12 y13 y14 y15 y16) (rain_Cells.l0 (k + 1) y0 y1 y2 y3 y4 y5 y6 y7 y8 y9 y10 y11 y12 y13 y14 y15 y16)) ∧ (∀ y0 y1 y2 y3 y4 y5 y6 y7 y8 y9 y10 y11 y12 y13 y14, LeO (rain_Cells.l1 k y0 y1 y2 y3 y4 y5 y6 y7 y8 y9 y10 y11 y12 y13 y14) (rain_Cells.l1 (k + 1) y0 y1 y2 y3 y4 y5 y6 y7 y8 y9 y10 y11 y12 y13 y14)) ∧ (∀ y0 y1 y2 y3 y4 y5 y6 y7 y8 y9 y10 y11 y12 y13 y14 y15 y16 y17 y18 y19, LeO (rain_Cells.j2 k y0 y1 y2 y3 y4 y5 y6 y7 y8 y9 y10 y11 y12 y13 y14 y15 y16 y17 y18 y19) (rain_Cells.j2 (k + 1) y0 y1 y2 y3 y4 y5 y6 y7 y8 y9 y10 y11 y12 y13 y14 y15 y16 y17 y18 y19)) ∧ (∀ y0 y1 y2 y3 y4 y5 y6 y7 y8 y9 y10 y11 y12 y13 y14 y15 y16 y17 y18 y19 y20, LeO (rain_Cells.j3 k y0 y1 y2 y3 y4 y5 y6 y7 y8 y9 y10 y11 y12 y13 y14 y15 y16 y17 y18 y19 y20) (rain_Cells.j3 (k + 1) y0 y1 y2 y3 y4 y5 y6 y7 y8 y9 y10 y11 y12 y13 y14 y15 y16 y17 y18 y19 y20))
 | 0 => ⟨fun _ _ _ _ _ _ _ _ _ _ _ _ _ _ _ _ _ r h => by simp [rain_Cells.l0] at h, fun _ _ _ _ _ _ _ _ _ _ _ _ _ _ _ r h => by simp [rain_Cells.l1] at h, fun _ _ _ _ _ _ _ _ _ _ _ _ _ _ _ _ _ _ _ _ r h => by simp [rain_Cells.j2] at h, fun _ _ _ _ _ _ _ _ _ _ _ _ _ _ _ _ _ _ _ _ _ r h => by simp [rain_Cells.j3] at h⟩
 | k + 1 => by
  obtain ⟨ih0, ih1, ih2, ih3⟩ := rain_Cells.mono_l k
  refine ⟨?_, ?_, ?_, ?_⟩
  ·
   intro y0 y1 y2 y3 y4 y5 y6 y7 y8 y9 y10 y11 y12 y13 y14 y15 y16; unfold rain_Cells.l0
   repeat' first
   | (with_reducible exact ih0 _ _ _ _ _ _ _ _ _ _ _ _ _ _ _ _ _)
   | (with_reducible exact ih1 _ _ _ _ _ _ _ _ _ _ _ _ _ _ _)
   | (with_reducible exact ih2 _ _ _ _ _ _ _ _ _ _ _ _ _ _ _ _ _ _ _ _)
   | (with_reducible exact ih3 _ _ _ _ _ _ _ _ _ _ _ _ _ _ _ _ _ _ _ _ _)
   | (with_reducible exact rain_radarSpan.mono _ _ _)
   | (with_reducible exact LeO.refl _)
   | (with_reducible exact LeO.none _)
   | (with_reducible refine LeO.ite ?_ ?_)
   | (with_reducible refine LeO.bind ?_ (fun _ => ?_))
   | exact ih0 _ _ _ _ _ _ _ _ _ _ _ _ _ _ _ _ _
   | exact ih1 _ _ _ _ _ _ _ _ _ _ _ _ _ _ _
   | exact ih2 _ _ _ _ _ _ _ _ _ _ _ _ _ _ _ _ _ _ _ _
   | exact ih3 _ _ _ _ _ _ _ _ _ _ _ _ _ _ _ _ _ _ _ _ _
   | exact rain_radarSpan.mono _ _ _
   | exact LeO.none _
   | refine LeO.ite ?_ ?_
   | refine LeO.bind ?_ (fun _ => ?_)
  ·
   intro y0 y1 y2 y3 y4 y5 y6 y7 y8 y9 y10 y11 y12 y13 y14; unfold rain_Cells.l1
   repeat' first
   | (with_reducible exact ih0 _ _ _ _ _ _ _ _ _ _ _ _ _ _ _ _ _)
   | (with_reducible exact ih1 _ _ _ _ _ _ _ _ _ _ _ _ _ _ _)
   | (with_reducible exact ih2 _ _ _ _ _ _ _ _ _ _ _ _ _ _ _ _ _ _ _ _)
   | (with_reducible exact ih3 _ _ _ _ _ _ _ _ _ _ _ _ _ _ _ _ _ _ _ _ _)
   | (with_reducible exact rain_radarSpan.mono _ _ _)
   | (with_reducible exact LeO.refl _)
   | (with_reducible exact LeO.none _)
   | (with_reducible refine LeO.ite ?_ ?_)
   | (with_reducible refine LeO.bind ?_ (fun _ => ?_))
   | exact ih0 _ _ _ _ _ _ _ _ _ _ _ _ _ _ _ _ _
   | exact ih1 _ _ _ _ _ _ _ _ _ _ _ _ _ _ _
   | exact ih2 _ _ _ _ _ _ _ _ _ _ _ _ _ _ _ _ _ _ _ _
   | exact ih3 _ _ _ _ _ _ _ _ _ _ _ _ _ _ _ _ _ _ _ _ _
   | exact rain_radarSpan.mono _ _ _
   | exact LeO.none _
   | refine LeO.ite ?_ ?_
   | refine LeO.bind ?_ (fun _ => ?_)
  ·
   intro y0 y1 y2 y3 y4 y5 y6 y7 y8 y9 y10 y11 y12 y13 y14 y15 y16 y17 y18 y19; unfold rain_Cells.j2
   repeat' first
   | (with_reducible exact ih0 _ _ _ _ _ _ _ _ _ _ _ _ _ _ _ _ _)
   | (with_reducible exact ih1 _ _ _ _ _ _ _ _ _ _ _ _ _ _ _)
   | (with_reducible exact ih2 _ _ _ _ _ _ _ _ _ _ _ _ _ _ _ _ _ _ _ _)
   | (with_reducible exact ih3 _ _ _ _ _ _ _ _ _ _ _ _ _ _ _ _ _ _ _ _ _)
   | (with_reducible exact rain_radarSpan.mono _ _ _)
   | (with_reducible exact LeO.refl _)
   | (with_reducible exact LeO.none _)
   | (with_reducible refine LeO.ite ?_ ?_)
   | (with_reducible refine LeO.bind ?_ (fun _ => ?_))
   | exact ih0 _ _ _ _ _ _ _ _ _ _ _ _ _ _ _ _ _
   | exact ih1 _ _ _ _ _ _ _ _ _ _ _ _ _ _ _
   | exact ih2 _ _ _ _ _ _ _ _ _ _ _ _ _ _ _ _ _ _ _ _
   | exact ih3 _ _ _ _ _ _ _ _ _ _ _ _ _ _ _ _ _ _ _ _ _
   | exact rain_radarSpan.mono _ _ _
   | exact LeO.none _
   | refine LeO.ite ?_ ?_
   | refine LeO.bind ?_ (fun _ => ?_)
  ·
   intro y0 y1 y2 y3 y4 y5 y6 y7 y8 y9 y10 y11 y12 y13 y14 y15 y16 y17 y18 y19 y20; unfold rain_Cells.j3
   repeat' first
   | (with_reducible exact ih0 _ _ _ _ _ _ _ _ _ _ _ _ _ _ _ _ _)
   | (with_reducible exact ih1 _ _ _ _ _ _ _ _ _ _ _ _ _ _ _)
   | (with_reducible exact ih2 _ _ _ _ _ _ _ _ _ _ _ _ _ _ _ _ _ _ _ _)
   | (with_reducible exact ih3 _ _ _ _ _ _ _ _ _ _ _ _ _ _ _ _ _ _ _ _ _)
   | (with_reducible exact rain_radarSpan.mono _ _ _)
   | (with_reducible exact LeO.refl _)
   | (with_reducible exact LeO.none _)
   | (with_reducible refine LeO.ite ?_ ?_)
   | (with_reducible refine LeO.bind ?_ (fun _ => ?_))
   | exact ih0 _ _ _ _ _ _ _ _ _ _ _ _ _ _ _ _ _
   | exact ih1 _ _ _ _ _ _ _ _ _ _ _ _ _ _ _
   | exact ih2 _ _ _ _ _ _ _ _ _ _ _ _ _ _ _ _ _ _ _ _
   | exact ih3 _ _ _ _ _ _ _ _ _ _ _ _ _ _ _ _ _ _ _ _ _
   | exact rain_radarSpan.mono _ _ _
   | exact LeO.none _
   | refine LeO.ite ?_ ?_
   | refine LeO.bind ?_ (fun _ => ?_)
theorem rain_Cells.mono : ∀ a0 a1 a2 a3 a4 a5 a6 a7 a8 a9 a10 a11 a12 a13 k, LeO (rain_Cells.f k a0 a1 a2 a3 a4 a5 a6 a7 a8 a9 a10 a11 a12 a13) (rain_Cells.f (k + 1) a0 a1 a2 a3 a4 a5 a6 a7 a8 a9 a10 a11 a12 a13) := by
 intro a0 a1 a2 a3 a4 a5 a6 a7 a8 a9 a10 a11 a12 a13 k; obtain ⟨ih0, ih1, ih2, ih3⟩ := rain_Cells.mono_l k
 unfold rain_Cells.f
 repeat' first
   | (with_reducible exact ih0 _ _ _ _ _ _ _ _ _ _ _ _ _ _ _ _ _)
   | (with_reducible exact ih1 _ _ _ _ _ _ _ _ _ _ _ _ _ _ _)
   | (with_reducible exact ih2 _ _ _ _ _ _ _ _ _ _ _ _ _ _ _ _ _ _ _ _)
   | (with_reducible exact ih3 _ _ _ _ _ _ _ _ _ _ _ _ _ _ _ _ _ _ _ _ _)
   | (with_reducible exact rain_radarSpan.mono _ _ _)
   | (with_reducible exact LeO.refl _)
   | (with_reducible exact LeO.none _)
   | (with_reducible refine LeO.ite ?_ ?_)
   | (with_reducible refine LeO.bind ?_ (fun _ => ?_))
   | exact ih0 _ _ _ _ _ _ _ _ _ _ _ _ _ _ _ _ _
   | exact ih1 _ _ _ _ _ _ _ _ _ _ _ _ _ _ _
   | exact ih2 _ _ _ _ _ _ _ _ _ _ _ _ _ _ _ _ _ _ _ _
   | exact ih3 _ _ _ _ _ _ _ _ _ _ _ _ _ _ _ _ _ _ _ _ _
   | exact rain_radarSpan.mono _ _ _
   | exact LeO.none _
   | refine LeO.ite ?_ ?_
   | refine LeO.bind ?_ (fun _ => ?_)
def rain_Cells.T16 : Bool × List (List Nat × List Nat) := (true, [([], []), ([], []), ([0, 1], [0, 1]), ([2], [2]), ([], []), ([4], [4]), ([3, 5], [3, 5]), ([6], [6]), ([7], [7]), ([7], [7]), ([], []), ([10, 8, 6, 0, 1, 2, 3, 4, 5, 6, 7, 8, 10], [8, 10]), ([9, 11, 0, 1, 2, 3, 4, 5, 6, 7, 8, 9, 10, 11], [9])])
def rain_Cells.B16 : List Nat := [0, 0, 3, 7, 0, 16, 63, 127, 255, 255, 0, 1535, 4095]
theorem rain_Cells.tab16 : rtab .any (opsOf Try.f11 16) = rain_Cells.T16 := by kernel_rfl
theorem rain_Cells.bits16 : waitsOk rain_Cells.T16.2 rain_Cells.B16 = true := by kernel_rfl
set_option maxHeartbeats 8000000 in
set_option maxRecDepth 100000 in
theorem rain_Cells.calls (k : Nat) (a0_0 : ByteArray) (A0_1 : Option Addr) (c0_1 : Nat) (l0_1 : List ByteArray) (a0_2 : Int) (A0_3 : Option Addr) (c0_3 : Nat) (l0_3 : List (S56)) (A0_4 : Option Addr) (c0_4 : Nat) (l0_4 : List (S104)) (A0_5 : Option Addr) (c0_5 : Nat) (l0_5 : List (S106)) (A0_6 : Option Addr) (c0_6 : Nat) (l0_6 : List (S67)) (A0_7 : Option Addr) (c0_7 : Nat) (l0_7 : List (S108)) (A0_8 : Option Addr) (c0_8 : Nat) (l0_8 : List (S110)) (A0_9 : Option Addr) (c0_9 : Nat) (l0_9 : List Int) (a0_10 : Int) (A1 : Option Addr) (c1 : Nat) (l1 : List Int) (a2 : Int) (A3 : Option Addr) (c3 : Nat) (l3 : List (S50)) (r : List (S40)) (w : World) (hr0_1 : Kd.C Kd.string w A0_1 l0_1.length l0_1) (hc0_1 : l0_1.length ≤ c0_1) (hr0_3 : Kd.C k56 w A0_3 l0_3.length l0_3) (hc0_3 : l0_3.length ≤ c0_3) (hr0_4 : Kd.C k104 w A0_4 l0_4.length l0_4) (hc0_4 : l0_4.length ≤ c0_4) (hr0_5 : Kd.C k106 w A0_5 l0_5.length l0_5) (hc0_5 : l0_5.length ≤ c0_5) (hr0_6 : Kd.C k67 w A0_6 l0_6.length l0_6) (hc0_6 : l0_6.length ≤ c0_6) (hr0_7 : Kd.C k108 w A0_7 l0_7.length l0_7) (hc0_7 : l0_7.length ≤ c0_7) (hr0_8 : Kd.C k110 w A0_8 l0_8.length l0_8) (hc0_8 : l0_8.length ≤ c0_8) (hr0_9 : Kd.C (Kd.int .i64) w A0_9 l0_9.length l0_9) (hc0_9 : l0_9.length ≤ c0_9) (hr1 : Kd.C (Kd.int .i64) w A1 l1.length l1) (hc1 : l1.length ≤ c1) (hr3 : Kd.C k50 w A3 l3.length l3) (hc3 : l3.length ≤ c3) (h : rain_Cells.f k a0_0 l0_1 a0_2 l0_3 l0_4 l0_5 l0_6 l0_7 l0_8 l0_9 a0_10 l1 a2 l3 = some r) :
  Calls Try.prog 11 #[.agg #[.string a0_0, .slice A0_1 l0_1.length c0_1, .int .i64 a0_2, .slice A0_3 l0_3.length c0_3, .slice A0_4 l0_4.length c0_4, .slice A0_5 l0_5.length c0_5, .slice A0_6 l0_6.length c0_6, .slice A0_7 l0_7.length c0_7, .slice A0_8 l0_8.length c0_8, .slice A0_9 l0_9.length c0_9, .int .i64 a0_10], .slice A1 l1.length c1, .int .i64 a2, .slice A3 l3.length c3] w fun e w' => ∃ v0_ : Value, e = .returned (v0_) ∧ Kd.R k40 40 w' w.heap.size (fun _ => True) v0_ r ∧ Below w.heap.size w w' := by
 have hu31 := Try.underlying31
 have hu50 := Try.underlying50
 have hu40 := Try.underlying40
 have HR0_1 := Aside0.mk hr0_1
 have HC0_1 := Aside0.mk hc0_1
 clear hr0_1 hc0_1; have HR0_3 := Aside0.mk hr0_3
 have HC0_3 := Aside0.mk hc0_3
 clear hr0_3 hc0_3; have HR0_4 := Aside0.mk hr0_4
 have HC0_4 := Aside0.mk hc0_4
 clear hr0_4 hc0_4; have HR0_5 := Aside0.mk hr0_5
 have HC0_5 := Aside0.mk hc0_5
 clear hr0_5 hc0_5; have HR0_6 := Aside0.mk hr0_6
 have HC0_6 := Aside0.mk hc0_6
 clear hr0_6 hc0_6; have HR0_7 := Aside0.mk hr0_7
 have HC0_7 := Aside0.mk hc0_7
 clear hr0_7 hc0_7; have HR0_8 := Aside0.mk hr0_8
 have HC0_8 := Aside0.mk hc0_8
 clear hr0_8 hc0_8; have HR0_9 := Aside0.mk hr0_9
 have HC0_9 := Aside0.mk hc0_9
 clear hr0_9 hc0_9; have HR1 := Aside0.mk hr1
 have HC1 := Aside0.mk hc1
 clear hr1 hc1; have HR3 := Aside0.mk hr3
 have HC3 := Aside0.mk hc3
 clear hr3 hc3; have HB := Aside0.mk (Below.refl w.heap.size w)
 have H : ((exact_Clamp.f a0_2 0 64).bind fun t126 => (rain_Cells.l0 k l1 a2 l3 ([] : List (S40)) t126 0 a0_0 l0_1 a0_2 l0_3 l0_4 l0_5 l0_6 l0_7 l0_8 l0_9 a0_10)) = some r := h
 clear h; replace H := Option.bind_eq_some_iff.mp H
 obtain ⟨t126, A50, H⟩ := H
 have A5 := Aside0.mk A50
 clear A50; have H' := Aside0.mk H
 clear H; go_enter Try.func11, Try.ntmps11
 (try simp only [List.append_eq, List.cons_append, List.nil_append]); go_wp2_with (first | ((with_reducible refine gate_dst (N := 4) rfl ?_); (try (refine gate_guard (by rfl) ?_; dsimp only)); refine box_event ?hg (N := 4) ?hd (cs := #[.string a0_0, .slice A0_1 l0_1.length c0_1, .int .i64 a0_2, .slice A0_3 l0_3.length c0_3, .slice A0_4 l0_4.length c0_4, .slice A0_5 l0_5.length c0_5, .slice A0_6 l0_6.length c0_6, .slice A0_7 l0_7.length c0_7, .slice A0_8 l0_8.length c0_8, .slice A0_9 l0_9.length c0_9, .int .i64 a0_10]) (t := 31) ?hr ?_; (case hd => rfl); (case hg => rfl); (case hr => first | (go_simp; done) | (go_simp; rfl)); intro gb125 hg w6 hbox hb; have n0_ := Aside0.mk (bP (by repeat (first | (with_reducible first | exact HB.out | apply bL | apply bW | apply b1) | exact HB.out)) hb); have n1_ := Aside0.mk (hbox); have n2_ := Aside0.mk ((by rw [hg]; exact (bZ (by repeat (first | (with_reducible first | exact HB.out | apply bL | apply bW | apply b1) | exact HB.out))) : w.heap.size ≤ gb125)); have n3_ := Aside0.mk ((by rw [hg]; exact (bZ (by repeat (first | (with_reducible first | exact HB.out | apply bL | apply bW | apply b1) | exact HB.out))) : w.heap.size ≤ gb125)); clear HB; have HB := n0_; have BK125 := n1_; have GW125 := n2_; have GE125 := n3_; clear n0_ n1_ n2_ n3_; clear hb hbox hg; have hcz7_0 : w6.cell? ⟨gb125, 0, none⟩ = some (.string a0_0) := (bC BK125.out 0).trans rfl; have hcz7_1 : w6.cell? ⟨gb125, 1, none⟩ = some (.slice A0_1 l0_1.length c0_1) := (bC BK125.out 1).trans rfl; have hcz7_2 : w6.cell? ⟨gb125, 2, none⟩ = some (.int .i64 a0_2) := (bC BK125.out 2).trans rfl; have hcz7_3 : w6.cell? ⟨gb125, 3, none⟩ = some (.slice A0_3 l0_3.length c0_3) := (bC BK125.out 3).trans rfl; have hcz7_4 : w6.cell? ⟨gb125, 4, none⟩ = some (.slice A0_4 l0_4.length c0_4) := (bC BK125.out 4).trans rfl; have hcz7_5 : w6.cell? ⟨gb125, 5, none⟩ = some (.slice A0_5 l0_5.length c0_5) := (bC BK125.out 5).trans rfl; have hcz7_6 : w6.cell? ⟨gb125, 6, none⟩ = some (.slice A0_6 l0_6.length c0_6) := (bC BK125.out 6).trans rfl; have hcz7_7 : w6.cell? ⟨gb125, 7, none⟩ = some (.slice A0_7 l0_7.length c0_7) := (bC BK125.out 7).trans rfl; have hcz7_8 : w6.cell? ⟨gb125, 8, none⟩ = some (.slice A0_8 l0_8.length c0_8) := (bC BK125.out 8).trans rfl; have hcz7_9 : w6.cell? ⟨gb125, 9, none⟩ = some (.slice A0_9 l0_9.length c0_9) := (bC BK125.out 9).trans rfl; have hcz7_10 : w6.cell? ⟨gb125, 10, none⟩ = some (.int .i64 a0_10) := (bC BK125.out 10).trans rfl; have hfz7_0 := bF BK125.out 0; have hfz7_1 := bF BK125.out 1; have hfz7_2 := bF BK125.out 2; have hfz7_3 := bF BK125.out 3; have hfz7_4 := bF BK125.out 4; have hfz7_5 := bF BK125.out 5; have hfz7_6 := bF BK125.out 6; have hfz7_7 := bF BK125.out 7; have hfz7_8 := bF BK125.out 8; have hfz7_9 := bF BK125.out 9; have hfz7_10 := bF BK125.out 10) | ((with_reducible refine gate_callee (f := 19) rfl ?_); refine goesL_ (some 19) rfl rfl Try.func19 (by kernel_rfl) rfl #[.int .i64 a0_2, .int .i64 0, .int .i64 64] rfl (by (try simp only [List.map_toArray, List.map_cons, List.map_nil]); first | done | rfl | (simp only [List.length_drop, List.length_take]; rfl)) ?_; (with_reducible refine (exact_Clamp.calls a0_2 0 64 t126 _ A5.out).mono ?_); rintro e w' ⟨rfl, ⟨nd, rfl⟩⟩; refine ⟨_, rfl, ?_⟩))
 go_loopg [9, 20] k (fun kq v9 v20 w' => ∃ (x9_1 : List (S40)) (x20_1 : Int), v20 = .int .i64 x20_1 ∧ Aside0 (rain_Cells.l0 kq l1 a2 l3 x9_1 t126 x20_1 a0_0 l0_1 a0_2 l0_3 l0_4 l0_5 l0_6 l0_7 l0_8 l0_9 a0_10 = some r) ∧ Aside0 (kq ≤ k) ∧ Aside0 (Kd.R k40 40 w' w.heap.size (fun _ => True) v9 x9_1) ∧ Aside0 (w'.heap[gb125]? = some (.cells #[.string a0_0, (.slice A0_1 l0_1.length c0_1), .int .i64 a0_2, (.slice A0_3 l0_3.length c0_3), (.slice A0_4 l0_4.length c0_4), (.slice A0_5 l0_5.length c0_5), (.slice A0_6 l0_6.length c0_6), (.slice A0_7 l0_7.length c0_7), (.slice A0_8 l0_8.length c0_8), (.slice A0_9 l0_9.length c0_9), .int .i64 a0_10] 31 (0, 0))) ∧ Aside0 (Below w.heap.size w w'))
 case atStart => exact ⟨(([] : List (S40))), (0), (by first | rfl | (simp; done) | (simp [*]; done)), H', ⟨Nat.le_refl _⟩, ⟨by first | exact Kd.R_nil _ _ _ _ _ | exact Kd.N_nil _ _ _ _ _ | exact Kd.V_nil _ _ _ _ _ | exact Kd.Q_nil _ _ _ _ _ | exact Kd.S_nil _ _ _ _ _⟩, ⟨by (with_reducible repeat (first | refine bN ?_ _ | refine bD ?_ | refine bA ?_ _)); exact BK125.out⟩, ⟨by repeat (first | (with_reducible first | exact HB.out | apply bL | apply bW | apply b1 | refine bS ?_ GE125.out) | exact HB.out)⟩⟩
 case round =>
  clear H'; try clear c1
  try clear p2
  try clear c3
  try clear hcz7_0
  try clear hcz7_1
  try clear hcz7_10
  try clear hcz7_2
  try clear hcz7_3
  try clear hcz7_4
  try clear hcz7_5
  try clear hcz7_6
  try clear hcz7_7
  try clear hcz7_8
  try clear hcz7_9
  try clear hfz7_0
  try clear hfz7_1
  try clear hfz7_10
  try clear hfz7_2
  try clear hfz7_3
  try clear hfz7_4
  try clear hfz7_5
  try clear hfz7_6
  try clear hfz7_7
  try clear hfz7_8
  try clear hfz7_9
  obtain ⟨x9_1, x20_1, rfl, HA, HK1, HO_9, BK125, HB⟩ := hrel
  cases gk with
  | zero => exact absurd HA.out (by simp [rain_Cells.l0])
  | succ k1 =>
   have H := HA.out
   clear HA; simp only [rain_Cells.l0] at H; by_cases c8 : x20_1 < t126
   ·
    rw [if_pos c8] at H; have c8b0 : decide (x20_1 < t126) = true := decide_eq_true c8
    clear c8; by_cases c9 : x20_1 < (l1.length : Int)
    ·
     rw [if_pos c9] at H; have c9b0 : decide (x20_1 < (l1.length : Int)) = true := decide_eq_true c9
     clear c9; by_cases c10 : 0 ≤ x20_1
     ·
      rw [if_pos c10] at H; have c10b0 : decide (0 ≤ x20_1) = true := decide_eq_true c10
      clear c10; replace H := Option.bind_eq_some_iff.mp H
      obtain ⟨⟨t128, t129⟩, A110, H⟩ := H
      dsimp only at H
      have A11 := Aside0.mk A110
      clear A110; by_cases c12 : x9_1.length < 8796093022208
      ·
       rw [if_pos c12] at H; have LMc12 := Aside0.mk c12
       clear c12; obtain ⟨y130, hy130⟩ : ∃ y_ : List (S40), y_ = (x9_1 ++ [(⟨t128, t129⟩ : S40)]) := ⟨_, rfl⟩
       replace H : (rain_Cells.l0 k1 l1 a2 l3 y130 t126 (wrap64 (x20_1 + 1)) a0_0 l0_1 a0_2 l0_3 l0_4 l0_5 l0_6 l0_7 l0_8 l0_9 a0_10) = some r := by first | (rw [hy130]; with_reducible exact H) | (have H2_ := (Option.bind_some _ _).symm.trans H; rw [hy130]; with_reducible exact H2_) | (have H2_ := (Option.bind_some _ _).symm.trans H; with_reducible exact H2_) | with_reducible exact H | (rw [hy130]; exact H) | exact H
       have Ny130 := Aside0.mk hy130
       clear hy130; have H' := Aside0.mk H
       clear H; have p127 : 0 ≤ (x20_1 : Int) := of_decide_eq_true (by first | (with_reducible assumption) | assumption)
       have q127 : x20_1 < (l1.length : Int) := of_decide_eq_true (by first | (with_reducible assumption) | assumption)
       obtain ⟨ad127, e127, hx127_0⟩ := Kd.at_int HR1.out x20_1 p127 q127
       cases e127
       replace hx127_0 := (HB.out.cell (wL w _ hx127_0)).trans hx127_0
       replace p127 := eq_true p127
       replace q127 := eq_true q127
       go_wp2_with (first | ((with_reducible refine gate_callee (f := 27) rfl ?_); refine goesL_ (some 34) rfl rfl Try.func27 (by kernel_rfl) rfl #[.int .i64 (rd l1 x20_1), .int .i64 a2] rfl (by (try simp only [List.map_toArray, List.map_cons, List.map_nil]); first | done | rfl | (simp only [List.length_drop, List.length_take]; rfl)) ?_; (with_reducible refine (rain_radarSpan.calls k1 (rd l1 x20_1) a2 t128 t129 _ A11.out).mono ?_); rintro e w13 ⟨rfl, hb⟩; refine ⟨_, rfl, ?_⟩; have n0_ := Aside0.mk (Kd.R_below (by (with_reducible repeat (first | apply Kd.R_alloc | apply Kd.R_drewN | apply Kd.R_drew)); exact HO_9.out) hb); have n1_ := Aside0.mk (bB (g := gb125) (o := .cells #[.string a0_0, .slice A0_1 l0_1.length c0_1, .int .i64 a0_2, .slice A0_3 l0_3.length c0_3, .slice A0_4 l0_4.length c0_4, .slice A0_5 l0_5.length c0_5, .slice A0_6 l0_6.length c0_6, .slice A0_7 l0_7.length c0_7, .slice A0_8 l0_8.length c0_8, .slice A0_9 l0_9.length c0_9, .int .i64 a0_10] 31 (0, 0)) (by (with_reducible repeat (first | refine bN ?_ _ | refine bD ?_ | refine bA ?_ _)); exact BK125.out) hb); have n2_ := Aside0.mk (bP (by repeat (first | (with_reducible first | exact HB.out | apply bL | apply bW | apply b1 | refine bS ?_ GE125.out) | exact HB.out)) hb); clear HO_9; clear BK125; clear HB; have HO_9 := n0_; have BK125 := n1_; have HB := n2_; clear n0_ n1_ n2_; (try clear hb); (try clear hb2); (try clear hk); (try clear hi)) | ((with_reducible refine gate_builtin (b := .append) (xs := #[.tmp 31, .tmp 35]) rfl ?_); (try (refine gate_guard (by rfl) ?_; dsimp only)); at_builtin; refine Kd.R_append k40 (w0 := w) w.heap.size rfl (.tmp 31) (.tmp 35) 33 40 (.agg #[(.int .i64 0), (.int .i64 0)]) 16 rfl Try.underlying33 info40 rfl (by decide) (by omega) u9 x9_1 (⟨t128, t129⟩ : S40) [.int .i64 t128, .int .i64 t129] (fun _ => True) (fun _ => False) rfl rfl ?aP (fun _ hk => hk.elim) ?aF ?aO ?aB ?aS ?aL ?_; (case aP => exact k40_mkM _ _ _ (⟨t128, t129⟩ : S40)); (case aB => exact (by repeat (first | (with_reducible first | exact HB.out | apply bL | apply bW | apply b1 | refine bS ?_ GE125.out) | exact HB.out))); (case aF => exact (fun _ _ => trivial)); (case aO => exact (by (with_reducible repeat (first | apply Kd.R_alloc | apply Kd.R_drewN | apply Kd.R_drew)); exact HO_9.out)); (case aS => exact (bZ (by repeat (first | (with_reducible first | exact HB.out | apply bL | apply bW | apply b1 | refine bS ?_ GE125.out) | exact HB.out)))); (case aL => have := LMc12.out; omega); intro v131 w14 ho hb hg hat; rw [← Ny130.out] at ho; have n0_ := Aside0.mk (blk_grown (g := gb125) (o := .cells #[.string a0_0, .slice A0_1 l0_1.length c0_1, .int .i64 a0_2, .slice A0_3 l0_3.length c0_3, .slice A0_4 l0_4.length c0_4, .slice A0_5 l0_5.length c0_5, .slice A0_6 l0_6.length c0_6, .slice A0_7 l0_7.length c0_7, .slice A0_8 l0_8.length c0_8, .slice A0_9 l0_9.length c0_9, .int .i64 a0_10] 31 (0, 0)) (by (with_reducible repeat (first | refine bN ?_ _ | refine bD ?_ | refine bA ?_ _)); exact BK125.out) hg (Kd.R_ne HO_9.out BK125.out (by decide))); have n1_ := Aside0.mk (hb); have n2_ := Aside0.mk (ho); clear BK125; clear HB; clear HO_9; have BK125 := n0_; have HB := n1_; have HO132 := n2_; clear n0_ n1_ n2_; clear ho hb hg hat))
       go_roundg k1
       case measure => have := HK1.out; omega
       case rel => exact ⟨(y130), (wrap64 (x20_1 + 1)), (by first | rfl | (simp; done) | (simp [*]; done)), H', ⟨by have := HK1.out; omega⟩, ⟨by (with_reducible repeat (first | apply Kd.R_alloc | apply Kd.R_drewN | apply Kd.R_drew)); exact HO132.out⟩, ⟨by (with_reducible repeat (first | refine bN ?_ _ | refine bD ?_ | refine bA ?_ _)); exact BK125.out⟩, ⟨by repeat (first | (with_reducible first | exact HB.out | apply bL | apply bW | apply b1 | refine bS ?_ GE125.out) | exact HB.out)⟩⟩
      ·
       rw [if_neg c12] at H; exact absurd H (by simp)
     ·
      rw [if_neg c10] at H; exact absurd H (by simp)
    ·
     rw [if_neg c9] at H; have c9b0 : decide (x20_1 < (l1.length : Int)) = false := decide_eq_false c9
     clear c9; replace H := Option.bind_eq_some_iff.mp H
     obtain ⟨⟨t133, t134⟩, A150, H⟩ := H
     dsimp only at H
     have A15 := Aside0.mk A150
     clear A150; by_cases c16 : x9_1.length < 8796093022208
     ·
      rw [if_pos c16] at H; have LMc16 := Aside0.mk c16
      clear c16; obtain ⟨y135, hy135⟩ : ∃ y_ : List (S40), y_ = (x9_1 ++ [(⟨t133, t134⟩ : S40)]) := ⟨_, rfl⟩
      replace H : (rain_Cells.l0 k1 l1 a2 l3 y135 t126 (wrap64 (x20_1 + 1)) a0_0 l0_1 a0_2 l0_3 l0_4 l0_5 l0_6 l0_7 l0_8 l0_9 a0_10) = some r := by first | (rw [hy135]; with_reducible exact H) | (have H2_ := (Option.bind_some _ _).symm.trans H; rw [hy135]; with_reducible exact H2_) | (have H2_ := (Option.bind_some _ _).symm.trans H; with_reducible exact H2_) | with_reducible exact H | (rw [hy135]; exact H) | exact H
      have Ny135 := Aside0.mk hy135
      clear hy135; have H' := Aside0.mk H
      clear H; go_wp2_with (first | ((with_reducible refine gate_callee (f := 27) rfl ?_); refine goesL_ (some 34) rfl rfl Try.func27 (by kernel_rfl) rfl #[.int .i64 0, .int .i64 a2] rfl (by (try simp only [List.map_toArray, List.map_cons, List.map_nil]); first | done | rfl | (simp only [List.length_drop, List.length_take]; rfl)) ?_; (with_reducible refine (rain_radarSpan.calls k1 0 a2 t133 t134 _ A15.out).mono ?_); rintro e w17 ⟨rfl, hb⟩; refine ⟨_, rfl, ?_⟩; have n0_ := Aside0.mk (Kd.R_below (by (with_reducible repeat (first | apply Kd.R_alloc | apply Kd.R_drewN | apply Kd.R_drew)); exact HO_9.out) hb); have n1_ := Aside0.mk (bB (g := gb125) (o := .cells #[.string a0_0, .slice A0_1 l0_1.length c0_1, .int .i64 a0_2, .slice A0_3 l0_3.length c0_3, .slice A0_4 l0_4.length c0_4, .slice A0_5 l0_5.length c0_5, .slice A0_6 l0_6.length c0_6, .slice A0_7 l0_7.length c0_7, .slice A0_8 l0_8.length c0_8, .slice A0_9 l0_9.length c0_9, .int .i64 a0_10] 31 (0, 0)) (by (with_reducible repeat (first | refine bN ?_ _ | refine bD ?_ | refine bA ?_ _)); exact BK125.out) hb); have n2_ := Aside0.mk (bP (by repeat (first | (with_reducible first | exact HB.out | apply bL | apply bW | apply b1 | refine bS ?_ GE125.out) | exact HB.out)) hb); clear HO_9; clear BK125; clear HB; have HO_9 := n0_; have BK125 := n1_; have HB := n2_; clear n0_ n1_ n2_; (try clear hb); (try clear hb2); (try clear hk); (try clear hi)) | ((with_reducible refine gate_builtin (b := .append) (xs := #[.tmp 31, .tmp 35]) rfl ?_); (try (refine gate_guard (by rfl) ?_; dsimp only)); at_builtin; refine Kd.R_append k40 (w0 := w) w.heap.size rfl (.tmp 31) (.tmp 35) 33 40 (.agg #[(.int .i64 0), (.int .i64 0)]) 16 rfl Try.underlying33 info40 rfl (by decide) (by omega) u9 x9_1 (⟨t133, t134⟩ : S40) [.int .i64 t133, .int .i64 t134] (fun _ => True) (fun _ => False) rfl rfl ?aP (fun _ hk => hk.elim) ?aF ?aO ?aB ?aS ?aL ?_; (case aP => exact k40_mkM _ _ _ (⟨t133, t134⟩ : S40)); (case aB => exact (by repeat (first | (with_reducible first | exact HB.out | apply bL | apply bW | apply b1 | refine bS ?_ GE125.out) | exact HB.out))); (case aF => exact (fun _ _ => trivial)); (case aO => exact (by (with_reducible repeat (first | apply Kd.R_alloc | apply Kd.R_drewN | apply Kd.R_drew)); exact HO_9.out)); (case aS => exact (bZ (by repeat (first | (with_reducible first | exact HB.out | apply bL | apply bW | apply b1 | refine bS ?_ GE125.out) | exact HB.out)))); (case aL => have := LMc16.out; omega); intro v136 w18 ho hb hg hat; rw [← Ny135.out] at ho; have n0_ := Aside0.mk (blk_grown (g := gb125) (o := .cells #[.string a0_0, .slice A0_1 l0_1.length c0_1, .int .i64 a0_2, .slice A0_3 l0_3.length c0_3, .slice A0_4 l0_4.length c0_4, .slice A0_5 l0_5.length c0_5, .slice A0_6 l0_6.length c0_6, .slice A0_7 l0_7.length c0_7, .slice A0_8 l0_8.length c0_8, .slice A0_9 l0_9.length c0_9, .int .i64 a0_10] 31 (0, 0)) (by (with_reducible repeat (first | refine bN ?_ _ | refine bD ?_ | refine bA ?_ _)); exact BK125.out) hg (Kd.R_ne HO_9.out BK125.out (by decide))); have n1_ := Aside0.mk (hb); have n2_ := Aside0.mk (ho); clear BK125; clear HB; clear HO_9; have BK125 := n0_; have HB := n1_; have HO137 := n2_; clear n0_ n1_ n2_; clear ho hb hg hat))
      go_roundg k1
      case measure => have := HK1.out; omega
      case rel => exact ⟨(y135), (wrap64 (x20_1 + 1)), (by first | rfl | (simp; done) | (simp [*]; done)), H', ⟨by have := HK1.out; omega⟩, ⟨by (with_reducible repeat (first | apply Kd.R_alloc | apply Kd.R_drewN | apply Kd.R_drew)); exact HO137.out⟩, ⟨by (with_reducible repeat (first | refine bN ?_ _ | refine bD ?_ | refine bA ?_ _)); exact BK125.out⟩, ⟨by repeat (first | (with_reducible first | exact HB.out | apply bL | apply bW | apply b1 | refine bS ?_ GE125.out) | exact HB.out)⟩⟩
     ·
      rw [if_neg c16] at H; exact absurd H (by simp)
   ·
    rw [if_neg c8] at H; have c8b0 : decide (x20_1 < t126) = false := decide_eq_false c8
    clear c8; have H' := Aside0.mk H
    clear H; go_wp2
    go_loopg [40] k1 (fun kq v40 w' => ∃ (x9_2 : List (S40)) (x40_2 : Int), v40 = .int .i64 x40_2 ∧ Aside0 (rain_Cells.l1 kq x9_2 l3 (l3.length : Int) x40_2 a0_0 l0_1 a0_2 l0_3 l0_4 l0_5 l0_6 l0_7 l0_8 l0_9 a0_10 = some r) ∧ Aside0 (kq ≤ k1) ∧ Aside0 (Kd.R k40 40 w' w.heap.size (fun _ => True) u9 x9_2) ∧ Aside0 (w'.heap[gb125]? = some (.cells #[.string a0_0, (.slice A0_1 l0_1.length c0_1), .int .i64 a0_2, (.slice A0_3 l0_3.length c0_3), (.slice A0_4 l0_4.length c0_4), (.slice A0_5 l0_5.length c0_5), (.slice A0_6 l0_6.length c0_6), (.slice A0_7 l0_7.length c0_7), (.slice A0_8 l0_8.length c0_8), (.slice A0_9 l0_9.length c0_9), .int .i64 a0_10] 31 (0, 0))) ∧ Aside0 (Below w.heap.size w w'))
    case atStart => exact ⟨(x9_1), (0), (by first | rfl | (simp; done) | (simp [*]; done)), H', ⟨Nat.le_refl _⟩, ⟨by (with_reducible repeat (first | apply Kd.R_alloc | apply Kd.R_drewN | apply Kd.R_drew)); exact HO_9.out⟩, ⟨by (with_reducible repeat (first | refine bN ?_ _ | refine bD ?_ | refine bA ?_ _)); exact BK125.out⟩, ⟨by repeat (first | (with_reducible first | exact HB.out | apply bL | apply bW | apply b1 | refine bS ?_ GE125.out) | exact HB.out)⟩⟩
    case round =>
     clear H'; try clear c1
     try clear p1
     try clear q1
     try clear hx1
     try clear c2
     try clear p2
     try clear c3
     try clear p6
     try clear c8
     try clear c8b0
     try clear c9
     try clear c9b0
     try clear c10
     try clear c10b0
     try clear c11
     try clear c12
     try clear p12
     try clear q12
     try clear hx12
     try clear c16
     try clear hcz7_0
     try clear hcz7_1
     try clear hcz7_10
     try clear hcz7_2
     try clear hcz7_3
     try clear hcz7_4
     try clear hcz7_5
     try clear hcz7_6
     try clear hcz7_7
     try clear hcz7_8
     try clear hcz7_9
     try clear hfz7_0
     try clear hfz7_1
     try clear hfz7_10
     try clear hfz7_2
     try clear hfz7_3
     try clear hfz7_4
     try clear hfz7_5
     try clear hfz7_6
     try clear hfz7_7
     try clear hfz7_8
     try clear hfz7_9
     try clear hx127_0
     try clear p127
     try clear p2
     try clear q127
     obtain ⟨x9_2, x40_2, rfl, HA, HK2, HO_9, BK125, HB⟩ := hrel
     cases gk with
     | zero => exact absurd HA.out (by simp [rain_Cells.l1])
     | succ k2 =>
      have H := HA.out
      clear HA; simp only [rain_Cells.l1] at H; by_cases c19 : x40_2 < (l3.length : Int)
      ·
       rw [if_pos c19] at H; have c19b0 : decide (x40_2 < (l3.length : Int)) = true := decide_eq_true c19
       clear c19; by_cases c20 : 0 ≤ x40_2
       ·
        rw [if_pos c20] at H; have c20b0 : decide (0 ≤ x40_2) = true := decide_eq_true c20
        clear c20; by_cases c21 : x40_2 < (l3.length : Int)
        ·
         rw [if_pos c21] at H; have c21b0 : decide (x40_2 < (l3.length : Int)) = true := decide_eq_true c21
         clear c21; have HC22 := Aside0.mk H
         clear H; have p138 : 0 ≤ (x40_2 : Int) := of_decide_eq_true (by first | (with_reducible assumption) | assumption)
         have q138 : x40_2 < (l3.length : Int) := of_decide_eq_true (by first | (with_reducible assumption) | assumption)
         obtain ⟨ad138, e138, hx138_0, hx138_1, hx138_2, hx138_3⟩ := at_T50 HR3.out x40_2 p138 q138
         cases e138
         replace hx138_0 := (HB.out.cell (wL w _ hx138_0)).trans hx138_0
         replace hx138_1 := (HB.out.cell (wL w _ hx138_1)).trans hx138_1
         replace hx138_2 := (HB.out.cell (wL w _ hx138_2)).trans hx138_2
         replace hx138_3 := (HB.out.cell (wL w _ hx138_3)).trans hx138_3
         replace p138 := eq_true p138
         replace q138 := eq_true q138
         go_upto_region 13 with (first | ((with_reducible refine gate_dst (N := 13) rfl ?_); (try (refine gate_guard (by rfl) ?_; dsimp only)); refine box_event ?hg (N := 13) ?hd (cs := #[.int .i64 0, .int .i64 0, .int .i64 0, .int .i64 0]) (t := 50) ?hr ?_; (case hd => rfl); (case hg => rfl); (case hr => first | (go_simp; done) | (go_simp; rfl)); intro gb139 hg w23 hbox hb; have n0_ := Aside0.mk (Kd.R_below (by (with_reducible repeat (first | apply Kd.R_alloc | apply Kd.R_drewN | apply Kd.R_drew)); exact HO_9.out) hb); have n1_ := Aside0.mk (bB (g := gb125) (o := .cells #[.string a0_0, .slice A0_1 l0_1.length c0_1, .int .i64 a0_2, .slice A0_3 l0_3.length c0_3, .slice A0_4 l0_4.length c0_4, .slice A0_5 l0_5.length c0_5, .slice A0_6 l0_6.length c0_6, .slice A0_7 l0_7.length c0_7, .slice A0_8 l0_8.length c0_8, .slice A0_9 l0_9.length c0_9, .int .i64 a0_10] 31 (0, 0)) (by (with_reducible repeat (first | refine bN ?_ _ | refine bD ?_ | refine bA ?_ _)); exact BK125.out) hb); have n2_ := Aside0.mk (bP (by repeat (first | (with_reducible first | exact HB.out | apply bL | apply bW | apply b1 | refine bS ?_ GE125.out) | exact HB.out)) hb); have n3_ := Aside0.mk (hbox); have n4_ := Aside0.mk ((by rw [hg]; exact (bZ (by repeat (first | (with_reducible first | exact HB.out | apply bL | apply bW | apply b1 | refine bS ?_ GE125.out) | exact HB.out))) : w.heap.size ≤ gb139)); have n5_ := Aside0.mk ((by rw [hg]; exact (bZ (by repeat (first | (with_reducible first | exact HB.out | apply bL | apply bW | apply b1 | refine bS ?_ GE125.out) | exact HB.out))) : w.heap.size ≤ gb139)); have n6_ := Aside0.mk ((by rw [hg]; exact Nat.ne_of_lt (bT (g := gb125) (o := .cells #[.string a0_0, .slice A0_1 l0_1.length c0_1, .int .i64 a0_2, .slice A0_3 l0_3.length c0_3, .slice A0_4 l0_4.length c0_4, .slice A0_5 l0_5.length c0_5, .slice A0_6 l0_6.length c0_6, .slice A0_7 l0_7.length c0_7, .slice A0_8 l0_8.length c0_8, .slice A0_9 l0_9.length c0_9, .int .i64 a0_10] 31 (0, 0)) (by (with_reducible repeat (first | refine bN ?_ _ | refine bD ?_ | refine bA ?_ _)); exact BK125.out)) : gb125 ≠ gb139)); have n7_ := Aside0.mk ((by rw [hg]; exact Nat.ne_of_gt (bT (g := gb125) (o := .cells #[.string a0_0, .slice A0_1 l0_1.length c0_1, .int .i64 a0_2, .slice A0_3 l0_3.length c0_3, .slice A0_4 l0_4.length c0_4, .slice A0_5 l0_5.length c0_5, .slice A0_6 l0_6.length c0_6, .slice A0_7 l0_7.length c0_7, .slice A0_8 l0_8.length c0_8, .slice A0_9 l0_9.length c0_9, .int .i64 a0_10] 31 (0, 0)) (by (with_reducible repeat (first | refine bN ?_ _ | refine bD ?_ | refine bA ?_ _)); exact BK125.out)) : gb139 ≠ gb125)); clear HO_9; clear BK125; clear HB; have HO_9 := n0_; have BK125 := n1_; have HB := n2_; have BK139 := n3_; have GW139 := n4_; have GE139 := n5_; have NB125_139 := n6_; have NB139_125 := n7_; clear n0_ n1_ n2_ n3_ n4_ n5_ n6_ n7_; clear hb hbox hg; have hnb24 := NB139_125.out; have hnc24 := NB125_139.out; have hcz25_0 : w23.cell? ⟨gb139, 0, none⟩ = some (.int .i64 0) := (bC BK139.out 0).trans rfl; have hcz25_1 : w23.cell? ⟨gb139, 1, none⟩ = some (.int .i64 0) := (bC BK139.out 1).trans rfl; have hcz25_2 : w23.cell? ⟨gb139, 2, none⟩ = some (.int .i64 0) := (bC BK139.out 2).trans rfl; have hcz25_3 : w23.cell? ⟨gb139, 3, none⟩ = some (.int .i64 0) := (bC BK139.out 3).trans rfl; have hfz25_0 := bF BK139.out 0; have hfz25_1 := bF BK139.out 1; have hfz25_2 := bF BK139.out 2; have hfz25_3 := bF BK139.out 3))
         (try simp only [Act.put, lA, lZ, lS]); go_cut [64] (fun v64 wc => ∃ (kq : Nat) (x64_21 : Bool), v64 = .bool x64_21 ∧ Aside0 (rain_Cells.j2 kq x9_2 l3 (l3.length : Int) x40_2 x64_21 a0_0 l0_1 a0_2 l0_3 l0_4 l0_5 l0_6 l0_7 l0_8 l0_9 a0_10 ((rd_T50 l3 x40_2).f0) ((rd_T50 l3 x40_2).f1) ((rd_T50 l3 x40_2).f2.f0) ((rd_T50 l3 x40_2).f2.f1) = some r) ∧ Aside0 (kq ≤ k2) ∧ Aside0 (Kd.R k40 40 wc w.heap.size (fun _ => True) u9 x9_2) ∧ Aside0 (wc.heap[gb125]? = some (.cells #[.string a0_0, (.slice A0_1 l0_1.length c0_1), .int .i64 a0_2, (.slice A0_3 l0_3.length c0_3), (.slice A0_4 l0_4.length c0_4), (.slice A0_5 l0_5.length c0_5), (.slice A0_6 l0_6.length c0_6), (.slice A0_7 l0_7.length c0_7), (.slice A0_8 l0_8.length c0_8), (.slice A0_9 l0_9.length c0_9), .int .i64 a0_10] 31 (0, 0))) ∧ Aside0 (wc.heap[gb139]? = some (.cells #[.int .i64 ((rd_T50 l3 x40_2).f0), .int .i64 ((rd_T50 l3 x40_2).f1), .int .i64 ((rd_T50 l3 x40_2).f2.f0), .int .i64 ((rd_T50 l3 x40_2).f2.f1)] 50 (0, 0))) ∧ Aside0 (Below w.heap.size w wc))
         case first =>
          have H := HC22.out
          clear HC22; by_cases c26 : ((rd_T50 l3 x40_2).f0) < 0
          ·
           rw [if_pos c26] at H; have c26b0 : decide (((rd_T50 l3 x40_2).f0) < 0) = true := decide_eq_true c26
           clear c26; (first | rw [c26b0] | (simp only [i64_w, i32_w]; rw [c26b0]) | skip)
           have H' := Aside0.mk H
           clear H; have hnb27 := NB139_125.out
           have hnc27 := NB125_139.out
           have hcz28_0 : w23.cell? ⟨gb139, 0, none⟩ = some (.int .i64 0) := (bC BK139.out 0).trans rfl
           have hcz28_1 : w23.cell? ⟨gb139, 1, none⟩ = some (.int .i64 0) := (bC BK139.out 1).trans rfl
           have hcz28_2 : w23.cell? ⟨gb139, 2, none⟩ = some (.int .i64 0) := (bC BK139.out 2).trans rfl
           have hcz28_3 : w23.cell? ⟨gb139, 3, none⟩ = some (.int .i64 0) := (bC BK139.out 3).trans rfl
           have hfz28_0 := bF BK139.out 0
           have hfz28_1 := bF BK139.out 1
           have hfz28_2 := bF BK139.out 2
           have hfz28_3 := bF BK139.out 3
           as_aux_lemma =>
            go_wp2
            go_meet
            case rel => exact ⟨_, (true), (by first | rfl | (simp; done) | (simp [*]; done)), H', ⟨by have := HK1.out; have := HK2.out; first | omega | exact Nat.le_refl _⟩, ⟨by (with_reducible repeat (first | apply Kd.R_alloc | apply Kd.R_drewN | apply Kd.R_drew)); exact Kd.R_mono (Kd.R_far (p := ⟨gb139, 3, none⟩) (Kd.R_far (p := ⟨gb139, 2, none⟩) (Kd.R_far (p := ⟨gb139, 1, none⟩) (Kd.R_far (p := ⟨gb139, 0, none⟩) (Kd.R_types HO_9.out BK139.out (by decide)) (fun _ hk => hk.2) (.int .i64 ((rd_T50 l3 x40_2).f0))) (fun _ hk => hk.2) (.int .i64 ((rd_T50 l3 x40_2).f1))) (fun _ hk => hk.2) (.int .i64 ((rd_T50 l3 x40_2).f2.f0))) (fun _ hk => hk.2) (.int .i64 ((rd_T50 l3 x40_2).f2.f1))) (fun _ hk => trivial)⟩, ⟨by (with_reducible repeat (first | refine bN ?_ _ | refine bD ?_ | refine bA ?_ _)); refine bR ?_ NB125_139.out _; (with_reducible repeat (first | refine bN ?_ _ | refine bD ?_ | refine bA ?_ _)); refine bR ?_ NB125_139.out _; (with_reducible repeat (first | refine bN ?_ _ | refine bD ?_ | refine bA ?_ _)); refine bR ?_ NB125_139.out _; (with_reducible repeat (first | refine bN ?_ _ | refine bD ?_ | refine bA ?_ _)); refine bR ?_ NB125_139.out _; (with_reducible repeat (first | refine bN ?_ _ | refine bD ?_ | refine bA ?_ _)); exact BK125.out⟩, ⟨by (with_reducible repeat (first | refine bN ?_ _ | refine bD ?_ | refine bA ?_ _)); refine bU (cs := #[.int .i64 ((rd_T50 l3 x40_2).f0), .int .i64 ((rd_T50 l3 x40_2).f1), .int .i64 ((rd_T50 l3 x40_2).f2.f0), .int .i64 0]) ?_ 3 _ rfl; (with_reducible repeat (first | refine bN ?_ _ | refine bD ?_ | refine bA ?_ _)); refine bU (cs := #[.int .i64 ((rd_T50 l3 x40_2).f0), .int .i64 ((rd_T50 l3 x40_2).f1), .int .i64 0, .int .i64 0]) ?_ 2 _ rfl; (with_reducible repeat (first | refine bN ?_ _ | refine bD ?_ | refine bA ?_ _)); refine bU (cs := #[.int .i64 ((rd_T50 l3 x40_2).f0), .int .i64 0, .int .i64 0, .int .i64 0]) ?_ 1 _ rfl; (with_reducible repeat (first | refine bN ?_ _ | refine bD ?_ | refine bA ?_ _)); refine bU (cs := #[.int .i64 0, .int .i64 0, .int .i64 0, .int .i64 0]) ?_ 0 _ rfl; (with_reducible repeat (first | refine bN ?_ _ | refine bD ?_ | refine bA ?_ _)); exact BK139.out⟩, ⟨by repeat (first | (with_reducible first | exact HB.out | apply bL | apply bW | apply b1 | refine bS ?_ GE125.out | refine bS ?_ GE139.out) | exact HB.out)⟩⟩
          ·
           rw [if_neg c26] at H; have c26b0 : decide (((rd_T50 l3 x40_2).f0) < 0) = false := decide_eq_false c26
           clear c26; (first | rw [c26b0] | (simp only [i64_w, i32_w]; rw [c26b0]) | skip)
           by_cases c29 : ((rd_T50 l3 x40_2).f0) ≥ (l0_6.length : Int)
           ·
            rw [if_pos c29] at H; have c29b0 : decide ((l0_6.length : Int) ≤ ((rd_T50 l3 x40_2).f0)) = true := decide_eq_true c29
            clear c29; have H' := Aside0.mk H
            clear H; have hnb30 := NB139_125.out
            have hnc30 := NB125_139.out
            have hcz31_0 : w23.cell? ⟨gb139, 0, none⟩ = some (.int .i64 0) := (bC BK139.out 0).trans rfl
            have hcz31_1 : w23.cell? ⟨gb139, 1, none⟩ = some (.int .i64 0) := (bC BK139.out 1).trans rfl
            have hcz31_2 : w23.cell? ⟨gb139, 2, none⟩ = some (.int .i64 0) := (bC BK139.out 2).trans rfl
            have hcz31_3 : w23.cell? ⟨gb139, 3, none⟩ = some (.int .i64 0) := (bC BK139.out 3).trans rfl
            have hfz31_0 := bF BK139.out 0
            have hfz31_1 := bF BK139.out 1
            have hfz31_2 := bF BK139.out 2
            have hfz31_3 := bF BK139.out 3
            have hcz32_0 : w23.cell? ⟨gb125, 0, none⟩ = some (.string a0_0) := (bC BK125.out 0).trans rfl
            have hcz32_1 : w23.cell? ⟨gb125, 1, none⟩ = some (.slice A0_1 l0_1.length c0_1) := (bC BK125.out 1).trans rfl
            have hcz32_2 : w23.cell? ⟨gb125, 2, none⟩ = some (.int .i64 a0_2) := (bC BK125.out 2).trans rfl
            have hcz32_3 : w23.cell? ⟨gb125, 3, none⟩ = some (.slice A0_3 l0_3.length c0_3) := (bC BK125.out 3).trans rfl
            have hcz32_4 : w23.cell? ⟨gb125, 4, none⟩ = some (.slice A0_4 l0_4.length c0_4) := (bC BK125.out 4).trans rfl
            have hcz32_5 : w23.cell? ⟨gb125, 5, none⟩ = some (.slice A0_5 l0_5.length c0_5) := (bC BK125.out 5).trans rfl
            have hcz32_6 : w23.cell? ⟨gb125, 6, none⟩ = some (.slice A0_6 l0_6.length c0_6) := (bC BK125.out 6).trans rfl
            have hcz32_7 : w23.cell? ⟨gb125, 7, none⟩ = some (.slice A0_7 l0_7.length c0_7) := (bC BK125.out 7).trans rfl
            have hcz32_8 : w23.cell? ⟨gb125, 8, none⟩ = some (.slice A0_8 l0_8.length c0_8) := (bC BK125.out 8).trans rfl
            have hcz32_9 : w23.cell? ⟨gb125, 9, none⟩ = some (.slice A0_9 l0_9.length c0_9) := (bC BK125.out 9).trans rfl
            have hcz32_10 : w23.cell? ⟨gb125, 10, none⟩ = some (.int .i64 a0_10) := (bC BK125.out 10).trans rfl
            have hfz32_0 := bF BK125.out 0
            have hfz32_1 := bF BK125.out 1
            have hfz32_2 := bF BK125.out 2
            have hfz32_3 := bF BK125.out 3
            have hfz32_4 := bF BK125.out 4
            have hfz32_5 := bF BK125.out 5
            have hfz32_6 := bF BK125.out 6
            have hfz32_7 := bF BK125.out 7
            have hfz32_8 := bF BK125.out 8
            have hfz32_9 := bF BK125.out 9
            have hfz32_10 := bF BK125.out 10
            as_aux_lemma =>
             go_wp2
             go_meet
             case rel => exact ⟨_, (true), (by first | rfl | (simp; done) | (simp [*]; done)), H', ⟨by have := HK1.out; have := HK2.out; first | omega | exact Nat.le_refl _⟩, ⟨by (with_reducible repeat (first | apply Kd.R_alloc | apply Kd.R_drewN | apply Kd.R_drew)); exact Kd.R_mono (Kd.R_far (p := ⟨gb139, 3, none⟩) (Kd.R_far (p := ⟨gb139, 2, none⟩) (Kd.R_far (p := ⟨gb139, 1, none⟩) (Kd.R_far (p := ⟨gb139, 0, none⟩) (Kd.R_types HO_9.out BK139.out (by decide)) (fun _ hk => hk.2) (.int .i64 ((rd_T50 l3 x40_2).f0))) (fun _ hk => hk.2) (.int .i64 ((rd_T50 l3 x40_2).f1))) (fun _ hk => hk.2) (.int .i64 ((rd_T50 l3 x40_2).f2.f0))) (fun _ hk => hk.2) (.int .i64 ((rd_T50 l3 x40_2).f2.f1))) (fun _ hk => trivial)⟩, ⟨by (with_reducible repeat (first | refine bN ?_ _ | refine bD ?_ | refine bA ?_ _)); refine bR ?_ NB125_139.out _; (with_reducible repeat (first | refine bN ?_ _ | refine bD ?_ | refine bA ?_ _)); refine bR ?_ NB125_139.out _; (with_reducible repeat (first | refine bN ?_ _ | refine bD ?_ | refine bA ?_ _)); refine bR ?_ NB125_139.out _; (with_reducible repeat (first | refine bN ?_ _ | refine bD ?_ | refine bA ?_ _)); refine bR ?_ NB125_139.out _; (with_reducible repeat (first | refine bN ?_ _ | refine bD ?_ | refine bA ?_ _)); exact BK125.out⟩, ⟨by (with_reducible repeat (first | refine bN ?_ _ | refine bD ?_ | refine bA ?_ _)); refine bU (cs := #[.int .i64 ((rd_T50 l3 x40_2).f0), .int .i64 ((rd_T50 l3 x40_2).f1), .int .i64 ((rd_T50 l3 x40_2).f2.f0), .int .i64 0]) ?_ 3 _ rfl; (with_reducible repeat (first | refine bN ?_ _ | refine bD ?_ | refine bA ?_ _)); refine bU (cs := #[.int .i64 ((rd_T50 l3 x40_2).f0), .int .i64 ((rd_T50 l3 x40_2).f1), .int .i64 0, .int .i64 0]) ?_ 2 _ rfl; (with_reducible repeat (first | refine bN ?_ _ | refine bD ?_ | refine bA ?_ _)); refine bU (cs := #[.int .i64 ((rd_T50 l3 x40_2).f0), .int .i64 0, .int .i64 0, .int .i64 0]) ?_ 1 _ rfl; (with_reducible repeat (first | refine bN ?_ _ | refine bD ?_ | refine bA ?_ _)); refine bU (cs := #[.int .i64 0, .int .i64 0, .int .i64 0, .int .i64 0]) ?_ 0 _ rfl; (with_reducible repeat (first | refine bN ?_ _ | refine bD ?_ | refine bA ?_ _)); exact BK139.out⟩, ⟨by repeat (first | (with_reducible first | exact HB.out | apply bL | apply bW | apply b1 | refine bS ?_ GE125.out | refine bS ?_ GE139.out) | exact HB.out)⟩⟩
           ·
            rw [if_neg c29] at H; have c29b0 : decide ((l0_6.length : Int) ≤ ((rd_T50 l3 x40_2).f0)) = false := decide_eq_false c29
            clear c29; by_cases c33 : 0 ≤ ((rd_T50 l3 x40_2).f0)
            ·
             rw [if_pos c33] at H; have c33b0 : decide (0 ≤ ((rd_T50 l3 x40_2).f0)) = true := decide_eq_true c33
             clear c33; by_cases c34 : ((rd_T50 l3 x40_2).f0) < (l0_6.length : Int)
             ·
              rw [if_pos c34] at H; have c34b0 : decide (((rd_T50 l3 x40_2).f0) < (l0_6.length : Int)) = true := decide_eq_true c34
              clear c34; have H' := Aside0.mk H
              clear H; have hnb35 := NB139_125.out
              have hnc35 := NB125_139.out
              have hcz36_0 : w23.cell? ⟨gb139, 0, none⟩ = some (.int .i64 0) := (bC BK139.out 0).trans rfl
              have hcz36_1 : w23.cell? ⟨gb139, 1, none⟩ = some (.int .i64 0) := (bC BK139.out 1).trans rfl
              have hcz36_2 : w23.cell? ⟨gb139, 2, none⟩ = some (.int .i64 0) := (bC BK139.out 2).trans rfl
              have hcz36_3 : w23.cell? ⟨gb139, 3, none⟩ = some (.int .i64 0) := (bC BK139.out 3).trans rfl
              have hfz36_0 := bF BK139.out 0
              have hfz36_1 := bF BK139.out 1
              have hfz36_2 := bF BK139.out 2
              have hfz36_3 := bF BK139.out 3
              have hcz37_0 : w23.cell? ⟨gb125, 0, none⟩ = some (.string a0_0) := (bC BK125.out 0).trans rfl
              have hcz37_1 : w23.cell? ⟨gb125, 1, none⟩ = some (.slice A0_1 l0_1.length c0_1) := (bC BK125.out 1).trans rfl
              have hcz37_2 : w23.cell? ⟨gb125, 2, none⟩ = some (.int .i64 a0_2) := (bC BK125.out 2).trans rfl
              have hcz37_3 : w23.cell? ⟨gb125, 3, none⟩ = some (.slice A0_3 l0_3.length c0_3) := (bC BK125.out 3).trans rfl
              have hcz37_4 : w23.cell? ⟨gb125, 4, none⟩ = some (.slice A0_4 l0_4.length c0_4) := (bC BK125.out 4).trans rfl
              have hcz37_5 : w23.cell? ⟨gb125, 5, none⟩ = some (.slice A0_5 l0_5.length c0_5) := (bC BK125.out 5).trans rfl
              have hcz37_6 : w23.cell? ⟨gb125, 6, none⟩ = some (.slice A0_6 l0_6.length c0_6) := (bC BK125.out 6).trans rfl
              have hcz37_7 : w23.cell? ⟨gb125, 7, none⟩ = some (.slice A0_7 l0_7.length c0_7) := (bC BK125.out 7).trans rfl
              have hcz37_8 : w23.cell? ⟨gb125, 8, none⟩ = some (.slice A0_8 l0_8.length c0_8) := (bC BK125.out 8).trans rfl
              have hcz37_9 : w23.cell? ⟨gb125, 9, none⟩ = some (.slice A0_9 l0_9.length c0_9) := (bC BK125.out 9).trans rfl
              have hcz37_10 : w23.cell? ⟨gb125, 10, none⟩ = some (.int .i64 a0_10) := (bC BK125.out 10).trans rfl
              have hfz37_0 := bF BK125.out 0
              have hfz37_1 := bF BK125.out 1
              have hfz37_2 := bF BK125.out 2
              have hfz37_3 := bF BK125.out 3
              have hfz37_4 := bF BK125.out 4
              have hfz37_5 := bF BK125.out 5
              have hfz37_6 := bF BK125.out 6
              have hfz37_7 := bF BK125.out 7
              have hfz37_8 := bF BK125.out 8
              have hfz37_9 := bF BK125.out 9
              have hfz37_10 := bF BK125.out 10
              have p140 : 0 ≤ (((rd_T50 l3 x40_2).f0) : Int) := of_decide_eq_true (by first | (with_reducible assumption) | assumption)
              have q140 : ((rd_T50 l3 x40_2).f0) < (l0_6.length : Int) := of_decide_eq_true (by first | (with_reducible assumption) | assumption)
              obtain ⟨ad140, e140, hx140_0, hx140_1, hx140_2, hx140_3, hx140_4⟩ := at_T67 HR0_6.out ((rd_T50 l3 x40_2).f0) p140 q140
              cases e140
              have hn140_0 : ad140.block ≠ gb139 := Nat.ne_of_lt (Nat.lt_of_lt_of_le (by have := wL _ _ hx140_0; first | rwa [add_block] at this | exact this) GW139.out)
              have hn140_1 : ad140.block ≠ gb139 := Nat.ne_of_lt (Nat.lt_of_lt_of_le (by have := wL _ _ hx140_0; first | rwa [add_block] at this | exact this) GW139.out)
              have hn140_2 : ad140.block ≠ gb139 := Nat.ne_of_lt (Nat.lt_of_lt_of_le (by have := wL _ _ hx140_0; first | rwa [add_block] at this | exact this) GW139.out)
              have hn140_3 : ad140.block ≠ gb139 := Nat.ne_of_lt (Nat.lt_of_lt_of_le (by have := wL _ _ hx140_0; first | rwa [add_block] at this | exact this) GW139.out)
              replace hx140_0 := (HB.out.cell (wL w _ hx140_0)).trans hx140_0
              replace hx140_1 := (HB.out.cell (wL w _ hx140_1)).trans hx140_1
              replace hx140_2 := (HB.out.cell (wL w _ hx140_2)).trans hx140_2
              replace hx140_3 := (HB.out.cell (wL w _ hx140_3)).trans hx140_3
              replace hx140_4 := (HB.out.cell (wL w _ hx140_4)).trans hx140_4
              replace hx140_0 := (cell_far (p := ⟨gb139, 0, none⟩) (by first | (rw [add_block]; exact hn140_0) | (show (Addr.add _ _).block ≠ _; rw [add_block]; exact hn140_0) | exact hn140_0) (.int .i64 ((rd_T50 l3 x40_2).f0))).trans hx140_0
              replace hx140_1 := (cell_far (p := ⟨gb139, 0, none⟩) (by first | (rw [add_block]; exact hn140_0) | (show (Addr.add _ _).block ≠ _; rw [add_block]; exact hn140_0) | exact hn140_0) (.int .i64 ((rd_T50 l3 x40_2).f0))).trans hx140_1
              replace hx140_2 := (cell_far (p := ⟨gb139, 0, none⟩) (by first | (rw [add_block]; exact hn140_0) | (show (Addr.add _ _).block ≠ _; rw [add_block]; exact hn140_0) | exact hn140_0) (.int .i64 ((rd_T50 l3 x40_2).f0))).trans hx140_2
              replace hx140_3 := (cell_far (p := ⟨gb139, 0, none⟩) (by first | (rw [add_block]; exact hn140_0) | (show (Addr.add _ _).block ≠ _; rw [add_block]; exact hn140_0) | exact hn140_0) (.int .i64 ((rd_T50 l3 x40_2).f0))).trans hx140_3
              replace hx140_4 := (cell_far (p := ⟨gb139, 0, none⟩) (by first | (rw [add_block]; exact hn140_0) | (show (Addr.add _ _).block ≠ _; rw [add_block]; exact hn140_0) | exact hn140_0) (.int .i64 ((rd_T50 l3 x40_2).f0))).trans hx140_4
              replace hx140_0 := (cell_far (p := ⟨gb139, 1, none⟩) (by first | (rw [add_block]; exact hn140_1) | (show (Addr.add _ _).block ≠ _; rw [add_block]; exact hn140_1) | exact hn140_1) (.int .i64 ((rd_T50 l3 x40_2).f1))).trans hx140_0
              replace hx140_1 := (cell_far (p := ⟨gb139, 1, none⟩) (by first | (rw [add_block]; exact hn140_1) | (show (Addr.add _ _).block ≠ _; rw [add_block]; exact hn140_1) | exact hn140_1) (.int .i64 ((rd_T50 l3 x40_2).f1))).trans hx140_1
              replace hx140_2 := (cell_far (p := ⟨gb139, 1, none⟩) (by first | (rw [add_block]; exact hn140_1) | (show (Addr.add _ _).block ≠ _; rw [add_block]; exact hn140_1) | exact hn140_1) (.int .i64 ((rd_T50 l3 x40_2).f1))).trans hx140_2
              replace hx140_3 := (cell_far (p := ⟨gb139, 1, none⟩) (by first | (rw [add_block]; exact hn140_1) | (show (Addr.add _ _).block ≠ _; rw [add_block]; exact hn140_1) | exact hn140_1) (.int .i64 ((rd_T50 l3 x40_2).f1))).trans hx140_3
              replace hx140_4 := (cell_far (p := ⟨gb139, 1, none⟩) (by first | (rw [add_block]; exact hn140_1) | (show (Addr.add _ _).block ≠ _; rw [add_block]; exact hn140_1) | exact hn140_1) (.int .i64 ((rd_T50 l3 x40_2).f1))).trans hx140_4
              replace hx140_0 := (cell_far (p := ⟨gb139, 2, none⟩) (by first | (rw [add_block]; exact hn140_2) | (show (Addr.add _ _).block ≠ _; rw [add_block]; exact hn140_2) | exact hn140_2) (.int .i64 ((rd_T50 l3 x40_2).f2.f0))).trans hx140_0
              replace hx140_1 := (cell_far (p := ⟨gb139, 2, none⟩) (by first | (rw [add_block]; exact hn140_2) | (show (Addr.add _ _).block ≠ _; rw [add_block]; exact hn140_2) | exact hn140_2) (.int .i64 ((rd_T50 l3 x40_2).f2.f0))).trans hx140_1
              replace hx140_2 := (cell_far (p := ⟨gb139, 2, none⟩) (by first | (rw [add_block]; exact hn140_2) | (show (Addr.add _ _).block ≠ _; rw [add_block]; exact hn140_2) | exact hn140_2) (.int .i64 ((rd_T50 l3 x40_2).f2.f0))).trans hx140_2
              replace hx140_3 := (cell_far (p := ⟨gb139, 2, none⟩) (by first | (rw [add_block]; exact hn140_2) | (show (Addr.add _ _).block ≠ _; rw [add_block]; exact hn140_2) | exact hn140_2) (.int .i64 ((rd_T50 l3 x40_2).f2.f0))).trans hx140_3
              replace hx140_4 := (cell_far (p := ⟨gb139, 2, none⟩) (by first | (rw [add_block]; exact hn140_2) | (show (Addr.add _ _).block ≠ _; rw [add_block]; exact hn140_2) | exact hn140_2) (.int .i64 ((rd_T50 l3 x40_2).f2.f0))).trans hx140_4
              replace hx140_0 := (cell_far (p := ⟨gb139, 3, none⟩) (by first | (rw [add_block]; exact hn140_3) | (show (Addr.add _ _).block ≠ _; rw [add_block]; exact hn140_3) | exact hn140_3) (.int .i64 ((rd_T50 l3 x40_2).f2.f1))).trans hx140_0
              replace hx140_1 := (cell_far (p := ⟨gb139, 3, none⟩) (by first | (rw [add_block]; exact hn140_3) | (show (Addr.add _ _).block ≠ _; rw [add_block]; exact hn140_3) | exact hn140_3) (.int .i64 ((rd_T50 l3 x40_2).f2.f1))).trans hx140_1
              replace hx140_2 := (cell_far (p := ⟨gb139, 3, none⟩) (by first | (rw [add_block]; exact hn140_3) | (show (Addr.add _ _).block ≠ _; rw [add_block]; exact hn140_3) | exact hn140_3) (.int .i64 ((rd_T50 l3 x40_2).f2.f1))).trans hx140_2
              replace hx140_3 := (cell_far (p := ⟨gb139, 3, none⟩) (by first | (rw [add_block]; exact hn140_3) | (show (Addr.add _ _).block ≠ _; rw [add_block]; exact hn140_3) | exact hn140_3) (.int .i64 ((rd_T50 l3 x40_2).f2.f1))).trans hx140_3
              replace hx140_4 := (cell_far (p := ⟨gb139, 3, none⟩) (by first | (rw [add_block]; exact hn140_3) | (show (Addr.add _ _).block ≠ _; rw [add_block]; exact hn140_3) | exact hn140_3) (.int .i64 ((rd_T50 l3 x40_2).f2.f1))).trans hx140_4
              clear hn140_0; clear hn140_1; clear hn140_2; clear hn140_3; replace p140 := eq_true p140
              replace q140 := eq_true q140
              as_aux_lemma =>
               go_wp2
               go_meet
               case rel => exact ⟨_, ((((rd_T67 l0_6 ((rd_T50 l3 x40_2).f0)).f1) != 1)), (by first | rfl | (simp; done) | (simp [*]; done)), H', ⟨by have := HK1.out; have := HK2.out; first | omega | exact Nat.le_refl _⟩, ⟨by (with_reducible repeat (first | apply Kd.R_alloc | apply Kd.R_drewN | apply Kd.R_drew)); exact Kd.R_mono (Kd.R_far (p := ⟨gb139, 3, none⟩) (Kd.R_far (p := ⟨gb139, 2, none⟩) (Kd.R_far (p := ⟨gb139, 1, none⟩) (Kd.R_far (p := ⟨gb139, 0, none⟩) (Kd.R_types HO_9.out BK139.out (by decide)) (fun _ hk => hk.2) (.int .i64 ((rd_T50 l3 x40_2).f0))) (fun _ hk => hk.2) (.int .i64 ((rd_T50 l3 x40_2).f1))) (fun _ hk => hk.2) (.int .i64 ((rd_T50 l3 x40_2).f2.f0))) (fun _ hk => hk.2) (.int .i64 ((rd_T50 l3 x40_2).f2.f1))) (fun _ hk => trivial)⟩, ⟨by (with_reducible repeat (first | refine bN ?_ _ | refine bD ?_ | refine bA ?_ _)); refine bR ?_ NB125_139.out _; (with_reducible repeat (first | refine bN ?_ _ | refine bD ?_ | refine bA ?_ _)); refine bR ?_ NB125_139.out _; (with_reducible repeat (first | refine bN ?_ _ | refine bD ?_ | refine bA ?_ _)); refine bR ?_ NB125_139.out _; (with_reducible repeat (first | refine bN ?_ _ | refine bD ?_ | refine bA ?_ _)); refine bR ?_ NB125_139.out _; (with_reducible repeat (first | refine bN ?_ _ | refine bD ?_ | refine bA ?_ _)); exact BK125.out⟩, ⟨by (with_reducible repeat (first | refine bN ?_ _ | refine bD ?_ | refine bA ?_ _)); refine bU (cs := #[.int .i64 ((rd_T50 l3 x40_2).f0), .int .i64 ((rd_T50 l3 x40_2).f1), .int .i64 ((rd_T50 l3 x40_2).f2.f0), .int .i64 0]) ?_ 3 _ rfl; (with_reducible repeat (first | refine bN ?_ _ | refine bD ?_ | refine bA ?_ _)); refine bU (cs := #[.int .i64 ((rd_T50 l3 x40_2).f0), .int .i64 ((rd_T50 l3 x40_2).f1), .int .i64 0, .int .i64 0]) ?_ 2 _ rfl; (with_reducible repeat (first | refine bN ?_ _ | refine bD ?_ | refine bA ?_ _)); refine bU (cs := #[.int .i64 ((rd_T50 l3 x40_2).f0), .int .i64 0, .int .i64 0, .int .i64 0]) ?_ 1 _ rfl; (with_reducible repeat (first | refine bN ?_ _ | refine bD ?_ | refine bA ?_ _)); refine bU (cs := #[.int .i64 0, .int .i64 0, .int .i64 0, .int .i64 0]) ?_ 0 _ rfl; (with_reducible repeat (first | refine bN ?_ _ | refine bD ?_ | refine bA ?_ _)); exact BK139.out⟩, ⟨by repeat (first | (with_reducible first | exact HB.out | apply bL | apply bW | apply b1 | refine bS ?_ GE125.out | refine bS ?_ GE139.out) | exact HB.out)⟩⟩
             ·
              rw [if_neg c34] at H; exact absurd H (by simp)
            ·
             rw [if_neg c33] at H; exact absurd H (by simp)
         case rest =>
          clear HC22; try clear c1
          try clear p1
          try clear q1
          try clear hx1
          try clear c2
          try clear p2
          try clear c3
          try clear p6
          try clear c8
          try clear c8b0
          try clear c9
          try clear c9b0
          try clear c10
          try clear c10b0
          try clear c11
          try clear c12
          try clear p12
          try clear q12
          try clear hx12
          try clear p13
          try clear q13
          try clear hx13
          try clear p14
          try clear q14
          try clear hx14
          try clear c16
          try clear c19
          try clear c19b0
          try clear c20
          try clear c20b0
          try clear c21
          try clear c21b0
          try clear c24
          try clear c26
          try clear c26b0
          try clear c27
          try clear c29
          try clear c29b0
          try clear c30
          try clear c33
          try clear c33b0
          try clear c34
          try clear c34b0
          try clear c35
          try clear hcz25_0
          try clear hcz25_1
          try clear hcz25_2
          try clear hcz25_3
          try clear hcz28_0
          try clear hcz28_1
          try clear hcz28_2
          try clear hcz28_3
          try clear hcz31_0
          try clear hcz31_1
          try clear hcz31_2
          try clear hcz31_3
          try clear hcz32_0
          try clear hcz32_1
          try clear hcz32_10
          try clear hcz32_2
          try clear hcz32_3
          try clear hcz32_4
          try clear hcz32_5
          try clear hcz32_6
          try clear hcz32_7
          try clear hcz32_8
          try clear hcz32_9
          try clear hcz36_0
          try clear hcz36_1
          try clear hcz36_2
          try clear hcz36_3
          try clear hcz37_0
          try clear hcz37_1
          try clear hcz37_10
          try clear hcz37_2
          try clear hcz37_3
          try clear hcz37_4
          try clear hcz37_5
          try clear hcz37_6
          try clear hcz37_7
          try clear hcz37_8
          try clear hcz37_9
          try clear hcz7_0
          try clear hcz7_1
          try clear hcz7_10
          try clear hcz7_2
          try clear hcz7_3
          try clear hcz7_4
          try clear hcz7_5
          try clear hcz7_6
          try clear hcz7_7
          try clear hcz7_8
          try clear hcz7_9
          try clear hfz25_0
          try clear hfz25_1
          try clear hfz25_2
          try clear hfz25_3
          try clear hfz28_0
          try clear hfz28_1
          try clear hfz28_2
          try clear hfz28_3
          try clear hfz31_0
          try clear hfz31_1
          try clear hfz31_2
          try clear hfz31_3
          try clear hfz32_0
          try clear hfz32_1
          try clear hfz32_10
          try clear hfz32_2
          try clear hfz32_3
          try clear hfz32_4
          try clear hfz32_5
          try clear hfz32_6
          try clear hfz32_7
          try clear hfz32_8
          try clear hfz32_9
          try clear hfz36_0
          try clear hfz36_1
          try clear hfz36_2
          try clear hfz36_3
          try clear hfz37_0
          try clear hfz37_1
          try clear hfz37_10
          try clear hfz37_2
          try clear hfz37_3
          try clear hfz37_4
          try clear hfz37_5
          try clear hfz37_6
          try clear hfz37_7
          try clear hfz37_8
          try clear hfz37_9
          try clear hfz7_0
          try clear hfz7_1
          try clear hfz7_10
          try clear hfz7_2
          try clear hfz7_3
          try clear hfz7_4
          try clear hfz7_5
          try clear hfz7_6
          try clear hfz7_7
          try clear hfz7_8
          try clear hfz7_9
          try clear hx127_0
          try clear hx138_0
          try clear hx138_1
          try clear hx138_2
          try clear hx138_3
          try clear hx140_0
          try clear hx140_1
          try clear hx140_2
          try clear hx140_3
          try clear hx140_4
          try clear p1
          try clear p12
          try clear p127
          try clear p138
          try clear p140
          try clear p2
          try clear p6
          try clear q1
          try clear q12
          try clear q127
          try clear q138
          try clear q140
          obtain ⟨kq, x64_21, rfl, HA, HJ21, HO_9, BK125, BK139, HB⟩ := hcut
          cases kq with
          | zero => exact absurd HA.out (by simp [rain_Cells.j2])
          | succ kj21 =>
           have H := HA.out
           clear HA; simp only [rain_Cells.j2] at H; by_cases c38 : x64_21 = true
           ·
            subst c38; have H1 : (rain_Cells.l1 kj21 x9_2 l3 (l3.length : Int) (wrap64 (x40_2 + 1)) a0_0 l0_1 a0_2 l0_3 l0_4 l0_5 l0_6 l0_7 l0_8 l0_9 a0_10) = some r := by rw [if_pos rfl] at H; exact H
            clear H; have H := H1
            clear H1; have H' := Aside0.mk H
            clear H; go_wp2
            go_roundg kj21
            case measure => have := HK1.out; have := HK2.out; have := HJ21.out; omega
            case rel => exact ⟨(x9_2), (wrap64 (x40_2 + 1)), (by first | rfl | (simp; done) | (simp [*]; done)), H', ⟨by have := HK1.out; have := HK2.out; have := HJ21.out; omega⟩, ⟨by (with_reducible repeat (first | apply Kd.R_alloc | apply Kd.R_drewN | apply Kd.R_drew)); exact HO_9.out⟩, ⟨by (with_reducible repeat (first | refine bN ?_ _ | refine bD ?_ | refine bA ?_ _)); exact BK125.out⟩, ⟨by repeat (first | (with_reducible first | exact HB.out | apply bL | apply bW | apply b1 | refine bS ?_ GE125.out | refine bS ?_ GE139.out) | exact HB.out)⟩⟩
           ·
            replace c38 := Bool.eq_false_iff.mpr c38
            subst c38; have H1 : (if 0 ≤ ((rd_T50 l3 x40_2).f0) then (if ((rd_T50 l3 x40_2).f0) < (l0_6.length : Int) then (if ((rd_T67 l0_6 ((rd_T50 l3 x40_2).f0)).f2) < 0 then (rain_Cells.j3 kj21 x9_2 ((rd_T67 l0_6 ((rd_T50 l3 x40_2).f0)).f2) l3 (l3.length : Int) x40_2 true a0_0 l0_1 a0_2 l0_3 l0_4 l0_5 l0_6 l0_7 l0_8 l0_9 a0_10 ((rd_T50 l3 x40_2).f0) ((rd_T50 l3 x40_2).f1) ((rd_T50 l3 x40_2).f2.f0) ((rd_T50 l3 x40_2).f2.f1)) else (if ((rd_T67 l0_6 ((rd_T50 l3 x40_2).f0)).f2) ≥ (x9_2.length : Int) then (rain_Cells.j3 kj21 x9_2 ((rd_T67 l0_6 ((rd_T50 l3 x40_2).f0)).f2) l3 (l3.length : Int) x40_2 true a0_0 l0_1 a0_2 l0_3 l0_4 l0_5 l0_6 l0_7 l0_8 l0_9 a0_10 ((rd_T50 l3 x40_2).f0) ((rd_T50 l3 x40_2).f1) ((rd_T50 l3 x40_2).f2.f0) ((rd_T50 l3 x40_2).f2.f1)) else ((span_Right.f ((rd_T50 l3 x40_2).f2.f0) ((rd_T50 l3 x40_2).f2.f1)).bind fun t142 => (rain_Cells.j3 kj21 x9_2 ((rd_T67 l0_6 ((rd_T50 l3 x40_2).f0)).f2) l3 (l3.length : Int) x40_2 (!t142) a0_0 l0_1 a0_2 l0_3 l0_4 l0_5 l0_6 l0_7 l0_8 l0_9 a0_10 ((rd_T50 l3 x40_2).f0) ((rd_T50 l3 x40_2).f1) ((rd_T50 l3 x40_2).f2.f0) ((rd_T50 l3 x40_2).f2.f1))))) else (none)) else (none)) = some r := by rw [if_neg (show ¬ (false = true) by decide)] at H; exact H
            clear H; have H := H1
            clear H1; by_cases c39 : 0 ≤ ((rd_T50 l3 x40_2).f0)
            ·
             rw [if_pos c39] at H; have c39b0 : decide (0 ≤ ((rd_T50 l3 x40_2).f0)) = true := decide_eq_true c39
             clear c39; by_cases c40 : ((rd_T50 l3 x40_2).f0) < (l0_6.length : Int)
             ·
              rw [if_pos c40] at H; have c40b0 : decide (((rd_T50 l3 x40_2).f0) < (l0_6.length : Int)) = true := decide_eq_true c40
              clear c40; have HC41 := Aside0.mk H
              clear H; have hnb42 := NB125_139.out
              have hnc42 := NB139_125.out
              have hcz43_0 : wc.cell? ⟨gb125, 0, none⟩ = some (.string a0_0) := (bC BK125.out 0).trans rfl
              have hcz43_1 : wc.cell? ⟨gb125, 1, none⟩ = some (.slice A0_1 l0_1.length c0_1) := (bC BK125.out 1).trans rfl
              have hcz43_2 : wc.cell? ⟨gb125, 2, none⟩ = some (.int .i64 a0_2) := (bC BK125.out 2).trans rfl
              have hcz43_3 : wc.cell? ⟨gb125, 3, none⟩ = some (.slice A0_3 l0_3.length c0_3) := (bC BK125.out 3).trans rfl
              have hcz43_4 : wc.cell? ⟨gb125, 4, none⟩ = some (.slice A0_4 l0_4.length c0_4) := (bC BK125.out 4).trans rfl
              have hcz43_5 : wc.cell? ⟨gb125, 5, none⟩ = some (.slice A0_5 l0_5.length c0_5) := (bC BK125.out 5).trans rfl
              have hcz43_6 : wc.cell? ⟨gb125, 6, none⟩ = some (.slice A0_6 l0_6.length c0_6) := (bC BK125.out 6).trans rfl
              have hcz43_7 : wc.cell? ⟨gb125, 7, none⟩ = some (.slice A0_7 l0_7.length c0_7) := (bC BK125.out 7).trans rfl
              have hcz43_8 : wc.cell? ⟨gb125, 8, none⟩ = some (.slice A0_8 l0_8.length c0_8) := (bC BK125.out 8).trans rfl
              have hcz43_9 : wc.cell? ⟨gb125, 9, none⟩ = some (.slice A0_9 l0_9.length c0_9) := (bC BK125.out 9).trans rfl
              have hcz43_10 : wc.cell? ⟨gb125, 10, none⟩ = some (.int .i64 a0_10) := (bC BK125.out 10).trans rfl
              have hfz43_0 := bF BK125.out 0
              have hfz43_1 := bF BK125.out 1
              have hfz43_2 := bF BK125.out 2
              have hfz43_3 := bF BK125.out 3
              have hfz43_4 := bF BK125.out 4
              have hfz43_5 := bF BK125.out 5
              have hfz43_6 := bF BK125.out 6
              have hfz43_7 := bF BK125.out 7
              have hfz43_8 := bF BK125.out 8
              have hfz43_9 := bF BK125.out 9
              have hfz43_10 := bF BK125.out 10
              have hcz44_0 : wc.cell? ⟨gb139, 0, none⟩ = some (.int .i64 ((rd_T50 l3 x40_2).f0)) := (bC BK139.out 0).trans rfl
              have hcz44_1 : wc.cell? ⟨gb139, 1, none⟩ = some (.int .i64 ((rd_T50 l3 x40_2).f1)) := (bC BK139.out 1).trans rfl
              have hcz44_2 : wc.cell? ⟨gb139, 2, none⟩ = some (.int .i64 ((rd_T50 l3 x40_2).f2.f0)) := (bC BK139.out 2).trans rfl
              have hcz44_3 : wc.cell? ⟨gb139, 3, none⟩ = some (.int .i64 ((rd_T50 l3 x40_2).f2.f1)) := (bC BK139.out 3).trans rfl
              have hfz44_0 := bF BK139.out 0
              have hfz44_1 := bF BK139.out 1
              have hfz44_2 := bF BK139.out 2
              have hfz44_3 := bF BK139.out 3
              have p141 : 0 ≤ (((rd_T50 l3 x40_2).f0) : Int) := of_decide_eq_true (by first | (with_reducible assumption) | assumption)
              have q141 : ((rd_T50 l3 x40_2).f0) < (l0_6.length : Int) := of_decide_eq_true (by first | (with_reducible assumption) | assumption)
              obtain ⟨ad141, e141, hx141_0, hx141_1, hx141_2, hx141_3, hx141_4⟩ := at_T67 HR0_6.out ((rd_T50 l3 x40_2).f0) p141 q141
              cases e141
              replace hx141_0 := (HB.out.cell (wL w _ hx141_0)).trans hx141_0
              replace hx141_1 := (HB.out.cell (wL w _ hx141_1)).trans hx141_1
              replace hx141_2 := (HB.out.cell (wL w _ hx141_2)).trans hx141_2
              replace hx141_3 := (HB.out.cell (wL w _ hx141_3)).trans hx141_3
              replace hx141_4 := (HB.out.cell (wL w _ hx141_4)).trans hx141_4
              replace p141 := eq_true p141
              replace q141 := eq_true q141
              go_upto_region 15 with (fail)
              go_cut [85] (fun v85 wc => ∃ (kq : Nat) (x85_40 : Bool), v85 = .bool x85_40 ∧ Aside0 (rain_Cells.j3 kq x9_2 ((rd_T67 l0_6 ((rd_T50 l3 x40_2).f0)).f2) l3 (l3.length : Int) x40_2 x85_40 a0_0 l0_1 a0_2 l0_3 l0_4 l0_5 l0_6 l0_7 l0_8 l0_9 a0_10 ((rd_T50 l3 x40_2).f0) ((rd_T50 l3 x40_2).f1) ((rd_T50 l3 x40_2).f2.f0) ((rd_T50 l3 x40_2).f2.f1) = some r) ∧ Aside0 (kq ≤ kj21) ∧ Aside0 (Kd.R k40 40 wc w.heap.size (fun _ => True) u9 x9_2) ∧ Aside0 (wc.heap[gb125]? = some (.cells #[.string a0_0, (.slice A0_1 l0_1.length c0_1), .int .i64 a0_2, (.slice A0_3 l0_3.length c0_3), (.slice A0_4 l0_4.length c0_4), (.slice A0_5 l0_5.length c0_5), (.slice (some ad141) l0_6.length c0_6), (.slice A0_7 l0_7.length c0_7), (.slice A0_8 l0_8.length c0_8), (.slice A0_9 l0_9.length c0_9), .int .i64 a0_10] 31 (0, 0))) ∧ Aside0 (wc.heap[gb139]? = some (.cells #[.int .i64 ((rd_T50 l3 x40_2).f0), .int .i64 ((rd_T50 l3 x40_2).f1), .int .i64 ((rd_T50 l3 x40_2).f2.f0), .int .i64 ((rd_T50 l3 x40_2).f2.f1)] 50 (0, 0))) ∧ Aside0 (Below w.heap.size w wc))
              case first =>
               have H := HC41.out
               clear HC41; by_cases c45 : ((rd_T67 l0_6 ((rd_T50 l3 x40_2).f0)).f2) < 0
               ·
                rw [if_pos c45] at H; have c45b0 : decide (((rd_T67 l0_6 ((rd_T50 l3 x40_2).f0)).f2) < 0) = true := decide_eq_true c45
                clear c45; (first | rw [c45b0] | (simp only [i64_w, i32_w]; rw [c45b0]) | skip)
                have H' := Aside0.mk H
                clear H
                as_aux_lemma =>
                 go_wp2
                 go_meet
                 case rel => exact ⟨_, (true), (by first | rfl | (simp; done) | (simp [*]; done)), H', ⟨by have := HK1.out; have := HK2.out; have := HJ21.out; first | omega | exact Nat.le_refl _⟩, ⟨by (with_reducible repeat (first | apply Kd.R_alloc | apply Kd.R_drewN | apply Kd.R_drew)); exact HO_9.out⟩, ⟨by (with_reducible repeat (first | refine bN ?_ _ | refine bD ?_ | refine bA ?_ _)); exact BK125.out⟩, ⟨by (with_reducible repeat (first | refine bN ?_ _ | refine bD ?_ | refine bA ?_ _)); exact BK139.out⟩, ⟨by repeat (first | (with_reducible first | exact HB.out | apply bL | apply bW | apply b1 | refine bS ?_ GE125.out | refine bS ?_ GE139.out) | exact HB.out)⟩⟩
               ·
                rw [if_neg c45] at H; have c45b0 : decide (((rd_T67 l0_6 ((rd_T50 l3 x40_2).f0)).f2) < 0) = false := decide_eq_false c45
                clear c45; (first | rw [c45b0] | (simp only [i64_w, i32_w]; rw [c45b0]) | skip)
                by_cases c46 : ((rd_T67 l0_6 ((rd_T50 l3 x40_2).f0)).f2) ≥ (x9_2.length : Int)
                ·
                 rw [if_pos c46] at H; have c46b0 : decide ((x9_2.length : Int) ≤ ((rd_T67 l0_6 ((rd_T50 l3 x40_2).f0)).f2)) = true := decide_eq_true c46
                 clear c46; have H' := Aside0.mk H
                 clear H; obtain ⟨Ao47, co47, eo47⟩ := Kd.R_slice HO_9.out
                 subst eo47
                 as_aux_lemma =>
                  go_wp2
                  go_meet
                  case rel => exact ⟨_, (true), (by first | rfl | (simp; done) | (simp [*]; done)), H', ⟨by have := HK1.out; have := HK2.out; have := HJ21.out; first | omega | exact Nat.le_refl _⟩, ⟨by (with_reducible repeat (first | apply Kd.R_alloc | apply Kd.R_drewN | apply Kd.R_drew)); exact HO_9.out⟩, ⟨by (with_reducible repeat (first | refine bN ?_ _ | refine bD ?_ | refine bA ?_ _)); exact BK125.out⟩, ⟨by (with_reducible repeat (first | refine bN ?_ _ | refine bD ?_ | refine bA ?_ _)); exact BK139.out⟩, ⟨by repeat (first | (with_reducible first | exact HB.out | apply bL | apply bW | apply b1 | refine bS ?_ GE125.out | refine bS ?_ GE139.out) | exact HB.out)⟩⟩
                ·
                 rw [if_neg c46] at H; have c46b0 : decide ((x9_2.length : Int) ≤ ((rd_T67 l0_6 ((rd_T50 l3 x40_2).f0)).f2)) = false := decide_eq_false c46
                 clear c46; replace H := Option.bind_eq_some_iff.mp H
                 obtain ⟨t142, A480, H⟩ := H
                 have A48 := Aside0.mk A480
                 clear A480; have H' := Aside0.mk H
                 clear H; obtain ⟨Ao49, co49, eo49⟩ := Kd.R_slice HO_9.out
                 subst eo49; have hnb50 := NB139_125.out
                 have hnc50 := NB125_139.out
                 have hcz51_0 : wc.cell? ⟨gb139, 0, none⟩ = some (.int .i64 ((rd_T50 l3 x40_2).f0)) := (bC BK139.out 0).trans rfl
                 have hcz51_1 : wc.cell? ⟨gb139, 1, none⟩ = some (.int .i64 ((rd_T50 l3 x40_2).f1)) := (bC BK139.out 1).trans rfl
                 have hcz51_2 : wc.cell? ⟨gb139, 2, none⟩ = some (.int .i64 ((rd_T50 l3 x40_2).f2.f0)) := (bC BK139.out 2).trans rfl
                 have hcz51_3 : wc.cell? ⟨gb139, 3, none⟩ = some (.int .i64 ((rd_T50 l3 x40_2).f2.f1)) := (bC BK139.out 3).trans rfl
                 have hfz51_0 := bF BK139.out 0
                 have hfz51_1 := bF BK139.out 1
                 have hfz51_2 := bF BK139.out 2
                 have hfz51_3 := bF BK139.out 3
                 as_aux_lemma =>
                  go_wp2_with (first | (go_at_call 17; (with_reducible refine (span_Right.calls ((rd_T50 l3 x40_2).f2.f0) ((rd_T50 l3 x40_2).f2.f1) t142 _ A48.out).mono ?_); rintro e w52 ⟨rfl, hb⟩; (try clear A48); have n0_ := Aside0.mk (Kd.R_below (by (with_reducible repeat (first | apply Kd.R_alloc | apply Kd.R_drewN | apply Kd.R_drew)); exact HO_9.out) hb); have n1_ := Aside0.mk (bB (g := gb125) (o := .cells #[.string a0_0, .slice A0_1 l0_1.length c0_1, .int .i64 a0_2, .slice A0_3 l0_3.length c0_3, .slice A0_4 l0_4.length c0_4, .slice A0_5 l0_5.length c0_5, .slice (some ad141) l0_6.length c0_6, .slice A0_7 l0_7.length c0_7, .slice A0_8 l0_8.length c0_8, .slice A0_9 l0_9.length c0_9, .int .i64 a0_10] 31 (0, 0)) (by (with_reducible repeat (first | refine bN ?_ _ | refine bD ?_ | refine bA ?_ _)); exact BK125.out) hb); have n2_ := Aside0.mk (bB (g := gb139) (o := .cells #[.int .i64 ((rd_T50 l3 x40_2).f0), .int .i64 ((rd_T50 l3 x40_2).f1), .int .i64 ((rd_T50 l3 x40_2).f2.f0), .int .i64 ((rd_T50 l3 x40_2).f2.f1)] 50 (0, 0)) (by (with_reducible repeat (first | refine bN ?_ _ | refine bD ?_ | refine bA ?_ _)); exact BK139.out) hb); have n3_ := Aside0.mk (bP (by repeat (first | (with_reducible first | exact HB.out | apply bL | apply bW | apply b1 | refine bS ?_ GE125.out | refine bS ?_ GE139.out) | exact HB.out)) hb); clear HO_9; clear BK125; clear BK139; clear HB; have HO_9 := n0_; have BK125 := n1_; have BK139 := n2_; have HB := n3_; clear n0_ n1_ n2_ n3_; (try clear hb); (try clear hb2); (try clear hk); (try clear hi)))
                  go_meet
                  case rel => exact ⟨_, (!t142), (by first | rfl | (simp; done) | (simp [*]; done)), H', ⟨by have := HK1.out; have := HK2.out; have := HJ21.out; first | omega | exact Nat.le_refl _⟩, ⟨by (with_reducible repeat (first | apply Kd.R_alloc | apply Kd.R_drewN | apply Kd.R_drew)); exact HO_9.out⟩, ⟨by (with_reducible repeat (first | refine bN ?_ _ | refine bD ?_ | refine bA ?_ _)); exact BK125.out⟩, ⟨by (with_reducible repeat (first | refine bN ?_ _ | refine bD ?_ | refine bA ?_ _)); exact BK139.out⟩, ⟨by repeat (first | (with_reducible first | exact HB.out | apply bL | apply bW | apply b1 | refine bS ?_ GE125.out | refine bS ?_ GE139.out) | exact HB.out)⟩⟩
              case rest =>
               clear HC41; try clear c1
               try clear p1
               try clear q1
               try clear hx1
               try clear c2
               try clear p2
               try clear c3
               try clear c4
               try clear c5
               try clear p6
               try clear c8
               try clear c8b0
               try clear c9
               try clear c9b0
               try clear c10
               try clear c10b0
               try clear c11
               try clear c12
               try clear p12
               try clear q12
               try clear hx12
               try clear p13
               try clear q13
               try clear hx13
               try clear p14
               try clear q14
               try clear hx14
               try clear c16
               try clear c19
               try clear c19b0
               try clear c20
               try clear c20b0
               try clear c21
               try clear c21b0
               try clear c24
               try clear c26
               try clear c26b0
               try clear c27
               try clear c29
               try clear c29b0
               try clear c30
               try clear c33
               try clear c33b0
               try clear c34
               try clear c34b0
               try clear c35
               try clear c38
               try clear c39
               try clear c39b0
               try clear c40
               try clear c40b0
               try clear c42
               try clear c45
               try clear c45b0
               try clear c46
               try clear c46b0
               try clear c50
               try clear hcz25_0
               try clear hcz25_1
               try clear hcz25_2
               try clear hcz25_3
               try clear hcz28_0
               try clear hcz28_1
               try clear hcz28_2
               try clear hcz28_3
               try clear hcz31_0
               try clear hcz31_1
               try clear hcz31_2
               try clear hcz31_3
               try clear hcz32_0
               try clear hcz32_1
               try clear hcz32_10
               try clear hcz32_2
               try clear hcz32_3
               try clear hcz32_4
               try clear hcz32_5
               try clear hcz32_6
               try clear hcz32_7
               try clear hcz32_8
               try clear hcz32_9
               try clear hcz36_0
               try clear hcz36_1
               try clear hcz36_2
               try clear hcz36_3
               try clear hcz37_0
               try clear hcz37_1
               try clear hcz37_10
               try clear hcz37_2
               try clear hcz37_3
               try clear hcz37_4
               try clear hcz37_5
               try clear hcz37_6
               try clear hcz37_7
               try clear hcz37_8
               try clear hcz37_9
               try clear hcz43_0
               try clear hcz43_1
               try clear hcz43_10
               try clear hcz43_2
               try clear hcz43_3
               try clear hcz43_4
               try clear hcz43_5
               try clear hcz43_6
               try clear hcz43_7
               try clear hcz43_8
               try clear hcz43_9
               try clear hcz44_0
               try clear hcz44_1
               try clear hcz44_2
               try clear hcz44_3
               try clear hcz51_0
               try clear hcz51_1
               try clear hcz51_2
               try clear hcz51_3
               try clear hcz7_0
               try clear hcz7_1
               try clear hcz7_10
               try clear hcz7_2
               try clear hcz7_3
               try clear hcz7_4
               try clear hcz7_5
               try clear hcz7_6
               try clear hcz7_7
               try clear hcz7_8
               try clear hcz7_9
               try clear hfz25_0
               try clear hfz25_1
               try clear hfz25_2
               try clear hfz25_3
               try clear hfz28_0
               try clear hfz28_1
               try clear hfz28_2
               try clear hfz28_3
               try clear hfz31_0
               try clear hfz31_1
               try clear hfz31_2
               try clear hfz31_3
               try clear hfz32_0
               try clear hfz32_1
               try clear hfz32_10
               try clear hfz32_2
               try clear hfz32_3
               try clear hfz32_4
               try clear hfz32_5
               try clear hfz32_6
               try clear hfz32_7
               try clear hfz32_8
               try clear hfz32_9
               try clear hfz36_0
               try clear hfz36_1
               try clear hfz36_2
               try clear hfz36_3
               try clear hfz37_0
               try clear hfz37_1
               try clear hfz37_10
               try clear hfz37_2
               try clear hfz37_3
               try clear hfz37_4
               try clear hfz37_5
               try clear hfz37_6
               try clear hfz37_7
               try clear hfz37_8
               try clear hfz37_9
               try clear hfz43_0
               try clear hfz43_1
               try clear hfz43_10
               try clear hfz43_2
               try clear hfz43_3
               try clear hfz43_4
               try clear hfz43_5
               try clear hfz43_6
               try clear hfz43_7
               try clear hfz43_8
               try clear hfz43_9
               try clear hfz44_0
               try clear hfz44_1
               try clear hfz44_2
               try clear hfz44_3
               try clear hfz51_0
               try clear hfz51_1
               try clear hfz51_2
               try clear hfz51_3
               try clear hfz7_0
               try clear hfz7_1
               try clear hfz7_10
               try clear hfz7_2
               try clear hfz7_3
               try clear hfz7_4
               try clear hfz7_5
               try clear hfz7_6
               try clear hfz7_7
               try clear hfz7_8
               try clear hfz7_9
               try clear hx127_0
               try clear hx138_0
               try clear hx138_1
               try clear hx138_2
               try clear hx138_3
               try clear hx140_0
               try clear hx140_1
               try clear hx140_2
               try clear hx140_3
               try clear hx140_4
               try clear hx141_0
               try clear hx141_1
               try clear hx141_2
               try clear hx141_3
               try clear hx141_4
               try clear p1
               try clear p12
               try clear p127
               try clear p13
               try clear p138
               try clear p14
               try clear p140
               try clear p141
               try clear p2
               try clear p6
               try clear q1
               try clear q12
               try clear q127
               try clear q13
               try clear q138
               try clear q14
               try clear q140
               try clear q141
               obtain ⟨kq, x85_40, rfl, HA, HJ40, HO_9, BK125, BK139, HB⟩ := hcut
               cases kq with
               | zero => exact absurd HA.out (by simp [rain_Cells.j3])
               | succ kj40 =>
                have H := HA.out
                clear HA; simp only [rain_Cells.j3] at H; by_cases c53 : x85_40 = true
                ·
                 subst c53; have H1 : (rain_Cells.l1 kj40 x9_2 l3 (l3.length : Int) (wrap64 (x40_2 + 1)) a0_0 l0_1 a0_2 l0_3 l0_4 l0_5 l0_6 l0_7 l0_8 l0_9 a0_10) = some r := by rw [if_pos rfl] at H; exact H
                 clear H; have H := H1
                 clear H1; have H' := Aside0.mk H
                 clear H; go_wp2
                 go_roundg kj40
                 case measure => have := HK1.out; have := HK2.out; have := HJ21.out; have := HJ40.out; omega
                 case rel => exact ⟨(x9_2), (wrap64 (x40_2 + 1)), (by first | rfl | (simp; done) | (simp [*]; done)), H', ⟨by have := HK1.out; have := HK2.out; have := HJ21.out; have := HJ40.out; omega⟩, ⟨by (with_reducible repeat (first | apply Kd.R_alloc | apply Kd.R_drewN | apply Kd.R_drew)); exact HO_9.out⟩, ⟨by (with_reducible repeat (first | refine bN ?_ _ | refine bD ?_ | refine bA ?_ _)); exact BK125.out⟩, ⟨by repeat (first | (with_reducible first | exact HB.out | apply bL | apply bW | apply b1 | refine bS ?_ GE125.out | refine bS ?_ GE139.out) | exact HB.out)⟩⟩
                ·
                 replace c53 := Bool.eq_false_iff.mpr c53
                 subst c53; have H1 : (if 0 ≤ ((rd_T67 l0_6 ((rd_T50 l3 x40_2).f0)).f2) then (if ((rd_T67 l0_6 ((rd_T50 l3 x40_2).f0)).f2) < (x9_2.length : Int) then ((span_Meet.f ((rd_T40 x9_2 ((rd_T67 l0_6 ((rd_T50 l3 x40_2).f0)).f2)).f0) ((rd_T40 x9_2 ((rd_T67 l0_6 ((rd_T50 l3 x40_2).f0)).f2)).f1) ((rd_T50 l3 x40_2).f2.f0) ((rd_T50 l3 x40_2).f2.f1)).bind fun bt144 => (if bt144.2.2 = true then (rain_Cells.l1 kj40 (x9_2.set (((rd_T67 l0_6 ((rd_T50 l3 x40_2).f0)).f2) : Int).toNat (⟨bt144.1, bt144.2.1⟩ : S40)) l3 (l3.length : Int) (wrap64 (x40_2 + 1)) a0_0 l0_1 a0_2 l0_3 l0_4 l0_5 l0_6 l0_7 l0_8 l0_9 a0_10) else (rain_Cells.l1 kj40 x9_2 l3 (l3.length : Int) (wrap64 (x40_2 + 1)) a0_0 l0_1 a0_2 l0_3 l0_4 l0_5 l0_6 l0_7 l0_8 l0_9 a0_10))) else (none)) else (none)) = some r := by rw [if_neg (show ¬ (false = true) by decide)] at H; exact H
                 clear H; have H := H1
                 clear H1; by_cases c54 : 0 ≤ ((rd_T67 l0_6 ((rd_T50 l3 x40_2).f0)).f2)
                 ·
                  rw [if_pos c54] at H; have c54b0 : decide (0 ≤ ((rd_T67 l0_6 ((rd_T50 l3 x40_2).f0)).f2)) = true := decide_eq_true c54
                  clear c54; by_cases c55 : ((rd_T67 l0_6 ((rd_T50 l3 x40_2).f0)).f2) < (x9_2.length : Int)
                  ·
                   rw [if_pos c55] at H; have c55b0 : decide (((rd_T67 l0_6 ((rd_T50 l3 x40_2).f0)).f2) < (x9_2.length : Int)) = true := decide_eq_true c55
                   clear c55; replace H := Option.bind_eq_some_iff.mp H
                   obtain ⟨⟨t144, t145, t146⟩, A560, H⟩ := H
                   dsimp only at H
                   have A56 := Aside0.mk A560
                   clear A560; by_cases c57 : t146 = true
                   ·
                    subst c57; have H1 : (rain_Cells.l1 kj40 (x9_2.set (((rd_T67 l0_6 ((rd_T50 l3 x40_2).f0)).f2) : Int).toNat (⟨t144, t145⟩ : S40)) l3 (l3.length : Int) (wrap64 (x40_2 + 1)) a0_0 l0_1 a0_2 l0_3 l0_4 l0_5 l0_6 l0_7 l0_8 l0_9 a0_10) = some r := by rw [if_pos rfl] at H; exact H
                    clear H; have H := H1
                    clear H1; obtain ⟨y148, hy148⟩ : ∃ y_ : List (S40), y_ = (x9_2.set (((rd_T67 l0_6 ((rd_T50 l3 x40_2).f0)).f2) : Int).toNat (⟨t144, t145⟩ : S40)) := ⟨_, rfl⟩
                    replace H : (rain_Cells.l1 kj40 y148 l3 (l3.length : Int) (wrap64 (x40_2 + 1)) a0_0 l0_1 a0_2 l0_3 l0_4 l0_5 l0_6 l0_7 l0_8 l0_9 a0_10) = some r := by first | (rw [hy148]; with_reducible exact H) | (have H2_ := (Option.bind_some _ _).symm.trans H; rw [hy148]; with_reducible exact H2_) | (have H2_ := (Option.bind_some _ _).symm.trans H; with_reducible exact H2_) | with_reducible exact H | (rw [hy148]; exact H) | exact H
                    have Ny148 := Aside0.mk hy148
                    clear hy148; have H' := Aside0.mk H
                    clear H; try go_wp2
                    have n0_ := Aside0.mk (Kd.R_drew HO_9.out)
                    have n1_ := Aside0.mk (bD BK125.out)
                    have n2_ := Aside0.mk (bD BK139.out)
                    have n3_ := Aside0.mk (b1 HB.out)
                    clear HO_9; clear BK125; clear BK139; clear HB; have HO_9 := n0_
                    have BK125 := n1_
                    have BK139 := n2_
                    have HB := n3_
                    clear n0_ n1_ n2_ n3_; obtain ⟨Ao60, co60, eo60⟩ := Kd.R_slice HO_9.out
                    (first | subst eo60 | (injection eo60 with f1_ f2_ f3_; have f4_ := f1_.symm; have f5_ := f3_.symm; clear f1_ f2_ f3_; subst f4_; subst f5_))
                    have p143 : 0 ≤ (((rd_T67 l0_6 ((rd_T50 l3 x40_2).f0)).f2) : Int) := of_decide_eq_true (by first | (with_reducible assumption) | assumption)
                    have q143 : ((rd_T67 l0_6 ((rd_T50 l3 x40_2).f0)).f2) < (x9_2.length : Int) := of_decide_eq_true (by first | (with_reducible assumption) | assumption)
                    obtain ⟨ad143, e143, hx143_0, hx143_1⟩ := at_T40 (Kd.R_reads' HO_9.out).2.2 ((rd_T67 l0_6 ((rd_T50 l3 x40_2).f0)).f2) p143 q143
                    cases e143
                    replace p143 := eq_true p143
                    replace q143 := eq_true q143
                    refine start_ (n := 13) (S := fun w' => w'.cell? ⟨gb139, 0, none⟩ = some (.int .i64 ((rd_T50 l3 x40_2).f0)) ∧ w'.cell? ⟨gb139, 1, none⟩ = some (.int .i64 ((rd_T50 l3 x40_2).f1)) ∧ w'.cell? ⟨gb139, 2, none⟩ = some (.int .i64 ((rd_T50 l3 x40_2).f2.f0)) ∧ w'.cell? ⟨gb139, 3, none⟩ = some (.int .i64 ((rd_T50 l3 x40_2).f2.f1)) ∧ w'.cell? (ad143.add ((((rd_T67 l0_6 ((rd_T50 l3 x40_2).f0)).f2)).toNat * 2)) = some (.int .i64 ((rd_T40 x9_2 ((rd_T67 l0_6 ((rd_T50 l3 x40_2).f0)).f2)).f0)) ∧ w'.cell? ⟨(ad143.add ((((rd_T67 l0_6 ((rd_T50 l3 x40_2).f0)).f2)).toNat * 2)).block, (ad143.add ((((rd_T67 l0_6 ((rd_T50 l3 x40_2).f0)).f2)).toNat * 2)).off + 1, none⟩ = some (.int .i64 ((rd_T40 x9_2 ((rd_T67 l0_6 ((rd_T50 l3 x40_2).f0)).f2)).f1))) (ds := []) #[F,F,F,F,F,F,F,F,F,F,F,F,F] (by kernel_rfl) rfl rfl ⟨(bC BK139.out 0).trans rfl, (bC BK139.out 1).trans rfl, (bC BK139.out 2).trans rfl, (bC BK139.out 3).trans rfl, hx143_0, hx143_1⟩ (fun hHeld => ?_); refine with_tabW rain_Cells.tab16 rain_Cells.bits16 (fun HT_ HW_ => ?_)
                    generalize wc.drew = w59 at HO_9 BK125 BK139 HB hx143_0 hx143_1 hHeld ⊢
                    refine pure_ (i := 0) (N := some 87) (v := ?_) (a' := ?_) #[T,F,F,F,F,F,F,F,F,F,F,F,F] rfl rfl (any_of HT_.out (by kernel_rfl)) (fun _ _ _ h => h) (Or.inl ⟨by rfl, ?_⟩) ?_ ?_
                    rotate_left
                    ·
                     intro w'; go_simp; with_reducible rfl
                    rotate_left
                    ·
                     simp only [Act.put, lA, lZ, lS, i64_w, i32_w]; rfl
                    refine pure_ (i := 1) (N := some 88) (v := ?_) (a' := ?_) #[T,T,F,F,F,F,F,F,F,F,F,F,F] rfl rfl (any_of HT_.out (by kernel_rfl)) (fun _ _ _ h => h) (Or.inl ⟨by rfl, ?_⟩) ?_ ?_
                    rotate_left
                    ·
                     intro w'; go_simp; with_reducible rfl
                    rotate_left
                    ·
                     simp only [Act.put, lA, lZ, lS, i64_w, i32_w]; rfl
                    refine pure_ (i := 2) (N := some 89) (v := ?_) (a' := ?_) #[T,T,T,F,F,F,F,F,F,F,F,F,F] rfl rfl (any_of HT_.out (by kernel_rfl)) (fun _ _ _ h => h) (Or.inl ⟨by rfl, ?_⟩) ?_ ?_
                    rotate_left
                    ·
                     intro w'; go_simp; with_reducible rfl
                    rotate_left
                    ·
                     simp only [Act.put, lA, lZ, lS, i64_w, i32_w]; rfl
                    refine pure_ (i := 4) (N := some 91) (v := ?_) (a' := ?_) #[T,T,T,F,T,F,F,F,F,F,F,F,F] rfl rfl (any_of HT_.out (by kernel_rfl)) (fun _ _ _ h => h) (Or.inl ⟨by rfl, ?_⟩) ?_ ?_
                    rotate_left
                    ·
                     intro w'; go_simp; with_reducible rfl
                    rotate_left
                    ·
                     simp only [Act.put, lA, lZ, lS, i64_w, i32_w]; rfl
                    refine take_ (i := 3) (N := some 90) (v := ?_) (a' := ?_) #[T,T,T,T,T,F,F,F,F,F,F,F,F] rfl rfl (take_ofW HT_.out HW_.out (by kernel_rfl)) (fun _ _ _ h => h) (Or.inl ⟨by rfl, ?_⟩) hHeld ?_ ?_
                    rotate_left
                    ·
                     rintro w' ⟨s0, s1, s2, s3, s4, s5⟩
                     go_simp; with_reducible rfl
                    rotate_left
                    ·
                     simp only [Act.put, lA, lZ, lS, i64_w, i32_w]; rfl
                    refine take_ (i := 5) (N := some 92) (v := ?_) (a' := ?_) #[T,T,T,T,T,T,F,F,F,F,F,F,F] rfl rfl (take_ofW HT_.out HW_.out (by kernel_rfl)) (fun _ _ _ h => h) (Or.inl ⟨by rfl, ?_⟩) hHeld ?_ ?_
                    rotate_left
                    ·
                     rintro w' ⟨s0, s1, s2, s3, s4, s5⟩
                     go_simp; with_reducible rfl
                    rotate_left
                    ·
                     simp only [Act.put, lA, lZ, lS, i64_w, i32_w]; rfl
                    refine join_ (σ := Nat) 2 #[T,T,T,T,T,T,T,T,T,T,T,F,F] (fun s_ => [(93, .tuple #[.agg #[.int .i64 t144, .int .i64 t145], .bool true]), (15, .pointer (some ⟨s_, 0, none⟩)), (86, .tuple #[.agg #[.int .i64 t144, .int .i64 t145], .bool true]), (94, .agg #[.int .i64 t144, .int .i64 t145]), (95, .bool true)]) (fun s_ w' => (w'.cell? ⟨gb139, 0, none⟩ = some (.int .i64 ((rd_T50 l3 x40_2).f0)) ∧ w'.cell? ⟨gb139, 1, none⟩ = some (.int .i64 ((rd_T50 l3 x40_2).f1)) ∧ w'.cell? ⟨gb139, 2, none⟩ = some (.int .i64 ((rd_T50 l3 x40_2).f2.f0)) ∧ w'.cell? ⟨gb139, 3, none⟩ = some (.int .i64 ((rd_T50 l3 x40_2).f2.f1)) ∧ w'.cell? (ad143.add ((((rd_T67 l0_6 ((rd_T50 l3 x40_2).f0)).f2)).toNat * 2)) = some (.int .i64 ((rd_T40 x9_2 ((rd_T67 l0_6 ((rd_T50 l3 x40_2).f0)).f2)).f0)) ∧ w'.cell? ⟨(ad143.add ((((rd_T67 l0_6 ((rd_T50 l3 x40_2).f0)).f2)).toNat * 2)).block, (ad143.add ((((rd_T67 l0_6 ((rd_T50 l3 x40_2).f0)).f2)).toNat * 2)).off + 1, none⟩ = some (.int .i64 ((rd_T40 x9_2 ((rd_T67 l0_6 ((rd_T50 l3 x40_2).f0)).f2)).f1))) ∧ (Kd.R k40 40 w' w.heap.size (fun k_ => k_ ≠ s_) (.slice (some ad143) x9_2.length co60) x9_2) ∧ (w'.heap[gb125]? = some (.cells #[.string a0_0, .slice A0_1 l0_1.length c0_1, .int .i64 a0_2, .slice A0_3 l0_3.length c0_3, .slice A0_4 l0_4.length c0_4, .slice A0_5 l0_5.length c0_5, .slice (some ad141) l0_6.length c0_6, .slice A0_7 l0_7.length c0_7, .slice A0_8 l0_8.length c0_8, .slice A0_9 l0_9.length c0_9, .int .i64 a0_10] 31 (0, 0))) ∧ (w'.heap[gb139]? = some (.cells #[.int .i64 ((rd_T50 l3 x40_2).f0), .int .i64 ((rd_T50 l3 x40_2).f1), .int .i64 ((rd_T50 l3 x40_2).f2.f0), .int .i64 ((rd_T50 l3 x40_2).f2.f1)] 50 (0, 0))) ∧ (w'.heap[s_]? = some (.cells #[.int .i64 0, .int .i64 0] 40 (0, 0))) ∧ (w.heap.size ≤ s_) ∧ (w.heap.size ≤ s_) ∧ (gb125 ≠ s_) ∧ (s_ ≠ gb125) ∧ (gb139 ≠ s_) ∧ (s_ ≠ gb139) ∧ (Below w.heap.size w w')) ?_ ?_
                    rotate_left
                    ·
                     intro hCont; refine two_ (i := 6) (j := 10) (Ni := some 93) (Nj := some 15) #[T,T,T,T,T,T,T,F,F,F,F,F,F] #[T,T,T,T,T,T,F,F,F,F,T,F,F] rfl rfl rfl rfl (two_of HT_.out (by kernel_rfl)) (by decide) (by decide) (fun K hK => ?_) (fun K hK => ?_)
                     ·
                      skip
                      refine goes_ Try.func28 (by kernel_rfl) rfl #[.agg #[.int .i64 ((rd_T40 x9_2 ((rd_T67 l0_6 ((rd_T50 l3 x40_2).f0)).f2)).f0), .int .i64 ((rd_T40 x9_2 ((rd_T67 l0_6 ((rd_T50 l3 x40_2).f0)).f2)).f1)], .agg #[.int .i64 ((rd_T50 l3 x40_2).f2.f0), .int .i64 ((rd_T50 l3 x40_2).f2.f1)]] (by rfl) rfl rfl (by (try simp only [List.map_toArray, List.map_cons, List.map_nil]); first | done | rfl | (simp only [List.length_drop, List.length_take]; rfl)) ?_
                      with_reducible refine (span_Meet.calls ((rd_T40 x9_2 ((rd_T67 l0_6 ((rd_T50 l3 x40_2).f0)).f2)).f0) ((rd_T40 x9_2 ((rd_T67 l0_6 ((rd_T50 l3 x40_2).f0)).f2)).f1) ((rd_T50 l3 x40_2).f2.f0) ((rd_T50 l3 x40_2).f2.f1) t144 t145 true _ A56.out).mono ?_
                      rintro e w61 ⟨rfl, hb⟩
                      have HS4_ := (hb.cell (wL _ _ (hHeld.2.2.2.2.1))).trans (hHeld.2.2.2.2.1)
                      have HS5_ := (hb.cell (wL _ _ (hHeld.2.2.2.2.2))).trans (hHeld.2.2.2.2.2)
                      refine ⟨_, rfl, ?_⟩
                      have n0_ := Aside0.mk (Kd.R_below (by (with_reducible repeat (first | apply Kd.R_alloc | apply Kd.R_drewN | apply Kd.R_drew)); exact HO_9.out) hb)
                      have n1_ := Aside0.mk (bB (g := gb125) (o := .cells #[.string a0_0, .slice A0_1 l0_1.length c0_1, .int .i64 a0_2, .slice A0_3 l0_3.length c0_3, .slice A0_4 l0_4.length c0_4, .slice A0_5 l0_5.length c0_5, .slice (some ad141) l0_6.length c0_6, .slice A0_7 l0_7.length c0_7, .slice A0_8 l0_8.length c0_8, .slice A0_9 l0_9.length c0_9, .int .i64 a0_10] 31 (0, 0)) (by (with_reducible repeat (first | refine bN ?_ _ | refine bD ?_ | refine bA ?_ _)); exact BK125.out) hb)
                      have n2_ := Aside0.mk (bB (g := gb139) (o := .cells #[.int .i64 ((rd_T50 l3 x40_2).f0), .int .i64 ((rd_T50 l3 x40_2).f1), .int .i64 ((rd_T50 l3 x40_2).f2.f0), .int .i64 ((rd_T50 l3 x40_2).f2.f1)] 50 (0, 0)) (by (with_reducible repeat (first | refine bN ?_ _ | refine bD ?_ | refine bA ?_ _)); exact BK139.out) hb)
                      have n3_ := Aside0.mk (bP (by repeat (first | (with_reducible first | exact HB.out | apply bL | apply bW | apply b1 | refine bS ?_ GE125.out | refine bS ?_ GE139.out) | exact HB.out)) hb)
                      clear HO_9; clear BK125; clear BK139; clear HB; have HO_9 := n0_
                      have BK125 := n1_
                      have BK139 := n2_
                      have HB := n3_
                      clear n0_ n1_ n2_ n3_; (try clear hb); (try clear hb2); (try clear hk); (try clear hi); refine hK.out _ _ ⟨(bC BK139.out 0).trans rfl, (bC BK139.out 1).trans rfl, (bC BK139.out 2).trans rfl, (bC BK139.out 3).trans rfl, HS4_, HS5_⟩ (fun hHeld => ?_)
                      clear hK K; refine norm_ (a' := ?_) ?_ ?_
                      rotate_left
                      ·
                       show Act.put _ (some 93) _ = _
                       simp only [Act.put, lA, lZ, lS, i64_w, i32_w]; rfl
                      refine pure_ (i := 7) (N := some 86) (v := ?_) (a' := ?_) #[T,T,T,T,T,T,T,T,F,F,F,F,F] rfl rfl (any_of HT_.out (by kernel_rfl)) (fun _ _ _ h => h) (Or.inl ⟨by rfl, ?_⟩) ?_ ?_
                      rotate_left
                      ·
                       intro w'; go_simp; with_reducible rfl
                      rotate_left
                      ·
                       simp only [Act.put, lA, lZ, lS, i64_w, i32_w]; rfl
                      refine pure_ (i := 8) (N := some 94) (v := ?_) (a' := ?_) #[T,T,T,T,T,T,T,T,T,F,F,F,F] rfl rfl (any_of HT_.out (by kernel_rfl)) (fun _ _ _ h => h) (Or.inl ⟨by rfl, ?_⟩) ?_ ?_
                      rotate_left
                      ·
                       intro w'; go_simp; with_reducible rfl
                      rotate_left
                      ·
                       simp only [Act.put, lA, lZ, lS, i64_w, i32_w]; rfl
                      refine pure_ (i := 9) (N := some 95) (v := ?_) (a' := ?_) #[T,T,T,T,T,T,T,T,T,T,F,F,F] rfl rfl (any_of HT_.out (by kernel_rfl)) (fun _ _ _ h => h) (Or.inl ⟨by rfl, ?_⟩) ?_ ?_
                      rotate_left
                      ·
                       intro w'; go_simp; with_reducible rfl
                      rotate_left
                      ·
                       simp only [Act.put, lA, lZ, lS, i64_w, i32_w]; rfl
                      refine one_ (i := 10) (N := some 15) #[T,T,T,T,T,T,T,T,T,T,T,F,F] rfl rfl (one_of HT_.out (by kernel_rfl)) (by decide) (fun K hK => ?_)
                      refine box_step ?hg (N := 15) ?hd (cs := #[.int .i64 0, .int .i64 0]) (t := 40) ?hr ?_; (case hd => rfl); (case hg => rfl); (case hr => first | (go_simp; done) | (go_simp; rfl))
                      intro gb147 hg w62 hbox hb; have HS4_ := (hb.cell (wL _ _ (hHeld.2.2.2.2.1))).trans (hHeld.2.2.2.2.1)
                      have HS5_ := (hb.cell (wL _ _ (hHeld.2.2.2.2.2))).trans (hHeld.2.2.2.2.2)
                      have n0_ := Aside0.mk (Kd.R_below (Kd.R_elderB (by (with_reducible repeat (first | apply Kd.R_alloc | apply Kd.R_drewN | apply Kd.R_drew)); exact HO_9.out) gb147 (Nat.le_of_eq hg.symm)) hb)
                      have n1_ := Aside0.mk (bB (g := gb125) (o := .cells #[.string a0_0, .slice A0_1 l0_1.length c0_1, .int .i64 a0_2, .slice A0_3 l0_3.length c0_3, .slice A0_4 l0_4.length c0_4, .slice A0_5 l0_5.length c0_5, .slice (some ad141) l0_6.length c0_6, .slice A0_7 l0_7.length c0_7, .slice A0_8 l0_8.length c0_8, .slice A0_9 l0_9.length c0_9, .int .i64 a0_10] 31 (0, 0)) (by (with_reducible repeat (first | refine bN ?_ _ | refine bD ?_ | refine bA ?_ _)); exact BK125.out) hb)
                      have n2_ := Aside0.mk (bB (g := gb139) (o := .cells #[.int .i64 ((rd_T50 l3 x40_2).f0), .int .i64 ((rd_T50 l3 x40_2).f1), .int .i64 ((rd_T50 l3 x40_2).f2.f0), .int .i64 ((rd_T50 l3 x40_2).f2.f1)] 50 (0, 0)) (by (with_reducible repeat (first | refine bN ?_ _ | refine bD ?_ | refine bA ?_ _)); exact BK139.out) hb)
                      have n3_ := Aside0.mk (bP (by repeat (first | (with_reducible first | exact HB.out | apply bL | apply bW | apply b1 | refine bS ?_ GE125.out | refine bS ?_ GE139.out) | exact HB.out)) hb)
                      have n4_ := Aside0.mk (hbox)
                      have n5_ := Aside0.mk ((by rw [hg]; exact (bZ (by repeat (first | (with_reducible first | exact HB.out | apply bL | apply bW | apply b1 | refine bS ?_ GE125.out | refine bS ?_ GE139.out) | exact HB.out))) : w.heap.size ≤ gb147))
                      have n6_ := Aside0.mk ((by rw [hg]; exact (bZ (by repeat (first | (with_reducible first | exact HB.out | apply bL | apply bW | apply b1 | refine bS ?_ GE125.out | refine bS ?_ GE139.out) | exact HB.out))) : w.heap.size ≤ gb147))
                      have n7_ := Aside0.mk ((by rw [hg]; exact Nat.ne_of_lt (bT (g := gb125) (o := .cells #[.string a0_0, .slice A0_1 l0_1.length c0_1, .int .i64 a0_2, .slice A0_3 l0_3.length c0_3, .slice A0_4 l0_4.length c0_4, .slice A0_5 l0_5.length c0_5, .slice (some ad141) l0_6.length c0_6, .slice A0_7 l0_7.length c0_7, .slice A0_8 l0_8.length c0_8, .slice A0_9 l0_9.length c0_9, .int .i64 a0_10] 31 (0, 0)) (by (with_reducible repeat (first | refine bN ?_ _ | refine bD ?_ | refine bA ?_ _)); exact BK125.out)) : gb125 ≠ gb147))
                      have n8_ := Aside0.mk ((by rw [hg]; exact Nat.ne_of_gt (bT (g := gb125) (o := .cells #[.string a0_0, .slice A0_1 l0_1.length c0_1, .int .i64 a0_2, .slice A0_3 l0_3.length c0_3, .slice A0_4 l0_4.length c0_4, .slice A0_5 l0_5.length c0_5, .slice (some ad141) l0_6.length c0_6, .slice A0_7 l0_7.length c0_7, .slice A0_8 l0_8.length c0_8, .slice A0_9 l0_9.length c0_9, .int .i64 a0_10] 31 (0, 0)) (by (with_reducible repeat (first | refine bN ?_ _ | refine bD ?_ | refine bA ?_ _)); exact BK125.out)) : gb147 ≠ gb125))
                      have n9_ := Aside0.mk ((by rw [hg]; exact Nat.ne_of_lt (bT (g := gb139) (o := .cells #[.int .i64 ((rd_T50 l3 x40_2).f0), .int .i64 ((rd_T50 l3 x40_2).f1), .int .i64 ((rd_T50 l3 x40_2).f2.f0), .int .i64 ((rd_T50 l3 x40_2).f2.f1)] 50 (0, 0)) (by (with_reducible repeat (first | refine bN ?_ _ | refine bD ?_ | refine bA ?_ _)); exact BK139.out)) : gb139 ≠ gb147))
                      have n10_ := Aside0.mk ((by rw [hg]; exact Nat.ne_of_gt (bT (g := gb139) (o := .cells #[.int .i64 ((rd_T50 l3 x40_2).f0), .int .i64 ((rd_T50 l3 x40_2).f1), .int .i64 ((rd_T50 l3 x40_2).f2.f0), .int .i64 ((rd_T50 l3 x40_2).f2.f1)] 50 (0, 0)) (by (with_reducible repeat (first | refine bN ?_ _ | refine bD ?_ | refine bA ?_ _)); exact BK139.out)) : gb147 ≠ gb139))
                      clear HO_9; clear BK125; clear BK139; clear HB; have HO_9 := n0_
                      have BK125 := n1_
                      have BK139 := n2_
                      have HB := n3_
                      have BK147 := n4_
                      have GW147 := n5_
                      have GE147 := n6_
                      have NB125_147 := n7_
                      have NB147_125 := n8_
                      have NB139_147 := n9_
                      have NB147_139 := n10_
                      clear n0_ n1_ n2_ n3_ n4_ n5_ n6_ n7_ n8_ n9_ n10_; clear hb hbox hg; refine hK.out _ _ ⟨(bC BK139.out 0).trans rfl, (bC BK139.out 1).trans rfl, (bC BK139.out 2).trans rfl, (bC BK139.out 3).trans rfl, HS4_, HS5_⟩ (fun hHeld => ?_)
                      clear hK K; refine norm_ (a' := ?_) ?_ ?_
                      rotate_left
                      ·
                       show Act.put _ (some 15) _ = _
                       simp only [Act.put, lA, lZ, lS, i64_w, i32_w]; rfl
                      exact norm_ (by simp only [putAll, Act.put, lA, lZ, lS]) (hCont (gb147) _ ⟨hHeld, (by (with_reducible repeat (first | apply Kd.R_alloc | apply Kd.R_drewN | apply Kd.R_drew)); exact Kd.R_mono HO_9.out (fun _ hk => hk.2)), (by (with_reducible repeat (first | refine bN ?_ _ | refine bD ?_ | refine bA ?_ _)); exact BK125.out), (by (with_reducible repeat (first | refine bN ?_ _ | refine bD ?_ | refine bA ?_ _)); exact BK139.out), (by (with_reducible repeat (first | refine bN ?_ _ | refine bD ?_ | refine bA ?_ _)); exact BK147.out), GW147.out, GE147.out, NB125_147.out, NB147_125.out, NB139_147.out, NB147_139.out, (by repeat (first | (with_reducible first | exact HB.out | apply bL | apply bW | apply b1 | refine bS ?_ GE125.out | refine bS ?_ GE139.out | refine bS ?_ GE147.out) | exact HB.out))⟩)
                     ·
                      skip
                      refine box_step ?hg (N := 15) ?hd (cs := #[.int .i64 0, .int .i64 0]) (t := 40) ?hr ?_; (case hd => rfl); (case hg => rfl); (case hr => first | (go_simp; done) | (go_simp; rfl))
                      intro gb147 hg w61 hbox hb; have HS4_ := (hb.cell (wL _ _ (hHeld.2.2.2.2.1))).trans (hHeld.2.2.2.2.1)
                      have HS5_ := (hb.cell (wL _ _ (hHeld.2.2.2.2.2))).trans (hHeld.2.2.2.2.2)
                      have n0_ := Aside0.mk (Kd.R_below (Kd.R_elderB (by (with_reducible repeat (first | apply Kd.R_alloc | apply Kd.R_drewN | apply Kd.R_drew)); exact HO_9.out) gb147 (Nat.le_of_eq hg.symm)) hb)
                      have n1_ := Aside0.mk (bB (g := gb125) (o := .cells #[.string a0_0, .slice A0_1 l0_1.length c0_1, .int .i64 a0_2, .slice A0_3 l0_3.length c0_3, .slice A0_4 l0_4.length c0_4, .slice A0_5 l0_5.length c0_5, .slice (some ad141) l0_6.length c0_6, .slice A0_7 l0_7.length c0_7, .slice A0_8 l0_8.length c0_8, .slice A0_9 l0_9.length c0_9, .int .i64 a0_10] 31 (0, 0)) (by (with_reducible repeat (first | refine bN ?_ _ | refine bD ?_ | refine bA ?_ _)); exact BK125.out) hb)
                      have n2_ := Aside0.mk (bB (g := gb139) (o := .cells #[.int .i64 ((rd_T50 l3 x40_2).f0), .int .i64 ((rd_T50 l3 x40_2).f1), .int .i64 ((rd_T50 l3 x40_2).f2.f0), .int .i64 ((rd_T50 l3 x40_2).f2.f1)] 50 (0, 0)) (by (with_reducible repeat (first | refine bN ?_ _ | refine bD ?_ | refine bA ?_ _)); exact BK139.out) hb)
                      have n3_ := Aside0.mk (bP (by repeat (first | (with_reducible first | exact HB.out | apply bL | apply bW | apply b1 | refine bS ?_ GE125.out | refine bS ?_ GE139.out) | exact HB.out)) hb)
                      have n4_ := Aside0.mk (hbox)
                      have n5_ := Aside0.mk ((by rw [hg]; exact (bZ (by repeat (first | (with_reducible first | exact HB.out | apply bL | apply bW | apply b1 | refine bS ?_ GE125.out | refine bS ?_ GE139.out) | exact HB.out))) : w.heap.size ≤ gb147))
                      have n6_ := Aside0.mk ((by rw [hg]; exact (bZ (by repeat (first | (with_reducible first | exact HB.out | apply bL | apply bW | apply b1 | refine bS ?_ GE125.out | refine bS ?_ GE139.out) | exact HB.out))) : w.heap.size ≤ gb147))
                      have n7_ := Aside0.mk ((by rw [hg]; exact Nat.ne_of_lt (bT (g := gb125) (o := .cells #[.string a0_0, .slice A0_1 l0_1.length c0_1, .int .i64 a0_2, .slice A0_3 l0_3.length c0_3, .slice A0_4 l0_4.length c0_4, .slice A0_5 l0_5.length c0_5, .slice (some ad141) l0_6.length c0_6, .slice A0_7 l0_7.length c0_7, .slice A0_8 l0_8.length c0_8, .slice A0_9 l0_9.length c0_9, .int .i64 a0_10] 31 (0, 0)) (by (with_reducible repeat (first | refine bN ?_ _ | refine bD ?_ | refine bA ?_ _)); exact BK125.out)) : gb125 ≠ gb147))
                      have n8_ := Aside0.mk ((by rw [hg]; exact Nat.ne_of_gt (bT (g := gb125) (o := .cells #[.string a0_0, .slice A0_1 l0_1.length c0_1, .int .i64 a0_2, .slice A0_3 l0_3.length c0_3, .slice A0_4 l0_4.length c0_4, .slice A0_5 l0_5.length c0_5, .slice (some ad141) l0_6.length c0_6, .slice A0_7 l0_7.length c0_7, .slice A0_8 l0_8.length c0_8, .slice A0_9 l0_9.length c0_9, .int .i64 a0_10] 31 (0, 0)) (by (with_reducible repeat (first | refine bN ?_ _ | refine bD ?_ | refine bA ?_ _)); exact BK125.out)) : gb147 ≠ gb125))
                      have n9_ := Aside0.mk ((by rw [hg]; exact Nat.ne_of_lt (bT (g := gb139) (o := .cells #[.int .i64 ((rd_T50 l3 x40_2).f0), .int .i64 ((rd_T50 l3 x40_2).f1), .int .i64 ((rd_T50 l3 x40_2).f2.f0), .int .i64 ((rd_T50 l3 x40_2).f2.f1)] 50 (0, 0)) (by (with_reducible repeat (first | refine bN ?_ _ | refine bD ?_ | refine bA ?_ _)); exact BK139.out)) : gb139 ≠ gb147))
                      have n10_ := Aside0.mk ((by rw [hg]; exact Nat.ne_of_gt (bT (g := gb139) (o := .cells #[.int .i64 ((rd_T50 l3 x40_2).f0), .int .i64 ((rd_T50 l3 x40_2).f1), .int .i64 ((rd_T50 l3 x40_2).f2.f0), .int .i64 ((rd_T50 l3 x40_2).f2.f1)] 50 (0, 0)) (by (with_reducible repeat (first | refine bN ?_ _ | refine bD ?_ | refine bA ?_ _)); exact BK139.out)) : gb147 ≠ gb139))
                      clear HO_9; clear BK125; clear BK139; clear HB; have HO_9 := n0_
                      have BK125 := n1_
                      have BK139 := n2_
                      have HB := n3_
                      have BK147 := n4_
                      have GW147 := n5_
                      have GE147 := n6_
                      have NB125_147 := n7_
                      have NB147_125 := n8_
                      have NB139_147 := n9_
                      have NB147_139 := n10_
                      clear n0_ n1_ n2_ n3_ n4_ n5_ n6_ n7_ n8_ n9_ n10_; clear hb hbox hg; refine hK.out _ _ ⟨(bC BK139.out 0).trans rfl, (bC BK139.out 1).trans rfl, (bC BK139.out 2).trans rfl, (bC BK139.out 3).trans rfl, HS4_, HS5_⟩ (fun hHeld => ?_)
                      clear hK K; refine norm_ (a' := ?_) ?_ ?_
                      rotate_left
                      ·
                       show Act.put _ (some 15) _ = _
                       simp only [Act.put, lA, lZ, lS, i64_w, i32_w]; rfl
                      refine one_ (i := 6) (N := some 93) #[T,T,T,T,T,T,T,F,F,F,T,F,F] rfl rfl (one_of HT_.out (by kernel_rfl)) (by decide) (fun K hK => ?_)
                      refine goes_ Try.func28 (by kernel_rfl) rfl #[.agg #[.int .i64 ((rd_T40 x9_2 ((rd_T67 l0_6 ((rd_T50 l3 x40_2).f0)).f2)).f0), .int .i64 ((rd_T40 x9_2 ((rd_T67 l0_6 ((rd_T50 l3 x40_2).f0)).f2)).f1)], .agg #[.int .i64 ((rd_T50 l3 x40_2).f2.f0), .int .i64 ((rd_T50 l3 x40_2).f2.f1)]] (by rfl) rfl rfl (by (try simp only [List.map_toArray, List.map_cons, List.map_nil]); first | done | rfl | (simp only [List.length_drop, List.length_take]; rfl)) ?_
                      with_reducible refine (span_Meet.calls ((rd_T40 x9_2 ((rd_T67 l0_6 ((rd_T50 l3 x40_2).f0)).f2)).f0) ((rd_T40 x9_2 ((rd_T67 l0_6 ((rd_T50 l3 x40_2).f0)).f2)).f1) ((rd_T50 l3 x40_2).f2.f0) ((rd_T50 l3 x40_2).f2.f1) t144 t145 true _ A56.out).mono ?_
                      rintro e w62 ⟨rfl, hb⟩
                      have HS4_ := (hb.cell (wL _ _ (hHeld.2.2.2.2.1))).trans (hHeld.2.2.2.2.1)
                      have HS5_ := (hb.cell (wL _ _ (hHeld.2.2.2.2.2))).trans (hHeld.2.2.2.2.2)
                      refine ⟨_, rfl, ?_⟩
                      have n0_ := Aside0.mk (Kd.R_below (by (with_reducible repeat (first | apply Kd.R_alloc | apply Kd.R_drewN | apply Kd.R_drew)); exact HO_9.out) hb)
                      have n1_ := Aside0.mk (bB (g := gb125) (o := .cells #[.string a0_0, .slice A0_1 l0_1.length c0_1, .int .i64 a0_2, .slice A0_3 l0_3.length c0_3, .slice A0_4 l0_4.length c0_4, .slice A0_5 l0_5.length c0_5, .slice (some ad141) l0_6.length c0_6, .slice A0_7 l0_7.length c0_7, .slice A0_8 l0_8.length c0_8, .slice A0_9 l0_9.length c0_9, .int .i64 a0_10] 31 (0, 0)) (by (with_reducible repeat (first | refine bN ?_ _ | refine bD ?_ | refine bA ?_ _)); exact BK125.out) hb)
                      have n2_ := Aside0.mk (bB (g := gb139) (o := .cells #[.int .i64 ((rd_T50 l3 x40_2).f0), .int .i64 ((rd_T50 l3 x40_2).f1), .int .i64 ((rd_T50 l3 x40_2).f2.f0), .int .i64 ((rd_T50 l3 x40_2).f2.f1)] 50 (0, 0)) (by (with_reducible repeat (first | refine bN ?_ _ | refine bD ?_ | refine bA ?_ _)); exact BK139.out) hb)
                      have n3_ := Aside0.mk (bB (g := gb147) (o := .cells #[.int .i64 0, .int .i64 0] 40 (0, 0)) (by (with_reducible repeat (first | refine bN ?_ _ | refine bD ?_ | refine bA ?_ _)); exact BK147.out) hb)
                      have n4_ := Aside0.mk (bP (by repeat (first | (with_reducible first | exact HB.out | apply bL | apply bW | apply b1 | refine bS ?_ GE125.out | refine bS ?_ GE139.out | refine bS ?_ GE147.out) | exact HB.out)) hb)
                      clear HO_9; clear BK125; clear BK139; clear BK147; clear HB; have HO_9 := n0_
                      have BK125 := n1_
                      have BK139 := n2_
                      have BK147 := n3_
                      have HB := n4_
                      clear n0_ n1_ n2_ n3_ n4_; (try clear hb); (try clear hb2); (try clear hk); (try clear hi); refine hK.out _ _ ⟨(bC BK139.out 0).trans rfl, (bC BK139.out 1).trans rfl, (bC BK139.out 2).trans rfl, (bC BK139.out 3).trans rfl, HS4_, HS5_⟩ (fun hHeld => ?_)
                      clear hK K; refine norm_ (a' := ?_) ?_ ?_
                      rotate_left
                      ·
                       show Act.put _ (some 93) _ = _
                       simp only [Act.put, lA, lZ, lS, i64_w, i32_w]; rfl
                      refine pure_ (i := 7) (N := some 86) (v := ?_) (a' := ?_) #[T,T,T,T,T,T,T,T,F,F,T,F,F] rfl rfl (any_of HT_.out (by kernel_rfl)) (fun _ _ _ h => h) (Or.inl ⟨by rfl, ?_⟩) ?_ ?_
                      rotate_left
                      ·
                       intro w'; go_simp; with_reducible rfl
                      rotate_left
                      ·
                       simp only [Act.put, lA, lZ, lS, i64_w, i32_w]; rfl
                      refine pure_ (i := 8) (N := some 94) (v := ?_) (a' := ?_) #[T,T,T,T,T,T,T,T,T,F,T,F,F] rfl rfl (any_of HT_.out (by kernel_rfl)) (fun _ _ _ h => h) (Or.inl ⟨by rfl, ?_⟩) ?_ ?_
                      rotate_left
                      ·
                       intro w'; go_simp; with_reducible rfl
                      rotate_left
                      ·
                       simp only [Act.put, lA, lZ, lS, i64_w, i32_w]; rfl
                      refine pure_ (i := 9) (N := some 95) (v := ?_) (a' := ?_) #[T,T,T,T,T,T,T,T,T,T,T,F,F] rfl rfl (any_of HT_.out (by kernel_rfl)) (fun _ _ _ h => h) (Or.inl ⟨by rfl, ?_⟩) ?_ ?_
                      rotate_left
                      ·
                       intro w'; go_simp; with_reducible rfl
                      rotate_left
                      ·
                       simp only [Act.put, lA, lZ, lS, i64_w, i32_w]; rfl
                      exact norm_ (by simp only [putAll, Act.put, lA, lZ, lS]) (hCont (gb147) _ ⟨hHeld, (by (with_reducible repeat (first | apply Kd.R_alloc | apply Kd.R_drewN | apply Kd.R_drew)); exact Kd.R_mono HO_9.out (fun _ hk => hk.2)), (by (with_reducible repeat (first | refine bN ?_ _ | refine bD ?_ | refine bA ?_ _)); exact BK125.out), (by (with_reducible repeat (first | refine bN ?_ _ | refine bD ?_ | refine bA ?_ _)); exact BK139.out), (by (with_reducible repeat (first | refine bN ?_ _ | refine bD ?_ | refine bA ?_ _)); exact BK147.out), GW147.out, GE147.out, NB125_147.out, NB147_125.out, NB139_147.out, NB147_139.out, (by repeat (first | (with_reducible first | exact HB.out | apply bL | apply bW | apply b1 | refine bS ?_ GE125.out | refine bS ?_ GE139.out | refine bS ?_ GE147.out) | exact HB.out))⟩)
                    rintro gb147 w63 ⟨hS_, h0_, h1_, h2_, h3_, h4_, h5_, h6_, h7_, h8_, h9_, h10_⟩
                    have n0_ : Aside0 (Kd.R k40 40 w63 w.heap.size (fun k_ => k_ ≠ gb147) (.slice (some ad143) x9_2.length co60) x9_2) := ⟨h0_⟩
                    have n1_ : Aside0 (w63.heap[gb125]? = some (.cells #[.string a0_0, .slice A0_1 l0_1.length c0_1, .int .i64 a0_2, .slice A0_3 l0_3.length c0_3, .slice A0_4 l0_4.length c0_4, .slice A0_5 l0_5.length c0_5, .slice (some ad141) l0_6.length c0_6, .slice A0_7 l0_7.length c0_7, .slice A0_8 l0_8.length c0_8, .slice A0_9 l0_9.length c0_9, .int .i64 a0_10] 31 (0, 0))) := ⟨h1_⟩
                    have n2_ : Aside0 (w63.heap[gb139]? = some (.cells #[.int .i64 ((rd_T50 l3 x40_2).f0), .int .i64 ((rd_T50 l3 x40_2).f1), .int .i64 ((rd_T50 l3 x40_2).f2.f0), .int .i64 ((rd_T50 l3 x40_2).f2.f1)] 50 (0, 0))) := ⟨h2_⟩
                    have n3_ : Aside0 (w63.heap[gb147]? = some (.cells #[.int .i64 0, .int .i64 0] 40 (0, 0))) := ⟨h3_⟩
                    have n4_ : Aside0 (w.heap.size ≤ gb147) := ⟨h4_⟩
                    have n5_ : Aside0 (w.heap.size ≤ gb147) := ⟨h5_⟩
                    have n6_ : Aside0 (gb125 ≠ gb147) := ⟨h6_⟩
                    have n7_ : Aside0 (gb147 ≠ gb125) := ⟨h7_⟩
                    have n8_ : Aside0 (gb139 ≠ gb147) := ⟨h8_⟩
                    have n9_ : Aside0 (gb147 ≠ gb139) := ⟨h9_⟩
                    have n10_ : Aside0 (Below w.heap.size w w63) := ⟨h10_⟩
                    clear HO_9; clear BK125; clear BK139; clear HB; clear h0_ h1_ h2_ h3_ h4_ h5_ h6_ h7_ h8_ h9_ h10_; have HO_9 := n0_
                    have BK125 := n1_
                    have BK139 := n2_
                    have BK147 := n3_
                    have GW147 := n4_
                    have GE147 := n5_
                    have NB125_147 := n6_
                    have NB147_125 := n7_
                    have NB139_147 := n8_
                    have NB147_139 := n9_
                    have HB := n10_
                    clear n0_ n1_ n2_ n3_ n4_ n5_ n6_ n7_ n8_ n9_ n10_; have hHeld : w63.cell? ⟨gb139, 0, none⟩ = some (.int .i64 ((rd_T50 l3 x40_2).f0)) ∧ w63.cell? ⟨gb139, 1, none⟩ = some (.int .i64 ((rd_T50 l3 x40_2).f1)) ∧ w63.cell? ⟨gb139, 2, none⟩ = some (.int .i64 ((rd_T50 l3 x40_2).f2.f0)) ∧ w63.cell? ⟨gb139, 3, none⟩ = some (.int .i64 ((rd_T50 l3 x40_2).f2.f1)) ∧ w63.cell? (ad143.add ((((rd_T67 l0_6 ((rd_T50 l3 x40_2).f0)).f2)).toNat * 2)) = some (.int .i64 ((rd_T40 x9_2 ((rd_T67 l0_6 ((rd_T50 l3 x40_2).f0)).f2)).f0)) ∧ w63.cell? ⟨(ad143.add ((((rd_T67 l0_6 ((rd_T50 l3 x40_2).f0)).f2)).toNat * 2)).block, (ad143.add ((((rd_T67 l0_6 ((rd_T50 l3 x40_2).f0)).f2)).toNat * 2)).off + 1, none⟩ = some (.int .i64 ((rd_T40 x9_2 ((rd_T67 l0_6 ((rd_T50 l3 x40_2).f0)).f2)).f1)) := hS_
                    refine norm_ (a' := ?_) ?_ ?_
                    rotate_left
                    ·
                     simp only [putAll, Act.put, lA, lZ, lS]; rfl
                    refine one_ (i := 11) (N := none) #[T,T,T,T,T,T,T,T,T,T,T,T,F] rfl rfl (one_of HT_.out (by kernel_rfl)) (by decide) (fun K hK => ?_)
                    have hs64 : w63.cell? ⟨gb147, 0, none⟩ = some (.int .i64 0) := (bC BK147.out 0).trans rfl
                    have hfs64 := bF BK147.out 0
                    have hns64_0 := NB125_147.out
                    have hns64_1 := NB139_147.out
                    have hms64_0 := NB147_125.out
                    have hms64_1 := NB147_139.out
                    have hs65 : w63.cell? ⟨gb147, 1, none⟩ = some (.int .i64 0) := (bC BK147.out 1).trans rfl
                    have hfs65 := bF BK147.out 1
                    have hns65_0 := NB125_147.out
                    have hns65_1 := NB139_147.out
                    have hms65_0 := NB147_125.out
                    have hms65_1 := NB147_139.out
                    refine skip_ (w1 := ?_) (by rfl) rfl ?_ ?_
                    rotate_left
                    ·
                     go_simp; rfl
                    refine hK.out _ _ ⟨((cell_far (p := ⟨gb147, _, none⟩) NB139_147.out _).trans (((cell_far (p := ⟨gb147, _, none⟩) NB139_147.out _).trans (hHeld.1)))), ((cell_far (p := ⟨gb147, _, none⟩) NB139_147.out _).trans (((cell_far (p := ⟨gb147, _, none⟩) NB139_147.out _).trans (hHeld.2.1)))), ((cell_far (p := ⟨gb147, _, none⟩) NB139_147.out _).trans (((cell_far (p := ⟨gb147, _, none⟩) NB139_147.out _).trans (hHeld.2.2.1)))), ((cell_far (p := ⟨gb147, _, none⟩) NB139_147.out _).trans (((cell_far (p := ⟨gb147, _, none⟩) NB139_147.out _).trans (hHeld.2.2.2.1)))), ((cell_far (p := ⟨gb147, _, none⟩) (by first | exact Kd.own_blk (Kd.R_away HO_9.out (fun _ hk => hk)) | (rw [add_block]; exact Kd.own_blk (Kd.R_away HO_9.out (fun _ hk => hk))) | (show (Addr.add _ _).block ≠ _; rw [add_block]; exact Kd.own_blk (Kd.R_away HO_9.out (fun _ hk => hk))) | (dsimp only; exact Kd.own_blk (Kd.R_away HO_9.out (fun _ hk => hk)))) _).trans (((cell_far (p := ⟨gb147, _, none⟩) (by first | exact Kd.own_blk (Kd.R_away HO_9.out (fun _ hk => hk)) | (rw [add_block]; exact Kd.own_blk (Kd.R_away HO_9.out (fun _ hk => hk))) | (show (Addr.add _ _).block ≠ _; rw [add_block]; exact Kd.own_blk (Kd.R_away HO_9.out (fun _ hk => hk))) | (dsimp only; exact Kd.own_blk (Kd.R_away HO_9.out (fun _ hk => hk)))) _).trans (hHeld.2.2.2.2.1)))), ((cell_far (p := ⟨gb147, _, none⟩) (by first | exact Kd.own_blk (Kd.R_away HO_9.out (fun _ hk => hk)) | (rw [add_block]; exact Kd.own_blk (Kd.R_away HO_9.out (fun _ hk => hk))) | (show (Addr.add _ _).block ≠ _; rw [add_block]; exact Kd.own_blk (Kd.R_away HO_9.out (fun _ hk => hk))) | (dsimp only; exact Kd.own_blk (Kd.R_away HO_9.out (fun _ hk => hk)))) _).trans (((cell_far (p := ⟨gb147, _, none⟩) (by first | exact Kd.own_blk (Kd.R_away HO_9.out (fun _ hk => hk)) | (rw [add_block]; exact Kd.own_blk (Kd.R_away HO_9.out (fun _ hk => hk))) | (show (Addr.add _ _).block ≠ _; rw [add_block]; exact Kd.own_blk (Kd.R_away HO_9.out (fun _ hk => hk))) | (dsimp only; exact Kd.own_blk (Kd.R_away HO_9.out (fun _ hk => hk)))) _).trans (hHeld.2.2.2.2.2))))⟩ (fun hHeld => ?_)
                    clear hK K; refine pure_ (i := 12) (N := some 16) (v := ?_) (a' := ?_) #[T,T,T,T,T,T,T,T,T,T,T,T,T] rfl rfl (any_of HT_.out (by kernel_rfl)) (fun _ _ _ h => h) (Or.inl ⟨by rfl, ?_⟩) ?_ ?_
                    rotate_left
                    ·
                     intro w'; go_simp; with_reducible rfl
                    rotate_left
                    ·
                     simp only [Act.put, lA, lZ, lS, i64_w, i32_w]; rfl
                    refine done_ (done_of HT_.out (by kernel_rfl)) ?_
                    have n0_ : Aside0 (Kd.R k40 40 ((w63.setCell ⟨gb147, 0, none⟩ (.int .i64 t144)).setCell ⟨gb147, 1, none⟩ (.int .i64 t145)) w.heap.size (fun k_ => k_ ≠ gb147) (.slice (some ad143) x9_2.length co60) x9_2) := ⟨by (with_reducible repeat (first | apply Kd.R_alloc | apply Kd.R_drewN | apply Kd.R_drew)); exact Kd.R_mono (Kd.R_far (p := ⟨gb147, 1, none⟩) (Kd.R_far (p := ⟨gb147, 0, none⟩) (Kd.R_mono HO_9.out (fun k_ hk => (⟨hk, hk⟩ : _ ∧ k_ ≠ gb147))) (fun _ hk => hk.2) (.int .i64 t144)) (fun _ hk => hk.2) (.int .i64 t145)) (fun _ hk => hk.1)⟩
                    have n1_ : Aside0 (((w63.setCell ⟨gb147, 0, none⟩ (.int .i64 t144)).setCell ⟨gb147, 1, none⟩ (.int .i64 t145)).heap[gb125]? = some (.cells #[.string a0_0, .slice A0_1 l0_1.length c0_1, .int .i64 a0_2, .slice A0_3 l0_3.length c0_3, .slice A0_4 l0_4.length c0_4, .slice A0_5 l0_5.length c0_5, .slice (some ad141) l0_6.length c0_6, .slice A0_7 l0_7.length c0_7, .slice A0_8 l0_8.length c0_8, .slice A0_9 l0_9.length c0_9, .int .i64 a0_10] 31 (0, 0))) := ⟨by (with_reducible repeat (first | refine bN ?_ _ | refine bD ?_ | refine bA ?_ _)); refine bR ?_ NB125_147.out _; (with_reducible repeat (first | refine bN ?_ _ | refine bD ?_ | refine bA ?_ _)); refine bR ?_ NB125_147.out _; (with_reducible repeat (first | refine bN ?_ _ | refine bD ?_ | refine bA ?_ _)); exact BK125.out⟩
                    have n2_ : Aside0 (((w63.setCell ⟨gb147, 0, none⟩ (.int .i64 t144)).setCell ⟨gb147, 1, none⟩ (.int .i64 t145)).heap[gb139]? = some (.cells #[.int .i64 ((rd_T50 l3 x40_2).f0), .int .i64 ((rd_T50 l3 x40_2).f1), .int .i64 ((rd_T50 l3 x40_2).f2.f0), .int .i64 ((rd_T50 l3 x40_2).f2.f1)] 50 (0, 0))) := ⟨by (with_reducible repeat (first | refine bN ?_ _ | refine bD ?_ | refine bA ?_ _)); refine bR ?_ NB139_147.out _; (with_reducible repeat (first | refine bN ?_ _ | refine bD ?_ | refine bA ?_ _)); refine bR ?_ NB139_147.out _; (with_reducible repeat (first | refine bN ?_ _ | refine bD ?_ | refine bA ?_ _)); exact BK139.out⟩
                    have n3_ : Aside0 (((w63.setCell ⟨gb147, 0, none⟩ (.int .i64 t144)).setCell ⟨gb147, 1, none⟩ (.int .i64 t145)).heap[gb147]? = some (.cells #[.int .i64 t144, .int .i64 t145] 40 (0, 0))) := ⟨by (with_reducible repeat (first | refine bN ?_ _ | refine bD ?_ | refine bA ?_ _)); refine bU (cs := #[.int .i64 t144, .int .i64 0]) ?_ 1 _ rfl; (with_reducible repeat (first | refine bN ?_ _ | refine bD ?_ | refine bA ?_ _)); refine bU (cs := #[.int .i64 0, .int .i64 0]) ?_ 0 _ rfl; (with_reducible repeat (first | refine bN ?_ _ | refine bD ?_ | refine bA ?_ _)); exact BK147.out⟩
                    have n4_ : Aside0 (Below w.heap.size w ((w63.setCell ⟨gb147, 0, none⟩ (.int .i64 t144)).setCell ⟨gb147, 1, none⟩ (.int .i64 t145))) := ⟨by repeat (first | (with_reducible first | exact HB.out | apply bL | apply bW | apply b1 | refine bS ?_ GE125.out | refine bS ?_ GE139.out | refine bS ?_ GE147.out) | exact HB.out)⟩
                    (try clear HO_9); (try clear BK125); (try clear BK139); (try clear BK147); (try clear HB); generalize ((w63.setCell ⟨gb147, 0, none⟩ (.int .i64 t144)).setCell ⟨gb147, 1, none⟩ (.int .i64 t145)) = w66 at n0_ n1_ n2_ n3_ n4_ ⊢
                    have HO_9 := n0_
                    have BK125 := n1_
                    have BK139 := n2_
                    have BK147 := n3_
                    have HB := n4_
                    clear n0_ n1_ n2_ n3_ n4_; have hnb67 := NB147_125.out
                    have hnc67 := NB125_147.out
                    have hnb68 := NB147_139.out
                    have hnc68 := NB139_147.out
                    have hcz69_0 : w66.cell? ⟨gb147, 0, none⟩ = some (.int .i64 t144) := (bC BK147.out 0).trans rfl
                    have hcz69_1 : w66.cell? ⟨gb147, 1, none⟩ = some (.int .i64 t145) := (bC BK147.out 1).trans rfl
                    have hfz69_0 := bF BK147.out 0
                    have hfz69_1 := bF BK147.out 1
                    have p58 : 0 ≤ (((rd_T67 l0_6 ((rd_T50 l3 x40_2).f0)).f2) : Int) := of_decide_eq_true (by first | (with_reducible assumption) | assumption)
                    have q58 : (((rd_T67 l0_6 ((rd_T50 l3 x40_2).f0)).f2) : Int) < ((x9_2.length : Int) : Int) := of_decide_eq_true (by first | (with_reducible assumption) | assumption)
                    obtain ⟨go58, co58, eo58, gb58, gl58, cl58, HG58⟩ := Kd.R_form HO_9.out (by omega)
                    (first | cases eo58 | (injection eo58 with ea_ en_ ec_; (first | subst ea_ | (injection ea_ with ea_; subst ea_)); subst ec_; clear en_))
                    have GB58 := Aside0.mk gb58
                    have GG58 := Aside0.mk HG58
                    clear gb58 gl58 HG58; (first | simp only [add_plain] at hx143_0 | skip)
                    (first | simp only [add_plain] at hx143_1 | skip)
                    obtain ⟨ce58, hcl58, hM58, hcc58, hfr58⟩ := Kd.R_elem HO_9.out z40 (((rd_T67 l0_6 ((rd_T50 l3 x40_2).f0)).f2) : Int) p58 q58
                    obtain rfl := k40_openM hM58
                    have hx58_0 : w66.cell? ⟨go58, (((rd_T67 l0_6 ((rd_T50 l3 x40_2).f0)).f2) : Int).toNat * 2, none⟩ = some (.int .i64 ((rd_T40 x9_2 ((rd_T67 l0_6 ((rd_T50 l3 x40_2).f0)).f2)).f0)) := hcc58 0 _ rfl
                    have hx58_1 : w66.cell? ⟨go58, (((rd_T67 l0_6 ((rd_T50 l3 x40_2).f0)).f2) : Int).toNat * 2 + 1, none⟩ = some (.int .i64 ((rd_T40 x9_2 ((rd_T67 l0_6 ((rd_T50 l3 x40_2).f0)).f2)).f1)) := hcc58 1 _ rfl
                    have hf58_0 : w66.frozen? ⟨go58, (((rd_T67 l0_6 ((rd_T50 l3 x40_2).f0)).f2) : Int).toNat * 2, none⟩ = false := hfr58 0
                    have hf58_1 : w66.frozen? ⟨go58, (((rd_T67 l0_6 ((rd_T50 l3 x40_2).f0)).f2) : Int).toNat * 2 + 1, none⟩ = false := hfr58 1
                    clear hcl58 hcc58 hfr58 hM58; replace p58 := eq_true p58
                    replace q58 := eq_true q58
                    have HX70 := Aside0.mk (show Kd.R k40 40 w66 w.heap.size (fun k_ => k_ ≠ gb147) (.slice (some ⟨go58, 0, none⟩) x9_2.length co60) x9_2 from (by (with_reducible repeat (first | apply Kd.R_alloc | apply Kd.R_drewN | apply Kd.R_drew)); exact HO_9.out))
                    obtain ⟨ce70, hcl70, hM70, hcc70, hfr70⟩ := Kd.R_elem HX70.out z40 (((rd_T67 l0_6 ((rd_T50 l3 x40_2).f0)).f2) : Int) (of_decide_eq_true (by first | (with_reducible assumption) | assumption)) (by have h_ : (((rd_T67 l0_6 ((rd_T50 l3 x40_2).f0)).f2) : Int) < ((x9_2.length : Int) : Int) := of_decide_eq_true (by first | (with_reducible assumption) | assumption); first | exact h_ | (have e_ := (Kd.R_reads' HO_9.out).1; omega) | simpa using h_)
                    obtain rfl := k40_openM hM70
                    have HP70 := Kd.R_seg HX70.out (((rd_T67 l0_6 ((rd_T50 l3 x40_2).f0)).f2) : Int) (of_decide_eq_true (by first | (with_reducible assumption) | assumption)) (by have h_ : (((rd_T67 l0_6 ((rd_T50 l3 x40_2).f0)).f2) : Int) < ((x9_2.length : Int) : Int) := of_decide_eq_true (by first | (with_reducible assumption) | assumption); first | exact h_ | (have e_ := (Kd.R_reads' HO_9.out).1; omega) | simpa using h_) (seg := [.int .i64 t144, .int .i64 t145]) (j := 0) hcl70 hcc70 (show 2 ≤ 2 from by decide) (x' := (⟨t144, t145⟩ : S40)) (k40_mkM _ _ _ (⟨t144, t145⟩ : S40) ) (fun _ hk => hk)
                    have hx70_0 := hcc70 0 _ rfl
                    (try simp only [show (k40).sz = 2 from rfl, Nat.mul_one, Nat.add_zero] at hx70_0); have hf70_0 := hfr70 0
                    (try simp only [show (k40).sz = 2 from rfl, Nat.mul_one, Nat.add_zero] at hf70_0); have hx70_1 := hcc70 1 _ rfl
                    (try simp only [show (k40).sz = 2 from rfl, Nat.mul_one, Nat.add_zero] at hx70_1); have hf70_1 := hfr70 1
                    (try simp only [show (k40).sz = 2 from rfl, Nat.mul_one, Nat.add_zero] at hf70_1); clear hcl70 hcc70 hfr70 hM70; try go_wp2_with (first | ((with_reducible refine gate_store (t := 40) (p := 100) rfl ?_); refine store_event (t := 40) (p := 100) (v := ?vo_w71) (w1 := ((w66.setCell ⟨go58, (((rd_T67 l0_6 ((rd_T50 l3 x40_2).f0)).f2) : Int).toNat * 2, none⟩ (.int .i64 t144)).setCell ⟨go58, (((rd_T67 l0_6 ((rd_T50 l3 x40_2).f0)).f2) : Int).toNat * 2 + 1, none⟩ (.int .i64 t145))) ?hg ?ho ?hn ?hr ?_; (case ho => rfl); (case hg => rfl); (case hn => rfl); (case hr => first | (go_simp; done) | (go_simp; rfl)); intro w71 hw; have hg : w66.grownBy w71 (some go58) := (by rw [hw]; exact HP70.2); have hp_ : Kd.R k40 40 w71 w.heap.size (fun k_ => k_ ≠ gb147) (.slice (some ⟨go58, 0, none⟩) x9_2.length co60) y148 := (by rw [hw, Ny148.out]; exact HP70.1); clear HP70; have n0_ := Aside0.mk (hp_); have n1_ := Aside0.mk (blk_grown (g := gb125) (o := .cells #[.string a0_0, .slice A0_1 l0_1.length c0_1, .int .i64 a0_2, .slice A0_3 l0_3.length c0_3, .slice A0_4 l0_4.length c0_4, .slice A0_5 l0_5.length c0_5, .slice (some ad141) l0_6.length c0_6, .slice A0_7 l0_7.length c0_7, .slice A0_8 l0_8.length c0_8, .slice A0_9 l0_9.length c0_9, .int .i64 a0_10] 31 (0, 0)) (by (with_reducible repeat (first | refine bN ?_ _ | refine bD ?_ | refine bA ?_ _)); exact BK125.out) hg (Kd.R_ne HO_9.out BK125.out (by decide))); have n2_ := Aside0.mk (blk_grown (g := gb139) (o := .cells #[.int .i64 ((rd_T50 l3 x40_2).f0), .int .i64 ((rd_T50 l3 x40_2).f1), .int .i64 ((rd_T50 l3 x40_2).f2.f0), .int .i64 ((rd_T50 l3 x40_2).f2.f1)] 50 (0, 0)) (by (with_reducible repeat (first | refine bN ?_ _ | refine bD ?_ | refine bA ?_ _)); exact BK139.out) hg (Kd.R_ne HO_9.out BK139.out (by decide))); have n3_ := Aside0.mk (blk_grown (g := gb147) (o := .cells #[.int .i64 t144, .int .i64 t145] 40 (0, 0)) (by (with_reducible repeat (first | refine bN ?_ _ | refine bD ?_ | refine bA ?_ _)); exact BK147.out) hg (Kd.R_away HO_9.out (fun _ hk => hk))); have n4_ := Aside0.mk ((by rw [hw]; exact bS (bS (HB.out) GB58.out) GB58.out : Below w.heap.size w w71)); clear HO_9; clear BK125; clear BK139; clear BK147; clear HB; have HO_9 := n0_; have BK125 := n1_; have BK139 := n2_; have BK147 := n3_; have HB := n4_; clear n0_ n1_ n2_ n3_ n4_; clear hg hw hp_))
                    go_roundg kj40
                    case measure => have := HK1.out; have := HK2.out; have := HJ21.out; have := HJ40.out; omega
                    case rel => exact ⟨(y148), (wrap64 (x40_2 + 1)), (by first | rfl | (simp; done) | (simp [*]; done)), H', ⟨by have := HK1.out; have := HK2.out; have := HJ21.out; have := HJ40.out; omega⟩, ⟨by (with_reducible repeat (first | apply Kd.R_alloc | apply Kd.R_drewN | apply Kd.R_drew)); exact Kd.R_mono HO_9.out (fun _ hk => trivial)⟩, ⟨by (with_reducible repeat (first | refine bN ?_ _ | refine bD ?_ | refine bA ?_ _)); exact BK125.out⟩, ⟨by repeat (first | (with_reducible first | exact HB.out | apply bL | apply bW | apply b1 | refine bS ?_ GE125.out | refine bS ?_ GE139.out | refine bS ?_ GE147.out) | exact HB.out)⟩⟩
                   ·
                    replace c57 := Bool.eq_false_iff.mpr c57
                    subst c57; have H1 : (rain_Cells.l1 kj40 x9_2 l3 (l3.length : Int) (wrap64 (x40_2 + 1)) a0_0 l0_1 a0_2 l0_3 l0_4 l0_5 l0_6 l0_7 l0_8 l0_9 a0_10) = some r := by rw [if_neg (show ¬ (false = true) by decide)] at H; exact H
                    clear H; have H := H1
                    clear H1; have H' := Aside0.mk H
                    clear H; try go_wp2
                    have n0_ := Aside0.mk (Kd.R_drew HO_9.out)
                    have n1_ := Aside0.mk (bD BK125.out)
                    have n2_ := Aside0.mk (bD BK139.out)
                    have n3_ := Aside0.mk (b1 HB.out)
                    clear HO_9; clear BK125; clear BK139; clear HB; have HO_9 := n0_
                    have BK125 := n1_
                    have BK139 := n2_
                    have HB := n3_
                    clear n0_ n1_ n2_ n3_; obtain ⟨Ao73, co73, eo73⟩ := Kd.R_slice HO_9.out
                    (first | subst eo73 | (injection eo73 with f1_ f2_ f3_; have f4_ := f1_.symm; have f5_ := f3_.symm; clear f1_ f2_ f3_; subst f4_; subst f5_))
                    have p143 : 0 ≤ (((rd_T67 l0_6 ((rd_T50 l3 x40_2).f0)).f2) : Int) := of_decide_eq_true (by first | (with_reducible assumption) | assumption)
                    have q143 : ((rd_T67 l0_6 ((rd_T50 l3 x40_2).f0)).f2) < (x9_2.length : Int) := of_decide_eq_true (by first | (with_reducible assumption) | assumption)
                    obtain ⟨ad143, e143, hx143_0, hx143_1⟩ := at_T40 (Kd.R_reads' HO_9.out).2.2 ((rd_T67 l0_6 ((rd_T50 l3 x40_2).f0)).f2) p143 q143
                    cases e143
                    replace p143 := eq_true p143
                    replace q143 := eq_true q143
                    refine start_ (n := 13) (S := fun w' => w'.cell? ⟨gb139, 0, none⟩ = some (.int .i64 ((rd_T50 l3 x40_2).f0)) ∧ w'.cell? ⟨gb139, 1, none⟩ = some (.int .i64 ((rd_T50 l3 x40_2).f1)) ∧ w'.cell? ⟨gb139, 2, none⟩ = some (.int .i64 ((rd_T50 l3 x40_2).f2.f0)) ∧ w'.cell? ⟨gb139, 3, none⟩ = some (.int .i64 ((rd_T50 l3 x40_2).f2.f1)) ∧ w'.cell? (ad143.add ((((rd_T67 l0_6 ((rd_T50 l3 x40_2).f0)).f2)).toNat * 2)) = some (.int .i64 ((rd_T40 x9_2 ((rd_T67 l0_6 ((rd_T50 l3 x40_2).f0)).f2)).f0)) ∧ w'.cell? ⟨(ad143.add ((((rd_T67 l0_6 ((rd_T50 l3 x40_2).f0)).f2)).toNat * 2)).block, (ad143.add ((((rd_T67 l0_6 ((rd_T50 l3 x40_2).f0)).f2)).toNat * 2)).off + 1, none⟩ = some (.int .i64 ((rd_T40 x9_2 ((rd_T67 l0_6 ((rd_T50 l3 x40_2).f0)).f2)).f1))) (ds := []) #[F,F,F,F,F,F,F,F,F,F,F,F,F] (by kernel_rfl) rfl rfl ⟨(bC BK139.out 0).trans rfl, (bC BK139.out 1).trans rfl, (bC BK139.out 2).trans rfl, (bC BK139.out 3).trans rfl, hx143_0, hx143_1⟩ (fun hHeld => ?_); refine with_tabW rain_Cells.tab16 rain_Cells.bits16 (fun HT_ HW_ => ?_)
                    generalize wc.drew = w72 at HO_9 BK125 BK139 HB hx143_0 hx143_1 hHeld ⊢
                    refine pure_ (i := 0) (N := some 87) (v := ?_) (a' := ?_) #[T,F,F,F,F,F,F,F,F,F,F,F,F] rfl rfl (any_of HT_.out (by kernel_rfl)) (fun _ _ _ h => h) (Or.inl ⟨by rfl, ?_⟩) ?_ ?_
                    rotate_left
                    ·
                     intro w'; go_simp; with_reducible rfl
                    rotate_left
                    ·
                     simp only [Act.put, lA, lZ, lS, i64_w, i32_w]; rfl
                    refine pure_ (i := 1) (N := some 88) (v := ?_) (a' := ?_) #[T,T,F,F,F,F,F,F,F,F,F,F,F] rfl rfl (any_of HT_.out (by kernel_rfl)) (fun _ _ _ h => h) (Or.inl ⟨by rfl, ?_⟩) ?_ ?_
                    rotate_left
                    ·
                     intro w'; go_simp; with_reducible rfl
                    rotate_left
                    ·
                     simp only [Act.put, lA, lZ, lS, i64_w, i32_w]; rfl
                    refine pure_ (i := 2) (N := some 89) (v := ?_) (a' := ?_) #[T,T,T,F,F,F,F,F,F,F,F,F,F] rfl rfl (any_of HT_.out (by kernel_rfl)) (fun _ _ _ h => h) (Or.inl ⟨by rfl, ?_⟩) ?_ ?_
                    rotate_left
                    ·
                     intro w'; go_simp; with_reducible rfl
                    rotate_left
                    ·
                     simp only [Act.put, lA, lZ, lS, i64_w, i32_w]; rfl
                    refine pure_ (i := 4) (N := some 91) (v := ?_) (a' := ?_) #[T,T,T,F,T,F,F,F,F,F,F,F,F] rfl rfl (any_of HT_.out (by kernel_rfl)) (fun _ _ _ h => h) (Or.inl ⟨by rfl, ?_⟩) ?_ ?_
                    rotate_left
                    ·
                     intro w'; go_simp; with_reducible rfl
                    rotate_left
                    ·
                     simp only [Act.put, lA, lZ, lS, i64_w, i32_w]; rfl
                    refine take_ (i := 3) (N := some 90) (v := ?_) (a' := ?_) #[T,T,T,T,T,F,F,F,F,F,F,F,F] rfl rfl (take_ofW HT_.out HW_.out (by kernel_rfl)) (fun _ _ _ h => h) (Or.inl ⟨by rfl, ?_⟩) hHeld ?_ ?_
                    rotate_left
                    ·
                     rintro w' ⟨s0, s1, s2, s3, s4, s5⟩
                     go_simp; with_reducible rfl
                    rotate_left
                    ·
                     simp only [Act.put, lA, lZ, lS, i64_w, i32_w]; rfl
                    refine take_ (i := 5) (N := some 92) (v := ?_) (a' := ?_) #[T,T,T,T,T,T,F,F,F,F,F,F,F] rfl rfl (take_ofW HT_.out HW_.out (by kernel_rfl)) (fun _ _ _ h => h) (Or.inl ⟨by rfl, ?_⟩) hHeld ?_ ?_
                    rotate_left
                    ·
                     rintro w' ⟨s0, s1, s2, s3, s4, s5⟩
                     go_simp; with_reducible rfl
                    rotate_left
                    ·
                     simp only [Act.put, lA, lZ, lS, i64_w, i32_w]; rfl
                    refine join_ (σ := Nat) 2 #[T,T,T,T,T,T,T,T,T,T,T,F,F] (fun s_ => [(93, .tuple #[.agg #[.int .i64 t144, .int .i64 t145], .bool false]), (15, .pointer (some ⟨s_, 0, none⟩)), (86, .tuple #[.agg #[.int .i64 t144, .int .i64 t145], .bool false]), (94, .agg #[.int .i64 t144, .int .i64 t145]), (95, .bool false)]) (fun s_ w' => (w'.cell? ⟨gb139, 0, none⟩ = some (.int .i64 ((rd_T50 l3 x40_2).f0)) ∧ w'.cell? ⟨gb139, 1, none⟩ = some (.int .i64 ((rd_T50 l3 x40_2).f1)) ∧ w'.cell? ⟨gb139, 2, none⟩ = some (.int .i64 ((rd_T50 l3 x40_2).f2.f0)) ∧ w'.cell? ⟨gb139, 3, none⟩ = some (.int .i64 ((rd_T50 l3 x40_2).f2.f1)) ∧ w'.cell? (ad143.add ((((rd_T67 l0_6 ((rd_T50 l3 x40_2).f0)).f2)).toNat * 2)) = some (.int .i64 ((rd_T40 x9_2 ((rd_T67 l0_6 ((rd_T50 l3 x40_2).f0)).f2)).f0)) ∧ w'.cell? ⟨(ad143.add ((((rd_T67 l0_6 ((rd_T50 l3 x40_2).f0)).f2)).toNat * 2)).block, (ad143.add ((((rd_T67 l0_6 ((rd_T50 l3 x40_2).f0)).f2)).toNat * 2)).off + 1, none⟩ = some (.int .i64 ((rd_T40 x9_2 ((rd_T67 l0_6 ((rd_T50 l3 x40_2).f0)).f2)).f1))) ∧ (Kd.R k40 40 w' w.heap.size (fun k_ => k_ ≠ s_) (.slice (some ad143) x9_2.length co73) x9_2) ∧ (w'.heap[gb125]? = some (.cells #[.string a0_0, .slice A0_1 l0_1.length c0_1, .int .i64 a0_2, .slice A0_3 l0_3.length c0_3, .slice A0_4 l0_4.length c0_4, .slice A0_5 l0_5.length c0_5, .slice (some ad141) l0_6.length c0_6, .slice A0_7 l0_7.length c0_7, .slice A0_8 l0_8.length c0_8, .slice A0_9 l0_9.length c0_9, .int .i64 a0_10] 31 (0, 0))) ∧ (w'.heap[gb139]? = some (.cells #[.int .i64 ((rd_T50 l3 x40_2).f0), .int .i64 ((rd_T50 l3 x40_2).f1), .int .i64 ((rd_T50 l3 x40_2).f2.f0), .int .i64 ((rd_T50 l3 x40_2).f2.f1)] 50 (0, 0))) ∧ (w'.heap[s_]? = some (.cells #[.int .i64 0, .int .i64 0] 40 (0, 0))) ∧ (w.heap.size ≤ s_) ∧ (w.heap.size ≤ s_) ∧ (gb125 ≠ s_) ∧ (s_ ≠ gb125) ∧ (gb139 ≠ s_) ∧ (s_ ≠ gb139) ∧ (Below w.heap.size w w')) ?_ ?_
                    rotate_left
                    ·
                     intro hCont; refine two_ (i := 6) (j := 10) (Ni := some 93) (Nj := some 15) #[T,T,T,T,T,T,T,F,F,F,F,F,F] #[T,T,T,T,T,T,F,F,F,F,T,F,F] rfl rfl rfl rfl (two_of HT_.out (by kernel_rfl)) (by decide) (by decide) (fun K hK => ?_) (fun K hK => ?_)
                     ·
                      skip
                      refine goes_ Try.func28 (by kernel_rfl) rfl #[.agg #[.int .i64 ((rd_T40 x9_2 ((rd_T67 l0_6 ((rd_T50 l3 x40_2).f0)).f2)).f0), .int .i64 ((rd_T40 x9_2 ((rd_T67 l0_6 ((rd_T50 l3 x40_2).f0)).f2)).f1)], .agg #[.int .i64 ((rd_T50 l3 x40_2).f2.f0), .int .i64 ((rd_T50 l3 x40_2).f2.f1)]] (by rfl) rfl rfl (by (try simp only [List.map_toArray, List.map_cons, List.map_nil]); first | done | rfl | (simp only [List.length_drop, List.length_take]; rfl)) ?_
                      with_reducible refine (span_Meet.calls ((rd_T40 x9_2 ((rd_T67 l0_6 ((rd_T50 l3 x40_2).f0)).f2)).f0) ((rd_T40 x9_2 ((rd_T67 l0_6 ((rd_T50 l3 x40_2).f0)).f2)).f1) ((rd_T50 l3 x40_2).f2.f0) ((rd_T50 l3 x40_2).f2.f1) t144 t145 false _ A56.out).mono ?_
                      rintro e w74 ⟨rfl, hb⟩
                      have HS4_ := (hb.cell (wL _ _ (hHeld.2.2.2.2.1))).trans (hHeld.2.2.2.2.1)
                      have HS5_ := (hb.cell (wL _ _ (hHeld.2.2.2.2.2))).trans (hHeld.2.2.2.2.2)
                      refine ⟨_, rfl, ?_⟩
                      have n0_ := Aside0.mk (Kd.R_below (by (with_reducible repeat (first | apply Kd.R_alloc | apply Kd.R_drewN | apply Kd.R_drew)); exact HO_9.out) hb)
                      have n1_ := Aside0.mk (bB (g := gb125) (o := .cells #[.string a0_0, .slice A0_1 l0_1.length c0_1, .int .i64 a0_2, .slice A0_3 l0_3.length c0_3, .slice A0_4 l0_4.length c0_4, .slice A0_5 l0_5.length c0_5, .slice (some ad141) l0_6.length c0_6, .slice A0_7 l0_7.length c0_7, .slice A0_8 l0_8.length c0_8, .slice A0_9 l0_9.length c0_9, .int .i64 a0_10] 31 (0, 0)) (by (with_reducible repeat (first | refine bN ?_ _ | refine bD ?_ | refine bA ?_ _)); exact BK125.out) hb)
                      have n2_ := Aside0.mk (bB (g := gb139) (o := .cells #[.int .i64 ((rd_T50 l3 x40_2).f0), .int .i64 ((rd_T50 l3 x40_2).f1), .int .i64 ((rd_T50 l3 x40_2).f2.f0), .int .i64 ((rd_T50 l3 x40_2).f2.f1)] 50 (0, 0)) (by (with_reducible repeat (first | refine bN ?_ _ | refine bD ?_ | refine bA ?_ _)); exact BK139.out) hb)
                      have n3_ := Aside0.mk (bP (by repeat (first | (with_reducible first | exact HB.out | apply bL | apply bW | apply b1 | refine bS ?_ GE125.out | refine bS ?_ GE139.out) | exact HB.out)) hb)
                      clear HO_9; clear BK125; clear BK139; clear HB; have HO_9 := n0_
                      have BK125 := n1_
                      have BK139 := n2_
                      have HB := n3_
                      clear n0_ n1_ n2_ n3_; (try clear hb); (try clear hb2); (try clear hk); (try clear hi); refine hK.out _ _ ⟨(bC BK139.out 0).trans rfl, (bC BK139.out 1).trans rfl, (bC BK139.out 2).trans rfl, (bC BK139.out 3).trans rfl, HS4_, HS5_⟩ (fun hHeld => ?_)
                      clear hK K; refine norm_ (a' := ?_) ?_ ?_
                      rotate_left
                      ·
                       show Act.put _ (some 93) _ = _
                       simp only [Act.put, lA, lZ, lS, i64_w, i32_w]; rfl
                      refine pure_ (i := 7) (N := some 86) (v := ?_) (a' := ?_) #[T,T,T,T,T,T,T,T,F,F,F,F,F] rfl rfl (any_of HT_.out (by kernel_rfl)) (fun _ _ _ h => h) (Or.inl ⟨by rfl, ?_⟩) ?_ ?_
                      rotate_left
                      ·
                       intro w'; go_simp; with_reducible rfl
                      rotate_left
                      ·
                       simp only [Act.put, lA, lZ, lS, i64_w, i32_w]; rfl
                      refine pure_ (i := 8) (N := some 94) (v := ?_) (a' := ?_) #[T,T,T,T,T,T,T,T,T,F,F,F,F] rfl rfl (any_of HT_.out (by kernel_rfl)) (fun _ _ _ h => h) (Or.inl ⟨by rfl, ?_⟩) ?_ ?_
                      rotate_left
                      ·
                       intro w'; go_simp; with_reducible rfl
                      rotate_left
                      ·
                       simp only [Act.put, lA, lZ, lS, i64_w, i32_w]; rfl
                      refine pure_ (i := 9) (N := some 95) (v := ?_) (a' := ?_) #[T,T,T,T,T,T,T,T,T,T,F,F,F] rfl rfl (any_of HT_.out (by kernel_rfl)) (fun _ _ _ h => h) (Or.inl ⟨by rfl, ?_⟩) ?_ ?_
                      rotate_left
                      ·
                       intro w'; go_simp; with_reducible rfl
                      rotate_left
                      ·
                       simp only [Act.put, lA, lZ, lS, i64_w, i32_w]; rfl
                      refine one_ (i := 10) (N := some 15) #[T,T,T,T,T,T,T,T,T,T,T,F,F] rfl rfl (one_of HT_.out (by kernel_rfl)) (by decide) (fun K hK => ?_)
                      refine box_step ?hg (N := 15) ?hd (cs := #[.int .i64 0, .int .i64 0]) (t := 40) ?hr ?_; (case hd => rfl); (case hg => rfl); (case hr => first | (go_simp; done) | (go_simp; rfl))
                      intro gb147 hg w75 hbox hb; have HS4_ := (hb.cell (wL _ _ (hHeld.2.2.2.2.1))).trans (hHeld.2.2.2.2.1)
                      have HS5_ := (hb.cell (wL _ _ (hHeld.2.2.2.2.2))).trans (hHeld.2.2.2.2.2)
                      have n0_ := Aside0.mk (Kd.R_below (Kd.R_elderB (by (with_reducible repeat (first | apply Kd.R_alloc | apply Kd.R_drewN | apply Kd.R_drew)); exact HO_9.out) gb147 (Nat.le_of_eq hg.symm)) hb)
                      have n1_ := Aside0.mk (bB (g := gb125) (o := .cells #[.string a0_0, .slice A0_1 l0_1.length c0_1, .int .i64 a0_2, .slice A0_3 l0_3.length c0_3, .slice A0_4 l0_4.length c0_4, .slice A0_5 l0_5.length c0_5, .slice (some ad141) l0_6.length c0_6, .slice A0_7 l0_7.length c0_7, .slice A0_8 l0_8.length c0_8, .slice A0_9 l0_9.length c0_9, .int .i64 a0_10] 31 (0, 0)) (by (with_reducible repeat (first | refine bN ?_ _ | refine bD ?_ | refine bA ?_ _)); exact BK125.out) hb)
                      have n2_ := Aside0.mk (bB (g := gb139) (o := .cells #[.int .i64 ((rd_T50 l3 x40_2).f0), .int .i64 ((rd_T50 l3 x40_2).f1), .int .i64 ((rd_T50 l3 x40_2).f2.f0), .int .i64 ((rd_T50 l3 x40_2).f2.f1)] 50 (0, 0)) (by (with_reducible repeat (first | refine bN ?_ _ | refine bD ?_ | refine bA ?_ _)); exact BK139.out) hb)
                      have n3_ := Aside0.mk (bP (by repeat (first | (with_reducible first | exact HB.out | apply bL | apply bW | apply b1 | refine bS ?_ GE125.out | refine bS ?_ GE139.out) | exact HB.out)) hb)
                      have n4_ := Aside0.mk (hbox)
                      have n5_ := Aside0.mk ((by rw [hg]; exact (bZ (by repeat (first | (with_reducible first | exact HB.out | apply bL | apply bW | apply b1 | refine bS ?_ GE125.out | refine bS ?_ GE139.out) | exact HB.out))) : w.heap.size ≤ gb147))
                      have n6_ := Aside0.mk ((by rw [hg]; exact (bZ (by repeat (first | (with_reducible first | exact HB.out | apply bL | apply bW | apply b1 | refine bS ?_ GE125.out | refine bS ?_ GE139.out) | exact HB.out))) : w.heap.size ≤ gb147))
                      have n7_ := Aside0.mk ((by rw [hg]; exact Nat.ne_of_lt (bT (g := gb125) (o := .cells #[.string a0_0, .slice A0_1 l0_1.length c0_1, .int .i64 a0_2, .slice A0_3 l0_3.length c0_3, .slice A0_4 l0_4.length c0_4, .slice A0_5 l0_5.length c0_5, .slice (some ad141) l0_6.length c0_6, .slice A0_7 l0_7.length c0_7, .slice A0_8 l0_8.length c0_8, .slice A0_9 l0_9.length c0_9, .int .i64 a0_10] 31 (0, 0)) (by (with_reducible repeat (first | refine bN ?_ _ | refine bD ?_ | refine bA ?_ _)); exact BK125.out)) : gb125 ≠ gb147))
                      have n8_ := Aside0.mk ((by rw [hg]; exact Nat.ne_of_gt (bT (g := gb125) (o := .cells #[.string a0_0, .slice A0_1 l0_1.length c0_1, .int .i64 a0_2, .slice A0_3 l0_3.length c0_3, .slice A0_4 l0_4.length c0_4, .slice A0_5 l0_5.length c0_5, .slice (some ad141) l0_6.length c0_6, .slice A0_7 l0_7.length c0_7, .slice A0_8 l0_8.length c0_8, .slice A0_9 l0_9.length c0_9, .int .i64 a0_10] 31 (0, 0)) (by (with_reducible repeat (first | refine bN ?_ _ | refine bD ?_ | refine bA ?_ _)); exact BK125.out)) : gb147 ≠ gb125))
                      have n9_ := Aside0.mk ((by rw [hg]; exact Nat.ne_of_lt (bT (g := gb139) (o := .cells #[.int .i64 ((rd_T50 l3 x40_2).f0), .int .i64 ((rd_T50 l3 x40_2).f1), .int .i64 ((rd_T50 l3 x40_2).f2.f0), .int .i64 ((rd_T50 l3 x40_2).f2.f1)] 50 (0, 0)) (by (with_reducible repeat (first | refine bN ?_ _ | refine bD ?_ | refine bA ?_ _)); exact BK139.out)) : gb139 ≠ gb147))
                      have n10_ := Aside0.mk ((by rw [hg]; exact Nat.ne_of_gt (bT (g := gb139) (o := .cells #[.int .i64 ((rd_T50 l3 x40_2).f0), .int .i64 ((rd_T50 l3 x40_2).f1), .int .i64 ((rd_T50 l3 x40_2).f2.f0), .int .i64 ((rd_T50 l3 x40_2).f2.f1)] 50 (0, 0)) (by (with_reducible repeat (first | refine bN ?_ _ | refine bD ?_ | refine bA ?_ _)); exact BK139.out)) : gb147 ≠ gb139))
                      clear HO_9; clear BK125; clear BK139; clear HB; have HO_9 := n0_
                      have BK125 := n1_
                      have BK139 := n2_
                      have HB := n3_
                      have BK147 := n4_
                      have GW147 := n5_
                      have GE147 := n6_
                      have NB125_147 := n7_
                      have NB147_125 := n8_
                      have NB139_147 := n9_
                      have NB147_139 := n10_
                      clear n0_ n1_ n2_ n3_ n4_ n5_ n6_ n7_ n8_ n9_ n10_; clear hb hbox hg; refine hK.out _ _ ⟨(bC BK139.out 0).trans rfl, (bC BK139.out 1).trans rfl, (bC BK139.out 2).trans rfl, (bC BK139.out 3).trans rfl, HS4_, HS5_⟩ (fun hHeld => ?_)
                      clear hK K; refine norm_ (a' := ?_) ?_ ?_
                      rotate_left
                      ·
                       show Act.put _ (some 15) _ = _
                       simp only [Act.put, lA, lZ, lS, i64_w, i32_w]; rfl
                      exact norm_ (by simp only [putAll, Act.put, lA, lZ, lS]) (hCont (gb147) _ ⟨hHeld, (by (with_reducible repeat (first | apply Kd.R_alloc | apply Kd.R_drewN | apply Kd.R_drew)); exact Kd.R_mono HO_9.out (fun _ hk => hk.2)), (by (with_reducible repeat (first | refine bN ?_ _ | refine bD ?_ | refine bA ?_ _)); exact BK125.out), (by (with_reducible repeat (first | refine bN ?_ _ | refine bD ?_ | refine bA ?_ _)); exact BK139.out), (by (with_reducible repeat (first | refine bN ?_ _ | refine bD ?_ | refine bA ?_ _)); exact BK147.out), GW147.out, GE147.out, NB125_147.out, NB147_125.out, NB139_147.out, NB147_139.out, (by repeat (first | (with_reducible first | exact HB.out | apply bL | apply bW | apply b1 | refine bS ?_ GE125.out | refine bS ?_ GE139.out | refine bS ?_ GE147.out) | exact HB.out))⟩)
                     ·
                      skip
                      refine box_step ?hg (N := 15) ?hd (cs := #[.int .i64 0, .int .i64 0]) (t := 40) ?hr ?_; (case hd => rfl); (case hg => rfl); (case hr => first | (go_simp; done) | (go_simp; rfl))
                      intro gb147 hg w74 hbox hb; have HS4_ := (hb.cell (wL _ _ (hHeld.2.2.2.2.1))).trans (hHeld.2.2.2.2.1)
                      have HS5_ := (hb.cell (wL _ _ (hHeld.2.2.2.2.2))).trans (hHeld.2.2.2.2.2)
                      have n0_ := Aside0.mk (Kd.R_below (Kd.R_elderB (by (with_reducible repeat (first | apply Kd.R_alloc | apply Kd.R_drewN | apply Kd.R_drew)); exact HO_9.out) gb147 (Nat.le_of_eq hg.symm)) hb)
                      have n1_ := Aside0.mk (bB (g := gb125) (o := .cells #[.string a0_0, .slice A0_1 l0_1.length c0_1, .int .i64 a0_2, .slice A0_3 l0_3.length c0_3, .slice A0_4 l0_4.length c0_4, .slice A0_5 l0_5.length c0_5, .slice (some ad141) l0_6.length c0_6, .slice A0_7 l0_7.length c0_7, .slice A0_8 l0_8.length c0_8, .slice A0_9 l0_9.length c0_9, .int .i64 a0_10] 31 (0, 0)) (by (with_reducible repeat (first | refine bN ?_ _ | refine bD ?_ | refine bA ?_ _)); exact BK125.out) hb)
                      have n2_ := Aside0.mk (bB (g := gb139) (o := .cells #[.int .i64 ((rd_T50 l3 x40_2).f0), .int .i64 ((rd_T50 l3 x40_2).f1), .int .i64 ((rd_T50 l3 x40_2).f2.f0), .int .i64 ((rd_T50 l3 x40_2).f2.f1)] 50 (0, 0)) (by (with_reducible repeat (first | refine bN ?_ _ | refine bD ?_ | refine bA ?_ _)); exact BK139.out) hb)
                      have n3_ := Aside0.mk (bP (by repeat (first | (with_reducible first | exact HB.out | apply bL | apply bW | apply b1 | refine bS ?_ GE125.out | refine bS ?_ GE139.out) | exact HB.out)) hb)
                      have n4_ := Aside0.mk (hbox)
                      have n5_ := Aside0.mk ((by rw [hg]; exact (bZ (by repeat (first | (with_reducible first | exact HB.out | apply bL | apply bW | apply b1 | refine bS ?_ GE125.out | refine bS ?_ GE139.out) | exact HB.out))) : w.heap.size ≤ gb147))
                      have n6_ := Aside0.mk ((by rw [hg]; exact (bZ (by repeat (first | (with_reducible first | exact HB.out | apply bL | apply bW | apply b1 | refine bS ?_ GE125.out | refine bS ?_ GE139.out) | exact HB.out))) : w.heap.size ≤ gb147))
                      have n7_ := Aside0.mk ((by rw [hg]; exact Nat.ne_of_lt (bT (g := gb125) (o := .cells #[.string a0_0, .slice A0_1 l0_1.length c0_1, .int .i64 a0_2, .slice A0_3 l0_3.length c0_3, .slice A0_4 l0_4.length c0_4, .slice A0_5 l0_5.length c0_5, .slice (some ad141) l0_6.length c0_6, .slice A0_7 l0_7.length c0_7, .slice A0_8 l0_8.length c0_8, .slice A0_9 l0_9.length c0_9, .int .i64 a0_10] 31 (0, 0)) (by (with_reducible repeat (first | refine bN ?_ _ | refine bD ?_ | refine bA ?_ _)); exact BK125.out)) : gb125 ≠ gb147))
                      have n8_ := Aside0.mk ((by rw [hg]; exact Nat.ne_of_gt (bT (g := gb125) (o := .cells #[.string a0_0, .slice A0_1 l0_1.length c0_1, .int .i64 a0_2, .slice A0_3 l0_3.length c0_3, .slice A0_4 l0_4.length c0_4, .slice A0_5 l0_5.length c0_5, .slice (some ad141) l0_6.length c0_6, .slice A0_7 l0_7.length c0_7, .slice A0_8 l0_8.length c0_8, .slice A0_9 l0_9.length c0_9, .int .i64 a0_10] 31 (0, 0)) (by (with_reducible repeat (first | refine bN ?_ _ | refine bD ?_ | refine bA ?_ _)); exact BK125.out)) : gb147 ≠ gb125))
                      have n9_ := Aside0.mk ((by rw [hg]; exact Nat.ne_of_lt (bT (g := gb139) (o := .cells #[.int .i64 ((rd_T50 l3 x40_2).f0), .int .i64 ((rd_T50 l3 x40_2).f1), .int .i64 ((rd_T50 l3 x40_2).f2.f0), .int .i64 ((rd_T50 l3 x40_2).f2.f1)] 50 (0, 0)) (by (with_reducible repeat (first | refine bN ?_ _ | refine bD ?_ | refine bA ?_ _)); exact BK139.out)) : gb139 ≠ gb147))
                      have n10_ := Aside0.mk ((by rw [hg]; exact Nat.ne_of_gt (bT (g := gb139) (o := .cells #[.int .i64 ((rd_T50 l3 x40_2).f0), .int .i64 ((rd_T50 l3 x40_2).f1), .int .i64 ((rd_T50 l3 x40_2).f2.f0), .int .i64 ((rd_T50 l3 x40_2).f2.f1)] 50 (0, 0)) (by (with_reducible repeat (first | refine bN ?_ _ | refine bD ?_ | refine bA ?_ _)); exact BK139.out)) : gb147 ≠ gb139))
                      clear HO_9; clear BK125; clear BK139; clear HB; have HO_9 := n0_
                      have BK125 := n1_
                      have BK139 := n2_
                      have HB := n3_
                      have BK147 := n4_
                      have GW147 := n5_
                      have GE147 := n6_
                      have NB125_147 := n7_
                      have NB147_125 := n8_
                      have NB139_147 := n9_
                      have NB147_139 := n10_
                      clear n0_ n1_ n2_ n3_ n4_ n5_ n6_ n7_ n8_ n9_ n10_; clear hb hbox hg; refine hK.out _ _ ⟨(bC BK139.out 0).trans rfl, (bC BK139.out 1).trans rfl, (bC BK139.out 2).trans rfl, (bC BK139.out 3).trans rfl, HS4_, HS5_⟩ (fun hHeld => ?_)
                      clear hK K; refine norm_ (a' := ?_) ?_ ?_
                      rotate_left
                      ·
                       show Act.put _ (some 15) _ = _
                       simp only [Act.put, lA, lZ, lS, i64_w, i32_w]; rfl
                      refine one_ (i := 6) (N := some 93) #[T,T,T,T,T,T,T,F,F,F,T,F,F] rfl rfl (one_of HT_.out (by kernel_rfl)) (by decide) (fun K hK => ?_)
                      refine goes_ Try.func28 (by kernel_rfl) rfl #[.agg #[.int .i64 ((rd_T40 x9_2 ((rd_T67 l0_6 ((rd_T50 l3 x40_2).f0)).f2)).f0), .int .i64 ((rd_T40 x9_2 ((rd_T67 l0_6 ((rd_T50 l3 x40_2).f0)).f2)).f1)], .agg #[.int .i64 ((rd_T50 l3 x40_2).f2.f0), .int .i64 ((rd_T50 l3 x40_2).f2.f1)]] (by rfl) rfl rfl (by (try simp only [List.map_toArray, List.map_cons, List.map_nil]); first | done | rfl | (simp only [List.length_drop, List.length_take]; rfl)) ?_
                      with_reducible refine (span_Meet.calls ((rd_T40 x9_2 ((rd_T67 l0_6 ((rd_T50 l3 x40_2).f0)).f2)).f0) ((rd_T40 x9_2 ((rd_T67 l0_6 ((rd_T50 l3 x40_2).f0)).f2)).f1) ((rd_T50 l3 x40_2).f2.f0) ((rd_T50 l3 x40_2).f2.f1) t144 t145 false _ A56.out).mono ?_
                      rintro e w75 ⟨rfl, hb⟩
                      have HS4_ := (hb.cell (wL _ _ (hHeld.2.2.2.2.1))).trans (hHeld.2.2.2.2.1)
                      have HS5_ := (hb.cell (wL _ _ (hHeld.2.2.2.2.2))).trans (hHeld.2.2.2.2.2)
                      refine ⟨_, rfl, ?_⟩
                      have n0_ := Aside0.mk (Kd.R_below (by (with_reducible repeat (first | apply Kd.R_alloc | apply Kd.R_drewN | apply Kd.R_drew)); exact HO_9.out) hb)
                      have n1_ := Aside0.mk (bB (g := gb125) (o := .cells #[.string a0_0, .slice A0_1 l0_1.length c0_1, .int .i64 a0_2, .slice A0_3 l0_3.length c0_3, .slice A0_4 l0_4.length c0_4, .slice A0_5 l0_5.length c0_5, .slice (some ad141) l0_6.length c0_6, .slice A0_7 l0_7.length c0_7, .slice A0_8 l0_8.length c0_8, .slice A0_9 l0_9.length c0_9, .int .i64 a0_10] 31 (0, 0)) (by (with_reducible repeat (first | refine bN ?_ _ | refine bD ?_ | refine bA ?_ _)); exact BK125.out) hb)
                      have n2_ := Aside0.mk (bB (g := gb139) (o := .cells #[.int .i64 ((rd_T50 l3 x40_2).f0), .int .i64 ((rd_T50 l3 x40_2).f1), .int .i64 ((rd_T50 l3 x40_2).f2.f0), .int .i64 ((rd_T50 l3 x40_2).f2.f1)] 50 (0, 0)) (by (with_reducible repeat (first | refine bN ?_ _ | refine bD ?_ | refine bA ?_ _)); exact BK139.out) hb)
                      have n3_ := Aside0.mk (bB (g := gb147) (o := .cells #[.int .i64 0, .int .i64 0] 40 (0, 0)) (by (with_reducible repeat (first | refine bN ?_ _ | refine bD ?_ | refine bA ?_ _)); exact BK147.out) hb)
                      have n4_ := Aside0.mk (bP (by repeat (first | (with_reducible first | exact HB.out | apply bL | apply bW | apply b1 | refine bS ?_ GE125.out | refine bS ?_ GE139.out | refine bS ?_ GE147.out) | exact HB.out)) hb)
                      clear HO_9; clear BK125; clear BK139; clear BK147; clear HB; have HO_9 := n0_
                      have BK125 := n1_
                      have BK139 := n2_
                      have BK147 := n3_
                      have HB := n4_
                      clear n0_ n1_ n2_ n3_ n4_; (try clear hb); (try clear hb2); (try clear hk); (try clear hi); refine hK.out _ _ ⟨(bC BK139.out 0).trans rfl, (bC BK139.out 1).trans rfl, (bC BK139.out 2).trans rfl, (bC BK139.out 3).trans rfl, HS4_, HS5_⟩ (fun hHeld => ?_)
                      clear hK K; refine norm_ (a' := ?_) ?_ ?_
                      rotate_left
                      ·
                       show Act.put _ (some 93) _ = _
                       simp only [Act.put, lA, lZ, lS, i64_w, i32_w]; rfl
                      refine pure_ (i := 7) (N := some 86) (v := ?_) (a' := ?_) #[T,T,T,T,T,T,T,T,F,F,T,F,F] rfl rfl (any_of HT_.out (by kernel_rfl)) (fun _ _ _ h => h) (Or.inl ⟨by rfl, ?_⟩) ?_ ?_
                      rotate_left
                      ·
                       intro w'; go_simp; with_reducible rfl
                      rotate_left
                      ·
                       simp only [Act.put, lA, lZ, lS, i64_w, i32_w]; rfl
                      refine pure_ (i := 8) (N := some 94) (v := ?_) (a' := ?_) #[T,T,T,T,T,T,T,T,T,F,T,F,F] rfl rfl (any_of HT_.out (by kernel_rfl)) (fun _ _ _ h => h) (Or.inl ⟨by rfl, ?_⟩) ?_ ?_
                      rotate_left
                      ·
                       intro w'; go_simp; with_reducible rfl
                      rotate_left
                      ·
                       simp only [Act.put, lA, lZ, lS, i64_w, i32_w]; rfl
                      refine pure_ (i := 9) (N := some 95) (v := ?_) (a' := ?_) #[T,T,T,T,T,T,T,T,T,T,T,F,F] rfl rfl (any_of HT_.out (by kernel_rfl)) (fun _ _ _ h => h) (Or.inl ⟨by rfl, ?_⟩) ?_ ?_
                      rotate_left
                      ·
                       intro w'; go_simp; with_reducible rfl
                      rotate_left
                      ·
                       simp only [Act.put, lA, lZ, lS, i64_w, i32_w]; rfl
                      exact norm_ (by simp only [putAll, Act.put, lA, lZ, lS]) (hCont (gb147) _ ⟨hHeld, (by (with_reducible repeat (first | apply Kd.R_alloc | apply Kd.R_drewN | apply Kd.R_drew)); exact Kd.R_mono HO_9.out (fun _ hk => hk.2)), (by (with_reducible repeat (first | refine bN ?_ _ | refine bD ?_ | refine bA ?_ _)); exact BK125.out), (by (with_reducible repeat (first | refine bN ?_ _ | refine bD ?_ | refine bA ?_ _)); exact BK139.out), (by (with_reducible repeat (first | refine bN ?_ _ | refine bD ?_ | refine bA ?_ _)); exact BK147.out), GW147.out, GE147.out, NB125_147.out, NB147_125.out, NB139_147.out, NB147_139.out, (by repeat (first | (with_reducible first | exact HB.out | apply bL | apply bW | apply b1 | refine bS ?_ GE125.out | refine bS ?_ GE139.out | refine bS ?_ GE147.out) | exact HB.out))⟩)
                    rintro gb147 w76 ⟨hS_, h0_, h1_, h2_, h3_, h4_, h5_, h6_, h7_, h8_, h9_, h10_⟩
                    have n0_ : Aside0 (Kd.R k40 40 w76 w.heap.size (fun k_ => k_ ≠ gb147) (.slice (some ad143) x9_2.length co73) x9_2) := ⟨h0_⟩
                    have n1_ : Aside0 (w76.heap[gb125]? = some (.cells #[.string a0_0, .slice A0_1 l0_1.length c0_1, .int .i64 a0_2, .slice A0_3 l0_3.length c0_3, .slice A0_4 l0_4.length c0_4, .slice A0_5 l0_5.length c0_5, .slice (some ad141) l0_6.length c0_6, .slice A0_7 l0_7.length c0_7, .slice A0_8 l0_8.length c0_8, .slice A0_9 l0_9.length c0_9, .int .i64 a0_10] 31 (0, 0))) := ⟨h1_⟩
                    have n2_ : Aside0 (w76.heap[gb139]? = some (.cells #[.int .i64 ((rd_T50 l3 x40_2).f0), .int .i64 ((rd_T50 l3 x40_2).f1), .int .i64 ((rd_T50 l3 x40_2).f2.f0), .int .i64 ((rd_T50 l3 x40_2).f2.f1)] 50 (0, 0))) := ⟨h2_⟩
                    have n3_ : Aside0 (w76.heap[gb147]? = some (.cells #[.int .i64 0, .int .i64 0] 40 (0, 0))) := ⟨h3_⟩
                    have n4_ : Aside0 (w.heap.size ≤ gb147) := ⟨h4_⟩
                    have n5_ : Aside0 (w.heap.size ≤ gb147) := ⟨h5_⟩
                    have n6_ : Aside0 (gb125 ≠ gb147) := ⟨h6_⟩
                    have n7_ : Aside0 (gb147 ≠ gb125) := ⟨h7_⟩
                    have n8_ : Aside0 (gb139 ≠ gb147) := ⟨h8_⟩
                    have n9_ : Aside0 (gb147 ≠ gb139) := ⟨h9_⟩
                    have n10_ : Aside0 (Below w.heap.size w w76) := ⟨h10_⟩
                    clear HO_9; clear BK125; clear BK139; clear HB; clear h0_ h1_ h2_ h3_ h4_ h5_ h6_ h7_ h8_ h9_ h10_; have HO_9 := n0_
                    have BK125 := n1_
                    have BK139 := n2_
                    have BK147 := n3_
                    have GW147 := n4_
                    have GE147 := n5_
                    have NB125_147 := n6_
                    have NB147_125 := n7_
                    have NB139_147 := n8_
                    have NB147_139 := n9_
                    have HB := n10_
                    clear n0_ n1_ n2_ n3_ n4_ n5_ n6_ n7_ n8_ n9_ n10_; have hHeld : w76.cell? ⟨gb139, 0, none⟩ = some (.int .i64 ((rd_T50 l3 x40_2).f0)) ∧ w76.cell? ⟨gb139, 1, none⟩ = some (.int .i64 ((rd_T50 l3 x40_2).f1)) ∧ w76.cell? ⟨gb139, 2, none⟩ = some (.int .i64 ((rd_T50 l3 x40_2).f2.f0)) ∧ w76.cell? ⟨gb139, 3, none⟩ = some (.int .i64 ((rd_T50 l3 x40_2).f2.f1)) ∧ w76.cell? (ad143.add ((((rd_T67 l0_6 ((rd_T50 l3 x40_2).f0)).f2)).toNat * 2)) = some (.int .i64 ((rd_T40 x9_2 ((rd_T67 l0_6 ((rd_T50 l3 x40_2).f0)).f2)).f0)) ∧ w76.cell? ⟨(ad143.add ((((rd_T67 l0_6 ((rd_T50 l3 x40_2).f0)).f2)).toNat * 2)).block, (ad143.add ((((rd_T67 l0_6 ((rd_T50 l3 x40_2).f0)).f2)).toNat * 2)).off + 1, none⟩ = some (.int .i64 ((rd_T40 x9_2 ((rd_T67 l0_6 ((rd_T50 l3 x40_2).f0)).f2)).f1)) := hS_
                    refine norm_ (a' := ?_) ?_ ?_
                    rotate_left
                    ·
                     simp only [putAll, Act.put, lA, lZ, lS]; rfl
                    refine one_ (i := 11) (N := none) #[T,T,T,T,T,T,T,T,T,T,T,T,F] rfl rfl (one_of HT_.out (by kernel_rfl)) (by decide) (fun K hK => ?_)
                    have hs77 : w76.cell? ⟨gb147, 0, none⟩ = some (.int .i64 0) := (bC BK147.out 0).trans rfl
                    have hfs77 := bF BK147.out 0
                    have hns77_0 := NB125_147.out
                    have hns77_1 := NB139_147.out
                    have hms77_0 := NB147_125.out
                    have hms77_1 := NB147_139.out
                    have hs78 : w76.cell? ⟨gb147, 1, none⟩ = some (.int .i64 0) := (bC BK147.out 1).trans rfl
                    have hfs78 := bF BK147.out 1
                    have hns78_0 := NB125_147.out
                    have hns78_1 := NB139_147.out
                    have hms78_0 := NB147_125.out
                    have hms78_1 := NB147_139.out
                    refine skip_ (w1 := ?_) (by rfl) rfl ?_ ?_
                    rotate_left
                    ·
                     go_simp; rfl
                    refine hK.out _ _ ⟨((cell_far (p := ⟨gb147, _, none⟩) NB139_147.out _).trans (((cell_far (p := ⟨gb147, _, none⟩) NB139_147.out _).trans (hHeld.1)))), ((cell_far (p := ⟨gb147, _, none⟩) NB139_147.out _).trans (((cell_far (p := ⟨gb147, _, none⟩) NB139_147.out _).trans (hHeld.2.1)))), ((cell_far (p := ⟨gb147, _, none⟩) NB139_147.out _).trans (((cell_far (p := ⟨gb147, _, none⟩) NB139_147.out _).trans (hHeld.2.2.1)))), ((cell_far (p := ⟨gb147, _, none⟩) NB139_147.out _).trans (((cell_far (p := ⟨gb147, _, none⟩) NB139_147.out _).trans (hHeld.2.2.2.1)))), ((cell_far (p := ⟨gb147, _, none⟩) (by first | exact Kd.own_blk (Kd.R_away HO_9.out (fun _ hk => hk)) | (rw [add_block]; exact Kd.own_blk (Kd.R_away HO_9.out (fun _ hk => hk))) | (show (Addr.add _ _).block ≠ _; rw [add_block]; exact Kd.own_blk (Kd.R_away HO_9.out (fun _ hk => hk))) | (dsimp only; exact Kd.own_blk (Kd.R_away HO_9.out (fun _ hk => hk)))) _).trans (((cell_far (p := ⟨gb147, _, none⟩) (by first | exact Kd.own_blk (Kd.R_away HO_9.out (fun _ hk => hk)) | (rw [add_block]; exact Kd.own_blk (Kd.R_away HO_9.out (fun _ hk => hk))) | (show (Addr.add _ _).block ≠ _; rw [add_block]; exact Kd.own_blk (Kd.R_away HO_9.out (fun _ hk => hk))) | (dsimp only; exact Kd.own_blk (Kd.R_away HO_9.out (fun _ hk => hk)))) _).trans (hHeld.2.2.2.2.1)))), ((cell_far (p := ⟨gb147, _, none⟩) (by first | exact Kd.own_blk (Kd.R_away HO_9.out (fun _ hk => hk)) | (rw [add_block]; exact Kd.own_blk (Kd.R_away HO_9.out (fun _ hk => hk))) | (show (Addr.add _ _).block ≠ _; rw [add_block]; exact Kd.own_blk (Kd.R_away HO_9.out (fun _ hk => hk))) | (dsimp only; exact Kd.own_blk (Kd.R_away HO_9.out (fun _ hk => hk)))) _).trans (((cell_far (p := ⟨gb147, _, none⟩) (by first | exact Kd.own_blk (Kd.R_away HO_9.out (fun _ hk => hk)) | (rw [add_block]; exact Kd.own_blk (Kd.R_away HO_9.out (fun _ hk => hk))) | (show (Addr.add _ _).block ≠ _; rw [add_block]; exact Kd.own_blk (Kd.R_away HO_9.out (fun _ hk => hk))) | (dsimp only; exact Kd.own_blk (Kd.R_away HO_9.out (fun _ hk => hk)))) _).trans (hHeld.2.2.2.2.2))))⟩ (fun hHeld => ?_)
                    clear hK K; refine pure_ (i := 12) (N := some 16) (v := ?_) (a' := ?_) #[T,T,T,T,T,T,T,T,T,T,T,T,T] rfl rfl (any_of HT_.out (by kernel_rfl)) (fun _ _ _ h => h) (Or.inl ⟨by rfl, ?_⟩) ?_ ?_
                    rotate_left
                    ·
                     intro w'; go_simp; with_reducible rfl
                    rotate_left
                    ·
                     simp only [Act.put, lA, lZ, lS, i64_w, i32_w]; rfl
                    refine done_ (done_of HT_.out (by kernel_rfl)) ?_
                    try go_wp2
                    go_roundg kj40
                    case measure => have := HK1.out; have := HK2.out; have := HJ21.out; have := HJ40.out; omega
                    case rel => exact ⟨(x9_2), (wrap64 (x40_2 + 1)), (by first | rfl | (simp; done) | (simp [*]; done)), H', ⟨by have := HK1.out; have := HK2.out; have := HJ21.out; have := HJ40.out; omega⟩, ⟨by (with_reducible repeat (first | apply Kd.R_alloc | apply Kd.R_drewN | apply Kd.R_drew)); exact Kd.R_mono (Kd.R_far (p := ⟨gb147, 1, none⟩) (Kd.R_far (p := ⟨gb147, 0, none⟩) (Kd.R_mono HO_9.out (fun k_ hk => (⟨hk, hk⟩ : _ ∧ k_ ≠ gb147))) (fun _ hk => hk.2) (.int .i64 t144)) (fun _ hk => hk.2) (.int .i64 t145)) (fun _ hk => trivial)⟩, ⟨by (with_reducible repeat (first | refine bN ?_ _ | refine bD ?_ | refine bA ?_ _)); refine bR ?_ NB125_147.out _; (with_reducible repeat (first | refine bN ?_ _ | refine bD ?_ | refine bA ?_ _)); refine bR ?_ NB125_147.out _; (with_reducible repeat (first | refine bN ?_ _ | refine bD ?_ | refine bA ?_ _)); exact BK125.out⟩, ⟨by repeat (first | (with_reducible first | exact HB.out | apply bL | apply bW | apply b1 | refine bS ?_ GE125.out | refine bS ?_ GE139.out | refine bS ?_ GE147.out) | exact HB.out)⟩⟩
                  ·
                   rw [if_neg c55] at H; exact absurd H (by simp)
                 ·
                  rw [if_neg c54] at H; exact absurd H (by simp)
             ·
              rw [if_neg c40] at H; exact absurd H (by simp)
            ·
             rw [if_neg c39] at H; exact absurd H (by simp)
        ·
         rw [if_neg c21] at H; exact absurd H (by simp)
       ·
        rw [if_neg c20] at H; exact absurd H (by simp)
      ·
       rw [if_neg c19] at H; have c19b0 : decide (x40_2 < (l3.length : Int)) = false := decide_eq_false c19
       clear c19; obtain rfl := Option.some.inj H
       go_wp2
       go_ret
       exact ⟨_, by first | rfl | (simp [errW_none, errW_some] <;> rfl) | (simp [*, errW_none, errW_some] <;> rfl), by (with_reducible repeat (first | apply Kd.R_alloc | apply Kd.R_drewN | apply Kd.R_drew)); exact HO_9.out, by repeat (first | (with_reducible first | exact HB.out | apply bL | apply bW | apply b1 | refine bS ?_ GE125.out) | exact HB.out)⟩
end Go.Proofs.Ytpklgbnihgljmaa.Fn
