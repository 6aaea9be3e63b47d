-- written by this session's program myprint.py out of the translation; Lean checks it
import Derived.Test.YtpklgbnihgljmaaFn0
import Derived.Test.YtpklgbnihgljmaaFn8
import Derived.Test.YtpklgbnihgljmaaFn9
namespace Go.Proofs.Ytpklgbnihgljmaa.Fn
open Go.RowKit Go.Proofs.YtpklgbnihgljmaaW.PrintWords Go.Proofs.YtpklgbnihgljmaaW.PrintLast Go.Proofs.YtpklgbnihgljmaaW.PrintMore
open World renaming block_lt_of_cell? → wL
open Bool renaming true → T, false → F
open List renaming setIfInBounds_toArray → lA, set_cons_zero → lZ, set_cons_succ → lS
open Go.Proofs.YtpklgbnihgljmaaW.PrintWords renaming blk_drewN → bN, blk_drew → bD, blk_alloc → bA, below_set → bS, blk_cell → bC, blk_below → bB, blk_frozen → bF, pw_below_drewN → bW, below_drew1 → b1, below_alloc → bL, below_step → bP, below_size → bZ, blk_far → bR, blk_put → bU, blk_lt → bT
attribute [local go_sem] max2_int min2_int max_two min_two max_three min_three max_four min_four
set_option linter.unusedVariables false
set_option linter.unusedSimpArgs false
mutual
def bourneref26_Cell.j0 : Nat → Int → List (S50) → Int → Int → ByteArray → List ByteArray → Int → List (S56) → List (S104) → List (S106) → List (S67) → List (S108) → List (S110) → List Int → Int → Option (Int × Int)
 | 0, _, _, _, _, _, _, _, _, _, _, _, _, _, _, _ => none
 | k + 1, x2, x3, x4, x11, x221000, x221001, x221002, x221003, x221004, x221005, x221006, x221007, x221008, x221009, x221010 => (bourneref26_Radar.f k x11 x2).bind fun bt223 => (bourneref26_Cell.l0 k x3 x4 0 x221000 x221001 x221002 x221003 x221004 x221005 x221006 x221007 x221008 x221009 x221010 bt223.1 bt223.2)
def bourneref26_Cell.l0 : Nat → List (S50) → Int → Int → ByteArray → List ByteArray → Int → List (S56) → List (S104) → List (S106) → List (S67) → List (S108) → List (S110) → List Int → Int → Int → Int → Option (Int × Int)
 | 0, _, _, _, _, _, _, _, _, _, _, _, _, _, _, _, _ => none
 | k + 1, x3, x4, x13, x221000, x221001, x221002, x221003, x221004, x221005, x221006, x221007, x221008, x221009, x221010, x226000, x226001 => if x13 < (x3.length : Int) then (if 0 ≤ x13 then ((bourneref26_Of.f x221000 x221001 x221002 x221003 x221004 x221005 x221006 x221007 x221008 x221009 x221010 ((rd_T50 x3 x13).f0) ((rd_T50 x3 x13).f1) ((rd_T50 x3 x13).f2.f0) ((rd_T50 x3 x13).f2.f1) x4).bind fun t227 => ((bourneref09_Right.f ((rd_T50 x3 x13).f2.f0) ((rd_T50 x3 x13).f2.f1)).bind fun t229 => ((bourneref09_Meet.f k x226000 x226001 ((rd_T50 x3 x13).f2.f0) ((rd_T50 x3 x13).f2.f1)).bind fun bt231 => (if t227 = true then (if t229 = true then (bourneref26_Cell.j2 k x3 x4 x13 bt231.2.2 x221000 x221001 x221002 x221003 x221004 x221005 x221006 x221007 x221008 x221009 x221010 x226000 x226001 bt231.1 bt231.2.1) else (bourneref26_Cell.j2 k x3 x4 x13 false x221000 x221001 x221002 x221003 x221004 x221005 x221006 x221007 x221008 x221009 x221010 x226000 x226001 bt231.1 bt231.2.1)) else (bourneref26_Cell.j2 k x3 x4 x13 false x221000 x221001 x221002 x221003 x221004 x221005 x221006 x221007 x221008 x221009 x221010 x226000 x226001 bt231.1 bt231.2.1))))) else (none)) else (some (x226000, x226001))
def bourneref26_Cell.j2 : Nat → List (S50) → Int → Int → Bool → ByteArray → List ByteArray → Int → List (S56) → List (S104) → List (S106) → List (S67) → List (S108) → List (S110) → List Int → Int → Int → Int → Int → Int → Option (Int × Int)
 | 0, _, _, _, _, _, _, _, _, _, _, _, _, _, _, _, _, _, _, _ => none
 | k + 1, x3, x4, x13, x64, x221000, x221001, x221002, x221003, x221004, x221005, x221006, x221007, x221008, x221009, x221010, x226000, x226001, x235000, x235001 => if x64 = true then (bourneref26_Cell.l0 k x3 x4 (wrap64 (x13 + 1)) x221000 x221001 x221002 x221003 x221004 x221005 x221006 x221007 x221008 x221009 x221010 x235000 x235001) else (bourneref26_Cell.l0 k x3 x4 (wrap64 (x13 + 1)) x221000 x221001 x221002 x221003 x221004 x221005 x221006 x221007 x221008 x221009 x221010 x226000 x226001)
end
def bourneref26_Cell.f (k : Nat) (a0_0 : ByteArray) (l0_1 : List ByteArray) (a0_2 : Int) (l0_3 : List (S56)) (l0_4 : List (S104)) (l0_5 : List (S106)) (l0_6 : List (S67)) (l0_7 : List (S108)) (l0_8 : List (S110)) (l0_9 : List Int) (a0_10 : Int) (l1 : List Int) (a2 : Int) (l3 : List (S50)) (a4 : Int) : Option (Int × Int) := if a4 < (l1.length : Int) then (if 0 ≤ a4 then (bourneref26_Cell.j0 k a2 l3 a4 (rd l1 a4) a0_0 l0_1 a0_2 l0_3 l0_4 l0_5 l0_6 l0_7 l0_8 l0_9 a0_10) else (none)) else (bourneref26_Cell.j0 k a2 l3 a4 0 a0_0 l0_1 a0_2 l0_3 l0_4 l0_5 l0_6 l0_7 l0_8 l0_9 a0_10)
theorem bourneref26_Cell.mono_l : ∀ k, (∀ y0 y1 y2 y3 y4 y5 y6 y7 y8 y9 y10 y11 y12 y13 y14, LeO (bourneref26_Cell.j0 k y0 y1 y2 y3 y4 y5 y6 y7 y8 y9 y10 y11 y12 y13 y14) (bourneref26_Cell.j0 (k + 1) y0 y1 y2 y3 y4 y5 y6 y7 y8 y9 y10 y11 y12 y13 y14)) ∧ (∀ y0 y1 y2 y3 y4 y5 y6 y7 y8 y9 y10 y11 y12 y13 y14 y15, LeO (bourneref26_Cell.l0 k y0 y1 y2 y3 y4 y5 y6 y7 y8 y9 y10 y11 y12 y13 y14 y15) (bourneref26_Cell.l0 (k + 1) y0 y1 y2 y3 y4 y5 y6 y7 y8 y9 y10 y11 y12 y13 y14 y15)) ∧ (∀ y0 y1 y2 y3 y4 y5 y6 y7 y8 y9 y10 y11 y12 y13 y14 y15 y16 y17 y18, LeO (bourneref26_Cell.j2 k y0 y1 y2 y3 y4 y5 y6 y7 y8 y9 y10 y11 y12 y13 y14 y15 y16 y17 y18) (bourneref26_Cell.j2 (k + 1) y0 y1 y2 y3 y4 y5 y6 y7 y8 y9 y10 y11 y12 y13 y14 y15 y16 y17 y18))
 | 0 => ⟨fun _ _ _ _ _ _ _ _ _ _ _ _ _ _ _ r h => by simp [bourneref26_Cell.j0] at h, fun _ _ _ _ _ _ _ _ _ _ _ _ _ _ _ _ r h => by simp [bourneref26_Cell.l0] at h, fun _ _ _ _ _ _ _ _ _ _ _ _ _ _ _ _ _ _ _ r h => by simp [bourneref26_Cell.j2] at h⟩
 | k + 1 => by
  obtain ⟨ih0, ih1, ih2⟩ := bourneref26_Cell.mono_l k
  refine ⟨?_, ?_, ?_⟩
  ·
   intro y0 y1 y2 y3 y4 y5 y6 y7 y8 y9 y10 y11 y12 y13 y14; unfold bourneref26_Cell.j0
   repeat' first
   | (with_reducible exact ih0 _ _ _ _ _ _ _ _ _ _ _ _ _ _ _)
   | (with_reducible exact ih1 _ _ _ _ _ _ _ _ _ _ _ _ _ _ _ _)
   | (with_reducible exact ih2 _ _ _ _ _ _ _ _ _ _ _ _ _ _ _ _ _ _ _)
   | (with_reducible exact bourneref09_Meet.mono _ _ _ _ _)
   | (with_reducible exact bourneref26_Radar.mono _ _ _)
   | (with_reducible exact LeO.refl _)
   | (with_reducible exact LeO.none _)
   | (with_reducible refine LeO.ite ?_ ?_)
   | (with_reducible refine LeO.bind ?_ (fun _ => ?_))
   | exact ih0 _ _ _ _ _ _ _ _ _ _ _ _ _ _ _
   | exact ih1 _ _ _ _ _ _ _ _ _ _ _ _ _ _ _ _
   | exact ih2 _ _ _ _ _ _ _ _ _ _ _ _ _ _ _ _ _ _ _
   | exact bourneref09_Meet.mono _ _ _ _ _
   | exact bourneref26_Radar.mono _ _ _
   | exact LeO.none _
   | refine LeO.ite ?_ ?_
   | refine LeO.bind ?_ (fun _ => ?_)
  ·
   intro y0 y1 y2 y3 y4 y5 y6 y7 y8 y9 y10 y11 y12 y13 y14 y15; unfold bourneref26_Cell.l0
   repeat' first
   | (with_reducible exact ih0 _ _ _ _ _ _ _ _ _ _ _ _ _ _ _)
   | (with_reducible exact ih1 _ _ _ _ _ _ _ _ _ _ _ _ _ _ _ _)
   | (with_reducible exact ih2 _ _ _ _ _ _ _ _ _ _ _ _ _ _ _ _ _ _ _)
   | (with_reducible exact bourneref09_Meet.mono _ _ _ _ _)
   | (with_reducible exact bourneref26_Radar.mono _ _ _)
   | (with_reducible exact LeO.refl _)
   | (with_reducible exact LeO.none _)
   | (with_reducible refine LeO.ite ?_ ?_)
   | (with_reducible refine LeO.bind ?_ (fun _ => ?_))
   | exact ih0 _ _ _ _ _ _ _ _ _ _ _ _ _ _ _
   | exact ih1 _ _ _ _ _ _ _ _ _ _ _ _ _ _ _ _
   | exact ih2 _ _ _ _ _ _ _ _ _ _ _ _ _ _ _ _ _ _ _
   | exact bourneref09_Meet.mono _ _ _ _ _
   | exact bourneref26_Radar.mono _ _ _
   | exact LeO.none _
   | refine LeO.ite ?_ ?_
   | refine LeO.bind ?_ (fun _ => ?_)
  ·
   intro y0 y1 y2 y3 y4 y5 y6 y7 y8 y9 y10 y11 y12 y13 y14 y15 y16 y17 y18; unfold bourneref26_Cell.j2
   repeat' first
   | (with_reducible exact ih0 _ _ _ _ _ _ _ _ _ _ _ _ _ _ _)
   | (with_reducible exact ih1 _ _ _ _ _ _ _ _ _ _ _ _ _ _ _ _)
   | (with_reducible exact ih2 _ _ _ _ _ _ _ _ _ _ _ _ _ _ _ _ _ _ _)
   | (with_reducible exact bourneref09_Meet.mono _ _ _ _ _)
   | (with_reducible exact bourneref26_Radar.mono _ _ _)
   | (with_reducible exact LeO.refl _)
   | (with_reducible exact LeO.none _)
   | (with_reducible refine LeO.ite ?_ ?_)
   | (with_reducible refine LeO.bind ?_ (fun _ => ?_))
   | exact ih0 _ _ _ _ _ _ _ _ _ _ _ _ _ _ _
   | exact ih1 _ _ _ _ _ _ _ _ _ _ _ _ _ _ _ _
   | exact ih2 _ _ _ _ _ _ _ _ _ _ _ _ _ _ _ _ _ _ _
   | exact bourneref09_Meet.mono _ _ _ _ _
   | exact bourneref26_Radar.mono _ _ _
   | exact LeO.none _
   | refine LeO.ite ?_ ?_
   | refine LeO.bind ?_ (fun _ => ?_)
theorem bourneref26_Cell.mono : ∀ a0 a1 a2 a3 a4 a5 a6 a7 a8 a9 a10 a11 a12 a13 a14 k, LeO (bourneref26_Cell.f k a0 a1 a2 a3 a4 a5 a6 a7 a8 a9 a10 a11 a12 a13 a14) (bourneref26_Cell.f (k + 1) a0 a1 a2 a3 a4 a5 a6 a7 a8 a9 a10 a11 a12 a13 a14) := by
 intro a0 a1 a2 a3 a4 a5 a6 a7 a8 a9 a10 a11 a12 a13 a14 k; obtain ⟨ih0, ih1, ih2⟩ := bourneref26_Cell.mono_l k
 unfold bourneref26_Cell.f
 repeat' first
   | (with_reducible exact ih0 _ _ _ _ _ _ _ _ _ _ _ _ _ _ _)
   | (with_reducible exact ih1 _ _ _ _ _ _ _ _ _ _ _ _ _ _ _ _)
   | (with_reducible exact ih2 _ _ _ _ _ _ _ _ _ _ _ _ _ _ _ _ _ _ _)
   | (with_reducible exact bourneref09_Meet.mono _ _ _ _ _)
   | (with_reducible exact bourneref26_Radar.mono _ _ _)
   | (with_reducible exact LeO.refl _)
   | (with_reducible exact LeO.none _)
   | (with_reducible refine LeO.ite ?_ ?_)
   | (with_reducible refine LeO.bind ?_ (fun _ => ?_))
   | exact ih0 _ _ _ _ _ _ _ _ _ _ _ _ _ _ _
   | exact ih1 _ _ _ _ _ _ _ _ _ _ _ _ _ _ _ _
   | exact ih2 _ _ _ _ _ _ _ _ _ _ _ _ _ _ _ _ _ _ _
   | exact bourneref09_Meet.mono _ _ _ _ _
   | exact bourneref26_Radar.mono _ _ _
   | exact LeO.none _
   | refine LeO.ite ?_ ?_
   | refine LeO.bind ?_ (fun _ => ?_)
def bourneref26_Cell.T8 : Bool × List (List Nat × List Nat) := (true, [([], []), ([], []), ([], []), ([1, 2], [1, 2]), ([3], [3]), ([], []), ([0, 4, 5], [0, 4, 5]), ([6, 6, 0, 1, 2, 3, 4, 5, 6], [6])])
def bourneref26_Cell.B8 : List Nat := [0, 0, 0, 6, 14, 0, 63, 127]
theorem bourneref26_Cell.tab8 : rtab .any (opsOf Try.f29 8) = bourneref26_Cell.T8 := by kernel_rfl
theorem bourneref26_Cell.bits8 : waitsOk bourneref26_Cell.T8.2 bourneref26_Cell.B8 = true := by kernel_rfl
def bourneref26_Cell.T10 : Bool × List (List Nat × List Nat) := (true, [([], []), ([], []), ([], []), ([1, 2], [1, 2]), ([3], [3]), ([4], [4]), ([0, 5], [0, 5]), ([6], [6]), ([7], [7]), ([7], [7]), ([], []), ([10, 8, 6, 0, 1, 2, 3, 4, 5, 6, 7, 8, 10], [8, 10]), ([9, 11, 0, 1, 2, 3, 4, 5, 6, 7, 8, 9, 10, 11], [9])])
def bourneref26_Cell.B10 : List Nat := [0, 0, 0, 6, 14, 30, 63, 127, 255, 255, 0, 1535, 4095]
theorem bourneref26_Cell.tab10 : rtab .any (opsOf Try.f29 10) = bourneref26_Cell.T10 := by kernel_rfl
theorem bourneref26_Cell.bits10 : waitsOk bourneref26_Cell.T10.2 bourneref26_Cell.B10 = true := by kernel_rfl
set_option maxHeartbeats 8000000 in
set_option maxRecDepth 100000 in
theorem bourneref26_Cell.calls (k : Nat) (a0_0 : ByteArray) (A0_1 : Option Addr) (c0_1 : Nat) (l0_1 : List ByteArray) (a0_2 : Int) (A0_3 : Option Addr) (c0_3 : Nat) (l0_3 : List (S56)) (A0_4 : Option Addr) (c0_4 : Nat) (l0_4 : List (S104)) (A0_5 : Option Addr) (c0_5 : Nat) (l0_5 : List (S106)) (A0_6 : Option Addr) (c0_6 : Nat) (l0_6 : List (S67)) (A0_7 : Option Addr) (c0_7 : Nat) (l0_7 : List (S108)) (A0_8 : Option Addr) (c0_8 : Nat) (l0_8 : List (S110)) (A0_9 : Option Addr) (c0_9 : Nat) (l0_9 : List Int) (a0_10 : Int) (A1 : Option Addr) (c1 : Nat) (l1 : List Int) (a2 : Int) (A3 : Option Addr) (c3 : Nat) (l3 : List (S50)) (a4 : Int) (r1 : Int) (r2 : Int) (w : World) (hr0_1 : Kd.C Kd.string w A0_1 l0_1.length l0_1) (hc0_1 : l0_1.length ≤ c0_1) (hr0_3 : Kd.C k56 w A0_3 l0_3.length l0_3) (hc0_3 : l0_3.length ≤ c0_3) (hr0_4 : Kd.C k104 w A0_4 l0_4.length l0_4) (hc0_4 : l0_4.length ≤ c0_4) (hr0_5 : Kd.C k106 w A0_5 l0_5.length l0_5) (hc0_5 : l0_5.length ≤ c0_5) (hr0_6 : Kd.C k67 w A0_6 l0_6.length l0_6) (hc0_6 : l0_6.length ≤ c0_6) (hr0_7 : Kd.C k108 w A0_7 l0_7.length l0_7) (hc0_7 : l0_7.length ≤ c0_7) (hr0_8 : Kd.C k110 w A0_8 l0_8.length l0_8) (hc0_8 : l0_8.length ≤ c0_8) (hr0_9 : Kd.C (Kd.int .i64) w A0_9 l0_9.length l0_9) (hc0_9 : l0_9.length ≤ c0_9) (hr1 : Kd.C (Kd.int .i64) w A1 l1.length l1) (hc1 : l1.length ≤ c1) (hr3 : Kd.C k50 w A3 l3.length l3) (hc3 : l3.length ≤ c3) (h : bourneref26_Cell.f k a0_0 l0_1 a0_2 l0_3 l0_4 l0_5 l0_6 l0_7 l0_8 l0_9 a0_10 l1 a2 l3 a4 = some (r1, r2)) :
  Calls Try.prog 29 #[.agg #[.string a0_0, .slice A0_1 l0_1.length c0_1, .int .i64 a0_2, .slice A0_3 l0_3.length c0_3, .slice A0_4 l0_4.length c0_4, .slice A0_5 l0_5.length c0_5, .slice A0_6 l0_6.length c0_6, .slice A0_7 l0_7.length c0_7, .slice A0_8 l0_8.length c0_8, .slice A0_9 l0_9.length c0_9, .int .i64 a0_10], .slice A1 l1.length c1, .int .i64 a2, .slice A3 l3.length c3, .int .i64 a4] w fun e w' => e = .returned (.agg #[.int .i64 r1, .int .i64 r2]) ∧ Below w.heap.size w w' := by
 have hu31 := Try.underlying31
 have hu40 := Try.underlying40
 have hu50 := Try.underlying50
 have HR0_1 := Aside0.mk hr0_1
 have HC0_1 := Aside0.mk hc0_1
 clear hr0_1 hc0_1; have HR0_3 := Aside0.mk hr0_3
 have HC0_3 := Aside0.mk hc0_3
 clear hr0_3 hc0_3; have HR0_4 := Aside0.mk hr0_4
 have HC0_4 := Aside0.mk hc0_4
 clear hr0_4 hc0_4; have HR0_5 := Aside0.mk hr0_5
 have HC0_5 := Aside0.mk hc0_5
 clear hr0_5 hc0_5; have HR0_6 := Aside0.mk hr0_6
 have HC0_6 := Aside0.mk hc0_6
 clear hr0_6 hc0_6; have HR0_7 := Aside0.mk hr0_7
 have HC0_7 := Aside0.mk hc0_7
 clear hr0_7 hc0_7; have HR0_8 := Aside0.mk hr0_8
 have HC0_8 := Aside0.mk hc0_8
 clear hr0_8 hc0_8; have HR0_9 := Aside0.mk hr0_9
 have HC0_9 := Aside0.mk hc0_9
 clear hr0_9 hc0_9; have HR1 := Aside0.mk hr1
 have HC1 := Aside0.mk hc1
 clear hr1 hc1; have HR3 := Aside0.mk hr3
 have HC3 := Aside0.mk hc3
 clear hr3 hc3; have HB := Aside0.mk (Below.refl w.heap.size w)
 have H : (if a4 < (l1.length : Int) then (if 0 ≤ a4 then (bourneref26_Cell.j0 k a2 l3 a4 (rd l1 a4) a0_0 l0_1 a0_2 l0_3 l0_4 l0_5 l0_6 l0_7 l0_8 l0_9 a0_10) else (none)) else (bourneref26_Cell.j0 k a2 l3 a4 0 a0_0 l0_1 a0_2 l0_3 l0_4 l0_5 l0_6 l0_7 l0_8 l0_9 a0_10)) = some (r1, r2) := h
 clear h; have HC6 := Aside0.mk H
 clear H; go_enter Try.func29, Try.ntmps29
 (try simp only [List.append_eq, List.cons_append, List.nil_append]); go_upto_if 21 with (first | ((with_reducible refine gate_dst (N := 5) rfl ?_); refine box_event ?hg (N := 5) ?hd (cs := #[.string a0_0, .slice A0_1 l0_1.length c0_1, .int .i64 a0_2, .slice A0_3 l0_3.length c0_3, .slice A0_4 l0_4.length c0_4, .slice A0_5 l0_5.length c0_5, .slice A0_6 l0_6.length c0_6, .slice A0_7 l0_7.length c0_7, .slice A0_8 l0_8.length c0_8, .slice A0_9 l0_9.length c0_9, .int .i64 a0_10]) (t := 31) ?hr ?_; (case hd => rfl); (case hg => rfl); (case hr => first | (go_simp; done) | (go_simp; rfl)); intro gb220 hg w7 hbox hb; have n0_ := Aside0.mk (bP (by repeat (first | (with_reducible first | exact HB.out | apply bL | apply bW | apply b1) | exact HB.out)) hb); have n1_ := Aside0.mk (hbox); have n2_ := Aside0.mk ((by rw [hg]; exact (bZ (by repeat (first | (with_reducible first | exact HB.out | apply bL | apply bW | apply b1) | exact HB.out))) : w.heap.size ≤ gb220)); have n3_ := Aside0.mk ((by rw [hg]; exact (bZ (by repeat (first | (with_reducible first | exact HB.out | apply bL | apply bW | apply b1) | exact HB.out))) : w.heap.size ≤ gb220)); clear HB; have HB := n0_; have BK220 := n1_; have GW220 := n2_; have GE220 := n3_; clear n0_ n1_ n2_ n3_; clear hb hbox hg) | ((with_reducible refine gate_dst (N := 10) rfl ?_); refine box_event ?hg (N := 10) ?hd (cs := #[.int .i64 0, .int .i64 0]) (t := 40) ?hr ?_; (case hd => rfl); (case hg => rfl); (case hr => first | (go_simp; done) | (go_simp; rfl)); intro gb221 hg w8 hbox hb; have n0_ := Aside0.mk (bB (g := gb220) (o := .cells #[.string a0_0, .slice A0_1 l0_1.length c0_1, .int .i64 a0_2, .slice A0_3 l0_3.length c0_3, .slice A0_4 l0_4.length c0_4, .slice A0_5 l0_5.length c0_5, .slice A0_6 l0_6.length c0_6, .slice A0_7 l0_7.length c0_7, .slice A0_8 l0_8.length c0_8, .slice A0_9 l0_9.length c0_9, .int .i64 a0_10] 31 (0, 0)) (by (with_reducible repeat (first | refine bN ?_ _ | refine bD ?_ | refine bA ?_ _)); exact BK220.out) hb); have n1_ := Aside0.mk (bP (by repeat (first | (with_reducible first | exact HB.out | apply bL | apply bW | apply b1 | refine bS ?_ GE220.out) | exact HB.out)) hb); have n2_ := Aside0.mk (hbox); have n3_ := Aside0.mk ((by rw [hg]; exact (bZ (by repeat (first | (with_reducible first | exact HB.out | apply bL | apply bW | apply b1 | refine bS ?_ GE220.out) | exact HB.out))) : w.heap.size ≤ gb221)); have n4_ := Aside0.mk ((by rw [hg]; exact (bZ (by repeat (first | (with_reducible first | exact HB.out | apply bL | apply bW | apply b1 | refine bS ?_ GE220.out) | exact HB.out))) : w.heap.size ≤ gb221)); have n5_ := Aside0.mk ((by rw [hg]; exact Nat.ne_of_lt (bT (g := gb220) (o := .cells #[.string a0_0, .slice A0_1 l0_1.length c0_1, .int .i64 a0_2, .slice A0_3 l0_3.length c0_3, .slice A0_4 l0_4.length c0_4, .slice A0_5 l0_5.length c0_5, .slice A0_6 l0_6.length c0_6, .slice A0_7 l0_7.length c0_7, .slice A0_8 l0_8.length c0_8, .slice A0_9 l0_9.length c0_9, .int .i64 a0_10] 31 (0, 0)) (by (with_reducible repeat (first | refine bN ?_ _ | refine bD ?_ | refine bA ?_ _)); exact BK220.out)) : gb220 ≠ gb221)); have n6_ := Aside0.mk ((by rw [hg]; exact Nat.ne_of_gt (bT (g := gb220) (o := .cells #[.string a0_0, .slice A0_1 l0_1.length c0_1, .int .i64 a0_2, .slice A0_3 l0_3.length c0_3, .slice A0_4 l0_4.length c0_4, .slice A0_5 l0_5.length c0_5, .slice A0_6 l0_6.length c0_6, .slice A0_7 l0_7.length c0_7, .slice A0_8 l0_8.length c0_8, .slice A0_9 l0_9.length c0_9, .int .i64 a0_10] 31 (0, 0)) (by (with_reducible repeat (first | refine bN ?_ _ | refine bD ?_ | refine bA ?_ _)); exact BK220.out)) : gb221 ≠ gb220)); clear BK220; clear HB; have BK220 := n0_; have HB := n1_; have BK221 := n2_; have GW221 := n3_; have GE221 := n4_; have NB220_221 := n5_; have NB221_220 := n6_; clear n0_ n1_ n2_ n3_ n4_ n5_ n6_; clear hb hbox hg))
 (try simp only [Act.put, lA, lZ, lS]); go_cut [11] (fun v11 wc => ∃ (kq : Nat) (x11_5 : Int), v11 = .int .i64 x11_5 ∧ Aside0 (bourneref26_Cell.j0 kq a2 l3 a4 x11_5 a0_0 l0_1 a0_2 l0_3 l0_4 l0_5 l0_6 l0_7 l0_8 l0_9 a0_10 = some (r1, r2)) ∧ Aside0 (kq ≤ k) ∧ Aside0 (wc.heap[gb220]? = some (.cells #[.string a0_0, (.slice A0_1 l0_1.length c0_1), .int .i64 a0_2, (.slice A0_3 l0_3.length c0_3), (.slice A0_4 l0_4.length c0_4), (.slice A0_5 l0_5.length c0_5), (.slice A0_6 l0_6.length c0_6), (.slice A0_7 l0_7.length c0_7), (.slice A0_8 l0_8.length c0_8), (.slice A0_9 l0_9.length c0_9), .int .i64 a0_10] 31 (0, 0))) ∧ Aside0 (wc.heap[gb221]? = some (.cells #[.int .i64 0, .int .i64 0] 40 (0, 0))) ∧ Aside0 (Below w.heap.size w wc))
 case first =>
  have H := HC6.out
  clear HC6; by_cases c9 : a4 < (l1.length : Int)
  ·
   rw [if_pos c9] at H; have c9b0 : decide (a4 < (l1.length : Int)) = true := decide_eq_true c9
   clear c9; (first | rw [c9b0] | (simp only [i64_w, i32_w]; rw [c9b0]) | skip)
   by_cases c10 : 0 ≤ a4
   ·
    rw [if_pos c10] at H; have c10b0 : decide (0 ≤ a4) = true := decide_eq_true c10
    clear c10; have H' := Aside0.mk H
    clear H; have p222 : 0 ≤ (a4 : Int) := of_decide_eq_true (by first | (with_reducible assumption) | assumption)
    have q222 : a4 < (l1.length : Int) := of_decide_eq_true (by first | (with_reducible assumption) | assumption)
    obtain ⟨ad222, e222, hx222_0⟩ := Kd.at_int HR1.out a4 p222 q222
    cases e222
    replace hx222_0 := (HB.out.cell (wL w _ hx222_0)).trans hx222_0
    replace p222 := eq_true p222
    replace q222 := eq_true q222
    go_wp2
    go_meet
    case rel => exact ⟨_, (rd l1 a4), (by first | rfl | (simp; done) | (simp [*]; done)), H', ⟨by first | omega | exact Nat.le_refl _⟩, ⟨by (with_reducible repeat (first | refine bN ?_ _ | refine bD ?_ | refine bA ?_ _)); exact BK220.out⟩, ⟨by (with_reducible repeat (first | refine bN ?_ _ | refine bD ?_ | refine bA ?_ _)); exact BK221.out⟩, ⟨by repeat (first | (with_reducible first | exact HB.out | apply bL | apply bW | apply b1 | refine bS ?_ GE220.out | refine bS ?_ GE221.out) | exact HB.out)⟩⟩
   ·
    rw [if_neg c10] at H; exact absurd H (by simp)
  ·
   rw [if_neg c9] at H; have c9b0 : decide (a4 < (l1.length : Int)) = false := decide_eq_false c9
   clear c9; (first | rw [c9b0] | (simp only [i64_w, i32_w]; rw [c9b0]) | skip)
   have H' := Aside0.mk H
   clear H; go_wp2
   go_meet
   case rel => exact ⟨_, (0), (by first | rfl | (simp; done) | (simp [*]; done)), H', ⟨by first | omega | exact Nat.le_refl _⟩, ⟨by (with_reducible repeat (first | refine bN ?_ _ | refine bD ?_ | refine bA ?_ _)); exact BK220.out⟩, ⟨by (with_reducible repeat (first | refine bN ?_ _ | refine bD ?_ | refine bA ?_ _)); exact BK221.out⟩, ⟨by repeat (first | (with_reducible first | exact HB.out | apply bL | apply bW | apply b1 | refine bS ?_ GE220.out | refine bS ?_ GE221.out) | exact HB.out)⟩⟩
 case rest =>
  clear HC6; try clear c1
  try clear c2
  try clear p2
  try clear q2
  try clear hx2
  try clear c3
  try clear c9
  try clear c9b0
  try clear c10
  try clear c10b0
  try clear hx222_0
  try clear p222
  try clear q222
  obtain ⟨kq, x11_5, rfl, HA, HJ5, BK220, BK221, HB⟩ := hcut
  cases kq with
  | zero => exact absurd HA.out (by simp [bourneref26_Cell.j0])
  | succ kj5 =>
   have H := HA.out
   clear HA; simp only [bourneref26_Cell.j0] at H; replace H := Option.bind_eq_some_iff.mp H
   obtain ⟨⟨t223, t224⟩, A110, H⟩ := H
   dsimp only at H
   have A11 := Aside0.mk A110
   clear A110; have H' := Aside0.mk H
   clear H; go_wp2_with (first | ((with_reducible refine gate_callee (f := 41) rfl ?_); refine goesL_ (some 28) rfl rfl Try.func41 (by kernel_rfl) rfl #[.int .i64 x11_5, .int .i64 a2] rfl (by (try simp only [List.map_toArray, List.map_cons, List.map_nil]); first | done | rfl | (simp only [List.length_drop, List.length_take]; rfl)) ?_; (with_reducible refine (bourneref26_Radar.calls kj5 x11_5 a2 t223 t224 _ A11.out).mono ?_); rintro e w12 ⟨rfl, hb⟩; refine ⟨_, rfl, ?_⟩; have n0_ := Aside0.mk (bB (g := gb220) (o := .cells #[.string a0_0, .slice A0_1 l0_1.length c0_1, .int .i64 a0_2, .slice A0_3 l0_3.length c0_3, .slice A0_4 l0_4.length c0_4, .slice A0_5 l0_5.length c0_5, .slice A0_6 l0_6.length c0_6, .slice A0_7 l0_7.length c0_7, .slice A0_8 l0_8.length c0_8, .slice A0_9 l0_9.length c0_9, .int .i64 a0_10] 31 (0, 0)) (by (with_reducible repeat (first | refine bN ?_ _ | refine bD ?_ | refine bA ?_ _)); exact BK220.out) hb); have n1_ := Aside0.mk (bB (g := gb221) (o := .cells #[.int .i64 0, .int .i64 0] 40 (0, 0)) (by (with_reducible repeat (first | refine bN ?_ _ | refine bD ?_ | refine bA ?_ _)); exact BK221.out) hb); have n2_ := Aside0.mk (bP (by repeat (first | (with_reducible first | exact HB.out | apply bL | apply bW | apply b1 | refine bS ?_ GE220.out | refine bS ?_ GE221.out) | exact HB.out)) hb); clear BK220; clear BK221; clear HB; have BK220 := n0_; have BK221 := n1_; have HB := n2_; clear n0_ n1_ n2_; (try clear hb); (try clear hb2); (try clear hk); (try clear hi)) | ((with_reducible refine gate_dst (N := 12) rfl ?_); refine box_event ?hg (N := 12) ?hd (cs := #[.int .i64 0, .int .i64 0]) (t := 40) ?hr ?_; (case hd => rfl); (case hg => rfl); (case hr => first | (go_simp; done) | (go_simp; rfl)); intro gb225 hg w13 hbox hb; have n0_ := Aside0.mk (bB (g := gb220) (o := .cells #[.string a0_0, .slice A0_1 l0_1.length c0_1, .int .i64 a0_2, .slice A0_3 l0_3.length c0_3, .slice A0_4 l0_4.length c0_4, .slice A0_5 l0_5.length c0_5, .slice A0_6 l0_6.length c0_6, .slice A0_7 l0_7.length c0_7, .slice A0_8 l0_8.length c0_8, .slice A0_9 l0_9.length c0_9, .int .i64 a0_10] 31 (0, 0)) (by (with_reducible repeat (first | refine bN ?_ _ | refine bD ?_ | refine bA ?_ _)); exact BK220.out) hb); have n1_ := Aside0.mk (bB (g := gb221) (o := .cells #[.int .i64 0, .int .i64 0] 40 (0, 0)) (by (with_reducible repeat (first | refine bN ?_ _ | refine bD ?_ | refine bA ?_ _)); exact BK221.out) hb); have n2_ := Aside0.mk (bP (by repeat (first | (with_reducible first | exact HB.out | apply bL | apply bW | apply b1 | refine bS ?_ GE220.out | refine bS ?_ GE221.out) | exact HB.out)) hb); have n3_ := Aside0.mk (hbox); have n4_ := Aside0.mk ((by rw [hg]; exact (bZ (by repeat (first | (with_reducible first | exact HB.out | apply bL | apply bW | apply b1 | refine bS ?_ GE220.out | refine bS ?_ GE221.out) | exact HB.out))) : w.heap.size ≤ gb225)); have n5_ := Aside0.mk ((by rw [hg]; exact (bZ (by repeat (first | (with_reducible first | exact HB.out | apply bL | apply bW | apply b1 | refine bS ?_ GE220.out | refine bS ?_ GE221.out) | exact HB.out))) : w.heap.size ≤ gb225)); have n6_ := Aside0.mk ((by rw [hg]; exact Nat.ne_of_lt (bT (g := gb220) (o := .cells #[.string a0_0, .slice A0_1 l0_1.length c0_1, .int .i64 a0_2, .slice A0_3 l0_3.length c0_3, .slice A0_4 l0_4.length c0_4, .slice A0_5 l0_5.length c0_5, .slice A0_6 l0_6.length c0_6, .slice A0_7 l0_7.length c0_7, .slice A0_8 l0_8.length c0_8, .slice A0_9 l0_9.length c0_9, .int .i64 a0_10] 31 (0, 0)) (by (with_reducible repeat (first | refine bN ?_ _ | refine bD ?_ | refine bA ?_ _)); exact BK220.out)) : gb220 ≠ gb225)); have n7_ := Aside0.mk ((by rw [hg]; exact Nat.ne_of_gt (bT (g := gb220) (o := .cells #[.string a0_0, .slice A0_1 l0_1.length c0_1, .int .i64 a0_2, .slice A0_3 l0_3.length c0_3, .slice A0_4 l0_4.length c0_4, .slice A0_5 l0_5.length c0_5, .slice A0_6 l0_6.length c0_6, .slice A0_7 l0_7.length c0_7, .slice A0_8 l0_8.length c0_8, .slice A0_9 l0_9.length c0_9, .int .i64 a0_10] 31 (0, 0)) (by (with_reducible repeat (first | refine bN ?_ _ | refine bD ?_ | refine bA ?_ _)); exact BK220.out)) : gb225 ≠ gb220)); have n8_ := Aside0.mk ((by rw [hg]; exact Nat.ne_of_lt (bT (g := gb221) (o := .cells #[.int .i64 0, .int .i64 0] 40 (0, 0)) (by (with_reducible repeat (first | refine bN ?_ _ | refine bD ?_ | refine bA ?_ _)); exact BK221.out)) : gb221 ≠ gb225)); have n9_ := Aside0.mk ((by rw [hg]; exact Nat.ne_of_gt (bT (g := gb221) (o := .cells #[.int .i64 0, .int .i64 0] 40 (0, 0)) (by (with_reducible repeat (first | refine bN ?_ _ | refine bD ?_ | refine bA ?_ _)); exact BK221.out)) : gb225 ≠ gb221)); clear BK220; clear BK221; clear HB; have BK220 := n0_; have BK221 := n1_; have HB := n2_; have BK225 := n3_; have GW225 := n4_; have GE225 := n5_; have NB220_225 := n6_; have NB225_220 := n7_; have NB221_225 := n8_; have NB225_221 := n9_; clear n0_ n1_ n2_ n3_ n4_ n5_ n6_ n7_ n8_ n9_; clear hb hbox hg; have hnb14 := NB225_220.out; have hnc14 := NB220_225.out; have hnb15 := NB225_221.out; have hnc15 := NB221_225.out; have hcz16_0 : w13.cell? ⟨gb225, 0, none⟩ = some (.int .i64 0) := (bC BK225.out 0).trans rfl; have hcz16_1 : w13.cell? ⟨gb225, 1, none⟩ = some (.int .i64 0) := (bC BK225.out 1).trans rfl; have hfz16_0 := bF BK225.out 0; have hfz16_1 := bF BK225.out 1))
   go_loopg [13] kj5 (fun kq v13 w' => ∃ (x13_2 : Int) (x226000_2 : Int) (x226001_2 : Int), v13 = .int .i64 x13_2 ∧ Aside0 (bourneref26_Cell.l0 kq l3 a4 x13_2 a0_0 l0_1 a0_2 l0_3 l0_4 l0_5 l0_6 l0_7 l0_8 l0_9 a0_10 x226000_2 x226001_2 = some (r1, r2)) ∧ Aside0 (kq ≤ kj5) ∧ Aside0 (w'.heap[gb220]? = some (.cells #[.string a0_0, (.slice A0_1 l0_1.length c0_1), .int .i64 a0_2, (.slice A0_3 l0_3.length c0_3), (.slice A0_4 l0_4.length c0_4), (.slice A0_5 l0_5.length c0_5), (.slice A0_6 l0_6.length c0_6), (.slice A0_7 l0_7.length c0_7), (.slice A0_8 l0_8.length c0_8), (.slice A0_9 l0_9.length c0_9), .int .i64 a0_10] 31 (0, 0))) ∧ Aside0 (w'.heap[gb221]? = some (.cells #[.int .i64 0, .int .i64 0] 40 (0, 0))) ∧ Aside0 (w'.heap[gb225]? = some (.cells #[.int .i64 x226000_2, .int .i64 x226001_2] 40 (0, 0))) ∧ Aside0 (Below w.heap.size w w'))
   case atStart => exact ⟨(0), (t223), (t224), (by first | rfl | (simp; done) | (simp [*]; done)), H', ⟨Nat.le_refl _⟩, ⟨by (with_reducible repeat (first | refine bN ?_ _ | refine bD ?_ | refine bA ?_ _)); refine bR ?_ NB220_225.out _; (with_reducible repeat (first | refine bN ?_ _ | refine bD ?_ | refine bA ?_ _)); refine bR ?_ NB220_225.out _; (with_reducible repeat (first | refine bN ?_ _ | refine bD ?_ | refine bA ?_ _)); exact BK220.out⟩, ⟨by (with_reducible repeat (first | refine bN ?_ _ | refine bD ?_ | refine bA ?_ _)); refine bR ?_ NB221_225.out _; (with_reducible repeat (first | refine bN ?_ _ | refine bD ?_ | refine bA ?_ _)); refine bR ?_ NB221_225.out _; (with_reducible repeat (first | refine bN ?_ _ | refine bD ?_ | refine bA ?_ _)); exact BK221.out⟩, ⟨by (with_reducible repeat (first | refine bN ?_ _ | refine bD ?_ | refine bA ?_ _)); refine bU (cs := #[.int .i64 t223, .int .i64 0]) ?_ 1 _ rfl; (with_reducible repeat (first | refine bN ?_ _ | refine bD ?_ | refine bA ?_ _)); refine bU (cs := #[.int .i64 0, .int .i64 0]) ?_ 0 _ rfl; (with_reducible repeat (first | refine bN ?_ _ | refine bD ?_ | refine bA ?_ _)); exact BK225.out⟩, ⟨by repeat (first | (with_reducible first | exact HB.out | apply bL | apply bW | apply b1 | refine bS ?_ GE220.out | refine bS ?_ GE221.out | refine bS ?_ GE225.out) | exact HB.out)⟩⟩
   case round =>
    clear H'; try clear c1
    try clear c2
    try clear p2
    try clear q2
    try clear hx2
    try clear c3
    try clear c4
    try clear c9
    try clear c9b0
    try clear c10
    try clear c10b0
    try clear c14
    try clear c15
    try clear hcz16_0
    try clear hcz16_1
    try clear hfz16_0
    try clear hfz16_1
    try clear hx222_0
    try clear p2
    try clear p222
    try clear q2
    try clear q222
    obtain ⟨x13_2, x226000_2, x226001_2, rfl, HA, HK2, BK220, BK221, BK225, HB⟩ := hrel
    cases gk with
    | zero => exact absurd HA.out (by simp [bourneref26_Cell.l0])
    | succ k2 =>
     have H := HA.out
     clear HA; simp only [bourneref26_Cell.l0] at H; by_cases c17 : x13_2 < (l3.length : Int)
     ·
      rw [if_pos c17] at H; have c17b0 : decide (x13_2 < (l3.length : Int)) = true := decide_eq_true c17
      clear c17; by_cases c18 : 0 ≤ x13_2
      ·
       rw [if_pos c18] at H; have c18b0 : decide (0 ≤ x13_2) = true := decide_eq_true c18
       clear c18; replace H := Option.bind_eq_some_iff.mp H
       obtain ⟨t227, A190, H⟩ := H
       have A19 := Aside0.mk A190
       clear A190; replace H := Option.bind_eq_some_iff.mp H
       obtain ⟨t229, A200, H⟩ := H
       have A20 := Aside0.mk A200
       clear A200; replace H := Option.bind_eq_some_iff.mp H
       obtain ⟨⟨t231, t232, t233⟩, A210, H⟩ := H
       dsimp only at H
       have A21 := Aside0.mk A210
       clear A210; have HC22 := Aside0.mk H
       clear H; try go_wp2
       have n0_ := Aside0.mk (bD BK220.out)
       have n1_ := Aside0.mk (bD BK221.out)
       have n2_ := Aside0.mk (bD BK225.out)
       have n3_ := Aside0.mk (b1 HB.out)
       clear BK220; clear BK221; clear BK225; clear HB; have BK220 := n0_
       have BK221 := n1_
       have BK225 := n2_
       have HB := n3_
       clear n0_ n1_ n2_ n3_; have p226 : 0 ≤ (x13_2 : Int) := of_decide_eq_true (by first | (with_reducible assumption) | assumption)
       have q226 : x13_2 < (l3.length : Int) := of_decide_eq_true (by first | (with_reducible assumption) | assumption)
       obtain ⟨ad226, e226, hx226_0, hx226_1, hx226_2, hx226_3⟩ := at_T50 HR3.out x13_2 p226 q226
       have hw226_3 := hx226_3
       have hw226_2 := hx226_2
       have hw226_1 := hx226_1
       have hw226_0 := hx226_0
       cases e226
       replace hx226_0 := (HB.out.cell (wL w _ hx226_0)).trans hx226_0
       replace hx226_1 := (HB.out.cell (wL w _ hx226_1)).trans hx226_1
       replace hx226_2 := (HB.out.cell (wL w _ hx226_2)).trans hx226_2
       replace hx226_3 := (HB.out.cell (wL w _ hx226_3)).trans hx226_3
       replace p226 := eq_true p226
       replace q226 := eq_true q226
       refine start_ (n := 8) (S := fun w' => w'.cell? ⟨gb220, 0, none⟩ = some (.string a0_0) ∧ w'.cell? ⟨gb220, 1, none⟩ = some (.slice A0_1 l0_1.length c0_1) ∧ w'.cell? ⟨gb220, 2, none⟩ = some (.int .i64 a0_2) ∧ w'.cell? ⟨gb220, 3, none⟩ = some (.slice A0_3 l0_3.length c0_3) ∧ w'.cell? ⟨gb220, 4, none⟩ = some (.slice A0_4 l0_4.length c0_4) ∧ w'.cell? ⟨gb220, 5, none⟩ = some (.slice A0_5 l0_5.length c0_5) ∧ w'.cell? ⟨gb220, 6, none⟩ = some (.slice A0_6 l0_6.length c0_6) ∧ w'.cell? ⟨gb220, 7, none⟩ = some (.slice A0_7 l0_7.length c0_7) ∧ w'.cell? ⟨gb220, 8, none⟩ = some (.slice A0_8 l0_8.length c0_8) ∧ w'.cell? ⟨gb220, 9, none⟩ = some (.slice A0_9 l0_9.length c0_9) ∧ w'.cell? ⟨gb220, 10, none⟩ = some (.int .i64 a0_10) ∧ w'.cell? (ad226.add ((x13_2).toNat * 4)) = some (.int .i64 ((rd_T50 l3 x13_2).f0)) ∧ w'.cell? ⟨(ad226.add ((x13_2).toNat * 4)).block, (ad226.add ((x13_2).toNat * 4)).off + 1, none⟩ = some (.int .i64 ((rd_T50 l3 x13_2).f1)) ∧ w'.cell? ⟨(ad226.add ((x13_2).toNat * 4)).block, (ad226.add ((x13_2).toNat * 4)).off + 2, none⟩ = some (.int .i64 ((rd_T50 l3 x13_2).f2.f0)) ∧ w'.cell? ⟨(ad226.add ((x13_2).toNat * 4)).block, (ad226.add ((x13_2).toNat * 4)).off + 3, none⟩ = some (.int .i64 ((rd_T50 l3 x13_2).f2.f1))) (ds := []) #[false, false, false, false, false, false, false, false] (by kernel_rfl) rfl rfl ⟨(bC BK220.out 0).trans rfl, (bC BK220.out 1).trans rfl, (bC BK220.out 2).trans rfl, (bC BK220.out 3).trans rfl, (bC BK220.out 4).trans rfl, (bC BK220.out 5).trans rfl, (bC BK220.out 6).trans rfl, (bC BK220.out 7).trans rfl, (bC BK220.out 8).trans rfl, (bC BK220.out 9).trans rfl, (bC BK220.out 10).trans rfl, ((HB.out.cell (wL w _ hw226_0)).trans hw226_0), ((HB.out.cell (wL w _ hw226_1)).trans hw226_1), ((HB.out.cell (wL w _ hw226_2)).trans hw226_2), ((HB.out.cell (wL w _ hw226_3)).trans hw226_3)⟩ (fun hHeld => ?_); refine with_tabW bourneref26_Cell.tab8 bourneref26_Cell.bits8 (fun HT_ HW_ => ?_)
       generalize wr.drew = w23 at BK220 BK221 BK225 HB hx226_0 hx226_1 hx226_2 hx226_3 hHeld ⊢
       refine pure_ (i := 1) (N := some 36) (v := ?_) (a' := ?_) #[false, true, false, false, false, false, false, false] rfl rfl (any_of HT_.out (by kernel_rfl)) (fun _ _ _ h => h) (Or.inl ⟨by rfl, ?_⟩) ?_ ?_
       rotate_left
       ·
        intro w'; go_simp; with_reducible rfl
       rotate_left
       ·
        simp only [Act.put, lA, lZ, lS, i64_w, i32_w]; rfl
       refine pure_ (i := 2) (N := some 37) (v := ?_) (a' := ?_) #[false, true, true, false, false, false, false, false] rfl rfl (any_of HT_.out (by kernel_rfl)) (fun _ _ _ h => h) (Or.inl ⟨by rfl, ?_⟩) ?_ ?_
       rotate_left
       ·
        intro w'; go_simp; with_reducible rfl
       rotate_left
       ·
        simp only [Act.put, lA, lZ, lS, i64_w, i32_w]; rfl
       refine pure_ (i := 3) (N := some 38) (v := ?_) (a' := ?_) #[false, true, true, true, false, false, false, false] rfl rfl (any_of HT_.out (by kernel_rfl)) (fun _ _ _ h => h) (Or.inl ⟨by rfl, ?_⟩) ?_ ?_
       rotate_left
       ·
        intro w'; go_simp; with_reducible rfl
       rotate_left
       ·
        simp only [Act.put, lA, lZ, lS, i64_w, i32_w]; rfl
       refine pure_ (i := 5) (N := some 40) (v := ?_) (a' := ?_) #[false, true, true, true, false, true, false, false] rfl rfl (any_of HT_.out (by kernel_rfl)) (fun _ _ _ h => h) (Or.inl ⟨by rfl, ?_⟩) ?_ ?_
       rotate_left
       ·
        intro w'; go_simp; with_reducible rfl
       rotate_left
       ·
        simp only [Act.put, lA, lZ, lS, i64_w, i32_w]; rfl
       refine take_ (i := 0) (N := some 35) (v := ?_) (a' := ?_) #[true, true, true, true, false, true, false, false] rfl rfl (take_ofW HT_.out HW_.out (by kernel_rfl)) (fun _ _ _ h => h) (Or.inl ⟨by rfl, ?_⟩) hHeld ?_ ?_
       rotate_left
       ·
        rintro w' ⟨s0, s1, s2, s3, s4, s5, s6, s7, s8, s9, s10, s11, s12, s13, s14⟩
        go_simp; with_reducible rfl
       rotate_left
       ·
        simp only [Act.put, lA, lZ, lS, i64_w, i32_w]; rfl
       refine take_ (i := 4) (N := some 39) (v := ?_) (a' := ?_) #[true, true, true, true, true, true, false, false] rfl rfl (take_ofW HT_.out HW_.out (by kernel_rfl)) (fun _ _ _ h => h) (Or.inl ⟨by rfl, ?_⟩) hHeld ?_ ?_
       rotate_left
       ·
        rintro w' ⟨s0, s1, s2, s3, s4, s5, s6, s7, s8, s9, s10, s11, s12, s13, s14⟩
        go_simp; with_reducible rfl
       rotate_left
       ·
        simp only [Act.put, lA, lZ, lS, i64_w, i32_w]; rfl
       refine one_ (i := 6) (N := some 41) #[true, true, true, true, true, true, true, false] rfl rfl (one_of HT_.out (by kernel_rfl)) (by decide) (fun K hK => ?_)
       refine goes_ Try.func21 (by kernel_rfl) rfl #[.agg #[.string a0_0, .slice A0_1 l0_1.length c0_1, .int .i64 a0_2, .slice A0_3 l0_3.length c0_3, .slice A0_4 l0_4.length c0_4, .slice A0_5 l0_5.length c0_5, .slice A0_6 l0_6.length c0_6, .slice A0_7 l0_7.length c0_7, .slice A0_8 l0_8.length c0_8, .slice A0_9 l0_9.length c0_9, .int .i64 a0_10], .agg #[.int .i64 ((rd_T50 l3 x13_2).f0), .int .i64 ((rd_T50 l3 x13_2).f1), .int .i64 ((rd_T50 l3 x13_2).f2.f0), .int .i64 ((rd_T50 l3 x13_2).f2.f1)], .int .i64 a4] (by rfl) rfl rfl (by (try simp only [List.map_toArray, List.map_cons, List.map_nil]); first | done | rfl | (simp only [List.length_drop, List.length_take]; rfl)) ?_
       with_reducible refine (bourneref26_Of.calls a0_0 _ _ l0_1 a0_2 _ _ l0_3 _ _ l0_4 _ _ l0_5 _ _ l0_6 _ _ l0_7 _ _ l0_8 _ _ l0_9 a0_10 ((rd_T50 l3 x13_2).f0) ((rd_T50 l3 x13_2).f1) ((rd_T50 l3 x13_2).f2.f0) ((rd_T50 l3 x13_2).f2.f1) a4 t227 _ ?side1 ?side2 ?side3 ?side4 ?side5 ?side6 ?side7 ?side8 ?side9 ?side10 ?side11 ?side12 ?side13 ?side14 ?side15 ?side16 A19.out).mono ?_
       (case side1 => repeat (first | exact (Kd.C_below HR0_1.out HB.out) | (with_reducible refine Kd.C_alloc ?_ _) | (with_reducible refine Kd.C_drewN ?_ _) | (with_reducible refine Kd.C_drew ?_)))
       (case side2 => exact HC0_1.out)
       (case side3 => repeat (first | exact (Kd.C_below HR0_3.out HB.out) | (with_reducible refine Kd.C_alloc ?_ _) | (with_reducible refine Kd.C_drewN ?_ _) | (with_reducible refine Kd.C_drew ?_)))
       (case side4 => exact HC0_3.out)
       (case side5 => repeat (first | exact (Kd.C_below HR0_4.out HB.out) | (with_reducible refine Kd.C_alloc ?_ _) | (with_reducible refine Kd.C_drewN ?_ _) | (with_reducible refine Kd.C_drew ?_)))
       (case side6 => exact HC0_4.out)
       (case side7 => repeat (first | exact (Kd.C_below HR0_5.out HB.out) | (with_reducible refine Kd.C_alloc ?_ _) | (with_reducible refine Kd.C_drewN ?_ _) | (with_reducible refine Kd.C_drew ?_)))
       (case side8 => exact HC0_5.out)
       (case side9 => repeat (first | exact (Kd.C_below HR0_6.out HB.out) | (with_reducible refine Kd.C_alloc ?_ _) | (with_reducible refine Kd.C_drewN ?_ _) | (with_reducible refine Kd.C_drew ?_)))
       (case side10 => exact HC0_6.out)
       (case side11 => repeat (first | exact (Kd.C_below HR0_7.out HB.out) | (with_reducible refine Kd.C_alloc ?_ _) | (with_reducible refine Kd.C_drewN ?_ _) | (with_reducible refine Kd.C_drew ?_)))
       (case side12 => exact HC0_7.out)
       (case side13 => repeat (first | exact (Kd.C_below HR0_8.out HB.out) | (with_reducible refine Kd.C_alloc ?_ _) | (with_reducible refine Kd.C_drewN ?_ _) | (with_reducible refine Kd.C_drew ?_)))
       (case side14 => exact HC0_8.out)
       (case side15 => repeat (first | exact (Kd.C_below HR0_9.out HB.out) | (with_reducible refine Kd.C_alloc ?_ _) | (with_reducible refine Kd.C_drewN ?_ _) | (with_reducible refine Kd.C_drew ?_)))
       (case side16 => exact HC0_9.out)
       rintro e w24 ⟨rfl, hb⟩
       refine ⟨_, rfl, ?_⟩
       have n0_ := Aside0.mk (bB (g := gb220) (o := .cells #[.string a0_0, .slice A0_1 l0_1.length c0_1, .int .i64 a0_2, .slice A0_3 l0_3.length c0_3, .slice A0_4 l0_4.length c0_4, .slice A0_5 l0_5.length c0_5, .slice A0_6 l0_6.length c0_6, .slice A0_7 l0_7.length c0_7, .slice A0_8 l0_8.length c0_8, .slice A0_9 l0_9.length c0_9, .int .i64 a0_10] 31 (0, 0)) (by (with_reducible repeat (first | refine bN ?_ _ | refine bD ?_ | refine bA ?_ _)); exact BK220.out) hb)
       have n1_ := Aside0.mk (bB (g := gb221) (o := .cells #[.int .i64 0, .int .i64 0] 40 (0, 0)) (by (with_reducible repeat (first | refine bN ?_ _ | refine bD ?_ | refine bA ?_ _)); exact BK221.out) hb)
       have n2_ := Aside0.mk (bB (g := gb225) (o := .cells #[.int .i64 x226000_2, .int .i64 x226001_2] 40 (0, 0)) (by (with_reducible repeat (first | refine bN ?_ _ | refine bD ?_ | refine bA ?_ _)); exact BK225.out) hb)
       have n3_ := Aside0.mk (bP (by repeat (first | (with_reducible first | exact HB.out | apply bL | apply bW | apply b1 | refine bS ?_ GE220.out | refine bS ?_ GE221.out | refine bS ?_ GE225.out) | exact HB.out)) hb)
       clear BK220; clear BK221; clear BK225; clear HB; have BK220 := n0_
       have BK221 := n1_
       have BK225 := n2_
       have HB := n3_
       clear n0_ n1_ n2_ n3_; (try clear hb); (try clear hb2); (try clear hk); (try clear hi); refine hK.out _ _ ⟨(bC BK220.out 0).trans rfl, (bC BK220.out 1).trans rfl, (bC BK220.out 2).trans rfl, (bC BK220.out 3).trans rfl, (bC BK220.out 4).trans rfl, (bC BK220.out 5).trans rfl, (bC BK220.out 6).trans rfl, (bC BK220.out 7).trans rfl, (bC BK220.out 8).trans rfl, (bC BK220.out 9).trans rfl, (bC BK220.out 10).trans rfl, ((HB.out.cell (wL w _ hw226_0)).trans hw226_0), ((HB.out.cell (wL w _ hw226_1)).trans hw226_1), ((HB.out.cell (wL w _ hw226_2)).trans hw226_2), ((HB.out.cell (wL w _ hw226_3)).trans hw226_3)⟩ (fun hHeld => ?_)
       clear hK K; refine norm_ (a' := ?_) ?_ ?_
       rotate_left
       ·
        show Act.put _ (some 41) _ = _
        simp only [Act.put, lA, lZ, lS, i64_w, i32_w]; rfl
       refine pure_ (i := 7) (N := some 14) (v := ?_) (a' := ?_) #[true, true, true, true, true, true, true, true] rfl rfl (any_of HT_.out (by kernel_rfl)) (fun _ _ _ h => h) (Or.inl ⟨by rfl, ?_⟩) ?_ ?_
       rotate_left
       ·
        intro w'; go_simp; with_reducible rfl
       rotate_left
       ·
        simp only [Act.put, lA, lZ, lS, i64_w, i32_w]; rfl
       refine done_ (done_of HT_.out (by kernel_rfl)) ?_
       have p228 : 0 ≤ (x13_2 : Int) := of_decide_eq_true (by first | (with_reducible assumption) | assumption)
       have q228 : x13_2 < (l3.length : Int) := of_decide_eq_true (by first | (with_reducible assumption) | assumption)
       obtain ⟨ad228, e228, hx228_0, hx228_1, hx228_2, hx228_3⟩ := at_T50 HR3.out x13_2 p228 q228
       obtain rfl : ad226 = ad228 := (by injection e228)
       replace hx228_0 := (HB.out.cell (wL w _ hx228_0)).trans hx228_0
       replace hx228_1 := (HB.out.cell (wL w _ hx228_1)).trans hx228_1
       replace hx228_2 := (HB.out.cell (wL w _ hx228_2)).trans hx228_2
       replace hx228_3 := (HB.out.cell (wL w _ hx228_3)).trans hx228_3
       replace p228 := eq_true p228
       replace q228 := eq_true q228
       try go_wp2_with (first | ((with_reducible refine gate_callee (f := 42) rfl ?_); refine goesL_ (some 47) rfl rfl Try.func42 (by kernel_rfl) rfl #[.agg #[.int .i64 ((rd_T50 l3 x13_2).f2.f0), .int .i64 ((rd_T50 l3 x13_2).f2.f1)]] rfl (by (try simp only [List.map_toArray, List.map_cons, List.map_nil]); first | done | rfl | (simp only [List.length_drop, List.length_take]; rfl)) ?_; (with_reducible refine (bourneref09_Right.calls ((rd_T50 l3 x13_2).f2.f0) ((rd_T50 l3 x13_2).f2.f1) t229 _ A20.out).mono ?_); rintro e w25 ⟨rfl, hb⟩; refine ⟨_, rfl, ?_⟩; have n0_ := Aside0.mk (bB (g := gb220) (o := .cells #[.string a0_0, .slice A0_1 l0_1.length c0_1, .int .i64 a0_2, .slice A0_3 l0_3.length c0_3, .slice A0_4 l0_4.length c0_4, .slice A0_5 l0_5.length c0_5, .slice A0_6 l0_6.length c0_6, .slice A0_7 l0_7.length c0_7, .slice A0_8 l0_8.length c0_8, .slice A0_9 l0_9.length c0_9, .int .i64 a0_10] 31 (0, 0)) (by (with_reducible repeat (first | refine bN ?_ _ | refine bD ?_ | refine bA ?_ _)); exact BK220.out) hb); have n1_ := Aside0.mk (bB (g := gb221) (o := .cells #[.int .i64 0, .int .i64 0] 40 (0, 0)) (by (with_reducible repeat (first | refine bN ?_ _ | refine bD ?_ | refine bA ?_ _)); exact BK221.out) hb); have n2_ := Aside0.mk (bB (g := gb225) (o := .cells #[.int .i64 x226000_2, .int .i64 x226001_2] 40 (0, 0)) (by (with_reducible repeat (first | refine bN ?_ _ | refine bD ?_ | refine bA ?_ _)); exact BK225.out) hb); have n3_ := Aside0.mk (bP (by repeat (first | (with_reducible first | exact HB.out | apply bL | apply bW | apply b1 | refine bS ?_ GE220.out | refine bS ?_ GE221.out | refine bS ?_ GE225.out) | exact HB.out)) hb); clear BK220; clear BK221; clear BK225; clear HB; have BK220 := n0_; have BK221 := n1_; have BK225 := n2_; have HB := n3_; clear n0_ n1_ n2_ n3_; (try clear hb); (try clear hb2); (try clear hk); (try clear hi)))
       have n0_ := Aside0.mk (bD BK220.out)
       have n1_ := Aside0.mk (bD BK221.out)
       have n2_ := Aside0.mk (bD BK225.out)
       have n3_ := Aside0.mk (b1 HB.out)
       clear BK220; clear BK221; clear BK225; clear HB; have BK220 := n0_
       have BK221 := n1_
       have BK225 := n2_
       have HB := n3_
       clear n0_ n1_ n2_ n3_; have p230 : 0 ≤ (x13_2 : Int) := of_decide_eq_true (by first | (with_reducible assumption) | assumption)
       have q230 : x13_2 < (l3.length : Int) := of_decide_eq_true (by first | (with_reducible assumption) | assumption)
       obtain ⟨ad230, e230, hx230_0, hx230_1, hx230_2, hx230_3⟩ := at_T50 HR3.out x13_2 p230 q230
       have hw230_3 := hx230_3
       have hw230_2 := hx230_2
       have hw230_1 := hx230_1
       have hw230_0 := hx230_0
       obtain rfl : ad226 = ad230 := (by injection e230)
       replace hx230_0 := (HB.out.cell (wL w _ hx230_0)).trans hx230_0
       replace hx230_1 := (HB.out.cell (wL w _ hx230_1)).trans hx230_1
       replace hx230_2 := (HB.out.cell (wL w _ hx230_2)).trans hx230_2
       replace hx230_3 := (HB.out.cell (wL w _ hx230_3)).trans hx230_3
       replace p230 := eq_true p230
       replace q230 := eq_true q230
       refine start_ (n := 13) (S := fun w' => w'.cell? ⟨gb225, 0, none⟩ = some (.int .i64 x226000_2) ∧ w'.cell? ⟨gb225, 1, none⟩ = some (.int .i64 x226001_2) ∧ w'.cell? (ad226.add ((x13_2).toNat * 4)) = some (.int .i64 ((rd_T50 l3 x13_2).f0)) ∧ w'.cell? ⟨(ad226.add ((x13_2).toNat * 4)).block, (ad226.add ((x13_2).toNat * 4)).off + 1, none⟩ = some (.int .i64 ((rd_T50 l3 x13_2).f1)) ∧ w'.cell? ⟨(ad226.add ((x13_2).toNat * 4)).block, (ad226.add ((x13_2).toNat * 4)).off + 2, none⟩ = some (.int .i64 ((rd_T50 l3 x13_2).f2.f0)) ∧ w'.cell? ⟨(ad226.add ((x13_2).toNat * 4)).block, (ad226.add ((x13_2).toNat * 4)).off + 3, none⟩ = some (.int .i64 ((rd_T50 l3 x13_2).f2.f1))) (ds := []) #[F,F,F,F,F,F,F,F,F,F,F,F,F] (by kernel_rfl) rfl rfl ⟨(bC BK225.out 0).trans rfl, (bC BK225.out 1).trans rfl, ((HB.out.cell (wL w _ hw230_0)).trans hw230_0), ((HB.out.cell (wL w _ hw230_1)).trans hw230_1), ((HB.out.cell (wL w _ hw230_2)).trans hw230_2), ((HB.out.cell (wL w _ hw230_3)).trans hw230_3)⟩ (fun hHeld => ?_); refine with_tabW bourneref26_Cell.tab10 bourneref26_Cell.bits10 (fun HT_ HW_ => ?_)
       generalize w25.drew = w26 at BK220 BK221 BK225 HB hx230_0 hx230_1 hx230_2 hx230_3 hHeld ⊢
       refine pure_ (i := 1) (N := some 50) (v := ?_) (a' := ?_) #[F,T,F,F,F,F,F,F,F,F,F,F,F] rfl rfl (any_of HT_.out (by kernel_rfl)) (fun _ _ _ h => h) (Or.inl ⟨by rfl, ?_⟩) ?_ ?_
       rotate_left
       ·
        intro w'; go_simp; with_reducible rfl
       rotate_left
       ·
        simp only [Act.put, lA, lZ, lS, i64_w, i32_w]; rfl
       refine pure_ (i := 2) (N := some 51) (v := ?_) (a' := ?_) #[F,T,T,F,F,F,F,F,F,F,F,F,F] rfl rfl (any_of HT_.out (by kernel_rfl)) (fun _ _ _ h => h) (Or.inl ⟨by rfl, ?_⟩) ?_ ?_
       rotate_left
       ·
        intro w'; go_simp; with_reducible rfl
       rotate_left
       ·
        simp only [Act.put, lA, lZ, lS, i64_w, i32_w]; rfl
       refine pure_ (i := 3) (N := some 52) (v := ?_) (a' := ?_) #[F,T,T,T,F,F,F,F,F,F,F,F,F] rfl rfl (any_of HT_.out (by kernel_rfl)) (fun _ _ _ h => h) (Or.inl ⟨by rfl, ?_⟩) ?_ ?_
       rotate_left
       ·
        intro w'; go_simp; with_reducible rfl
       rotate_left
       ·
        simp only [Act.put, lA, lZ, lS, i64_w, i32_w]; rfl
       refine pure_ (i := 4) (N := some 53) (v := ?_) (a' := ?_) #[F,T,T,T,T,F,F,F,F,F,F,F,F] rfl rfl (any_of HT_.out (by kernel_rfl)) (fun _ _ _ h => h) (Or.inl ⟨by rfl, ?_⟩) ?_ ?_
       rotate_left
       ·
        intro w'; go_simp; with_reducible rfl
       rotate_left
       ·
        simp only [Act.put, lA, lZ, lS, i64_w, i32_w]; rfl
       refine take_ (i := 0) (N := some 49) (v := ?_) (a' := ?_) #[T,T,T,T,T,F,F,F,F,F,F,F,F] rfl rfl (take_ofW HT_.out HW_.out (by kernel_rfl)) (fun _ _ _ h => h) (Or.inl ⟨by rfl, ?_⟩) hHeld ?_ ?_
       rotate_left
       ·
        rintro w' ⟨s0, s1, s2, s3, s4, s5⟩
        go_simp; with_reducible rfl
       rotate_left
       ·
        simp only [Act.put, lA, lZ, lS, i64_w, i32_w]; rfl
       refine take_ (i := 5) (N := some 54) (v := ?_) (a' := ?_) #[T,T,T,T,T,T,F,F,F,F,F,F,F] rfl rfl (take_ofW HT_.out HW_.out (by kernel_rfl)) (fun _ _ _ h => h) (Or.inl ⟨by rfl, ?_⟩) hHeld ?_ ?_
       rotate_left
       ·
        rintro w' ⟨s0, s1, s2, s3, s4, s5⟩
        go_simp; with_reducible rfl
       rotate_left
       ·
        simp only [Act.put, lA, lZ, lS, i64_w, i32_w]; rfl
       refine join_ (σ := Nat) 2 #[T,T,T,T,T,T,T,T,T,T,T,F,F] (fun s_ => [(55, .tuple #[.agg #[.int .i64 t231, .int .i64 t232], .bool t233]), (16, .pointer (some ⟨s_, 0, none⟩)), (48, .tuple #[.agg #[.int .i64 t231, .int .i64 t232], .bool t233]), (56, .agg #[.int .i64 t231, .int .i64 t232]), (57, .bool t233)]) (fun s_ w' => (w'.cell? ⟨gb225, 0, none⟩ = some (.int .i64 x226000_2) ∧ w'.cell? ⟨gb225, 1, none⟩ = some (.int .i64 x226001_2) ∧ w'.cell? (ad226.add ((x13_2).toNat * 4)) = some (.int .i64 ((rd_T50 l3 x13_2).f0)) ∧ w'.cell? ⟨(ad226.add ((x13_2).toNat * 4)).block, (ad226.add ((x13_2).toNat * 4)).off + 1, none⟩ = some (.int .i64 ((rd_T50 l3 x13_2).f1)) ∧ w'.cell? ⟨(ad226.add ((x13_2).toNat * 4)).block, (ad226.add ((x13_2).toNat * 4)).off + 2, none⟩ = some (.int .i64 ((rd_T50 l3 x13_2).f2.f0)) ∧ w'.cell? ⟨(ad226.add ((x13_2).toNat * 4)).block, (ad226.add ((x13_2).toNat * 4)).off + 3, none⟩ = some (.int .i64 ((rd_T50 l3 x13_2).f2.f1))) ∧ (w'.heap[gb220]? = some (.cells #[.string a0_0, .slice A0_1 l0_1.length c0_1, .int .i64 a0_2, .slice A0_3 l0_3.length c0_3, .slice A0_4 l0_4.length c0_4, .slice A0_5 l0_5.length c0_5, .slice A0_6 l0_6.length c0_6, .slice A0_7 l0_7.length c0_7, .slice A0_8 l0_8.length c0_8, .slice A0_9 l0_9.length c0_9, .int .i64 a0_10] 31 (0, 0))) ∧ (w'.heap[gb221]? = some (.cells #[.int .i64 0, .int .i64 0] 40 (0, 0))) ∧ (w'.heap[gb225]? = some (.cells #[.int .i64 x226000_2, .int .i64 x226001_2] 40 (0, 0))) ∧ (w'.heap[s_]? = some (.cells #[.int .i64 0, .int .i64 0] 40 (0, 0))) ∧ (w.heap.size ≤ s_) ∧ (w.heap.size ≤ s_) ∧ (gb220 ≠ s_) ∧ (s_ ≠ gb220) ∧ (gb221 ≠ s_) ∧ (s_ ≠ gb221) ∧ (gb225 ≠ s_) ∧ (s_ ≠ gb225) ∧ (Below w.heap.size w w')) ?_ ?_
       rotate_left
       ·
        intro hCont; refine two_ (i := 6) (j := 10) (Ni := some 55) (Nj := some 16) #[T,T,T,T,T,T,T,F,F,F,F,F,F] #[T,T,T,T,T,T,F,F,F,F,T,F,F] rfl rfl rfl rfl (two_of HT_.out (by kernel_rfl)) (by decide) (by decide) (fun K hK => ?_) (fun K hK => ?_)
        ·
         skip
         refine goes_ Try.func43 (by kernel_rfl) rfl #[.agg #[.int .i64 x226000_2, .int .i64 x226001_2], .agg #[.int .i64 ((rd_T50 l3 x13_2).f2.f0), .int .i64 ((rd_T50 l3 x13_2).f2.f1)]] (by rfl) rfl rfl (by (try simp only [List.map_toArray, List.map_cons, List.map_nil]); first | done | rfl | (simp only [List.length_drop, List.length_take]; rfl)) ?_
         with_reducible refine (bourneref09_Meet.calls k2 x226000_2 x226001_2 ((rd_T50 l3 x13_2).f2.f0) ((rd_T50 l3 x13_2).f2.f1) t231 t232 t233 _ A21.out).mono ?_
         rintro e w27 ⟨rfl, hb⟩
         refine ⟨_, rfl, ?_⟩
         have n0_ := Aside0.mk (bB (g := gb220) (o := .cells #[.string a0_0, .slice A0_1 l0_1.length c0_1, .int .i64 a0_2, .slice A0_3 l0_3.length c0_3, .slice A0_4 l0_4.length c0_4, .slice A0_5 l0_5.length c0_5, .slice A0_6 l0_6.length c0_6, .slice A0_7 l0_7.length c0_7, .slice A0_8 l0_8.length c0_8, .slice A0_9 l0_9.length c0_9, .int .i64 a0_10] 31 (0, 0)) (by (with_reducible repeat (first | refine bN ?_ _ | refine bD ?_ | refine bA ?_ _)); exact BK220.out) hb)
         have n1_ := Aside0.mk (bB (g := gb221) (o := .cells #[.int .i64 0, .int .i64 0] 40 (0, 0)) (by (with_reducible repeat (first | refine bN ?_ _ | refine bD ?_ | refine bA ?_ _)); exact BK221.out) hb)
         have n2_ := Aside0.mk (bB (g := gb225) (o := .cells #[.int .i64 x226000_2, .int .i64 x226001_2] 40 (0, 0)) (by (with_reducible repeat (first | refine bN ?_ _ | refine bD ?_ | refine bA ?_ _)); exact BK225.out) hb)
         have n3_ := Aside0.mk (bP (by repeat (first | (with_reducible first | exact HB.out | apply bL | apply bW | apply b1 | refine bS ?_ GE220.out | refine bS ?_ GE221.out | refine bS ?_ GE225.out) | exact HB.out)) hb)
         clear BK220; clear BK221; clear BK225; clear HB; have BK220 := n0_
         have BK221 := n1_
         have BK225 := n2_
         have HB := n3_
         clear n0_ n1_ n2_ n3_; (try clear hb); (try clear hb2); (try clear hk); (try clear hi); refine hK.out _ _ ⟨(bC BK225.out 0).trans rfl, (bC BK225.out 1).trans rfl, ((HB.out.cell (wL w _ hw230_0)).trans hw230_0), ((HB.out.cell (wL w _ hw230_1)).trans hw230_1), ((HB.out.cell (wL w _ hw230_2)).trans hw230_2), ((HB.out.cell (wL w _ hw230_3)).trans hw230_3)⟩ (fun hHeld => ?_)
         clear hK K; refine norm_ (a' := ?_) ?_ ?_
         rotate_left
         ·
          show Act.put _ (some 55) _ = _
          simp only [Act.put, lA, lZ, lS, i64_w, i32_w]; rfl
         refine pure_ (i := 7) (N := some 48) (v := ?_) (a' := ?_) #[T,T,T,T,T,T,T,T,F,F,F,F,F] rfl rfl (any_of HT_.out (by kernel_rfl)) (fun _ _ _ h => h) (Or.inl ⟨by rfl, ?_⟩) ?_ ?_
         rotate_left
         ·
          intro w'; go_simp; with_reducible rfl
         rotate_left
         ·
          simp only [Act.put, lA, lZ, lS, i64_w, i32_w]; rfl
         refine pure_ (i := 8) (N := some 56) (v := ?_) (a' := ?_) #[T,T,T,T,T,T,T,T,T,F,F,F,F] rfl rfl (any_of HT_.out (by kernel_rfl)) (fun _ _ _ h => h) (Or.inl ⟨by rfl, ?_⟩) ?_ ?_
         rotate_left
         ·
          intro w'; go_simp; with_reducible rfl
         rotate_left
         ·
          simp only [Act.put, lA, lZ, lS, i64_w, i32_w]; rfl
         refine pure_ (i := 9) (N := some 57) (v := ?_) (a' := ?_) #[T,T,T,T,T,T,T,T,T,T,F,F,F] rfl rfl (any_of HT_.out (by kernel_rfl)) (fun _ _ _ h => h) (Or.inl ⟨by rfl, ?_⟩) ?_ ?_
         rotate_left
         ·
          intro w'; go_simp; with_reducible rfl
         rotate_left
         ·
          simp only [Act.put, lA, lZ, lS, i64_w, i32_w]; rfl
         refine one_ (i := 10) (N := some 16) #[T,T,T,T,T,T,T,T,T,T,T,F,F] rfl rfl (one_of HT_.out (by kernel_rfl)) (by decide) (fun K hK => ?_)
         refine box_step ?hg (N := 16) ?hd (cs := #[.int .i64 0, .int .i64 0]) (t := 40) ?hr ?_; (case hd => rfl); (case hg => rfl); (case hr => first | (go_simp; done) | (go_simp; rfl))
         intro gb234 hg w28 hbox hb; have n0_ := Aside0.mk (bB (g := gb220) (o := .cells #[.string a0_0, .slice A0_1 l0_1.length c0_1, .int .i64 a0_2, .slice A0_3 l0_3.length c0_3, .slice A0_4 l0_4.length c0_4, .slice A0_5 l0_5.length c0_5, .slice A0_6 l0_6.length c0_6, .slice A0_7 l0_7.length c0_7, .slice A0_8 l0_8.length c0_8, .slice A0_9 l0_9.length c0_9, .int .i64 a0_10] 31 (0, 0)) (by (with_reducible repeat (first | refine bN ?_ _ | refine bD ?_ | refine bA ?_ _)); exact BK220.out) hb)
         have n1_ := Aside0.mk (bB (g := gb221) (o := .cells #[.int .i64 0, .int .i64 0] 40 (0, 0)) (by (with_reducible repeat (first | refine bN ?_ _ | refine bD ?_ | refine bA ?_ _)); exact BK221.out) hb)
         have n2_ := Aside0.mk (bB (g := gb225) (o := .cells #[.int .i64 x226000_2, .int .i64 x226001_2] 40 (0, 0)) (by (with_reducible repeat (first | refine bN ?_ _ | refine bD ?_ | refine bA ?_ _)); exact BK225.out) hb)
         have n3_ := Aside0.mk (bP (by repeat (first | (with_reducible first | exact HB.out | apply bL | apply bW | apply b1 | refine bS ?_ GE220.out | refine bS ?_ GE221.out | refine bS ?_ GE225.out) | exact HB.out)) hb)
         have n4_ := Aside0.mk (hbox)
         have n5_ := Aside0.mk ((by rw [hg]; exact (bZ (by repeat (first | (with_reducible first | exact HB.out | apply bL | apply bW | apply b1 | refine bS ?_ GE220.out | refine bS ?_ GE221.out | refine bS ?_ GE225.out) | exact HB.out))) : w.heap.size ≤ gb234))
         have n6_ := Aside0.mk ((by rw [hg]; exact (bZ (by repeat (first | (with_reducible first | exact HB.out | apply bL | apply bW | apply b1 | refine bS ?_ GE220.out | refine bS ?_ GE221.out | refine bS ?_ GE225.out) | exact HB.out))) : w.heap.size ≤ gb234))
         have n7_ := Aside0.mk ((by rw [hg]; exact Nat.ne_of_lt (bT (g := gb220) (o := .cells #[.string a0_0, .slice A0_1 l0_1.length c0_1, .int .i64 a0_2, .slice A0_3 l0_3.length c0_3, .slice A0_4 l0_4.length c0_4, .slice A0_5 l0_5.length c0_5, .slice A0_6 l0_6.length c0_6, .slice A0_7 l0_7.length c0_7, .slice A0_8 l0_8.length c0_8, .slice A0_9 l0_9.length c0_9, .int .i64 a0_10] 31 (0, 0)) (by (with_reducible repeat (first | refine bN ?_ _ | refine bD ?_ | refine bA ?_ _)); exact BK220.out)) : gb220 ≠ gb234))
         have n8_ := Aside0.mk ((by rw [hg]; exact Nat.ne_of_gt (bT (g := gb220) (o := .cells #[.string a0_0, .slice A0_1 l0_1.length c0_1, .int .i64 a0_2, .slice A0_3 l0_3.length c0_3, .slice A0_4 l0_4.length c0_4, .slice A0_5 l0_5.length c0_5, .slice A0_6 l0_6.length c0_6, .slice A0_7 l0_7.length c0_7, .slice A0_8 l0_8.length c0_8, .slice A0_9 l0_9.length c0_9, .int .i64 a0_10] 31 (0, 0)) (by (with_reducible repeat (first | refine bN ?_ _ | refine bD ?_ | refine bA ?_ _)); exact BK220.out)) : gb234 ≠ gb220))
         have n9_ := Aside0.mk ((by rw [hg]; exact Nat.ne_of_lt (bT (g := gb221) (o := .cells #[.int .i64 0, .int .i64 0] 40 (0, 0)) (by (with_reducible repeat (first | refine bN ?_ _ | refine bD ?_ | refine bA ?_ _)); exact BK221.out)) : gb221 ≠ gb234))
         have n10_ := Aside0.mk ((by rw [hg]; exact Nat.ne_of_gt (bT (g := gb221) (o := .cells #[.int .i64 0, .int .i64 0] 40 (0, 0)) (by (with_reducible repeat (first | refine bN ?_ _ | refine bD ?_ | refine bA ?_ _)); exact BK221.out)) : gb234 ≠ gb221))
         have n11_ := Aside0.mk ((by rw [hg]; exact Nat.ne_of_lt (bT (g := gb225) (o := .cells #[.int .i64 x226000_2, .int .i64 x226001_2] 40 (0, 0)) (by (with_reducible repeat (first | refine bN ?_ _ | refine bD ?_ | refine bA ?_ _)); exact BK225.out)) : gb225 ≠ gb234))
         have n12_ := Aside0.mk ((by rw [hg]; exact Nat.ne_of_gt (bT (g := gb225) (o := .cells #[.int .i64 x226000_2, .int .i64 x226001_2] 40 (0, 0)) (by (with_reducible repeat (first | refine bN ?_ _ | refine bD ?_ | refine bA ?_ _)); exact BK225.out)) : gb234 ≠ gb225))
         clear BK220; clear BK221; clear BK225; clear HB; have BK220 := n0_
         have BK221 := n1_
         have BK225 := n2_
         have HB := n3_
         have BK234 := n4_
         have GW234 := n5_
         have GE234 := n6_
         have NB220_234 := n7_
         have NB234_220 := n8_
         have NB221_234 := n9_
         have NB234_221 := n10_
         have NB225_234 := n11_
         have NB234_225 := n12_
         clear n0_ n1_ n2_ n3_ n4_ n5_ n6_ n7_ n8_ n9_ n10_ n11_ n12_; clear hb hbox hg; refine hK.out _ _ ⟨(bC BK225.out 0).trans rfl, (bC BK225.out 1).trans rfl, ((HB.out.cell (wL w _ hw230_0)).trans hw230_0), ((HB.out.cell (wL w _ hw230_1)).trans hw230_1), ((HB.out.cell (wL w _ hw230_2)).trans hw230_2), ((HB.out.cell (wL w _ hw230_3)).trans hw230_3)⟩ (fun hHeld => ?_)
         clear hK K; refine norm_ (a' := ?_) ?_ ?_
         rotate_left
         ·
          show Act.put _ (some 16) _ = _
          simp only [Act.put, lA, lZ, lS, i64_w, i32_w]; rfl
         exact norm_ (by simp only [putAll, Act.put, lA, lZ, lS]) (hCont (gb234) _ ⟨hHeld, (by (with_reducible repeat (first | refine bN ?_ _ | refine bD ?_ | refine bA ?_ _)); exact BK220.out), (by (with_reducible repeat (first | refine bN ?_ _ | refine bD ?_ | refine bA ?_ _)); exact BK221.out), (by (with_reducible repeat (first | refine bN ?_ _ | refine bD ?_ | refine bA ?_ _)); exact BK225.out), (by (with_reducible repeat (first | refine bN ?_ _ | refine bD ?_ | refine bA ?_ _)); exact BK234.out), GW234.out, GE234.out, NB220_234.out, NB234_220.out, NB221_234.out, NB234_221.out, NB225_234.out, NB234_225.out, (by repeat (first | (with_reducible first | exact HB.out | apply bL | apply bW | apply b1 | refine bS ?_ GE220.out | refine bS ?_ GE221.out | refine bS ?_ GE225.out | refine bS ?_ GE234.out) | exact HB.out))⟩)
        ·
         skip
         refine box_step ?hg (N := 16) ?hd (cs := #[.int .i64 0, .int .i64 0]) (t := 40) ?hr ?_; (case hd => rfl); (case hg => rfl); (case hr => first | (go_simp; done) | (go_simp; rfl))
         intro gb234 hg w27 hbox hb; have n0_ := Aside0.mk (bB (g := gb220) (o := .cells #[.string a0_0, .slice A0_1 l0_1.length c0_1, .int .i64 a0_2, .slice A0_3 l0_3.length c0_3, .slice A0_4 l0_4.length c0_4, .slice A0_5 l0_5.length c0_5, .slice A0_6 l0_6.length c0_6, .slice A0_7 l0_7.length c0_7, .slice A0_8 l0_8.length c0_8, .slice A0_9 l0_9.length c0_9, .int .i64 a0_10] 31 (0, 0)) (by (with_reducible repeat (first | refine bN ?_ _ | refine bD ?_ | refine bA ?_ _)); exact BK220.out) hb)
         have n1_ := Aside0.mk (bB (g := gb221) (o := .cells #[.int .i64 0, .int .i64 0] 40 (0, 0)) (by (with_reducible repeat (first | refine bN ?_ _ | refine bD ?_ | refine bA ?_ _)); exact BK221.out) hb)
         have n2_ := Aside0.mk (bB (g := gb225) (o := .cells #[.int .i64 x226000_2, .int .i64 x226001_2] 40 (0, 0)) (by (with_reducible repeat (first | refine bN ?_ _ | refine bD ?_ | refine bA ?_ _)); exact BK225.out) hb)
         have n3_ := Aside0.mk (bP (by repeat (first | (with_reducible first | exact HB.out | apply bL | apply bW | apply b1 | refine bS ?_ GE220.out | refine bS ?_ GE221.out | refine bS ?_ GE225.out) | exact HB.out)) hb)
         have n4_ := Aside0.mk (hbox)
         have n5_ := Aside0.mk ((by rw [hg]; exact (bZ (by repeat (first | (with_reducible first | exact HB.out | apply bL | apply bW | apply b1 | refine bS ?_ GE220.out | refine bS ?_ GE221.out | refine bS ?_ GE225.out) | exact HB.out))) : w.heap.size ≤ gb234))
         have n6_ := Aside0.mk ((by rw [hg]; exact (bZ (by repeat (first | (with_reducible first | exact HB.out | apply bL | apply bW | apply b1 | refine bS ?_ GE220.out | refine bS ?_ GE221.out | refine bS ?_ GE225.out) | exact HB.out))) : w.heap.size ≤ gb234))
         have n7_ := Aside0.mk ((by rw [hg]; exact Nat.ne_of_lt (bT (g := gb220) (o := .cells #[.string a0_0, .slice A0_1 l0_1.length c0_1, .int .i64 a0_2, .slice A0_3 l0_3.length c0_3, .slice A0_4 l0_4.length c0_4, .slice A0_5 l0_5.length c0_5, .slice A0_6 l0_6.length c0_6, .slice A0_7 l0_7.length c0_7, .slice A0_8 l0_8.length c0_8, .slice A0_9 l0_9.length c0_9, .int .i64 a0_10] 31 (0, 0)) (by (with_reducible repeat (first | refine bN ?_ _ | refine bD ?_ | refine bA ?_ _)); exact BK220.out)) : gb220 ≠ gb234))
         have n8_ := Aside0.mk ((by rw [hg]; exact Nat.ne_of_gt (bT (g := gb220) (o := .cells #[.string a0_0, .slice A0_1 l0_1.length c0_1, .int .i64 a0_2, .slice A0_3 l0_3.length c0_3, .slice A0_4 l0_4.length c0_4, .slice A0_5 l0_5.length c0_5, .slice A0_6 l0_6.length c0_6, .slice A0_7 l0_7.length c0_7, .slice A0_8 l0_8.length c0_8, .slice A0_9 l0_9.length c0_9, .int .i64 a0_10] 31 (0, 0)) (by (with_reducible repeat (first | refine bN ?_ _ | refine bD ?_ | refine bA ?_ _)); exact BK220.out)) : gb234 ≠ gb220))
         have n9_ := Aside0.mk ((by rw [hg]; exact Nat.ne_of_lt (bT (g := gb221) (o := .cells #[.int .i64 0, .int .i64 0] 40 (0, 0)) (by (with_reducible repeat (first | refine bN ?_ _ | refine bD ?_ | refine bA ?_ _)); exact BK221.out)) : gb221 ≠ gb234))
         have n10_ := Aside0.mk ((by rw [hg]; exact Nat.ne_of_gt (bT (g := gb221) (o := .cells #[.int .i64 0, .int .i64 0] 40 (0, 0)) (by (with_reducible repeat (first | refine bN ?_ _ | refine bD ?_ | refine bA ?_ _)); exact BK221.out)) : gb234 ≠ gb221))
         have n11_ := Aside0.mk ((by rw [hg]; exact Nat.ne_of_lt (bT (g := gb225) (o := .cells #[.int .i64 x226000_2, .int .i64 x226001_2] 40 (0, 0)) (by (with_reducible repeat (first | refine bN ?_ _ | refine bD ?_ | refine bA ?_ _)); exact BK225.out)) : gb225 ≠ gb234))
         have n12_ := Aside0.mk ((by rw [hg]; exact Nat.ne_of_gt (bT (g := gb225) (o := .cells #[.int .i64 x226000_2, .int .i64 x226001_2] 40 (0, 0)) (by (with_reducible repeat (first | refine bN ?_ _ | refine bD ?_ | refine bA ?_ _)); exact BK225.out)) : gb234 ≠ gb225))
         clear BK220; clear BK221; clear BK225; clear HB; have BK220 := n0_
         have BK221 := n1_
         have BK225 := n2_
         have HB := n3_
         have BK234 := n4_
         have GW234 := n5_
         have GE234 := n6_
         have NB220_234 := n7_
         have NB234_220 := n8_
         have NB221_234 := n9_
         have NB234_221 := n10_
         have NB225_234 := n11_
         have NB234_225 := n12_
         clear n0_ n1_ n2_ n3_ n4_ n5_ n6_ n7_ n8_ n9_ n10_ n11_ n12_; clear hb hbox hg; refine hK.out _ _ ⟨(bC BK225.out 0).trans rfl, (bC BK225.out 1).trans rfl, ((HB.out.cell (wL w _ hw230_0)).trans hw230_0), ((HB.out.cell (wL w _ hw230_1)).trans hw230_1), ((HB.out.cell (wL w _ hw230_2)).trans hw230_2), ((HB.out.cell (wL w _ hw230_3)).trans hw230_3)⟩ (fun hHeld => ?_)
         clear hK K; refine norm_ (a' := ?_) ?_ ?_
         rotate_left
         ·
          show Act.put _ (some 16) _ = _
          simp only [Act.put, lA, lZ, lS, i64_w, i32_w]; rfl
         refine one_ (i := 6) (N := some 55) #[T,T,T,T,T,T,T,F,F,F,T,F,F] rfl rfl (one_of HT_.out (by kernel_rfl)) (by decide) (fun K hK => ?_)
         refine goes_ Try.func43 (by kernel_rfl) rfl #[.agg #[.int .i64 x226000_2, .int .i64 x226001_2], .agg #[.int .i64 ((rd_T50 l3 x13_2).f2.f0), .int .i64 ((rd_T50 l3 x13_2).f2.f1)]] (by rfl) rfl rfl (by (try simp only [List.map_toArray, List.map_cons, List.map_nil]); first | done | rfl | (simp only [List.length_drop, List.length_take]; rfl)) ?_
         with_reducible refine (bourneref09_Meet.calls k2 x226000_2 x226001_2 ((rd_T50 l3 x13_2).f2.f0) ((rd_T50 l3 x13_2).f2.f1) t231 t232 t233 _ A21.out).mono ?_
         rintro e w28 ⟨rfl, hb⟩
         refine ⟨_, rfl, ?_⟩
         have n0_ := Aside0.mk (bB (g := gb220) (o := .cells #[.string a0_0, .slice A0_1 l0_1.length c0_1, .int .i64 a0_2, .slice A0_3 l0_3.length c0_3, .slice A0_4 l0_4.length c0_4, .slice A0_5 l0_5.length c0_5, .slice A0_6 l0_6.length c0_6, .slice A0_7 l0_7.length c0_7, .slice A0_8 l0_8.length c0_8, .slice A0_9 l0_9.length c0_9, .int .i64 a0_10] 31 (0, 0)) (by (with_reducible repeat (first | refine bN ?_ _ | refine bD ?_ | refine bA ?_ _)); exact BK220.out) hb)
         have n1_ := Aside0.mk (bB (g := gb221) (o := .cells #[.int .i64 0, .int .i64 0] 40 (0, 0)) (by (with_reducible repeat (first | refine bN ?_ _ | refine bD ?_ | refine bA ?_ _)); exact BK221.out) hb)
         have n2_ := Aside0.mk (bB (g := gb225) (o := .cells #[.int .i64 x226000_2, .int .i64 x226001_2] 40 (0, 0)) (by (with_reducible repeat (first | refine bN ?_ _ | refine bD ?_ | refine bA ?_ _)); exact BK225.out) hb)
         have n3_ := Aside0.mk (bB (g := gb234) (o := .cells #[.int .i64 0, .int .i64 0] 40 (0, 0)) (by (with_reducible repeat (first | refine bN ?_ _ | refine bD ?_ | refine bA ?_ _)); exact BK234.out) hb)
         have n4_ := Aside0.mk (bP (by repeat (first | (with_reducible first | exact HB.out | apply bL | apply bW | apply b1 | refine bS ?_ GE220.out | refine bS ?_ GE221.out | refine bS ?_ GE225.out | refine bS ?_ GE234.out) | exact HB.out)) hb)
         clear BK220; clear BK221; clear BK225; clear BK234; clear HB; have BK220 := n0_
         have BK221 := n1_
         have BK225 := n2_
         have BK234 := n3_
         have HB := n4_
         clear n0_ n1_ n2_ n3_ n4_; (try clear hb); (try clear hb2); (try clear hk); (try clear hi); refine hK.out _ _ ⟨(bC BK225.out 0).trans rfl, (bC BK225.out 1).trans rfl, ((HB.out.cell (wL w _ hw230_0)).trans hw230_0), ((HB.out.cell (wL w _ hw230_1)).trans hw230_1), ((HB.out.cell (wL w _ hw230_2)).trans hw230_2), ((HB.out.cell (wL w _ hw230_3)).trans hw230_3)⟩ (fun hHeld => ?_)
         clear hK K; refine norm_ (a' := ?_) ?_ ?_
         rotate_left
         ·
          show Act.put _ (some 55) _ = _
          simp only [Act.put, lA, lZ, lS, i64_w, i32_w]; rfl
         refine pure_ (i := 7) (N := some 48) (v := ?_) (a' := ?_) #[T,T,T,T,T,T,T,T,F,F,T,F,F] rfl rfl (any_of HT_.out (by kernel_rfl)) (fun _ _ _ h => h) (Or.inl ⟨by rfl, ?_⟩) ?_ ?_
         rotate_left
         ·
          intro w'; go_simp; with_reducible rfl
         rotate_left
         ·
          simp only [Act.put, lA, lZ, lS, i64_w, i32_w]; rfl
         refine pure_ (i := 8) (N := some 56) (v := ?_) (a' := ?_) #[T,T,T,T,T,T,T,T,T,F,T,F,F] rfl rfl (any_of HT_.out (by kernel_rfl)) (fun _ _ _ h => h) (Or.inl ⟨by rfl, ?_⟩) ?_ ?_
         rotate_left
         ·
          intro w'; go_simp; with_reducible rfl
         rotate_left
         ·
          simp only [Act.put, lA, lZ, lS, i64_w, i32_w]; rfl
         refine pure_ (i := 9) (N := some 57) (v := ?_) (a' := ?_) #[T,T,T,T,T,T,T,T,T,T,T,F,F] rfl rfl (any_of HT_.out (by kernel_rfl)) (fun _ _ _ h => h) (Or.inl ⟨by rfl, ?_⟩) ?_ ?_
         rotate_left
         ·
          intro w'; go_simp; with_reducible rfl
         rotate_left
         ·
          simp only [Act.put, lA, lZ, lS, i64_w, i32_w]; rfl
         exact norm_ (by simp only [putAll, Act.put, lA, lZ, lS]) (hCont (gb234) _ ⟨hHeld, (by (with_reducible repeat (first | refine bN ?_ _ | refine bD ?_ | refine bA ?_ _)); exact BK220.out), (by (with_reducible repeat (first | refine bN ?_ _ | refine bD ?_ | refine bA ?_ _)); exact BK221.out), (by (with_reducible repeat (first | refine bN ?_ _ | refine bD ?_ | refine bA ?_ _)); exact BK225.out), (by (with_reducible repeat (first | refine bN ?_ _ | refine bD ?_ | refine bA ?_ _)); exact BK234.out), GW234.out, GE234.out, NB220_234.out, NB234_220.out, NB221_234.out, NB234_221.out, NB225_234.out, NB234_225.out, (by repeat (first | (with_reducible first | exact HB.out | apply bL | apply bW | apply b1 | refine bS ?_ GE220.out | refine bS ?_ GE221.out | refine bS ?_ GE225.out | refine bS ?_ GE234.out) | exact HB.out))⟩)
       rintro gb234 w29 ⟨hS_, h0_, h1_, h2_, h3_, h4_, h5_, h6_, h7_, h8_, h9_, h10_, h11_, h12_⟩
       have n0_ : Aside0 (w29.heap[gb220]? = some (.cells #[.string a0_0, .slice A0_1 l0_1.length c0_1, .int .i64 a0_2, .slice A0_3 l0_3.length c0_3, .slice A0_4 l0_4.length c0_4, .slice A0_5 l0_5.length c0_5, .slice A0_6 l0_6.length c0_6, .slice A0_7 l0_7.length c0_7, .slice A0_8 l0_8.length c0_8, .slice A0_9 l0_9.length c0_9, .int .i64 a0_10] 31 (0, 0))) := ⟨h0_⟩
       have n1_ : Aside0 (w29.heap[gb221]? = some (.cells #[.int .i64 0, .int .i64 0] 40 (0, 0))) := ⟨h1_⟩
       have n2_ : Aside0 (w29.heap[gb225]? = some (.cells #[.int .i64 x226000_2, .int .i64 x226001_2] 40 (0, 0))) := ⟨h2_⟩
       have n3_ : Aside0 (w29.heap[gb234]? = some (.cells #[.int .i64 0, .int .i64 0] 40 (0, 0))) := ⟨h3_⟩
       have n4_ : Aside0 (w.heap.size ≤ gb234) := ⟨h4_⟩
       have n5_ : Aside0 (w.heap.size ≤ gb234) := ⟨h5_⟩
       have n6_ : Aside0 (gb220 ≠ gb234) := ⟨h6_⟩
       have n7_ : Aside0 (gb234 ≠ gb220) := ⟨h7_⟩
       have n8_ : Aside0 (gb221 ≠ gb234) := ⟨h8_⟩
       have n9_ : Aside0 (gb234 ≠ gb221) := ⟨h9_⟩
       have n10_ : Aside0 (gb225 ≠ gb234) := ⟨h10_⟩
       have n11_ : Aside0 (gb234 ≠ gb225) := ⟨h11_⟩
       have n12_ : Aside0 (Below w.heap.size w w29) := ⟨h12_⟩
       clear BK220; clear BK221; clear BK225; clear HB; clear h0_ h1_ h2_ h3_ h4_ h5_ h6_ h7_ h8_ h9_ h10_ h11_ h12_; have BK220 := n0_
       have BK221 := n1_
       have BK225 := n2_
       have BK234 := n3_
       have GW234 := n4_
       have GE234 := n5_
       have NB220_234 := n6_
       have NB234_220 := n7_
       have NB221_234 := n8_
       have NB234_221 := n9_
       have NB225_234 := n10_
       have NB234_225 := n11_
       have HB := n12_
       clear n0_ n1_ n2_ n3_ n4_ n5_ n6_ n7_ n8_ n9_ n10_ n11_ n12_; have hHeld : w29.cell? ⟨gb225, 0, none⟩ = some (.int .i64 x226000_2) ∧ w29.cell? ⟨gb225, 1, none⟩ = some (.int .i64 x226001_2) ∧ w29.cell? (ad226.add ((x13_2).toNat * 4)) = some (.int .i64 ((rd_T50 l3 x13_2).f0)) ∧ w29.cell? ⟨(ad226.add ((x13_2).toNat * 4)).block, (ad226.add ((x13_2).toNat * 4)).off + 1, none⟩ = some (.int .i64 ((rd_T50 l3 x13_2).f1)) ∧ w29.cell? ⟨(ad226.add ((x13_2).toNat * 4)).block, (ad226.add ((x13_2).toNat * 4)).off + 2, none⟩ = some (.int .i64 ((rd_T50 l3 x13_2).f2.f0)) ∧ w29.cell? ⟨(ad226.add ((x13_2).toNat * 4)).block, (ad226.add ((x13_2).toNat * 4)).off + 3, none⟩ = some (.int .i64 ((rd_T50 l3 x13_2).f2.f1)) := hS_
       refine norm_ (a' := ?_) ?_ ?_
       rotate_left
       ·
        simp only [putAll, Act.put, lA, lZ, lS]; rfl
       refine one_ (i := 11) (N := none) #[T,T,T,T,T,T,T,T,T,T,T,T,F] rfl rfl (one_of HT_.out (by kernel_rfl)) (by decide) (fun K hK => ?_)
       have hs30 : w29.cell? ⟨gb234, 0, none⟩ = some (.int .i64 0) := (bC BK234.out 0).trans rfl
       have hfs30 := bF BK234.out 0
       have hns30_0 := NB220_234.out
       have hns30_1 := NB221_234.out
       have hns30_2 := NB225_234.out
       have hms30_0 := NB234_220.out
       have hms30_1 := NB234_221.out
       have hms30_2 := NB234_225.out
       have hs31 : w29.cell? ⟨gb234, 1, none⟩ = some (.int .i64 0) := (bC BK234.out 1).trans rfl
       have hfs31 := bF BK234.out 1
       have hns31_0 := NB220_234.out
       have hns31_1 := NB221_234.out
       have hns31_2 := NB225_234.out
       have hms31_0 := NB234_220.out
       have hms31_1 := NB234_221.out
       have hms31_2 := NB234_225.out
       refine skip_ (w1 := ?_) (by rfl) rfl ?_ ?_
       rotate_left
       ·
        go_simp; rfl
       refine hK.out _ _ ⟨((cell_far (p := ⟨gb234, _, none⟩) NB225_234.out _).trans (((cell_far (p := ⟨gb234, _, none⟩) NB225_234.out _).trans (hHeld.1)))), ((cell_far (p := ⟨gb234, _, none⟩) NB225_234.out _).trans (((cell_far (p := ⟨gb234, _, none⟩) NB225_234.out _).trans (hHeld.2.1)))), ((cell_far (p := ⟨gb234, _, none⟩) (by have z_ := wL _ _ hw230_0; (try rw [add_block] at z_); have y_ := Nat.ne_of_lt (Nat.lt_of_lt_of_le z_ GW234.out); first | exact y_ | (rw [add_block]; exact y_) | (show (Addr.add _ _).block ≠ _; rw [add_block]; exact y_) | (dsimp only; exact y_)) _).trans (((cell_far (p := ⟨gb234, _, none⟩) (by have z_ := wL _ _ hw230_0; (try rw [add_block] at z_); have y_ := Nat.ne_of_lt (Nat.lt_of_lt_of_le z_ GW234.out); first | exact y_ | (rw [add_block]; exact y_) | (show (Addr.add _ _).block ≠ _; rw [add_block]; exact y_) | (dsimp only; exact y_)) _).trans (hHeld.2.2.1)))), ((cell_far (p := ⟨gb234, _, none⟩) (by have z_ := wL _ _ hw230_1; (try rw [add_block] at z_); have y_ := Nat.ne_of_lt (Nat.lt_of_lt_of_le z_ GW234.out); first | exact y_ | (rw [add_block]; exact y_) | (show (Addr.add _ _).block ≠ _; rw [add_block]; exact y_) | (dsimp only; exact y_)) _).trans (((cell_far (p := ⟨gb234, _, none⟩) (by have z_ := wL _ _ hw230_1; (try rw [add_block] at z_); have y_ := Nat.ne_of_lt (Nat.lt_of_lt_of_le z_ GW234.out); first | exact y_ | (rw [add_block]; exact y_) | (show (Addr.add _ _).block ≠ _; rw [add_block]; exact y_) | (dsimp only; exact y_)) _).trans (hHeld.2.2.2.1)))), ((cell_far (p := ⟨gb234, _, none⟩) (by have z_ := wL _ _ hw230_2; (try rw [add_block] at z_); have y_ := Nat.ne_of_lt (Nat.lt_of_lt_of_le z_ GW234.out); first | exact y_ | (rw [add_block]; exact y_) | (show (Addr.add _ _).block ≠ _; rw [add_block]; exact y_) | (dsimp only; exact y_)) _).trans (((cell_far (p := ⟨gb234, _, none⟩) (by have z_ := wL _ _ hw230_2; (try rw [add_block] at z_); have y_ := Nat.ne_of_lt (Nat.lt_of_lt_of_le z_ GW234.out); first | exact y_ | (rw [add_block]; exact y_) | (show (Addr.add _ _).block ≠ _; rw [add_block]; exact y_) | (dsimp only; exact y_)) _).trans (hHeld.2.2.2.2.1)))), ((cell_far (p := ⟨gb234, _, none⟩) (by have z_ := wL _ _ hw230_3; (try rw [add_block] at z_); have y_ := Nat.ne_of_lt (Nat.lt_of_lt_of_le z_ GW234.out); first | exact y_ | (rw [add_block]; exact y_) | (show (Addr.add _ _).block ≠ _; rw [add_block]; exact y_) | (dsimp only; exact y_)) _).trans (((cell_far (p := ⟨gb234, _, none⟩) (by have z_ := wL _ _ hw230_3; (try rw [add_block] at z_); have y_ := Nat.ne_of_lt (Nat.lt_of_lt_of_le z_ GW234.out); first | exact y_ | (rw [add_block]; exact y_) | (show (Addr.add _ _).block ≠ _; rw [add_block]; exact y_) | (dsimp only; exact y_)) _).trans (hHeld.2.2.2.2.2))))⟩ (fun hHeld => ?_)
       clear hK K; refine pure_ (i := 12) (N := some 17) (v := ?_) (a' := ?_) #[T,T,T,T,T,T,T,T,T,T,T,T,T] rfl rfl (any_of HT_.out (by kernel_rfl)) (fun _ _ _ h => h) (Or.inl ⟨by rfl, ?_⟩) ?_ ?_
       rotate_left
       ·
        intro w'; go_simp; with_reducible rfl
       rotate_left
       ·
        simp only [Act.put, lA, lZ, lS, i64_w, i32_w]; rfl
       refine done_ (done_of HT_.out (by kernel_rfl)) ?_
       go_upto_region 11 with (fail)
       go_cut [64] (fun v64 wc => ∃ (kq : Nat) (x64_21 : Bool), v64 = .bool x64_21 ∧ Aside0 (bourneref26_Cell.j2 kq l3 a4 x13_2 x64_21 a0_0 l0_1 a0_2 l0_3 l0_4 l0_5 l0_6 l0_7 l0_8 l0_9 a0_10 x226000_2 x226001_2 t231 t232 = some (r1, r2)) ∧ Aside0 (kq ≤ k2) ∧ Aside0 (wc.heap[gb220]? = some (.cells #[.string a0_0, (.slice A0_1 l0_1.length c0_1), .int .i64 a0_2, (.slice A0_3 l0_3.length c0_3), (.slice A0_4 l0_4.length c0_4), (.slice A0_5 l0_5.length c0_5), (.slice A0_6 l0_6.length c0_6), (.slice A0_7 l0_7.length c0_7), (.slice A0_8 l0_8.length c0_8), (.slice A0_9 l0_9.length c0_9), .int .i64 a0_10] 31 (0, 0))) ∧ Aside0 (wc.heap[gb221]? = some (.cells #[.int .i64 0, .int .i64 0] 40 (0, 0))) ∧ Aside0 (wc.heap[gb225]? = some (.cells #[.int .i64 x226000_2, .int .i64 x226001_2] 40 (0, 0))) ∧ Aside0 (wc.heap[gb234]? = some (.cells #[.int .i64 t231, .int .i64 t232] 40 (0, 0))) ∧ Aside0 (Below w.heap.size w wc))
       case first =>
        have H := HC22.out
        clear HC22; by_cases c32 : t227 = true
        ·
         subst c32; have H1 : (if t229 = true then (bourneref26_Cell.j2 k2 l3 a4 x13_2 t233 a0_0 l0_1 a0_2 l0_3 l0_4 l0_5 l0_6 l0_7 l0_8 l0_9 a0_10 x226000_2 x226001_2 t231 t232) else (bourneref26_Cell.j2 k2 l3 a4 x13_2 false a0_0 l0_1 a0_2 l0_3 l0_4 l0_5 l0_6 l0_7 l0_8 l0_9 a0_10 x226000_2 x226001_2 t231 t232)) = some (r1, r2) := by rw [if_pos rfl] at H; exact H
         clear H; have H := H1
         clear H1; by_cases c33 : t229 = true
         ·
          subst c33; have H1 : (bourneref26_Cell.j2 k2 l3 a4 x13_2 t233 a0_0 l0_1 a0_2 l0_3 l0_4 l0_5 l0_6 l0_7 l0_8 l0_9 a0_10 x226000_2 x226001_2 t231 t232) = some (r1, r2) := by rw [if_pos rfl] at H; exact H
          clear H; have H := H1
          clear H1; have H' := Aside0.mk H
          clear H; go_wp2
          go_meet
          case rel => exact ⟨_, (t233), (by first | rfl | (simp; done) | (simp [*]; done)), H', ⟨by have := HJ5.out; have := HK2.out; first | omega | exact Nat.le_refl _⟩, ⟨by (with_reducible repeat (first | refine bN ?_ _ | refine bD ?_ | refine bA ?_ _)); refine bR ?_ NB220_234.out _; (with_reducible repeat (first | refine bN ?_ _ | refine bD ?_ | refine bA ?_ _)); refine bR ?_ NB220_234.out _; (with_reducible repeat (first | refine bN ?_ _ | refine bD ?_ | refine bA ?_ _)); exact BK220.out⟩, ⟨by (with_reducible repeat (first | refine bN ?_ _ | refine bD ?_ | refine bA ?_ _)); refine bR ?_ NB221_234.out _; (with_reducible repeat (first | refine bN ?_ _ | refine bD ?_ | refine bA ?_ _)); refine bR ?_ NB221_234.out _; (with_reducible repeat (first | refine bN ?_ _ | refine bD ?_ | refine bA ?_ _)); exact BK221.out⟩, ⟨by (with_reducible repeat (first | refine bN ?_ _ | refine bD ?_ | refine bA ?_ _)); refine bR ?_ NB225_234.out _; (with_reducible repeat (first | refine bN ?_ _ | refine bD ?_ | refine bA ?_ _)); refine bR ?_ NB225_234.out _; (with_reducible repeat (first | refine bN ?_ _ | refine bD ?_ | refine bA ?_ _)); exact BK225.out⟩, ⟨by (with_reducible repeat (first | refine bN ?_ _ | refine bD ?_ | refine bA ?_ _)); refine bU (cs := #[.int .i64 t231, .int .i64 0]) ?_ 1 _ rfl; (with_reducible repeat (first | refine bN ?_ _ | refine bD ?_ | refine bA ?_ _)); refine bU (cs := #[.int .i64 0, .int .i64 0]) ?_ 0 _ rfl; (with_reducible repeat (first | refine bN ?_ _ | refine bD ?_ | refine bA ?_ _)); exact BK234.out⟩, ⟨by repeat (first | (with_reducible first | exact HB.out | apply bL | apply bW | apply b1 | refine bS ?_ GE220.out | refine bS ?_ GE221.out | refine bS ?_ GE225.out | refine bS ?_ GE234.out) | exact HB.out)⟩⟩
         ·
          replace c33 := Bool.eq_false_iff.mpr c33
          subst c33; have H1 : (bourneref26_Cell.j2 k2 l3 a4 x13_2 false a0_0 l0_1 a0_2 l0_3 l0_4 l0_5 l0_6 l0_7 l0_8 l0_9 a0_10 x226000_2 x226001_2 t231 t232) = some (r1, r2) := by rw [if_neg (show ¬ (false = true) by decide)] at H; exact H
          clear H; have H := H1
          clear H1; have H' := Aside0.mk H
          clear H; go_wp2
          go_meet
          case rel => exact ⟨_, (false), (by first | rfl | (simp; done) | (simp [*]; done)), H', ⟨by have := HJ5.out; have := HK2.out; first | omega | exact Nat.le_refl _⟩, ⟨by (with_reducible repeat (first | refine bN ?_ _ | refine bD ?_ | refine bA ?_ _)); refine bR ?_ NB220_234.out _; (with_reducible repeat (first | refine bN ?_ _ | refine bD ?_ | refine bA ?_ _)); refine bR ?_ NB220_234.out _; (with_reducible repeat (first | refine bN ?_ _ | refine bD ?_ | refine bA ?_ _)); exact BK220.out⟩, ⟨by (with_reducible repeat (first | refine bN ?_ _ | refine bD ?_ | refine bA ?_ _)); refine bR ?_ NB221_234.out _; (with_reducible repeat (first | refine bN ?_ _ | refine bD ?_ | refine bA ?_ _)); refine bR ?_ NB221_234.out _; (with_reducible repeat (first | refine bN ?_ _ | refine bD ?_ | refine bA ?_ _)); exact BK221.out⟩, ⟨by (with_reducible repeat (first | refine bN ?_ _ | refine bD ?_ | refine bA ?_ _)); refine bR ?_ NB225_234.out _; (with_reducible repeat (first | refine bN ?_ _ | refine bD ?_ | refine bA ?_ _)); refine bR ?_ NB225_234.out _; (with_reducible repeat (first | refine bN ?_ _ | refine bD ?_ | refine bA ?_ _)); exact BK225.out⟩, ⟨by (with_reducible repeat (first | refine bN ?_ _ | refine bD ?_ | refine bA ?_ _)); refine bU (cs := #[.int .i64 t231, .int .i64 0]) ?_ 1 _ rfl; (with_reducible repeat (first | refine bN ?_ _ | refine bD ?_ | refine bA ?_ _)); refine bU (cs := #[.int .i64 0, .int .i64 0]) ?_ 0 _ rfl; (with_reducible repeat (first | refine bN ?_ _ | refine bD ?_ | refine bA ?_ _)); exact BK234.out⟩, ⟨by repeat (first | (with_reducible first | exact HB.out | apply bL | apply bW | apply b1 | refine bS ?_ GE220.out | refine bS ?_ GE221.out | refine bS ?_ GE225.out | refine bS ?_ GE234.out) | exact HB.out)⟩⟩
        ·
         replace c32 := Bool.eq_false_iff.mpr c32
         subst c32; have H1 : (bourneref26_Cell.j2 k2 l3 a4 x13_2 false a0_0 l0_1 a0_2 l0_3 l0_4 l0_5 l0_6 l0_7 l0_8 l0_9 a0_10 x226000_2 x226001_2 t231 t232) = some (r1, r2) := by rw [if_neg (show ¬ (false = true) by decide)] at H; exact H
         clear H; have H := H1
         clear H1; have H' := Aside0.mk H
         clear H; go_wp2
         go_meet
         case rel => exact ⟨_, (false), (by first | rfl | (simp; done) | (simp [*]; done)), H', ⟨by have := HJ5.out; have := HK2.out; first | omega | exact Nat.le_refl _⟩, ⟨by (with_reducible repeat (first | refine bN ?_ _ | refine bD ?_ | refine bA ?_ _)); refine bR ?_ NB220_234.out _; (with_reducible repeat (first | refine bN ?_ _ | refine bD ?_ | refine bA ?_ _)); refine bR ?_ NB220_234.out _; (with_reducible repeat (first | refine bN ?_ _ | refine bD ?_ | refine bA ?_ _)); exact BK220.out⟩, ⟨by (with_reducible repeat (first | refine bN ?_ _ | refine bD ?_ | refine bA ?_ _)); refine bR ?_ NB221_234.out _; (with_reducible repeat (first | refine bN ?_ _ | refine bD ?_ | refine bA ?_ _)); refine bR ?_ NB221_234.out _; (with_reducible repeat (first | refine bN ?_ _ | refine bD ?_ | refine bA ?_ _)); exact BK221.out⟩, ⟨by (with_reducible repeat (first | refine bN ?_ _ | refine bD ?_ | refine bA ?_ _)); refine bR ?_ NB225_234.out _; (with_reducible repeat (first | refine bN ?_ _ | refine bD ?_ | refine bA ?_ _)); refine bR ?_ NB225_234.out _; (with_reducible repeat (first | refine bN ?_ _ | refine bD ?_ | refine bA ?_ _)); exact BK225.out⟩, ⟨by (with_reducible repeat (first | refine bN ?_ _ | refine bD ?_ | refine bA ?_ _)); refine bU (cs := #[.int .i64 t231, .int .i64 0]) ?_ 1 _ rfl; (with_reducible repeat (first | refine bN ?_ _ | refine bD ?_ | refine bA ?_ _)); refine bU (cs := #[.int .i64 0, .int .i64 0]) ?_ 0 _ rfl; (with_reducible repeat (first | refine bN ?_ _ | refine bD ?_ | refine bA ?_ _)); exact BK234.out⟩, ⟨by repeat (first | (with_reducible first | exact HB.out | apply bL | apply bW | apply b1 | refine bS ?_ GE220.out | refine bS ?_ GE221.out | refine bS ?_ GE225.out | refine bS ?_ GE234.out) | exact HB.out)⟩⟩
       case rest =>
        clear HC22; try clear c1
        try clear c2
        try clear p2
        try clear q2
        try clear hx2
        try clear c3
        try clear c4
        try clear c9
        try clear c9b0
        try clear c10
        try clear c10b0
        try clear c14
        try clear c15
        try clear c17
        try clear c17b0
        try clear c18
        try clear c18b0
        try clear c21
        try clear p22
        try clear q22
        try clear hx22
        try clear p23
        try clear q23
        try clear hx23
        try clear c32
        try clear c33
        try clear hcz16_0
        try clear hcz16_1
        try clear hfz16_0
        try clear hfz16_1
        try clear hx222_0
        try clear hx226_0
        try clear hx226_1
        try clear hx226_2
        try clear hx226_3
        try clear hx228_0
        try clear hx228_1
        try clear hx228_2
        try clear hx228_3
        try clear hx230_0
        try clear hx230_1
        try clear hx230_2
        try clear hx230_3
        try clear p2
        try clear p222
        try clear p226
        try clear p228
        try clear p230
        try clear q2
        try clear q222
        try clear q226
        try clear q228
        try clear q230
        obtain ⟨kq, x64_21, rfl, HA, HJ21, BK220, BK221, BK225, BK234, HB⟩ := hcut
        cases kq with
        | zero => exact absurd HA.out (by simp [bourneref26_Cell.j2])
        | succ kj21 =>
         have H := HA.out
         clear HA; simp only [bourneref26_Cell.j2] at H; by_cases c34 : x64_21 = true
         ·
          subst c34; have H1 : (bourneref26_Cell.l0 kj21 l3 a4 (wrap64 (x13_2 + 1)) a0_0 l0_1 a0_2 l0_3 l0_4 l0_5 l0_6 l0_7 l0_8 l0_9 a0_10 t231 t232) = some (r1, r2) := by rw [if_pos rfl] at H; exact H
          clear H; have H := H1
          clear H1; have H' := Aside0.mk H
          clear H; have hnb35 := NB234_220.out
          have hnc35 := NB220_234.out
          have hnb36 := NB234_221.out
          have hnc36 := NB221_234.out
          have hnb37 := NB234_225.out
          have hnc37 := NB225_234.out
          have hcz38_0 : wc.cell? ⟨gb234, 0, none⟩ = some (.int .i64 t231) := (bC BK234.out 0).trans rfl
          have hcz38_1 : wc.cell? ⟨gb234, 1, none⟩ = some (.int .i64 t232) := (bC BK234.out 1).trans rfl
          have hfz38_0 := bF BK234.out 0
          have hfz38_1 := bF BK234.out 1
          have hnb39 := NB225_220.out
          have hnc39 := NB220_225.out
          have hnb40 := NB225_221.out
          have hnc40 := NB221_225.out
          have hcz41_0 : wc.cell? ⟨gb225, 0, none⟩ = some (.int .i64 x226000_2) := (bC BK225.out 0).trans rfl
          have hcz41_1 : wc.cell? ⟨gb225, 1, none⟩ = some (.int .i64 x226001_2) := (bC BK225.out 1).trans rfl
          have hfz41_0 := bF BK225.out 0
          have hfz41_1 := bF BK225.out 1
          go_wp2
          go_roundg kj21
          case measure => have := HJ5.out; have := HK2.out; have := HJ21.out; omega
          case rel => exact ⟨(wrap64 (x13_2 + 1)), (t231), (t232), (by first | rfl | (simp; done) | (simp [*]; done)), H', ⟨by have := HJ5.out; have := HK2.out; have := HJ21.out; omega⟩, ⟨by (with_reducible repeat (first | refine bN ?_ _ | refine bD ?_ | refine bA ?_ _)); refine bR ?_ NB220_225.out _; (with_reducible repeat (first | refine bN ?_ _ | refine bD ?_ | refine bA ?_ _)); refine bR ?_ NB220_225.out _; (with_reducible repeat (first | refine bN ?_ _ | refine bD ?_ | refine bA ?_ _)); exact BK220.out⟩, ⟨by (with_reducible repeat (first | refine bN ?_ _ | refine bD ?_ | refine bA ?_ _)); refine bR ?_ NB221_225.out _; (with_reducible repeat (first | refine bN ?_ _ | refine bD ?_ | refine bA ?_ _)); refine bR ?_ NB221_225.out _; (with_reducible repeat (first | refine bN ?_ _ | refine bD ?_ | refine bA ?_ _)); exact BK221.out⟩, ⟨by (with_reducible repeat (first | refine bN ?_ _ | refine bD ?_ | refine bA ?_ _)); refine bU (cs := #[.int .i64 t231, .int .i64 x226001_2]) ?_ 1 _ rfl; (with_reducible repeat (first | refine bN ?_ _ | refine bD ?_ | refine bA ?_ _)); refine bU (cs := #[.int .i64 x226000_2, .int .i64 x226001_2]) ?_ 0 _ rfl; (with_reducible repeat (first | refine bN ?_ _ | refine bD ?_ | refine bA ?_ _)); exact BK225.out⟩, ⟨by repeat (first | (with_reducible first | exact HB.out | apply bL | apply bW | apply b1 | refine bS ?_ GE220.out | refine bS ?_ GE221.out | refine bS ?_ GE225.out | refine bS ?_ GE234.out) | exact HB.out)⟩⟩
         ·
          replace c34 := Bool.eq_false_iff.mpr c34
          subst c34; have H1 : (bourneref26_Cell.l0 kj21 l3 a4 (wrap64 (x13_2 + 1)) a0_0 l0_1 a0_2 l0_3 l0_4 l0_5 l0_6 l0_7 l0_8 l0_9 a0_10 x226000_2 x226001_2) = some (r1, r2) := by rw [if_neg (show ¬ (false = true) by decide)] at H; exact H
          clear H; have H := H1
          clear H1; have H' := Aside0.mk H
          clear H; go_wp2
          go_roundg kj21
          case measure => have := HJ5.out; have := HK2.out; have := HJ21.out; omega
          case rel => exact ⟨(wrap64 (x13_2 + 1)), (x226000_2), (x226001_2), (by first | rfl | (simp; done) | (simp [*]; done)), H', ⟨by have := HJ5.out; have := HK2.out; have := HJ21.out; omega⟩, ⟨by (with_reducible repeat (first | refine bN ?_ _ | refine bD ?_ | refine bA ?_ _)); exact BK220.out⟩, ⟨by (with_reducible repeat (first | refine bN ?_ _ | refine bD ?_ | refine bA ?_ _)); exact BK221.out⟩, ⟨by (with_reducible repeat (first | refine bN ?_ _ | refine bD ?_ | refine bA ?_ _)); exact BK225.out⟩, ⟨by repeat (first | (with_reducible first | exact HB.out | apply bL | apply bW | apply b1 | refine bS ?_ GE220.out | refine bS ?_ GE221.out | refine bS ?_ GE225.out | refine bS ?_ GE234.out) | exact HB.out)⟩⟩
      ·
       rw [if_neg c18] at H; exact absurd H (by simp)
     ·
      rw [if_neg c17] at H; have c17b0 : decide (x13_2 < (l3.length : Int)) = false := decide_eq_false c17
      clear c17; simp only [Option.some.injEq, Prod.mk.injEq] at H; obtain ⟨rfl, rfl⟩ := H
      have hnb42 := NB225_220.out
      have hnc42 := NB220_225.out
      have hnb43 := NB225_221.out
      have hnc43 := NB221_225.out
      have hcz44_0 : wr.cell? ⟨gb225, 0, none⟩ = some (.int .i64 x226000_2) := (bC BK225.out 0).trans rfl
      have hcz44_1 : wr.cell? ⟨gb225, 1, none⟩ = some (.int .i64 x226001_2) := (bC BK225.out 1).trans rfl
      have hfz44_0 := bF BK225.out 0
      have hfz44_1 := bF BK225.out 1
      have hnb45 := NB221_220.out
      have hnc45 := NB220_221.out
      have hcz46_0 : wr.cell? ⟨gb221, 0, none⟩ = some (.int .i64 0) := (bC BK221.out 0).trans rfl
      have hcz46_1 : wr.cell? ⟨gb221, 1, none⟩ = some (.int .i64 0) := (bC BK221.out 1).trans rfl
      have hfz46_0 := bF BK221.out 0
      have hfz46_1 := bF BK221.out 1
      go_wp2
      refine bodyPost_ret (results_cell_row rfl _ _ gb221 40 #[.int .i64 x226000_2, .int .i64 x226001_2] (0, 0) _ rfl (by (with_reducible repeat (first | refine bN ?_ _ | refine bD ?_ | refine bA ?_ _)); refine bU (cs := #[.int .i64 x226000_2, .int .i64 0]) ?_ 1 _ rfl; (with_reducible repeat (first | refine bN ?_ _ | refine bD ?_ | refine bA ?_ _)); refine bU (cs := #[.int .i64 0, .int .i64 0]) ?_ 0 _ rfl; (with_reducible repeat (first | refine bN ?_ _ | refine bD ?_ | refine bA ?_ _)); exact BK221.out) Try.underlying40 rfl (by kernel_rfl)) rfl ?_
      exact ⟨by first | rfl | (simp [errW_none, errW_some] <;> rfl) | (simp [*, errW_none, errW_some] <;> rfl), by repeat (first | (with_reducible first | exact HB.out | apply bL | apply bW | apply b1 | refine bS ?_ GE220.out | refine bS ?_ GE221.out | refine bS ?_ GE225.out) | exact HB.out)⟩
end Go.Proofs.Ytpklgbnihgljmaa.Fn
