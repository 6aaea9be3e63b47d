-- written by this session's program myprint.py out of the translation; Lean checks it
import Derived.Test.YtpklgbnihgljmaaFn0
import Derived.Test.YtpklgbnihgljmaaRdT
import Derived.Test.YtpklgbnihgljmaaFn1
import Derived.Test.YtpklgbnihgljmaaFn5
import Derived.Test.YtpklgbnihgljmaaFn7
import Derived.Test.YtpklgbnihgljmaaFn8
import Derived.Test.YtpklgbnihgljmaaFn11
import Derived.Test.YtpklgbnihgljmaaFn12
import Derived.Test.YtpklgbnihgljmaaMesh
namespace Go.Proofs.Ytpklgbnihgljmaa.Fn
open Go.Proofs.Ytpklgbnihgljmaa.Rd (w104 w106 w108 w110 w40 w50 w56 w67)
open Go.RowKit Go.Proofs.YtpklgbnihgljmaaW.PrintWords Go.Proofs.YtpklgbnihgljmaaW.PrintLast Go.Proofs.YtpklgbnihgljmaaW.PrintMore
open Bool renaming true → T, false → F
open List renaming setIfInBounds_toArray → lA, set_cons_zero → lZ, set_cons_succ → lS
open Go.Proofs.YtpklgbnihgljmaaW.PrintWords renaming blk_drewN → bN, blk_drew → bD, blk_alloc → bA, below_set → bS, blk_cell → bC, blk_below → bB, blk_frozen → bF, pw_below_drewN → bW, below_drew1 → b1, below_alloc → bL, below_step → bP, below_size → bZ
attribute [local go_sem] max2_int min2_int max_two min_two max_three min_three max_four min_four
set_option linter.unusedVariables false
set_option linter.unusedSimpArgs false
attribute [local go_sem high] eqA40
def bournelaw26_RainTells.f (k : Nat) (a0_0 : ByteArray) (l0_1 : List ByteArray) (a0_2 : Int) (l0_3 : List (S56)) (l0_4 : List (S104)) (l0_5 : List (S106)) (l0_6 : List (S67)) (l0_7 : List (S108)) (l0_8 : List (S110)) (l0_9 : List Int) (a0_10 : Int) (l1 : List Int) (a2 : Int) (l3 : List (S50)) (l4 : List (S40)) : Option (Bool) := (bournelaw26_small.f k).bind fun t272 => ((bournelaw26_few.f k a0_0 l0_1 a0_2 l0_3 l0_4 l0_5 l0_6 l0_7 l0_8 l0_9 a0_10 l3 l4).bind fun t273 => (if t273 = true then ((rain_Cells.f k a0_0 l0_1 a0_2 l0_3 l0_4 l0_5 l0_6 l0_7 l0_8 l0_9 a0_10 l1 a2 l3).bind fun t274 => ((bourneref26_Cells.f k a0_0 l0_1 a0_2 l0_3 l0_4 l0_5 l0_6 l0_7 l0_8 l0_9 a0_10 l1 a2 l3).bind fun t277 => ((bourneref09_SameAll.f k t274 t277).bind fun t280 => ((rain_Mesh.f k a0_0 l0_1 a0_2 l0_3 l0_4 l0_5 l0_6 l0_7 l0_8 l0_9 a0_10 l4).bind fun t281 => ((bourneref26_Mesh.f k a0_0 l0_1 a0_2 l0_3 l0_4 l0_5 l0_6 l0_7 l0_8 l0_9 a0_10 l4).bind fun t284 => ((bourneref09_SameAll.f k t281 t284).bind fun t287 => (if t272 = true then (if t280 = true then (if t287 = true then ((rain_Sum.f k l4).bind fun bt288 => ((bourneref26_Sum.f k l4).bind fun bt290 => (some (bt288.1 == bt290.1 && (bt288.2 == bt290.2))))) else (some false)) else (some false)) else (some false)))))))) else (some t272)))
theorem bournelaw26_RainTells.mono : ∀ a0 a1 a2 a3 a4 a5 a6 a7 a8 a9 a10 a11 a12 a13 a14 k, LeO (bournelaw26_RainTells.f k a0 a1 a2 a3 a4 a5 a6 a7 a8 a9 a10 a11 a12 a13 a14) (bournelaw26_RainTells.f (k + 1) a0 a1 a2 a3 a4 a5 a6 a7 a8 a9 a10 a11 a12 a13 a14) := by
 intro a0 a1 a2 a3 a4 a5 a6 a7 a8 a9 a10 a11 a12 a13 a14 k; unfold bournelaw26_RainTells.f
 repeat' first
   | (with_reducible exact bournelaw26_few.mono _ _ _ _ _ _ _ _ _ _ _ _ _ _)
   | (with_reducible exact bournelaw26_small.mono _)
   | (with_reducible exact bourneref09_SameAll.mono _ _ _)
   | (with_reducible exact bourneref26_Cells.mono _ _ _ _ _ _ _ _ _ _ _ _ _ _ _)
   | (with_reducible exact bourneref26_Mesh.mono _ _ _ _ _ _ _ _ _ _ _ _ _)
   | (with_reducible exact bourneref26_Sum.mono _ _)
   | (with_reducible exact rain_Cells.mono _ _ _ _ _ _ _ _ _ _ _ _ _ _ _)
   | (with_reducible exact rain_Mesh.mono _ _ _ _ _ _ _ _ _ _ _ _ _)
   | (with_reducible exact rain_Sum.mono _ _)
   | (with_reducible exact LeO.refl _)
   | (with_reducible exact LeO.none _)
   | (with_reducible refine LeO.ite ?_ ?_)
   | (with_reducible refine LeO.bind ?_ (fun _ => ?_))
   | exact bournelaw26_few.mono _ _ _ _ _ _ _ _ _ _ _ _ _ _
   | exact bournelaw26_small.mono _
   | exact bourneref09_SameAll.mono _ _ _
   | exact bourneref26_Cells.mono _ _ _ _ _ _ _ _ _ _ _ _ _ _ _
   | exact bourneref26_Mesh.mono _ _ _ _ _ _ _ _ _ _ _ _ _
   | exact bourneref26_Sum.mono _ _
   | exact rain_Cells.mono _ _ _ _ _ _ _ _ _ _ _ _ _ _ _
   | exact rain_Mesh.mono _ _ _ _ _ _ _ _ _ _ _ _ _
   | exact rain_Sum.mono _ _
   | exact LeO.none _
   | refine LeO.ite ?_ ?_
   | refine LeO.bind ?_ (fun _ => ?_)
def bournelaw26_RainTells.T5 : Bool × List (List Nat × List Nat) := (true, [([], []), ([], []), ([], []), ([], []), ([0, 1, 2, 3], [0, 1, 2, 3]), ([], []), ([], []), ([], []), ([], []), ([5, 6, 7, 8, 4], [5, 6, 7, 8]), ([4, 9, 9], [4, 9]), ([10, 10, 0, 1, 2, 3, 4, 5, 6, 7, 8, 9, 10], [10])])
def bournelaw26_RainTells.B5 : List Nat := [0, 0, 0, 0, 15, 0, 0, 0, 0, 511, 1023, 2047]
theorem bournelaw26_RainTells.tab5 : rtab .any (opsOf Try.f3 5) = bournelaw26_RainTells.T5 := by kernel_rfl
theorem bournelaw26_RainTells.bits5 : waitsOk bournelaw26_RainTells.T5.2 bournelaw26_RainTells.B5 = true := by kernel_rfl
def bournelaw26_RainTells.T6 : Bool × List (List Nat × List Nat) := (true, [([], []), ([], []), ([0, 1], [0, 1]), ([], []), ([], []), ([3, 4, 2], [3, 4]), ([2, 5, 5], [2, 5]), ([6, 6, 0, 1, 2, 3, 4, 5, 6], [6])])
def bournelaw26_RainTells.B6 : List Nat := [0, 0, 3, 0, 0, 31, 63, 127]
theorem bournelaw26_RainTells.tab6 : rtab .any (opsOf Try.f3 6) = bournelaw26_RainTells.T6 := by kernel_rfl
theorem bournelaw26_RainTells.bits6 : waitsOk bournelaw26_RainTells.T6.2 bournelaw26_RainTells.B6 = true := by kernel_rfl
set_option maxHeartbeats 8000000 in
set_option maxRecDepth 100000 in
theorem bournelaw26_RainTells.calls (k : Nat) (a0_0 : ByteArray) (A0_1 : Option Addr) (c0_1 : Nat) (l0_1 : List ByteArray) (a0_2 : Int) (A0_3 : Option Addr) (c0_3 : Nat) (l0_3 : List (S56)) (A0_4 : Option Addr) (c0_4 : Nat) (l0_4 : List (S104)) (A0_5 : Option Addr) (c0_5 : Nat) (l0_5 : List (S106)) (A0_6 : Option Addr) (c0_6 : Nat) (l0_6 : List (S67)) (A0_7 : Option Addr) (c0_7 : Nat) (l0_7 : List (S108)) (A0_8 : Option Addr) (c0_8 : Nat) (l0_8 : List (S110)) (A0_9 : Option Addr) (c0_9 : Nat) (l0_9 : List Int) (a0_10 : Int) (A1 : Option Addr) (c1 : Nat) (l1 : List Int) (a2 : Int) (A3 : Option Addr) (c3 : Nat) (l3 : List (S50)) (A4 : Option Addr) (c4 : Nat) (l4 : List (S40)) (r : Bool) (w : World) (hr0_1 : Kd.C Kd.string w A0_1 l0_1.length l0_1) (hc0_1 : l0_1.length ≤ c0_1) (hr0_3 : Kd.C k56 w A0_3 l0_3.length l0_3) (hc0_3 : l0_3.length ≤ c0_3) (hr0_4 : Kd.C k104 w A0_4 l0_4.length l0_4) (hc0_4 : l0_4.length ≤ c0_4) (hr0_5 : Kd.C k106 w A0_5 l0_5.length l0_5) (hc0_5 : l0_5.length ≤ c0_5) (hr0_6 : Kd.C k67 w A0_6 l0_6.length l0_6) (hc0_6 : l0_6.length ≤ c0_6) (hr0_7 : Kd.C k108 w A0_7 l0_7.length l0_7) (hc0_7 : l0_7.length ≤ c0_7) (hr0_8 : Kd.C k110 w A0_8 l0_8.length l0_8) (hc0_8 : l0_8.length ≤ c0_8) (hr0_9 : Kd.C (Kd.int .i64) w A0_9 l0_9.length l0_9) (hc0_9 : l0_9.length ≤ c0_9) (hr1 : Kd.C (Kd.int .i64) w A1 l1.length l1) (hc1 : l1.length ≤ c1) (hr3 : Kd.C k50 w A3 l3.length l3) (hc3 : l3.length ≤ c3) (hr4 : Kd.C k40 w A4 l4.length l4) (hc4 : l4.length ≤ c4) (hT : Aside0 (r = true)) (h : bournelaw26_RainTells.f k a0_0 l0_1 a0_2 l0_3 l0_4 l0_5 l0_6 l0_7 l0_8 l0_9 a0_10 l1 a2 l3 l4 = some r) :
  Calls Try.prog 3 #[.agg #[.string a0_0, .slice A0_1 l0_1.length c0_1, .int .i64 a0_2, .slice A0_3 l0_3.length c0_3, .slice A0_4 l0_4.length c0_4, .slice A0_5 l0_5.length c0_5, .slice A0_6 l0_6.length c0_6, .slice A0_7 l0_7.length c0_7, .slice A0_8 l0_8.length c0_8, .slice A0_9 l0_9.length c0_9, .int .i64 a0_10], .slice A1 l1.length c1, .int .i64 a2, .slice A3 l3.length c3, .slice A4 l4.length c4] w fun e w' => e = .returned (.bool r) ∧ Below w.heap.size w w' := by
 have hu31 := Try.underlying31
 have HR0_1 := Aside0.mk hr0_1
 have HC0_1 := Aside0.mk hc0_1
 clear hr0_1 hc0_1; have HR0_3 := Aside0.mk hr0_3
 have HC0_3 := Aside0.mk hc0_3
 clear hr0_3 hc0_3; have HR0_4 := Aside0.mk hr0_4
 have HC0_4 := Aside0.mk hc0_4
 clear hr0_4 hc0_4; have HR0_5 := Aside0.mk hr0_5
 have HC0_5 := Aside0.mk hc0_5
 clear hr0_5 hc0_5; have HR0_6 := Aside0.mk hr0_6
 have HC0_6 := Aside0.mk hc0_6
 clear hr0_6 hc0_6; have HR0_7 := Aside0.mk hr0_7
 have HC0_7 := Aside0.mk hc0_7
 clear hr0_7 hc0_7; have HR0_8 := Aside0.mk hr0_8
 have HC0_8 := Aside0.mk hc0_8
 clear hr0_8 hc0_8; have HR0_9 := Aside0.mk hr0_9
 have HC0_9 := Aside0.mk hc0_9
 clear hr0_9 hc0_9; have HR1 := Aside0.mk hr1
 have HC1 := Aside0.mk hc1
 clear hr1 hc1; have HR3 := Aside0.mk hr3
 have HC3 := Aside0.mk hc3
 clear hr3 hc3; have HR4 := Aside0.mk hr4
 have HC4 := Aside0.mk hc4
 clear hr4 hc4; have HB := Aside0.mk (Below.refl w.heap.size w)
 have H : ((bournelaw26_small.f k).bind fun t272 => ((bournelaw26_few.f k a0_0 l0_1 a0_2 l0_3 l0_4 l0_5 l0_6 l0_7 l0_8 l0_9 a0_10 l3 l4).bind fun t273 => (if t273 = true then ((rain_Cells.f k a0_0 l0_1 a0_2 l0_3 l0_4 l0_5 l0_6 l0_7 l0_8 l0_9 a0_10 l1 a2 l3).bind fun t274 => ((bourneref26_Cells.f k a0_0 l0_1 a0_2 l0_3 l0_4 l0_5 l0_6 l0_7 l0_8 l0_9 a0_10 l1 a2 l3).bind fun t277 => ((bourneref09_SameAll.f k t274 t277).bind fun t280 => ((rain_Mesh.f k a0_0 l0_1 a0_2 l0_3 l0_4 l0_5 l0_6 l0_7 l0_8 l0_9 a0_10 l4).bind fun t281 => ((bourneref26_Mesh.f k a0_0 l0_1 a0_2 l0_3 l0_4 l0_5 l0_6 l0_7 l0_8 l0_9 a0_10 l4).bind fun t284 => ((bourneref09_SameAll.f k t281 t284).bind fun t287 => (if t272 = true then (if t280 = true then (if t287 = true then ((rain_Sum.f k l4).bind fun bt288 => ((bourneref26_Sum.f k l4).bind fun bt290 => (some (bt288.1 == bt290.1 && (bt288.2 == bt290.2))))) else (some false)) else (some false)) else (some false)))))))) else (some t272)))) = some r := h
 clear h; replace H := Option.bind_eq_some_iff.mp H
 obtain ⟨t272, A60, H⟩ := H
 have A6 := Aside0.mk A60
 clear A60; replace H := Option.bind_eq_some_iff.mp H
 obtain ⟨t273, A70, H⟩ := H
 have A7 := Aside0.mk A70
 clear A70; by_cases c8 : t273 = true
 ·
  subst c8; have H1 : ((rain_Cells.f k a0_0 l0_1 a0_2 l0_3 l0_4 l0_5 l0_6 l0_7 l0_8 l0_9 a0_10 l1 a2 l3).bind fun t274 => ((bourneref26_Cells.f k a0_0 l0_1 a0_2 l0_3 l0_4 l0_5 l0_6 l0_7 l0_8 l0_9 a0_10 l1 a2 l3).bind fun t277 => ((bourneref09_SameAll.f k t274 t277).bind fun t280 => ((rain_Mesh.f k a0_0 l0_1 a0_2 l0_3 l0_4 l0_5 l0_6 l0_7 l0_8 l0_9 a0_10 l4).bind fun t281 => ((bourneref26_Mesh.f k a0_0 l0_1 a0_2 l0_3 l0_4 l0_5 l0_6 l0_7 l0_8 l0_9 a0_10 l4).bind fun t284 => ((bourneref09_SameAll.f k t281 t284).bind fun t287 => (if t272 = true then (if t280 = true then (if t287 = true then ((rain_Sum.f k l4).bind fun bt288 => ((bourneref26_Sum.f k l4).bind fun bt290 => (some (bt288.1 == bt290.1 && (bt288.2 == bt290.2))))) else (some false)) else (some false)) else (some false)))))))) = some r := by rw [if_pos rfl] at H; exact H
  clear H; have H := H1
  clear H1; replace H := Option.bind_eq_some_iff.mp H
  obtain ⟨t274, A90, H⟩ := H
  have A9 := Aside0.mk A90
  clear A90; replace H := Option.bind_eq_some_iff.mp H
  obtain ⟨t277, A100, H⟩ := H
  have A10 := Aside0.mk A100
  clear A100; replace H := Option.bind_eq_some_iff.mp H
  obtain ⟨t280, A110, H⟩ := H
  have A11 := Aside0.mk A110
  clear A110; replace H := Option.bind_eq_some_iff.mp H
  obtain ⟨t281, A120, H⟩ := H
  have A12 := Aside0.mk A120
  clear A120; replace H := Option.bind_eq_some_iff.mp H
  obtain ⟨t284, A130, H⟩ := H
  have A13 := Aside0.mk A130
  clear A130; replace H := Option.bind_eq_some_iff.mp H
  obtain ⟨t287, A140, H⟩ := H
  have A14 := Aside0.mk A140
  clear A140; by_cases c15 : t272 = true
  ·
   subst c15; have H1 : (if t280 = true then (if t287 = true then ((rain_Sum.f k l4).bind fun bt288 => ((bourneref26_Sum.f k l4).bind fun bt290 => (some (bt288.1 == bt290.1 && (bt288.2 == bt290.2))))) else (some false)) else (some false)) = some r := by rw [if_pos rfl] at H; exact H
   clear H; have H := H1
   clear H1; by_cases c16 : t280 = true
   ·
    subst c16; have H1 : (if t287 = true then ((rain_Sum.f k l4).bind fun bt288 => ((bourneref26_Sum.f k l4).bind fun bt290 => (some (bt288.1 == bt290.1 && (bt288.2 == bt290.2))))) else (some false)) = some r := by rw [if_pos rfl] at H; exact H
    clear H; have H := H1
    clear H1; by_cases c17 : t287 = true
    ·
     subst c17; have H1 : ((rain_Sum.f k l4).bind fun bt288 => ((bourneref26_Sum.f k l4).bind fun bt290 => (some (bt288.1 == bt290.1 && (bt288.2 == bt290.2))))) = some r := by rw [if_pos rfl] at H; exact H
     clear H; have H := H1
     clear H1; replace H := Option.bind_eq_some_iff.mp H
     obtain ⟨⟨t288, t289⟩, A180, H⟩ := H
     dsimp only at H
     have A18 := Aside0.mk A180
     clear A180; replace H := Option.bind_eq_some_iff.mp H
     obtain ⟨⟨t290, t291⟩, A190, H⟩ := H
     dsimp only at H
     have A19 := Aside0.mk A190
     clear A190; obtain rfl := Option.some.inj H
     go_enter Try.func3, Try.ntmps3
     try go_wp2_with (first | ((with_reducible refine gate_dst (N := 5) rfl ?_); refine box_event ?hg (N := 5) ?hd (cs := #[.string a0_0, .slice A0_1 l0_1.length c0_1, .int .i64 a0_2, .slice A0_3 l0_3.length c0_3, .slice A0_4 l0_4.length c0_4, .slice A0_5 l0_5.length c0_5, .slice A0_6 l0_6.length c0_6, .slice A0_7 l0_7.length c0_7, .slice A0_8 l0_8.length c0_8, .slice A0_9 l0_9.length c0_9, .int .i64 a0_10]) (t := 31) ?hr ?_; (case hd => rfl); (case hg => rfl); (case hr => first | (go_simp; done) | (go_simp; rfl)); intro gb271 hg w20 hbox hb; have n0_ := Aside0.mk (bP (by repeat (first | (with_reducible first | exact HB.out | apply bL | apply bW | apply b1) | exact HB.out)) hb); have n1_ := Aside0.mk (hbox); have n2_ := Aside0.mk ((by rw [hg]; exact (bZ (by repeat (first | (with_reducible first | exact HB.out | apply bL | apply bW | apply b1) | exact HB.out))) : w.heap.size ≤ gb271)); have n3_ := Aside0.mk ((by rw [hg]; exact (bZ (by repeat (first | (with_reducible first | exact HB.out | apply bL | apply bW | apply b1) | exact HB.out))) : w.heap.size ≤ gb271)); clear HB; have HB := n0_; have BK271 := n1_; have GW271 := n2_; have GE271 := n3_; clear n0_ n1_ n2_ n3_; clear hb hbox hg) | ((with_reducible refine gate_callee (f := 8) rfl ?_); refine goesL_ (some 15) rfl rfl Try.func8 (by kernel_rfl) rfl #[] rfl (by (try simp only [List.map_toArray, List.map_cons, List.map_nil]); first | done | rfl | (simp only [List.length_drop, List.length_take]; rfl)) ?_; (with_reducible refine (bournelaw26_small.calls k  true _ A6.out).mono ?_); rintro e w21 ⟨rfl, hb⟩; refine ⟨_, rfl, ?_⟩; have n0_ := Aside0.mk (bB (g := gb271) (o := .cells #[.string a0_0, .slice A0_1 l0_1.length c0_1, .int .i64 a0_2, .slice A0_3 l0_3.length c0_3, .slice A0_4 l0_4.length c0_4, .slice A0_5 l0_5.length c0_5, .slice A0_6 l0_6.length c0_6, .slice A0_7 l0_7.length c0_7, .slice A0_8 l0_8.length c0_8, .slice A0_9 l0_9.length c0_9, .int .i64 a0_10] 31 (0, 0)) (by (with_reducible repeat (first | refine bN ?_ _ | refine bD ?_ | refine bA ?_ _)); exact BK271.out) hb); have n1_ := Aside0.mk (bP (by repeat (first | (with_reducible first | exact HB.out | apply bL | apply bW | apply b1 | refine bS ?_ GE271.out) | exact HB.out)) hb); clear BK271; clear HB; have BK271 := n0_; have HB := n1_; clear n0_ n1_; (try clear hb); (try clear hb2); (try clear hk); (try clear hi); have hcz22_0 : w21.cell? ⟨gb271, 0, none⟩ = some (.string a0_0) := (bC BK271.out 0).trans rfl; have hcz22_1 : w21.cell? ⟨gb271, 1, none⟩ = some (.slice A0_1 l0_1.length c0_1) := (bC BK271.out 1).trans rfl; have hcz22_2 : w21.cell? ⟨gb271, 2, none⟩ = some (.int .i64 a0_2) := (bC BK271.out 2).trans rfl; have hcz22_3 : w21.cell? ⟨gb271, 3, none⟩ = some (.slice A0_3 l0_3.length c0_3) := (bC BK271.out 3).trans rfl; have hcz22_4 : w21.cell? ⟨gb271, 4, none⟩ = some (.slice A0_4 l0_4.length c0_4) := (bC BK271.out 4).trans rfl; have hcz22_5 : w21.cell? ⟨gb271, 5, none⟩ = some (.slice A0_5 l0_5.length c0_5) := (bC BK271.out 5).trans rfl; have hcz22_6 : w21.cell? ⟨gb271, 6, none⟩ = some (.slice A0_6 l0_6.length c0_6) := (bC BK271.out 6).trans rfl; have hcz22_7 : w21.cell? ⟨gb271, 7, none⟩ = some (.slice A0_7 l0_7.length c0_7) := (bC BK271.out 7).trans rfl; have hcz22_8 : w21.cell? ⟨gb271, 8, none⟩ = some (.slice A0_8 l0_8.length c0_8) := (bC BK271.out 8).trans rfl; have hcz22_9 : w21.cell? ⟨gb271, 9, none⟩ = some (.slice A0_9 l0_9.length c0_9) := (bC BK271.out 9).trans rfl; have hcz22_10 : w21.cell? ⟨gb271, 10, none⟩ = some (.int .i64 a0_10) := (bC BK271.out 10).trans rfl; have hfz22_0 := bF BK271.out 0; have hfz22_1 := bF BK271.out 1; have hfz22_2 := bF BK271.out 2; have hfz22_3 := bF BK271.out 3; have hfz22_4 := bF BK271.out 4; have hfz22_5 := bF BK271.out 5; have hfz22_6 := bF BK271.out 6; have hfz22_7 := bF BK271.out 7; have hfz22_8 := bF BK271.out 8; have hfz22_9 := bF BK271.out 9; have hfz22_10 := bF BK271.out 10) | ((with_reducible refine gate_callee (f := 9) rfl ?_); refine goesL_ (some 19) rfl rfl Try.func9 (by kernel_rfl) rfl #[.agg #[.string a0_0, .slice A0_1 l0_1.length c0_1, .int .i64 a0_2, .slice A0_3 l0_3.length c0_3, .slice A0_4 l0_4.length c0_4, .slice A0_5 l0_5.length c0_5, .slice A0_6 l0_6.length c0_6, .slice A0_7 l0_7.length c0_7, .slice A0_8 l0_8.length c0_8, .slice A0_9 l0_9.length c0_9, .int .i64 a0_10], .slice A3 l3.length c3, .slice A4 l4.length c4] rfl (by (try simp only [List.map_toArray, List.map_cons, List.map_nil]); first | done | rfl | (simp only [List.length_drop, List.length_take]; rfl)) ?_; (with_reducible refine (bournelaw26_few.calls k a0_0 _ _ l0_1 a0_2 _ _ l0_3 _ _ l0_4 _ _ l0_5 _ _ l0_6 _ _ l0_7 _ _ l0_8 _ _ l0_9 a0_10 _ _ l3 _ _ l4 true _ ?side1 ?side2 ?side3 ?side4 ?side5 ?side6 ?side7 ?side8 ?side9 ?side10 ?side11 ?side12 ?side13 ?side14 ?side15 ?side16 ?side17 ?side18 ?side19 ?side20 A7.out).mono ?_); (case side1 => repeat (first | exact (Kd.C_below HR0_1.out HB.out) | (with_reducible refine Kd.C_alloc ?_ _) | (with_reducible refine Kd.C_drewN ?_ _) | (with_reducible refine Kd.C_drew ?_))); (case side2 => exact HC0_1.out); (case side3 => repeat (first | exact (Kd.C_below HR0_3.out HB.out) | (with_reducible refine Kd.C_alloc ?_ _) | (with_reducible refine Kd.C_drewN ?_ _) | (with_reducible refine Kd.C_drew ?_))); (case side4 => exact HC0_3.out); (case side5 => repeat (first | exact (Kd.C_below HR0_4.out HB.out) | (with_reducible refine Kd.C_alloc ?_ _) | (with_reducible refine Kd.C_drewN ?_ _) | (with_reducible refine Kd.C_drew ?_))); (case side6 => exact HC0_4.out); (case side7 => repeat (first | exact (Kd.C_below HR0_5.out HB.out) | (with_reducible refine Kd.C_alloc ?_ _) | (with_reducible refine Kd.C_drewN ?_ _) | (with_reducible refine Kd.C_drew ?_))); (case side8 => exact HC0_5.out); (case side9 => repeat (first | exact (Kd.C_below HR0_6.out HB.out) | (with_reducible refine Kd.C_alloc ?_ _) | (with_reducible refine Kd.C_drewN ?_ _) | (with_reducible refine Kd.C_drew ?_))); (case side10 => exact HC0_6.out); (case side11 => repeat (first | exact (Kd.C_below HR0_7.out HB.out) | (with_reducible refine Kd.C_alloc ?_ _) | (with_reducible refine Kd.C_drewN ?_ _) | (with_reducible refine Kd.C_drew ?_))); (case side12 => exact HC0_7.out); (case side13 => repeat (first | exact (Kd.C_below HR0_8.out HB.out) | (with_reducible refine Kd.C_alloc ?_ _) | (with_reducible refine Kd.C_drewN ?_ _) | (with_reducible refine Kd.C_drew ?_))); (case side14 => exact HC0_8.out); (case side15 => repeat (first | exact (Kd.C_below HR0_9.out HB.out) | (with_reducible refine Kd.C_alloc ?_ _) | (with_reducible refine Kd.C_drewN ?_ _) | (with_reducible refine Kd.C_drew ?_))); (case side16 => exact HC0_9.out); (case side17 => repeat (first | exact (Kd.C_below HR3.out HB.out) | (with_reducible refine Kd.C_alloc ?_ _) | (with_reducible refine Kd.C_drewN ?_ _) | (with_reducible refine Kd.C_drew ?_))); (case side18 => exact HC3.out); (case side19 => repeat (first | exact (Kd.C_below HR4.out HB.out) | (with_reducible refine Kd.C_alloc ?_ _) | (with_reducible refine Kd.C_drewN ?_ _) | (with_reducible refine Kd.C_drew ?_))); (case side20 => exact HC4.out); rintro e w23 ⟨rfl, hb⟩; refine ⟨_, rfl, ?_⟩; have n0_ := Aside0.mk (bB (g := gb271) (o := .cells #[.string a0_0, .slice A0_1 l0_1.length c0_1, .int .i64 a0_2, .slice A0_3 l0_3.length c0_3, .slice A0_4 l0_4.length c0_4, .slice A0_5 l0_5.length c0_5, .slice A0_6 l0_6.length c0_6, .slice A0_7 l0_7.length c0_7, .slice A0_8 l0_8.length c0_8, .slice A0_9 l0_9.length c0_9, .int .i64 a0_10] 31 (0, 0)) (by (with_reducible repeat (first | refine bN ?_ _ | refine bD ?_ | refine bA ?_ _)); exact BK271.out) hb); have n1_ := Aside0.mk (bP (by repeat (first | (with_reducible first | exact HB.out | apply bL | apply bW | apply b1 | refine bS ?_ GE271.out) | exact HB.out)) hb); clear BK271; clear HB; have BK271 := n0_; have HB := n1_; clear n0_ n1_; (try clear hb); (try clear hb2); (try clear hk); (try clear hi)))
     have n0_ := Aside0.mk (bD BK271.out)
     have n1_ := Aside0.mk (b1 HB.out)
     clear BK271; clear HB; have BK271 := n0_
     have HB := n1_
     clear n0_ n1_; refine start_ (n := 12) (S := fun w' => w'.cell? ⟨gb271, 0, none⟩ = some (.string a0_0) ∧ w'.cell? ⟨gb271, 1, none⟩ = some (.slice A0_1 l0_1.length c0_1) ∧ w'.cell? ⟨gb271, 2, none⟩ = some (.int .i64 a0_2) ∧ w'.cell? ⟨gb271, 3, none⟩ = some (.slice A0_3 l0_3.length c0_3) ∧ w'.cell? ⟨gb271, 4, none⟩ = some (.slice A0_4 l0_4.length c0_4) ∧ w'.cell? ⟨gb271, 5, none⟩ = some (.slice A0_5 l0_5.length c0_5) ∧ w'.cell? ⟨gb271, 6, none⟩ = some (.slice A0_6 l0_6.length c0_6) ∧ w'.cell? ⟨gb271, 7, none⟩ = some (.slice A0_7 l0_7.length c0_7) ∧ w'.cell? ⟨gb271, 8, none⟩ = some (.slice A0_8 l0_8.length c0_8) ∧ w'.cell? ⟨gb271, 9, none⟩ = some (.slice A0_9 l0_9.length c0_9) ∧ w'.cell? ⟨gb271, 10, none⟩ = some (.int .i64 a0_10)) (ds := []) #[F,F,F,F,F,F,F,F,F,F,F,F] (by kernel_rfl) rfl rfl ⟨(bC BK271.out 0).trans rfl, (bC BK271.out 1).trans rfl, (bC BK271.out 2).trans rfl, (bC BK271.out 3).trans rfl, (bC BK271.out 4).trans rfl, (bC BK271.out 5).trans rfl, (bC BK271.out 6).trans rfl, (bC BK271.out 7).trans rfl, (bC BK271.out 8).trans rfl, (bC BK271.out 9).trans rfl, (bC BK271.out 10).trans rfl⟩ (fun hHeld => ?_); refine with_tabW bournelaw26_RainTells.tab5 bournelaw26_RainTells.bits5 (fun HT_ HW_ => ?_)
     generalize w23.drew = w24 at BK271 HB hHeld ⊢
     refine pure_ (i := 1) (N := some 24) (v := ?_) (a' := ?_) #[F,T,F,F,F,F,F,F,F,F,F,F] rfl rfl (any_of HT_.out (by kernel_rfl)) (fun _ _ _ h => h) (Or.inl ⟨by rfl, ?_⟩) ?_ ?_
     rotate_left
     ·
      intro w'; go_simp; with_reducible rfl
     rotate_left
     ·
      simp only [Act.put, lA, lZ, lS, i64_w, i32_w]; rfl
     refine pure_ (i := 2) (N := some 25) (v := ?_) (a' := ?_) #[F,T,T,F,F,F,F,F,F,F,F,F] rfl rfl (any_of HT_.out (by kernel_rfl)) (fun _ _ _ h => h) (Or.inl ⟨by rfl, ?_⟩) ?_ ?_
     rotate_left
     ·
      intro w'; go_simp; with_reducible rfl
     rotate_left
     ·
      simp only [Act.put, lA, lZ, lS, i64_w, i32_w]; rfl
     refine pure_ (i := 3) (N := some 26) (v := ?_) (a' := ?_) #[F,T,T,T,F,F,F,F,F,F,F,F] rfl rfl (any_of HT_.out (by kernel_rfl)) (fun _ _ _ h => h) (Or.inl ⟨by rfl, ?_⟩) ?_ ?_
     rotate_left
     ·
      intro w'; go_simp; with_reducible rfl
     rotate_left
     ·
      simp only [Act.put, lA, lZ, lS, i64_w, i32_w]; rfl
     refine pure_ (i := 6) (N := some 29) (v := ?_) (a' := ?_) #[F,T,T,T,F,F,T,F,F,F,F,F] rfl rfl (any_of HT_.out (by kernel_rfl)) (fun _ _ _ h => h) (Or.inl ⟨by rfl, ?_⟩) ?_ ?_
     rotate_left
     ·
      intro w'; go_simp; with_reducible rfl
     rotate_left
     ·
      simp only [Act.put, lA, lZ, lS, i64_w, i32_w]; rfl
     refine pure_ (i := 7) (N := some 30) (v := ?_) (a' := ?_) #[F,T,T,T,F,F,T,T,F,F,F,F] rfl rfl (any_of HT_.out (by kernel_rfl)) (fun _ _ _ h => h) (Or.inl ⟨by rfl, ?_⟩) ?_ ?_
     rotate_left
     ·
      intro w'; go_simp; with_reducible rfl
     rotate_left
     ·
      simp only [Act.put, lA, lZ, lS, i64_w, i32_w]; rfl
     refine pure_ (i := 8) (N := some 31) (v := ?_) (a' := ?_) #[F,T,T,T,F,F,T,T,T,F,F,F] rfl rfl (any_of HT_.out (by kernel_rfl)) (fun _ _ _ h => h) (Or.inl ⟨by rfl, ?_⟩) ?_ ?_
     rotate_left
     ·
      intro w'; go_simp; with_reducible rfl
     rotate_left
     ·
      simp only [Act.put, lA, lZ, lS, i64_w, i32_w]; rfl
     refine take_ (i := 0) (N := some 23) (v := ?_) (a' := ?_) #[T,T,T,T,F,F,T,T,T,F,F,F] rfl rfl (take_ofW HT_.out HW_.out (by kernel_rfl)) (fun _ _ _ h => h) (Or.inl ⟨by rfl, ?_⟩) hHeld ?_ ?_
     rotate_left
     ·
      rintro w' ⟨s0, s1, s2, s3, s4, s5, s6, s7, s8, s9, s10⟩
      go_simp; with_reducible rfl
     rotate_left
     ·
      simp only [Act.put, lA, lZ, lS, i64_w, i32_w]; rfl
     refine take_ (i := 5) (N := some 28) (v := ?_) (a' := ?_) #[T,T,T,T,F,T,T,T,T,F,F,F] rfl rfl (take_ofW HT_.out HW_.out (by kernel_rfl)) (fun _ _ _ h => h) (Or.inl ⟨by rfl, ?_⟩) hHeld ?_ ?_
     rotate_left
     ·
      rintro w' ⟨s0, s1, s2, s3, s4, s5, s6, s7, s8, s9, s10⟩
      go_simp; with_reducible rfl
     rotate_left
     ·
      simp only [Act.put, lA, lZ, lS, i64_w, i32_w]; rfl
     refine one_ (i := 4) (N := some 27) #[T,T,T,T,T,T,T,T,T,F,F,F] rfl rfl (one_of HT_.out (by kernel_rfl)) (by decide) (fun K hK => ?_)
     refine goes_ Try.func11 (by kernel_rfl) rfl #[.agg #[.string a0_0, .slice A0_1 l0_1.length c0_1, .int .i64 a0_2, .slice A0_3 l0_3.length c0_3, .slice A0_4 l0_4.length c0_4, .slice A0_5 l0_5.length c0_5, .slice A0_6 l0_6.length c0_6, .slice A0_7 l0_7.length c0_7, .slice A0_8 l0_8.length c0_8, .slice A0_9 l0_9.length c0_9, .int .i64 a0_10], .slice A1 l1.length c1, .int .i64 a2, .slice A3 l3.length c3] (by rfl) rfl rfl (by (try simp only [List.map_toArray, List.map_cons, List.map_nil]); first | done | rfl | (simp only [List.length_drop, List.length_take]; rfl)) ?_
     with_reducible refine (rain_Cells.calls k a0_0 _ _ l0_1 a0_2 _ _ l0_3 _ _ l0_4 _ _ l0_5 _ _ l0_6 _ _ l0_7 _ _ l0_8 _ _ l0_9 a0_10 _ _ l1 a2 _ _ l3 t274 _ ?side1 ?side2 ?side3 ?side4 ?side5 ?side6 ?side7 ?side8 ?side9 ?side10 ?side11 ?side12 ?side13 ?side14 ?side15 ?side16 ?side17 ?side18 ?side19 ?side20 A9.out).mono ?_
     (case side1 => repeat (first | exact (Kd.C_below HR0_1.out HB.out) | (with_reducible refine Kd.C_alloc ?_ _) | (with_reducible refine Kd.C_drewN ?_ _) | (with_reducible refine Kd.C_drew ?_)))
     (case side2 => exact HC0_1.out)
     (case side3 => repeat (first | exact (Kd.C_below HR0_3.out HB.out) | (with_reducible refine Kd.C_alloc ?_ _) | (with_reducible refine Kd.C_drewN ?_ _) | (with_reducible refine Kd.C_drew ?_)))
     (case side4 => exact HC0_3.out)
     (case side5 => repeat (first | exact (Kd.C_below HR0_4.out HB.out) | (with_reducible refine Kd.C_alloc ?_ _) | (with_reducible refine Kd.C_drewN ?_ _) | (with_reducible refine Kd.C_drew ?_)))
     (case side6 => exact HC0_4.out)
     (case side7 => repeat (first | exact (Kd.C_below HR0_5.out HB.out) | (with_reducible refine Kd.C_alloc ?_ _) | (with_reducible refine Kd.C_drewN ?_ _) | (with_reducible refine Kd.C_drew ?_)))
     (case side8 => exact HC0_5.out)
     (case side9 => repeat (first | exact (Kd.C_below HR0_6.out HB.out) | (with_reducible refine Kd.C_alloc ?_ _) | (with_reducible refine Kd.C_drewN ?_ _) | (with_reducible refine Kd.C_drew ?_)))
     (case side10 => exact HC0_6.out)
     (case side11 => repeat (first | exact (Kd.C_below HR0_7.out HB.out) | (with_reducible refine Kd.C_alloc ?_ _) | (with_reducible refine Kd.C_drewN ?_ _) | (with_reducible refine Kd.C_drew ?_)))
     (case side12 => exact HC0_7.out)
     (case side13 => repeat (first | exact (Kd.C_below HR0_8.out HB.out) | (with_reducible refine Kd.C_alloc ?_ _) | (with_reducible refine Kd.C_drewN ?_ _) | (with_reducible refine Kd.C_drew ?_)))
     (case side14 => exact HC0_8.out)
     (case side15 => repeat (first | exact (Kd.C_below HR0_9.out HB.out) | (with_reducible refine Kd.C_alloc ?_ _) | (with_reducible refine Kd.C_drewN ?_ _) | (with_reducible refine Kd.C_drew ?_)))
     (case side16 => exact HC0_9.out)
     (case side17 => repeat (first | exact (Kd.C_below HR1.out HB.out) | (with_reducible refine Kd.C_alloc ?_ _) | (with_reducible refine Kd.C_drewN ?_ _) | (with_reducible refine Kd.C_drew ?_)))
     (case side18 => exact HC1.out)
     (case side19 => repeat (first | exact (Kd.C_below HR3.out HB.out) | (with_reducible refine Kd.C_alloc ?_ _) | (with_reducible refine Kd.C_drewN ?_ _) | (with_reducible refine Kd.C_drew ?_)))
     (case side20 => exact HC3.out)
     rintro e w25 ⟨v275, rfl, ho0, hb⟩
     refine ⟨_, rfl, ?_⟩
     have n0_ := Aside0.mk (Kd.R_lower ho0 (bZ (by repeat (first | (with_reducible first | exact HB.out | apply bL | apply bW | apply b1 | refine bS ?_ GE271.out) | exact HB.out))))
     have n1_ := Aside0.mk (bB (g := gb271) (o := .cells #[.string a0_0, .slice A0_1 l0_1.length c0_1, .int .i64 a0_2, .slice A0_3 l0_3.length c0_3, .slice A0_4 l0_4.length c0_4, .slice A0_5 l0_5.length c0_5, .slice A0_6 l0_6.length c0_6, .slice A0_7 l0_7.length c0_7, .slice A0_8 l0_8.length c0_8, .slice A0_9 l0_9.length c0_9, .int .i64 a0_10] 31 (0, 0)) (by (with_reducible repeat (first | refine bN ?_ _ | refine bD ?_ | refine bA ?_ _)); exact BK271.out) hb)
     have n2_ := Aside0.mk (bP (by repeat (first | (with_reducible first | exact HB.out | apply bL | apply bW | apply b1 | refine bS ?_ GE271.out) | exact HB.out)) hb)
     clear BK271; clear HB; have HO276 := n0_
     have BK271 := n1_
     have HB := n2_
     clear n0_ n1_ n2_; (try clear hb); (try clear hb2); (try clear hk); (try clear hi); (try clear ho0); refine hK.out _ _ ⟨(bC BK271.out 0).trans rfl, (bC BK271.out 1).trans rfl, (bC BK271.out 2).trans rfl, (bC BK271.out 3).trans rfl, (bC BK271.out 4).trans rfl, (bC BK271.out 5).trans rfl, (bC BK271.out 6).trans rfl, (bC BK271.out 7).trans rfl, (bC BK271.out 8).trans rfl, (bC BK271.out 9).trans rfl, (bC BK271.out 10).trans rfl⟩ (fun hHeld => ?_)
     clear hK K; refine norm_ (a' := ?_) ?_ ?_
     rotate_left
     ·
      show Act.put _ (some 27) _ = _
      simp only [Act.put, lA, lZ, lS, i64_w, i32_w]; rfl
     refine one_ (i := 9) (N := some 32) #[T,T,T,T,T,T,T,T,T,T,F,F] rfl rfl (one_of HT_.out (by kernel_rfl)) (by decide) (fun K hK => ?_)
     refine goes_ Try.func12 (by kernel_rfl) rfl #[.agg #[.string a0_0, .slice A0_1 l0_1.length c0_1, .int .i64 a0_2, .slice A0_3 l0_3.length c0_3, .slice A0_4 l0_4.length c0_4, .slice A0_5 l0_5.length c0_5, .slice A0_6 l0_6.length c0_6, .slice A0_7 l0_7.length c0_7, .slice A0_8 l0_8.length c0_8, .slice A0_9 l0_9.length c0_9, .int .i64 a0_10], .slice A1 l1.length c1, .int .i64 a2, .slice A3 l3.length c3] (by rfl) rfl rfl (by (try simp only [List.map_toArray, List.map_cons, List.map_nil]); first | done | rfl | (simp only [List.length_drop, List.length_take]; rfl)) ?_
     with_reducible refine (bourneref26_Cells.calls k a0_0 _ _ l0_1 a0_2 _ _ l0_3 _ _ l0_4 _ _ l0_5 _ _ l0_6 _ _ l0_7 _ _ l0_8 _ _ l0_9 a0_10 _ _ l1 a2 _ _ l3 t277 _ ?side1 ?side2 ?side3 ?side4 ?side5 ?side6 ?side7 ?side8 ?side9 ?side10 ?side11 ?side12 ?side13 ?side14 ?side15 ?side16 ?side17 ?side18 ?side19 ?side20 A10.out).mono ?_
     (case side1 => repeat (first | exact (Kd.C_below HR0_1.out HB.out) | (with_reducible refine Kd.C_alloc ?_ _) | (with_reducible refine Kd.C_drewN ?_ _) | (with_reducible refine Kd.C_drew ?_)))
     (case side2 => exact HC0_1.out)
     (case side3 => repeat (first | exact (Kd.C_below HR0_3.out HB.out) | (with_reducible refine Kd.C_alloc ?_ _) | (with_reducible refine Kd.C_drewN ?_ _) | (with_reducible refine Kd.C_drew ?_)))
     (case side4 => exact HC0_3.out)
     (case side5 => repeat (first | exact (Kd.C_below HR0_4.out HB.out) | (with_reducible refine Kd.C_alloc ?_ _) | (with_reducible refine Kd.C_drewN ?_ _) | (with_reducible refine Kd.C_drew ?_)))
     (case side6 => exact HC0_4.out)
     (case side7 => repeat (first | exact (Kd.C_below HR0_5.out HB.out) | (with_reducible refine Kd.C_alloc ?_ _) | (with_reducible refine Kd.C_drewN ?_ _) | (with_reducible refine Kd.C_drew ?_)))
     (case side8 => exact HC0_5.out)
     (case side9 => repeat (first | exact (Kd.C_below HR0_6.out HB.out) | (with_reducible refine Kd.C_alloc ?_ _) | (with_reducible refine Kd.C_drewN ?_ _) | (with_reducible refine Kd.C_drew ?_)))
     (case side10 => exact HC0_6.out)
     (case side11 => repeat (first | exact (Kd.C_below HR0_7.out HB.out) | (with_reducible refine Kd.C_alloc ?_ _) | (with_reducible refine Kd.C_drewN ?_ _) | (with_reducible refine Kd.C_drew ?_)))
     (case side12 => exact HC0_7.out)
     (case side13 => repeat (first | exact (Kd.C_below HR0_8.out HB.out) | (with_reducible refine Kd.C_alloc ?_ _) | (with_reducible refine Kd.C_drewN ?_ _) | (with_reducible refine Kd.C_drew ?_)))
     (case side14 => exact HC0_8.out)
     (case side15 => repeat (first | exact (Kd.C_below HR0_9.out HB.out) | (with_reducible refine Kd.C_alloc ?_ _) | (with_reducible refine Kd.C_drewN ?_ _) | (with_reducible refine Kd.C_drew ?_)))
     (case side16 => exact HC0_9.out)
     (case side17 => repeat (first | exact (Kd.C_below HR1.out HB.out) | (with_reducible refine Kd.C_alloc ?_ _) | (with_reducible refine Kd.C_drewN ?_ _) | (with_reducible refine Kd.C_drew ?_)))
     (case side18 => exact HC1.out)
     (case side19 => repeat (first | exact (Kd.C_below HR3.out HB.out) | (with_reducible refine Kd.C_alloc ?_ _) | (with_reducible refine Kd.C_drewN ?_ _) | (with_reducible refine Kd.C_drew ?_)))
     (case side20 => exact HC3.out)
     rintro e w26 ⟨v278, rfl, ho0, hb⟩
     refine ⟨_, rfl, ?_⟩
     have n0_ := Aside0.mk (Kd.R_elder' (by (with_reducible repeat (first | apply Kd.R_alloc | apply Kd.R_drewN | apply Kd.R_drew)); exact HO276.out) (Kd.R_base ho0) hb)
     have n1_ := Aside0.mk (Kd.R_lower (Kd.R_new' ho0 (Kd.R_lt (by (with_reducible repeat (first | apply Kd.R_alloc | apply Kd.R_drewN | apply Kd.R_drew)); exact HO276.out))) (bZ (by repeat (first | (with_reducible first | exact HB.out | apply bL | apply bW | apply b1 | refine bS ?_ GE271.out) | exact HB.out))))
     have n2_ := Aside0.mk (bB (g := gb271) (o := .cells #[.string a0_0, .slice A0_1 l0_1.length c0_1, .int .i64 a0_2, .slice A0_3 l0_3.length c0_3, .slice A0_4 l0_4.length c0_4, .slice A0_5 l0_5.length c0_5, .slice A0_6 l0_6.length c0_6, .slice A0_7 l0_7.length c0_7, .slice A0_8 l0_8.length c0_8, .slice A0_9 l0_9.length c0_9, .int .i64 a0_10] 31 (0, 0)) (by (with_reducible repeat (first | refine bN ?_ _ | refine bD ?_ | refine bA ?_ _)); exact BK271.out) hb)
     have n3_ := Aside0.mk (bP (by repeat (first | (with_reducible first | exact HB.out | apply bL | apply bW | apply b1 | refine bS ?_ GE271.out) | exact HB.out)) hb)
     clear HO276; clear BK271; clear HB; have HO276 := n0_
     have HO279 := n1_
     have BK271 := n2_
     have HB := n3_
     clear n0_ n1_ n2_ n3_; (try clear hb); (try clear hb2); (try clear hk); (try clear hi); (try clear ho0); obtain ⟨Ao27, co27, eo27⟩ := Kd.R_slice HO276.out
     (first | subst eo27 | (injection eo27 with f1_ f2_ f3_; have f4_ := f1_.symm; have f5_ := f3_.symm; clear f1_ f2_ f3_; subst f4_; subst f5_))
     obtain ⟨Ao28, co28, eo28⟩ := Kd.R_slice HO279.out
     (first | subst eo28 | (injection eo28 with f1_ f2_ f3_; have f4_ := f1_.symm; have f5_ := f3_.symm; clear f1_ f2_ f3_; subst f4_; subst f5_))
     refine hK.out _ _ ⟨(bC BK271.out 0).trans rfl, (bC BK271.out 1).trans rfl, (bC BK271.out 2).trans rfl, (bC BK271.out 3).trans rfl, (bC BK271.out 4).trans rfl, (bC BK271.out 5).trans rfl, (bC BK271.out 6).trans rfl, (bC BK271.out 7).trans rfl, (bC BK271.out 8).trans rfl, (bC BK271.out 9).trans rfl, (bC BK271.out 10).trans rfl⟩ (fun hHeld => ?_)
     clear hK K; refine norm_ (a' := ?_) ?_ ?_
     rotate_left
     ·
      show Act.put _ (some 32) _ = _
      simp only [Act.put, lA, lZ, lS, i64_w, i32_w]; rfl
     refine one_ (i := 10) (N := some 33) #[T,T,T,T,T,T,T,T,T,T,T,F] rfl rfl (one_of HT_.out (by kernel_rfl)) (by decide) (fun K hK => ?_)
     refine goes_ Try.func10 (by kernel_rfl) rfl #[.slice Ao27 t274.length co27, .slice Ao28 t277.length co28] (by rfl) rfl rfl (by (try simp only [List.map_toArray, List.map_cons, List.map_nil]); first | done | rfl | (simp only [List.length_drop, List.length_take]; rfl)) ?_
     with_reducible refine (bourneref09_SameAll.calls k _ _ t274 _ _ t277 true _ ?side1 ?side2 ?side3 ?side4 A11.out).mono ?_
     (case side1 => repeat (first | exact (Kd.R_reads' HO276.out).2.2 | (with_reducible refine Kd.C_alloc ?_ _) | (with_reducible refine Kd.C_drewN ?_ _) | (with_reducible refine Kd.C_drew ?_)))
     (case side2 => exact (Kd.R_reads' HO276.out).2.1)
     (case side3 => repeat (first | exact (Kd.R_reads' HO279.out).2.2 | (with_reducible refine Kd.C_alloc ?_ _) | (with_reducible refine Kd.C_drewN ?_ _) | (with_reducible refine Kd.C_drew ?_)))
     (case side4 => exact (Kd.R_reads' HO279.out).2.1)
     rintro e w' ⟨rfl, ⟨nd, rfl⟩⟩
     refine ⟨_, rfl, ?_⟩
     refine hK.out _ _ ⟨(bC BK271.out 0).trans rfl, (bC BK271.out 1).trans rfl, (bC BK271.out 2).trans rfl, (bC BK271.out 3).trans rfl, (bC BK271.out 4).trans rfl, (bC BK271.out 5).trans rfl, (bC BK271.out 6).trans rfl, (bC BK271.out 7).trans rfl, (bC BK271.out 8).trans rfl, (bC BK271.out 9).trans rfl, (bC BK271.out 10).trans rfl⟩ (fun hHeld => ?_)
     clear hK K; refine norm_ (a' := ?_) ?_ ?_
     rotate_left
     ·
      show Act.put _ (some 33) _ = _
      simp only [Act.put, lA, lZ, lS, i64_w, i32_w]; rfl
     refine pure_ (i := 11) (N := some 13) (v := ?_) (a' := ?_) #[T,T,T,T,T,T,T,T,T,T,T,T] rfl rfl (any_of HT_.out (by kernel_rfl)) (fun _ _ _ h => h) (Or.inl ⟨by rfl, ?_⟩) ?_ ?_
     rotate_left
     ·
      intro w'; go_simp; with_reducible rfl
     rotate_left
     ·
      simp only [Act.put, lA, lZ, lS, i64_w, i32_w]; rfl
     refine done_ (done_of HT_.out (by kernel_rfl)) ?_
     try go_wp2
     (try (rw [drewN_self w26]; generalize hq_ : World.drewN w26 _ = w26; have n0_ : Aside0 (Kd.R k40 40 w26 w.heap.size (fun k_ => some k_ ≠ (.slice Ao28 t277.length co28 : Value).ownBlock) (.slice Ao27 t274.length co27) t274) := ⟨by rw [← hq_]; exact (by (with_reducible repeat (first | apply Kd.R_alloc | apply Kd.R_drewN | apply Kd.R_drew)); exact Kd.R_mono HO276.out (fun _ hk => hk.2))⟩; have n1_ : Aside0 (Kd.R k40 40 w26 w.heap.size (fun k_ => some k_ ≠ (.slice Ao27 t274.length co27 : Value).ownBlock) (.slice Ao28 t277.length co28) t277) := ⟨by rw [← hq_]; exact (by (with_reducible repeat (first | apply Kd.R_alloc | apply Kd.R_drewN | apply Kd.R_drew)); exact Kd.R_mono HO279.out (fun _ hk => hk.2))⟩; have n2_ : Aside0 (w26.heap[gb271]? = some (.cells #[.string a0_0, .slice A0_1 l0_1.length c0_1, .int .i64 a0_2, .slice A0_3 l0_3.length c0_3, .slice A0_4 l0_4.length c0_4, .slice A0_5 l0_5.length c0_5, .slice A0_6 l0_6.length c0_6, .slice A0_7 l0_7.length c0_7, .slice A0_8 l0_8.length c0_8, .slice A0_9 l0_9.length c0_9, .int .i64 a0_10] 31 (0, 0))) := ⟨by rw [← hq_]; exact (by (with_reducible repeat (first | refine bN ?_ _ | refine bD ?_ | refine bA ?_ _)); exact BK271.out)⟩; have n3_ : Aside0 (Below w.heap.size w w26) := ⟨by rw [← hq_]; exact (by repeat (first | (with_reducible first | exact HB.out | apply bL | apply bW | apply b1 | refine bS ?_ GE271.out) | exact HB.out))⟩; clear HO276 HO279 BK271 HB hq_; have HO276 := n0_; have HO279 := n1_; have BK271 := n2_; have HB := n3_; clear n0_ n1_ n2_ n3_))
     have n0_ := Aside0.mk (Kd.R_drew HO276.out)
     have n1_ := Aside0.mk (Kd.R_drew HO279.out)
     have n2_ := Aside0.mk (bD BK271.out)
     have n3_ := Aside0.mk (b1 HB.out)
     clear HO276; clear HO279; clear BK271; clear HB; have HO276 := n0_
     have HO279 := n1_
     have BK271 := n2_
     have HB := n3_
     clear n0_ n1_ n2_ n3_; refine start_ (n := 8) (S := fun w' => w'.cell? ⟨gb271, 0, none⟩ = some (.string a0_0) ∧ w'.cell? ⟨gb271, 1, none⟩ = some (.slice A0_1 l0_1.length c0_1) ∧ w'.cell? ⟨gb271, 2, none⟩ = some (.int .i64 a0_2) ∧ w'.cell? ⟨gb271, 3, none⟩ = some (.slice A0_3 l0_3.length c0_3) ∧ w'.cell? ⟨gb271, 4, none⟩ = some (.slice A0_4 l0_4.length c0_4) ∧ w'.cell? ⟨gb271, 5, none⟩ = some (.slice A0_5 l0_5.length c0_5) ∧ w'.cell? ⟨gb271, 6, none⟩ = some (.slice A0_6 l0_6.length c0_6) ∧ w'.cell? ⟨gb271, 7, none⟩ = some (.slice A0_7 l0_7.length c0_7) ∧ w'.cell? ⟨gb271, 8, none⟩ = some (.slice A0_8 l0_8.length c0_8) ∧ w'.cell? ⟨gb271, 9, none⟩ = some (.slice A0_9 l0_9.length c0_9) ∧ w'.cell? ⟨gb271, 10, none⟩ = some (.int .i64 a0_10)) (ds := []) #[false, false, false, false, false, false, false, false] (by kernel_rfl) rfl rfl ⟨(bC BK271.out 0).trans rfl, (bC BK271.out 1).trans rfl, (bC BK271.out 2).trans rfl, (bC BK271.out 3).trans rfl, (bC BK271.out 4).trans rfl, (bC BK271.out 5).trans rfl, (bC BK271.out 6).trans rfl, (bC BK271.out 7).trans rfl, (bC BK271.out 8).trans rfl, (bC BK271.out 9).trans rfl, (bC BK271.out 10).trans rfl⟩ (fun hHeld => ?_); refine with_tabW bournelaw26_RainTells.tab6 bournelaw26_RainTells.bits6 (fun HT_ HW_ => ?_)
     generalize w26.drew = w29 at HO276 HO279 BK271 HB hHeld ⊢
     refine pure_ (i := 1) (N := some 35) (v := ?_) (a' := ?_) #[false, true, false, false, false, false, false, false] rfl rfl (any_of HT_.out (by kernel_rfl)) (fun _ _ _ h => h) (Or.inl ⟨by rfl, ?_⟩) ?_ ?_
     rotate_left
     ·
      intro w'; go_simp; with_reducible rfl
     rotate_left
     ·
      simp only [Act.put, lA, lZ, lS, i64_w, i32_w]; rfl
     refine pure_ (i := 4) (N := some 38) (v := ?_) (a' := ?_) #[false, true, false, false, true, false, false, false] rfl rfl (any_of HT_.out (by kernel_rfl)) (fun _ _ _ h => h) (Or.inl ⟨by rfl, ?_⟩) ?_ ?_
     rotate_left
     ·
      intro w'; go_simp; with_reducible rfl
     rotate_left
     ·
      simp only [Act.put, lA, lZ, lS, i64_w, i32_w]; rfl
     refine take_ (i := 0) (N := some 34) (v := ?_) (a' := ?_) #[true, true, false, false, true, false, false, false] rfl rfl (take_ofW HT_.out HW_.out (by kernel_rfl)) (fun _ _ _ h => h) (Or.inl ⟨by rfl, ?_⟩) hHeld ?_ ?_
     rotate_left
     ·
      rintro w' ⟨s0, s1, s2, s3, s4, s5, s6, s7, s8, s9, s10⟩
      go_simp; with_reducible rfl
     rotate_left
     ·
      simp only [Act.put, lA, lZ, lS, i64_w, i32_w]; rfl
     refine take_ (i := 3) (N := some 37) (v := ?_) (a' := ?_) #[true, true, false, true, true, false, false, false] rfl rfl (take_ofW HT_.out HW_.out (by kernel_rfl)) (fun _ _ _ h => h) (Or.inl ⟨by rfl, ?_⟩) hHeld ?_ ?_
     rotate_left
     ·
      rintro w' ⟨s0, s1, s2, s3, s4, s5, s6, s7, s8, s9, s10⟩
      go_simp; with_reducible rfl
     rotate_left
     ·
      simp only [Act.put, lA, lZ, lS, i64_w, i32_w]; rfl
     refine one_ (i := 2) (N := some 36) #[true, true, true, true, true, false, false, false] rfl rfl (one_of HT_.out (by kernel_rfl)) (by decide) (fun K hK => ?_)
     refine goes_ Try.func13 (by kernel_rfl) rfl #[.agg #[.string a0_0, .slice A0_1 l0_1.length c0_1, .int .i64 a0_2, .slice A0_3 l0_3.length c0_3, .slice A0_4 l0_4.length c0_4, .slice A0_5 l0_5.length c0_5, .slice A0_6 l0_6.length c0_6, .slice A0_7 l0_7.length c0_7, .slice A0_8 l0_8.length c0_8, .slice A0_9 l0_9.length c0_9, .int .i64 a0_10], .slice A4 l4.length c4] (by rfl) rfl rfl (by (try simp only [List.map_toArray, List.map_cons, List.map_nil]); first | done | rfl | (simp only [List.length_drop, List.length_take]; rfl)) ?_
     with_reducible refine (rain_Mesh.calls k a0_0 _ _ l0_1 a0_2 _ _ l0_3 _ _ l0_4 _ _ l0_5 _ _ l0_6 _ _ l0_7 _ _ l0_8 _ _ l0_9 a0_10 _ _ l4 t281 _ ?side1 ?side2 ?side3 ?side4 ?side5 ?side6 ?side7 ?side8 ?side9 ?side10 ?side11 ?side12 ?side13 ?side14 ?side15 ?side16 ?side17 ?side18 A12.out).mono ?_
     (case side1 => repeat (first | exact (Kd.C_below HR0_1.out HB.out) | (with_reducible refine Kd.C_alloc ?_ _) | (with_reducible refine Kd.C_drewN ?_ _) | (with_reducible refine Kd.C_drew ?_)))
     (case side2 => exact HC0_1.out)
     (case side3 => repeat (first | exact (Kd.C_below HR0_3.out HB.out) | (with_reducible refine Kd.C_alloc ?_ _) | (with_reducible refine Kd.C_drewN ?_ _) | (with_reducible refine Kd.C_drew ?_)))
     (case side4 => exact HC0_3.out)
     (case side5 => repeat (first | exact (Kd.C_below HR0_4.out HB.out) | (with_reducible refine Kd.C_alloc ?_ _) | (with_reducible refine Kd.C_drewN ?_ _) | (with_reducible refine Kd.C_drew ?_)))
     (case side6 => exact HC0_4.out)
     (case side7 => repeat (first | exact (Kd.C_below HR0_5.out HB.out) | (with_reducible refine Kd.C_alloc ?_ _) | (with_reducible refine Kd.C_drewN ?_ _) | (with_reducible refine Kd.C_drew ?_)))
     (case side8 => exact HC0_5.out)
     (case side9 => repeat (first | exact (Kd.C_below HR0_6.out HB.out) | (with_reducible refine Kd.C_alloc ?_ _) | (with_reducible refine Kd.C_drewN ?_ _) | (with_reducible refine Kd.C_drew ?_)))
     (case side10 => exact HC0_6.out)
     (case side11 => repeat (first | exact (Kd.C_below HR0_7.out HB.out) | (with_reducible refine Kd.C_alloc ?_ _) | (with_reducible refine Kd.C_drewN ?_ _) | (with_reducible refine Kd.C_drew ?_)))
     (case side12 => exact HC0_7.out)
     (case side13 => repeat (first | exact (Kd.C_below HR0_8.out HB.out) | (with_reducible refine Kd.C_alloc ?_ _) | (with_reducible refine Kd.C_drewN ?_ _) | (with_reducible refine Kd.C_drew ?_)))
     (case side14 => exact HC0_8.out)
     (case side15 => repeat (first | exact (Kd.C_below HR0_9.out HB.out) | (with_reducible refine Kd.C_alloc ?_ _) | (with_reducible refine Kd.C_drewN ?_ _) | (with_reducible refine Kd.C_drew ?_)))
     (case side16 => exact HC0_9.out)
     (case side17 => repeat (first | exact (Kd.C_below HR4.out HB.out) | (with_reducible refine Kd.C_alloc ?_ _) | (with_reducible refine Kd.C_drewN ?_ _) | (with_reducible refine Kd.C_drew ?_)))
     (case side18 => exact HC4.out)
     rintro e w30 ⟨v282, rfl, ho0, hb⟩
     refine ⟨_, rfl, ?_⟩
     have n0_ := Aside0.mk (Kd.R_elder' (by (with_reducible repeat (first | apply Kd.R_alloc | apply Kd.R_drewN | apply Kd.R_drew)); exact HO276.out) (Kd.R_base ho0) hb)
     have n1_ := Aside0.mk (Kd.R_elder' (by (with_reducible repeat (first | apply Kd.R_alloc | apply Kd.R_drewN | apply Kd.R_drew)); exact HO279.out) (Kd.R_base ho0) hb)
     have n2_ := Aside0.mk (Kd.R_lower (Kd.R_new' (Kd.R_new' ho0 (Kd.R_lt (by (with_reducible repeat (first | apply Kd.R_alloc | apply Kd.R_drewN | apply Kd.R_drew)); exact HO276.out))) (Kd.R_lt (by (with_reducible repeat (first | apply Kd.R_alloc | apply Kd.R_drewN | apply Kd.R_drew)); exact HO279.out))) (bZ (by repeat (first | (with_reducible first | exact HB.out | apply bL | apply bW | apply b1 | refine bS ?_ GE271.out) | exact HB.out))))
     have n3_ := Aside0.mk (bB (g := gb271) (o := .cells #[.string a0_0, .slice A0_1 l0_1.length c0_1, .int .i64 a0_2, .slice A0_3 l0_3.length c0_3, .slice A0_4 l0_4.length c0_4, .slice A0_5 l0_5.length c0_5, .slice A0_6 l0_6.length c0_6, .slice A0_7 l0_7.length c0_7, .slice A0_8 l0_8.length c0_8, .slice A0_9 l0_9.length c0_9, .int .i64 a0_10] 31 (0, 0)) (by (with_reducible repeat (first | refine bN ?_ _ | refine bD ?_ | refine bA ?_ _)); exact BK271.out) hb)
     have n4_ := Aside0.mk (bP (by repeat (first | (with_reducible first | exact HB.out | apply bL | apply bW | apply b1 | refine bS ?_ GE271.out) | exact HB.out)) hb)
     clear HO276; clear HO279; clear BK271; clear HB; have HO276 := n0_
     have HO279 := n1_
     have HO283 := n2_
     have BK271 := n3_
     have HB := n4_
     clear n0_ n1_ n2_ n3_ n4_; (try clear hb); (try clear hb2); (try clear hk); (try clear hi); (try clear ho0); refine hK.out _ _ ⟨(bC BK271.out 0).trans rfl, (bC BK271.out 1).trans rfl, (bC BK271.out 2).trans rfl, (bC BK271.out 3).trans rfl, (bC BK271.out 4).trans rfl, (bC BK271.out 5).trans rfl, (bC BK271.out 6).trans rfl, (bC BK271.out 7).trans rfl, (bC BK271.out 8).trans rfl, (bC BK271.out 9).trans rfl, (bC BK271.out 10).trans rfl⟩ (fun hHeld => ?_)
     clear hK K; refine norm_ (a' := ?_) ?_ ?_
     rotate_left
     ·
      show Act.put _ (some 36) _ = _
      simp only [Act.put, lA, lZ, lS, i64_w, i32_w]; rfl
     refine one_ (i := 5) (N := some 39) #[true, true, true, true, true, true, false, false] rfl rfl (one_of HT_.out (by kernel_rfl)) (by decide) (fun K hK => ?_)
     refine goes_ Try.func14 (by kernel_rfl) rfl #[.agg #[.string a0_0, .slice A0_1 l0_1.length c0_1, .int .i64 a0_2, .slice A0_3 l0_3.length c0_3, .slice A0_4 l0_4.length c0_4, .slice A0_5 l0_5.length c0_5, .slice A0_6 l0_6.length c0_6, .slice A0_7 l0_7.length c0_7, .slice A0_8 l0_8.length c0_8, .slice A0_9 l0_9.length c0_9, .int .i64 a0_10], .slice A4 l4.length c4] (by rfl) rfl rfl (by (try simp only [List.map_toArray, List.map_cons, List.map_nil]); first | done | rfl | (simp only [List.length_drop, List.length_take]; rfl)) ?_
     with_reducible refine (bourneref26_Mesh.calls k a0_0 _ _ l0_1 a0_2 _ _ l0_3 _ _ l0_4 _ _ l0_5 _ _ l0_6 _ _ l0_7 _ _ l0_8 _ _ l0_9 a0_10 _ _ l4 t284 _ ?side1 ?side2 ?side3 ?side4 ?side5 ?side6 ?side7 ?side8 ?side9 ?side10 ?side11 ?side12 ?side13 ?side14 ?side15 ?side16 ?side17 ?side18 A13.out).mono ?_
     (case side1 => repeat (first | exact (Kd.C_below HR0_1.out HB.out) | (with_reducible refine Kd.C_alloc ?_ _) | (with_reducible refine Kd.C_drewN ?_ _) | (with_reducible refine Kd.C_drew ?_)))
     (case side2 => exact HC0_1.out)
     (case side3 => repeat (first | exact (Kd.C_below HR0_3.out HB.out) | (with_reducible refine Kd.C_alloc ?_ _) | (with_reducible refine Kd.C_drewN ?_ _) | (with_reducible refine Kd.C_drew ?_)))
     (case side4 => exact HC0_3.out)
     (case side5 => repeat (first | exact (Kd.C_below HR0_4.out HB.out) | (with_reducible refine Kd.C_alloc ?_ _) | (with_reducible refine Kd.C_drewN ?_ _) | (with_reducible refine Kd.C_drew ?_)))
     (case side6 => exact HC0_4.out)
     (case side7 => repeat (first | exact (Kd.C_below HR0_5.out HB.out) | (with_reducible refine Kd.C_alloc ?_ _) | (with_reducible refine Kd.C_drewN ?_ _) | (with_reducible refine Kd.C_drew ?_)))
     (case side8 => exact HC0_5.out)
     (case side9 => repeat (first | exact (Kd.C_below HR0_6.out HB.out) | (with_reducible refine Kd.C_alloc ?_ _) | (with_reducible refine Kd.C_drewN ?_ _) | (with_reducible refine Kd.C_drew ?_)))
     (case side10 => exact HC0_6.out)
     (case side11 => repeat (first | exact (Kd.C_below HR0_7.out HB.out) | (with_reducible refine Kd.C_alloc ?_ _) | (with_reducible refine Kd.C_drewN ?_ _) | (with_reducible refine Kd.C_drew ?_)))
     (case side12 => exact HC0_7.out)
     (case side13 => repeat (first | exact (Kd.C_below HR0_8.out HB.out) | (with_reducible refine Kd.C_alloc ?_ _) | (with_reducible refine Kd.C_drewN ?_ _) | (with_reducible refine Kd.C_drew ?_)))
     (case side14 => exact HC0_8.out)
     (case side15 => repeat (first | exact (Kd.C_below HR0_9.out HB.out) | (with_reducible refine Kd.C_alloc ?_ _) | (with_reducible refine Kd.C_drewN ?_ _) | (with_reducible refine Kd.C_drew ?_)))
     (case side16 => exact HC0_9.out)
     (case side17 => repeat (first | exact (Kd.C_below HR4.out HB.out) | (with_reducible refine Kd.C_alloc ?_ _) | (with_reducible refine Kd.C_drewN ?_ _) | (with_reducible refine Kd.C_drew ?_)))
     (case side18 => exact HC4.out)
     rintro e w31 ⟨v285, rfl, ho0, hb⟩
     refine ⟨_, rfl, ?_⟩
     have n0_ := Aside0.mk (Kd.R_elder' (by (with_reducible repeat (first | apply Kd.R_alloc | apply Kd.R_drewN | apply Kd.R_drew)); exact HO276.out) (Kd.R_base ho0) hb)
     have n1_ := Aside0.mk (Kd.R_elder' (by (with_reducible repeat (first | apply Kd.R_alloc | apply Kd.R_drewN | apply Kd.R_drew)); exact HO279.out) (Kd.R_base ho0) hb)
     have n2_ := Aside0.mk (Kd.R_elder' (by (with_reducible repeat (first | apply Kd.R_alloc | apply Kd.R_drewN | apply Kd.R_drew)); exact HO283.out) (Kd.R_base ho0) hb)
     have n3_ := Aside0.mk (Kd.R_lower (Kd.R_new' (Kd.R_new' (Kd.R_new' ho0 (Kd.R_lt (by (with_reducible repeat (first | apply Kd.R_alloc | apply Kd.R_drewN | apply Kd.R_drew)); exact HO276.out))) (Kd.R_lt (by (with_reducible repeat (first | apply Kd.R_alloc | apply Kd.R_drewN | apply Kd.R_drew)); exact HO279.out))) (Kd.R_lt (by (with_reducible repeat (first | apply Kd.R_alloc | apply Kd.R_drewN | apply Kd.R_drew)); exact HO283.out))) (bZ (by repeat (first | (with_reducible first | exact HB.out | apply bL | apply bW | apply b1 | refine bS ?_ GE271.out) | exact HB.out))))
     have n4_ := Aside0.mk (bB (g := gb271) (o := .cells #[.string a0_0, .slice A0_1 l0_1.length c0_1, .int .i64 a0_2, .slice A0_3 l0_3.length c0_3, .slice A0_4 l0_4.length c0_4, .slice A0_5 l0_5.length c0_5, .slice A0_6 l0_6.length c0_6, .slice A0_7 l0_7.length c0_7, .slice A0_8 l0_8.length c0_8, .slice A0_9 l0_9.length c0_9, .int .i64 a0_10] 31 (0, 0)) (by (with_reducible repeat (first | refine bN ?_ _ | refine bD ?_ | refine bA ?_ _)); exact BK271.out) hb)
     have n5_ := Aside0.mk (bP (by repeat (first | (with_reducible first | exact HB.out | apply bL | apply bW | apply b1 | refine bS ?_ GE271.out) | exact HB.out)) hb)
     clear HO276; clear HO279; clear HO283; clear BK271; clear HB; have HO276 := n0_
     have HO279 := n1_
     have HO283 := n2_
     have HO286 := n3_
     have BK271 := n4_
     have HB := n5_
     clear n0_ n1_ n2_ n3_ n4_ n5_; (try clear hb); (try clear hb2); (try clear hk); (try clear hi); (try clear ho0); obtain ⟨Ao32, co32, eo32⟩ := Kd.R_slice HO283.out
     (first | subst eo32 | (injection eo32 with f1_ f2_ f3_; have f4_ := f1_.symm; have f5_ := f3_.symm; clear f1_ f2_ f3_; subst f4_; subst f5_))
     obtain ⟨Ao33, co33, eo33⟩ := Kd.R_slice HO286.out
     (first | subst eo33 | (injection eo33 with f1_ f2_ f3_; have f4_ := f1_.symm; have f5_ := f3_.symm; clear f1_ f2_ f3_; subst f4_; subst f5_))
     refine hK.out _ _ ⟨(bC BK271.out 0).trans rfl, (bC BK271.out 1).trans rfl, (bC BK271.out 2).trans rfl, (bC BK271.out 3).trans rfl, (bC BK271.out 4).trans rfl, (bC BK271.out 5).trans rfl, (bC BK271.out 6).trans rfl, (bC BK271.out 7).trans rfl, (bC BK271.out 8).trans rfl, (bC BK271.out 9).trans rfl, (bC BK271.out 10).trans rfl⟩ (fun hHeld => ?_)
     clear hK K; refine norm_ (a' := ?_) ?_ ?_
     rotate_left
     ·
      show Act.put _ (some 39) _ = _
      simp only [Act.put, lA, lZ, lS, i64_w, i32_w]; rfl
     refine one_ (i := 6) (N := some 40) #[true, true, true, true, true, true, true, false] rfl rfl (one_of HT_.out (by kernel_rfl)) (by decide) (fun K hK => ?_)
     refine goes_ Try.func10 (by kernel_rfl) rfl #[.slice Ao32 t281.length co32, .slice Ao33 t284.length co33] (by rfl) rfl rfl (by (try simp only [List.map_toArray, List.map_cons, List.map_nil]); first | done | rfl | (simp only [List.length_drop, List.length_take]; rfl)) ?_
     with_reducible refine (bourneref09_SameAll.calls k _ _ t281 _ _ t284 true _ ?side1 ?side2 ?side3 ?side4 A14.out).mono ?_
     (case side1 => repeat (first | exact (Kd.R_reads' HO283.out).2.2 | (with_reducible refine Kd.C_alloc ?_ _) | (with_reducible refine Kd.C_drewN ?_ _) | (with_reducible refine Kd.C_drew ?_)))
     (case side2 => exact (Kd.R_reads' HO283.out).2.1)
     (case side3 => repeat (first | exact (Kd.R_reads' HO286.out).2.2 | (with_reducible refine Kd.C_alloc ?_ _) | (with_reducible refine Kd.C_drewN ?_ _) | (with_reducible refine Kd.C_drew ?_)))
     (case side4 => exact (Kd.R_reads' HO286.out).2.1)
     rintro e w' ⟨rfl, ⟨nd, rfl⟩⟩
     refine ⟨_, rfl, ?_⟩
     refine hK.out _ _ ⟨(bC BK271.out 0).trans rfl, (bC BK271.out 1).trans rfl, (bC BK271.out 2).trans rfl, (bC BK271.out 3).trans rfl, (bC BK271.out 4).trans rfl, (bC BK271.out 5).trans rfl, (bC BK271.out 6).trans rfl, (bC BK271.out 7).trans rfl, (bC BK271.out 8).trans rfl, (bC BK271.out 9).trans rfl, (bC BK271.out 10).trans rfl⟩ (fun hHeld => ?_)
     clear hK K; refine norm_ (a' := ?_) ?_ ?_
     rotate_left
     ·
      show Act.put _ (some 40) _ = _
      simp only [Act.put, lA, lZ, lS, i64_w, i32_w]; rfl
     refine pure_ (i := 7) (N := some 14) (v := ?_) (a' := ?_) #[true, true, true, true, true, true, true, true] rfl rfl (any_of HT_.out (by kernel_rfl)) (fun _ _ _ h => h) (Or.inl ⟨by rfl, ?_⟩) ?_ ?_
     rotate_left
     ·
      intro w'; go_simp; with_reducible rfl
     rotate_left
     ·
      simp only [Act.put, lA, lZ, lS, i64_w, i32_w]; rfl
     refine done_ (done_of HT_.out (by kernel_rfl)) ?_
     try go_wp2_with (first | (go_at_call 15; (with_reducible refine (rain_Sum.calls k _ _ l4 t288 t289 _ ?side1 ?side2 A18.out).mono ?_); (case side1 => repeat (first | exact (Kd.C_below HR4.out (by repeat (first | (with_reducible first | exact HB.out | apply bL | apply bW | apply b1 | refine bS ?_ GE271.out) | exact HB.out))) | (with_reducible refine Kd.C_alloc ?_ _) | (with_reducible refine Kd.C_drewN ?_ _) | (with_reducible refine Kd.C_drew ?_))); (case side2 => exact HC4.out); rintro e w34 ⟨rfl, hb⟩; (try clear A18); have n0_ := Aside0.mk (Kd.R_below (by (with_reducible repeat (first | apply Kd.R_alloc | apply Kd.R_drewN | apply Kd.R_drew)); exact HO276.out) hb); have n1_ := Aside0.mk (Kd.R_below (by (with_reducible repeat (first | apply Kd.R_alloc | apply Kd.R_drewN | apply Kd.R_drew)); exact HO279.out) hb); have n2_ := Aside0.mk (Kd.R_below (by (with_reducible repeat (first | apply Kd.R_alloc | apply Kd.R_drewN | apply Kd.R_drew)); exact HO283.out) hb); have n3_ := Aside0.mk (Kd.R_below (by (with_reducible repeat (first | apply Kd.R_alloc | apply Kd.R_drewN | apply Kd.R_drew)); exact HO286.out) hb); have n4_ := Aside0.mk (bB (g := gb271) (o := .cells #[.string a0_0, .slice A0_1 l0_1.length c0_1, .int .i64 a0_2, .slice A0_3 l0_3.length c0_3, .slice A0_4 l0_4.length c0_4, .slice A0_5 l0_5.length c0_5, .slice A0_6 l0_6.length c0_6, .slice A0_7 l0_7.length c0_7, .slice A0_8 l0_8.length c0_8, .slice A0_9 l0_9.length c0_9, .int .i64 a0_10] 31 (0, 0)) (by (with_reducible repeat (first | refine bN ?_ _ | refine bD ?_ | refine bA ?_ _)); exact BK271.out) hb); have n5_ := Aside0.mk (bP (by repeat (first | (with_reducible first | exact HB.out | apply bL | apply bW | apply b1 | refine bS ?_ GE271.out) | exact HB.out)) hb); clear HO276; clear HO279; clear HO283; clear HO286; clear BK271; clear HB; have HO276 := n0_; have HO279 := n1_; have HO283 := n2_; have HO286 := n3_; have BK271 := n4_; have HB := n5_; clear n0_ n1_ n2_ n3_ n4_ n5_; (try clear hb); (try clear hb2); (try clear hk); (try clear hi)) | (go_at_call 16; (with_reducible refine (bourneref26_Sum.calls k _ _ l4 t290 t291 _ ?side1 ?side2 A19.out).mono ?_); (case side1 => repeat (first | exact (Kd.C_below HR4.out HB.out) | (with_reducible refine Kd.C_alloc ?_ _) | (with_reducible refine Kd.C_drewN ?_ _) | (with_reducible refine Kd.C_drew ?_))); (case side2 => exact HC4.out); rintro e w35 ⟨rfl, hb⟩; (try clear A19); have n0_ := Aside0.mk (Kd.R_below (by (with_reducible repeat (first | apply Kd.R_alloc | apply Kd.R_drewN | apply Kd.R_drew)); exact HO276.out) hb); have n1_ := Aside0.mk (Kd.R_below (by (with_reducible repeat (first | apply Kd.R_alloc | apply Kd.R_drewN | apply Kd.R_drew)); exact HO279.out) hb); have n2_ := Aside0.mk (Kd.R_below (by (with_reducible repeat (first | apply Kd.R_alloc | apply Kd.R_drewN | apply Kd.R_drew)); exact HO283.out) hb); have n3_ := Aside0.mk (Kd.R_below (by (with_reducible repeat (first | apply Kd.R_alloc | apply Kd.R_drewN | apply Kd.R_drew)); exact HO286.out) hb); have n4_ := Aside0.mk (bB (g := gb271) (o := .cells #[.string a0_0, .slice A0_1 l0_1.length c0_1, .int .i64 a0_2, .slice A0_3 l0_3.length c0_3, .slice A0_4 l0_4.length c0_4, .slice A0_5 l0_5.length c0_5, .slice A0_6 l0_6.length c0_6, .slice A0_7 l0_7.length c0_7, .slice A0_8 l0_8.length c0_8, .slice A0_9 l0_9.length c0_9, .int .i64 a0_10] 31 (0, 0)) (by (with_reducible repeat (first | refine bN ?_ _ | refine bD ?_ | refine bA ?_ _)); exact BK271.out) hb); have n5_ := Aside0.mk (bP (by repeat (first | (with_reducible first | exact HB.out | apply bL | apply bW | apply b1 | refine bS ?_ GE271.out) | exact HB.out)) hb); clear HO276; clear HO279; clear HO283; clear HO286; clear BK271; clear HB; have HO276 := n0_; have HO279 := n1_; have HO283 := n2_; have HO286 := n3_; have BK271 := n4_; have HB := n5_; clear n0_ n1_ n2_ n3_ n4_ n5_; (try clear hb); (try clear hb2); (try clear hk); (try clear hi)))
     go_ret
     exact ⟨by first | rfl | (simp [errW_none, errW_some] <;> rfl) | (simp [*, errW_none, errW_some] <;> rfl), by repeat (first | (with_reducible first | exact HB.out | apply bL | apply bW | apply b1 | refine bS ?_ GE271.out) | exact HB.out)⟩
    ·
     replace c17 := Bool.eq_false_iff.mpr c17
     subst c17; have H1 : (some false) = some r := by rw [if_neg (show ¬ (false = true) by decide)] at H; exact H
     clear H; have H := H1
     clear H1; exact absurd (H.trans (congrArg some hT.out)) (by simp)
   ·
    replace c16 := Bool.eq_false_iff.mpr c16
    subst c16; have H1 : (some false) = some r := by rw [if_neg (show ¬ (false = true) by decide)] at H; exact H
    clear H; have H := H1
    clear H1; exact absurd (H.trans (congrArg some hT.out)) (by simp)
  ·
   replace c15 := Bool.eq_false_iff.mpr c15
   subst c15; have H1 : (some false) = some r := by rw [if_neg (show ¬ (false = true) by decide)] at H; exact H
   clear H; have H := H1
   clear H1; exact absurd (H.trans (congrArg some hT.out)) (by simp)
 ·
  replace c8 := Bool.eq_false_iff.mpr c8
  subst c8; have H1 : (some t272) = some r := by rw [if_neg (show ¬ (false = true) by decide)] at H; exact H
  clear H; have H := H1
  clear H1; obtain rfl := Option.some.inj H
  go_enter Try.func3, Try.ntmps3
  go_wp2_with (first | ((with_reducible refine gate_dst (N := 5) rfl ?_); refine box_event ?hg (N := 5) ?hd (cs := #[.string a0_0, .slice A0_1 l0_1.length c0_1, .int .i64 a0_2, .slice A0_3 l0_3.length c0_3, .slice A0_4 l0_4.length c0_4, .slice A0_5 l0_5.length c0_5, .slice A0_6 l0_6.length c0_6, .slice A0_7 l0_7.length c0_7, .slice A0_8 l0_8.length c0_8, .slice A0_9 l0_9.length c0_9, .int .i64 a0_10]) (t := 31) ?hr ?_; (case hd => rfl); (case hg => rfl); (case hr => first | (go_simp; done) | (go_simp; rfl)); intro gb271 hg w36 hbox hb; have n0_ := Aside0.mk (bP (by repeat (first | (with_reducible first | exact HB.out | apply bL | apply bW | apply b1) | exact HB.out)) hb); have n1_ := Aside0.mk (hbox); have n2_ := Aside0.mk ((by rw [hg]; exact (bZ (by repeat (first | (with_reducible first | exact HB.out | apply bL | apply bW | apply b1) | exact HB.out))) : w.heap.size ≤ gb271)); have n3_ := Aside0.mk ((by rw [hg]; exact (bZ (by repeat (first | (with_reducible first | exact HB.out | apply bL | apply bW | apply b1) | exact HB.out))) : w.heap.size ≤ gb271)); clear HB; have HB := n0_; have BK271 := n1_; have GW271 := n2_; have GE271 := n3_; clear n0_ n1_ n2_ n3_; clear hb hbox hg) | ((with_reducible refine gate_callee (f := 8) rfl ?_); refine goesL_ (some 15) rfl rfl Try.func8 (by kernel_rfl) rfl #[] rfl (by (try simp only [List.map_toArray, List.map_cons, List.map_nil]); first | done | rfl | (simp only [List.length_drop, List.length_take]; rfl)) ?_; (with_reducible refine (bournelaw26_small.calls k  t272 _ A6.out).mono ?_); rintro e w37 ⟨rfl, hb⟩; refine ⟨_, rfl, ?_⟩; have n0_ := Aside0.mk (bB (g := gb271) (o := .cells #[.string a0_0, .slice A0_1 l0_1.length c0_1, .int .i64 a0_2, .slice A0_3 l0_3.length c0_3, .slice A0_4 l0_4.length c0_4, .slice A0_5 l0_5.length c0_5, .slice A0_6 l0_6.length c0_6, .slice A0_7 l0_7.length c0_7, .slice A0_8 l0_8.length c0_8, .slice A0_9 l0_9.length c0_9, .int .i64 a0_10] 31 (0, 0)) (by (with_reducible repeat (first | refine bN ?_ _ | refine bD ?_ | refine bA ?_ _)); exact BK271.out) hb); have n1_ := Aside0.mk (bP (by repeat (first | (with_reducible first | exact HB.out | apply bL | apply bW | apply b1 | refine bS ?_ GE271.out) | exact HB.out)) hb); clear BK271; clear HB; have BK271 := n0_; have HB := n1_; clear n0_ n1_; (try clear hb); (try clear hb2); (try clear hk); (try clear hi); have hcz38_0 : w37.cell? ⟨gb271, 0, none⟩ = some (.string a0_0) := (bC BK271.out 0).trans rfl; have hcz38_1 : w37.cell? ⟨gb271, 1, none⟩ = some (.slice A0_1 l0_1.length c0_1) := (bC BK271.out 1).trans rfl; have hcz38_2 : w37.cell? ⟨gb271, 2, none⟩ = some (.int .i64 a0_2) := (bC BK271.out 2).trans rfl; have hcz38_3 : w37.cell? ⟨gb271, 3, none⟩ = some (.slice A0_3 l0_3.length c0_3) := (bC BK271.out 3).trans rfl; have hcz38_4 : w37.cell? ⟨gb271, 4, none⟩ = some (.slice A0_4 l0_4.length c0_4) := (bC BK271.out 4).trans rfl; have hcz38_5 : w37.cell? ⟨gb271, 5, none⟩ = some (.slice A0_5 l0_5.length c0_5) := (bC BK271.out 5).trans rfl; have hcz38_6 : w37.cell? ⟨gb271, 6, none⟩ = some (.slice A0_6 l0_6.length c0_6) := (bC BK271.out 6).trans rfl; have hcz38_7 : w37.cell? ⟨gb271, 7, none⟩ = some (.slice A0_7 l0_7.length c0_7) := (bC BK271.out 7).trans rfl; have hcz38_8 : w37.cell? ⟨gb271, 8, none⟩ = some (.slice A0_8 l0_8.length c0_8) := (bC BK271.out 8).trans rfl; have hcz38_9 : w37.cell? ⟨gb271, 9, none⟩ = some (.slice A0_9 l0_9.length c0_9) := (bC BK271.out 9).trans rfl; have hcz38_10 : w37.cell? ⟨gb271, 10, none⟩ = some (.int .i64 a0_10) := (bC BK271.out 10).trans rfl; have hfz38_0 := bF BK271.out 0; have hfz38_1 := bF BK271.out 1; have hfz38_2 := bF BK271.out 2; have hfz38_3 := bF BK271.out 3; have hfz38_4 := bF BK271.out 4; have hfz38_5 := bF BK271.out 5; have hfz38_6 := bF BK271.out 6; have hfz38_7 := bF BK271.out 7; have hfz38_8 := bF BK271.out 8; have hfz38_9 := bF BK271.out 9; have hfz38_10 := bF BK271.out 10) | ((with_reducible refine gate_callee (f := 9) rfl ?_); refine goesL_ (some 19) rfl rfl Try.func9 (by kernel_rfl) rfl #[.agg #[.string a0_0, .slice A0_1 l0_1.length c0_1, .int .i64 a0_2, .slice A0_3 l0_3.length c0_3, .slice A0_4 l0_4.length c0_4, .slice A0_5 l0_5.length c0_5, .slice A0_6 l0_6.length c0_6, .slice A0_7 l0_7.length c0_7, .slice A0_8 l0_8.length c0_8, .slice A0_9 l0_9.length c0_9, .int .i64 a0_10], .slice A3 l3.length c3, .slice A4 l4.length c4] rfl (by (try simp only [List.map_toArray, List.map_cons, List.map_nil]); first | done | rfl | (simp only [List.length_drop, List.length_take]; rfl)) ?_; (with_reducible refine (bournelaw26_few.calls k a0_0 _ _ l0_1 a0_2 _ _ l0_3 _ _ l0_4 _ _ l0_5 _ _ l0_6 _ _ l0_7 _ _ l0_8 _ _ l0_9 a0_10 _ _ l3 _ _ l4 false _ ?side1 ?side2 ?side3 ?side4 ?side5 ?side6 ?side7 ?side8 ?side9 ?side10 ?side11 ?side12 ?side13 ?side14 ?side15 ?side16 ?side17 ?side18 ?side19 ?side20 A7.out).mono ?_); (case side1 => repeat (first | exact (Kd.C_below HR0_1.out HB.out) | (with_reducible refine Kd.C_alloc ?_ _) | (with_reducible refine Kd.C_drewN ?_ _) | (with_reducible refine Kd.C_drew ?_))); (case side2 => exact HC0_1.out); (case side3 => repeat (first | exact (Kd.C_below HR0_3.out HB.out) | (with_reducible refine Kd.C_alloc ?_ _) | (with_reducible refine Kd.C_drewN ?_ _) | (with_reducible refine Kd.C_drew ?_))); (case side4 => exact HC0_3.out); (case side5 => repeat (first | exact (Kd.C_below HR0_4.out HB.out) | (with_reducible refine Kd.C_alloc ?_ _) | (with_reducible refine Kd.C_drewN ?_ _) | (with_reducible refine Kd.C_drew ?_))); (case side6 => exact HC0_4.out); (case side7 => repeat (first | exact (Kd.C_below HR0_5.out HB.out) | (with_reducible refine Kd.C_alloc ?_ _) | (with_reducible refine Kd.C_drewN ?_ _) | (with_reducible refine Kd.C_drew ?_))); (case side8 => exact HC0_5.out); (case side9 => repeat (first | exact (Kd.C_below HR0_6.out HB.out) | (with_reducible refine Kd.C_alloc ?_ _) | (with_reducible refine Kd.C_drewN ?_ _) | (with_reducible refine Kd.C_drew ?_))); (case side10 => exact HC0_6.out); (case side11 => repeat (first | exact (Kd.C_below HR0_7.out HB.out) | (with_reducible refine Kd.C_alloc ?_ _) | (with_reducible refine Kd.C_drewN ?_ _) | (with_reducible refine Kd.C_drew ?_))); (case side12 => exact HC0_7.out); (case side13 => repeat (first | exact (Kd.C_below HR0_8.out HB.out) | (with_reducible refine Kd.C_alloc ?_ _) | (with_reducible refine Kd.C_drewN ?_ _) | (with_reducible refine Kd.C_drew ?_))); (case side14 => exact HC0_8.out); (case side15 => repeat (first | exact (Kd.C_below HR0_9.out HB.out) | (with_reducible refine Kd.C_alloc ?_ _) | (with_reducible refine Kd.C_drewN ?_ _) | (with_reducible refine Kd.C_drew ?_))); (case side16 => exact HC0_9.out); (case side17 => repeat (first | exact (Kd.C_below HR3.out HB.out) | (with_reducible refine Kd.C_alloc ?_ _) | (with_reducible refine Kd.C_drewN ?_ _) | (with_reducible refine Kd.C_drew ?_))); (case side18 => exact HC3.out); (case side19 => repeat (first | exact (Kd.C_below HR4.out HB.out) | (with_reducible refine Kd.C_alloc ?_ _) | (with_reducible refine Kd.C_drewN ?_ _) | (with_reducible refine Kd.C_drew ?_))); (case side20 => exact HC4.out); rintro e w39 ⟨rfl, hb⟩; refine ⟨_, rfl, ?_⟩; have n0_ := Aside0.mk (bB (g := gb271) (o := .cells #[.string a0_0, .slice A0_1 l0_1.length c0_1, .int .i64 a0_2, .slice A0_3 l0_3.length c0_3, .slice A0_4 l0_4.length c0_4, .slice A0_5 l0_5.length c0_5, .slice A0_6 l0_6.length c0_6, .slice A0_7 l0_7.length c0_7, .slice A0_8 l0_8.length c0_8, .slice A0_9 l0_9.length c0_9, .int .i64 a0_10] 31 (0, 0)) (by (with_reducible repeat (first | refine bN ?_ _ | refine bD ?_ | refine bA ?_ _)); exact BK271.out) hb); have n1_ := Aside0.mk (bP (by repeat (first | (with_reducible first | exact HB.out | apply bL | apply bW | apply b1 | refine bS ?_ GE271.out) | exact HB.out)) hb); clear BK271; clear HB; have BK271 := n0_; have HB := n1_; clear n0_ n1_; (try clear hb); (try clear hb2); (try clear hk); (try clear hi)))
  go_ret
  exact ⟨by first | rfl | (simp [errW_none, errW_some] <;> rfl) | (simp [*, errW_none, errW_some] <;> rfl), by repeat (first | (with_reducible first | exact HB.out | apply bL | apply bW | apply b1 | refine bS ?_ GE271.out) | exact HB.out)⟩
def bournelaw26_RainTells.Pure : Prop := ∀ (a0_0 : ByteArray) (l0_1 : List ByteArray) (a0_2 : Int) (l0_3 : List (S56)) (l0_4 : List (S104)) (l0_5 : List (S106)) (l0_6 : List (S67)) (l0_7 : List (S108)) (l0_8 : List (S110)) (l0_9 : List Int) (a0_10 : Int) (l1 : List Int) (a2 : Int) (l3 : List (S50)) (l4 : List (S40)), a0_0.size ≤ maxLen → l0_1.length ≤ maxLen → (∀ y, y ∈ l0_1 → y.size ≤ maxLen) → (Lit.int .i64 a0_2).wf = true → l0_3.length ≤ maxLen → (∀ y, y ∈ l0_3 → w56 y) → l0_4.length ≤ maxLen → (∀ y, y ∈ l0_4 → w104 y) → l0_5.length ≤ maxLen → (∀ y, y ∈ l0_5 → w106 y) → l0_6.length ≤ maxLen → (∀ y, y ∈ l0_6 → w67 y) → l0_7.length ≤ maxLen → (∀ y, y ∈ l0_7 → w108 y) → l0_8.length ≤ maxLen → (∀ y, y ∈ l0_8 → w110 y) → l0_9.length ≤ maxLen → (∀ y, y ∈ l0_9 → (Lit.int .i64 y).wf = true) → (Lit.int .i64 a0_10).wf = true → l1.length ≤ maxLen → (∀ y, y ∈ l1 → (Lit.int .i64 y).wf = true) → (Lit.int .i64 a2).wf = true → l3.length ≤ maxLen → (∀ y, y ∈ l3 → w50 y) → l4.length ≤ maxLen → (∀ y, y ∈ l4 → w40 y) → ∃ k, bournelaw26_RainTells.f k a0_0 l0_1 a0_2 l0_3 l0_4 l0_5 l0_6 l0_7 l0_8 l0_9 a0_10 l1 a2 l3 l4 = some true
theorem bournelaw26_RainTells.walk (P_ : bournelaw26_RainTells.Pure) (a0_0 : ByteArray) (A0_1 : Option Addr) (c0_1 : Nat) (l0_1 : List ByteArray) (a0_2 : Int) (A0_3 : Option Addr) (c0_3 : Nat) (l0_3 : List (S56)) (A0_4 : Option Addr) (c0_4 : Nat) (l0_4 : List (S104)) (A0_5 : Option Addr) (c0_5 : Nat) (l0_5 : List (S106)) (A0_6 : Option Addr) (c0_6 : Nat) (l0_6 : List (S67)) (A0_7 : Option Addr) (c0_7 : Nat) (l0_7 : List (S108)) (A0_8 : Option Addr) (c0_8 : Nat) (l0_8 : List (S110)) (A0_9 : Option Addr) (c0_9 : Nat) (l0_9 : List Int) (a0_10 : Int) (A1 : Option Addr) (c1 : Nat) (l1 : List Int) (a2 : Int) (A3 : Option Addr) (c3 : Nat) (l3 : List (S50)) (A4 : Option Addr) (c4 : Nat) (l4 : List (S40)) (w : World) (hr0_1 : Kd.C Kd.string w A0_1 l0_1.length l0_1) (hc0_1 : l0_1.length ≤ c0_1) (hr0_3 : Kd.C k56 w A0_3 l0_3.length l0_3) (hc0_3 : l0_3.length ≤ c0_3) (hr0_4 : Kd.C k104 w A0_4 l0_4.length l0_4) (hc0_4 : l0_4.length ≤ c0_4) (hr0_5 : Kd.C k106 w A0_5 l0_5.length l0_5) (hc0_5 : l0_5.length ≤ c0_5) (hr0_6 : Kd.C k67 w A0_6 l0_6.length l0_6) (hc0_6 : l0_6.length ≤ c0_6) (hr0_7 : Kd.C k108 w A0_7 l0_7.length l0_7) (hc0_7 : l0_7.length ≤ c0_7) (hr0_8 : Kd.C k110 w A0_8 l0_8.length l0_8) (hc0_8 : l0_8.length ≤ c0_8) (hr0_9 : Kd.C (Kd.int .i64) w A0_9 l0_9.length l0_9) (hc0_9 : l0_9.length ≤ c0_9) (hr1 : Kd.C (Kd.int .i64) w A1 l1.length l1) (hc1 : l1.length ≤ c1) (hr3 : Kd.C k50 w A3 l3.length l3) (hc3 : l3.length ≤ c3) (hr4 : Kd.C k40 w A4 l4.length l4) (hc4 : l4.length ≤ c4) (y0 : a0_0.size ≤ maxLen) (y1 : l0_1.length ≤ maxLen) (y2 : (∀ y, y ∈ l0_1 → y.size ≤ maxLen)) (y3 : (Lit.int .i64 a0_2).wf = true) (y4 : l0_3.length ≤ maxLen) (y5 : (∀ y, y ∈ l0_3 → w56 y)) (y6 : l0_4.length ≤ maxLen) (y7 : (∀ y, y ∈ l0_4 → w104 y)) (y8 : l0_5.length ≤ maxLen) (y9 : (∀ y, y ∈ l0_5 → w106 y)) (y10 : l0_6.length ≤ maxLen) (y11 : (∀ y, y ∈ l0_6 → w67 y)) (y12 : l0_7.length ≤ maxLen) (y13 : (∀ y, y ∈ l0_7 → w108 y)) (y14 : l0_8.length ≤ maxLen) (y15 : (∀ y, y ∈ l0_8 → w110 y)) (y16 : l0_9.length ≤ maxLen) (y17 : (∀ y, y ∈ l0_9 → (Lit.int .i64 y).wf = true)) (y18 : (Lit.int .i64 a0_10).wf = true) (y19 : l1.length ≤ maxLen) (y20 : (∀ y, y ∈ l1 → (Lit.int .i64 y).wf = true)) (y21 : (Lit.int .i64 a2).wf = true) (y22 : l3.length ≤ maxLen) (y23 : (∀ y, y ∈ l3 → w50 y)) (y24 : l4.length ≤ maxLen) (y25 : (∀ y, y ∈ l4 → w40 y)) :
  Calls Try.prog 3 #[.agg #[.string a0_0, .slice A0_1 l0_1.length c0_1, .int .i64 a0_2, .slice A0_3 l0_3.length c0_3, .slice A0_4 l0_4.length c0_4, .slice A0_5 l0_5.length c0_5, .slice A0_6 l0_6.length c0_6, .slice A0_7 l0_7.length c0_7, .slice A0_8 l0_8.length c0_8, .slice A0_9 l0_9.length c0_9, .int .i64 a0_10], .slice A1 l1.length c1, .int .i64 a2, .slice A3 l3.length c3, .slice A4 l4.length c4] w fun e w' => e = .returned (.bool true) ∧ Below w.heap.size w w' := by
 obtain ⟨k, h⟩ := P_ a0_0 l0_1 a0_2 l0_3 l0_4 l0_5 l0_6 l0_7 l0_8 l0_9 a0_10 l1 a2 l3 l4 y0 y1 y2 y3 y4 y5 y6 y7 y8 y9 y10 y11 y12 y13 y14 y15 y16 y17 y18 y19 y20 y21 y22 y23 y24 y25
 refine (bournelaw26_RainTells.calls k a0_0 A0_1 c0_1 l0_1 a0_2 A0_3 c0_3 l0_3 A0_4 c0_4 l0_4 A0_5 c0_5 l0_5 A0_6 c0_6 l0_6 A0_7 c0_7 l0_7 A0_8 c0_8 l0_8 A0_9 c0_9 l0_9 a0_10 A1 c1 l1 a2 A3 c3 l3 A4 c4 l4 true w hr0_1 hc0_1 hr0_3 hc0_3 hr0_4 hc0_4 hr0_5 hc0_5 hr0_6 hc0_6 hr0_7 hc0_7 hr0_8 hc0_8 hr0_9 hc0_9 hr1 hc1 hr3 hc3 hr4 hc4 ⟨rfl⟩ h).mono ?_
 rintro e w' ⟨rfl, hd⟩
 exact ⟨rfl, hd⟩
end Go.Proofs.Ytpklgbnihgljmaa.Fn
