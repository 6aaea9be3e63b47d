-- written by this session's program myprint.py out of the translation; Lean checks it
import Derived.Test.YtpklgbnihgljmaaFn0
import Derived.Test.YtpklgbnihgljmaaFn9
import Derived.Test.YtpklgbnihgljmaaFn10
namespace Go.Proofs.Ytpklgbnihgljmaa.Fn
open Go.RowKit Go.Proofs.YtpklgbnihgljmaaW.PrintWords Go.Proofs.YtpklgbnihgljmaaW.PrintLast Go.Proofs.YtpklgbnihgljmaaW.PrintMore
open Bool renaming true → T, false → F
open List renaming setIfInBounds_toArray → lA, set_cons_zero → lZ, set_cons_succ → lS
open Go.Proofs.YtpklgbnihgljmaaW.PrintWords renaming blk_drewN → bN, blk_drew → bD, blk_alloc → bA, below_set → bS, blk_cell → bC, blk_below → bB, blk_frozen → bF, pw_below_drewN → bW, below_drew1 → b1, below_alloc → bL, below_step → bP, below_size → bZ
attribute [local go_sem] max2_int min2_int max_two min_two max_three min_three max_four min_four
set_option linter.unusedVariables false
set_option linter.unusedSimpArgs false
def bourneref26_Cells.l0 : Nat → List Int → Int → List (S50) → List (S40) → Int → ByteArray → List ByteArray → Int → List (S56) → List (S104) → List (S106) → List (S67) → List (S108) → List (S110) → List Int → Int → Option ((List (S40)))
 | 0, _, _, _, _, _, _, _, _, _, _, _, _, _, _, _, _ => none
 | k + 1, x1, x2, x3, x9, x10, x236000, x236001, x236002, x236003, x236004, x236005, x236006, x236007, x236008, x236009, x236010 => if x10 < x236002 then (if x10 < 64 then ((bourneref26_Cell.f k x236000 x236001 x236002 x236003 x236004 x236005 x236006 x236007 x236008 x236009 x236010 x1 x2 x3 x10).bind fun bt236 => (if x9.length < 8796093022208 then (bourneref26_Cells.l0 k x1 x2 x3 (x9 ++ [(⟨bt236.1, bt236.2⟩ : S40)]) (wrap64 (x10 + 1)) x236000 x236001 x236002 x236003 x236004 x236005 x236006 x236007 x236008 x236009 x236010) else (none))) else (some x9)) else (some x9)
def bourneref26_Cells.f (k : Nat) (a0_0 : ByteArray) (l0_1 : List ByteArray) (a0_2 : Int) (l0_3 : List (S56)) (l0_4 : List (S104)) (l0_5 : List (S106)) (l0_6 : List (S67)) (l0_7 : List (S108)) (l0_8 : List (S110)) (l0_9 : List Int) (a0_10 : Int) (l1 : List Int) (a2 : Int) (l3 : List (S50)) : Option ((List (S40))) := bourneref26_Cells.l0 k l1 a2 l3 ([] : List (S40)) 0 a0_0 l0_1 a0_2 l0_3 l0_4 l0_5 l0_6 l0_7 l0_8 l0_9 a0_10
theorem bourneref26_Cells.mono_l : ∀ k, (∀ y0 y1 y2 y3 y4 y5 y6 y7 y8 y9 y10 y11 y12 y13 y14 y15, LeO (bourneref26_Cells.l0 k y0 y1 y2 y3 y4 y5 y6 y7 y8 y9 y10 y11 y12 y13 y14 y15) (bourneref26_Cells.l0 (k + 1) y0 y1 y2 y3 y4 y5 y6 y7 y8 y9 y10 y11 y12 y13 y14 y15))
 | 0 => fun _ _ _ _ _ _ _ _ _ _ _ _ _ _ _ _ r h => by simp [bourneref26_Cells.l0] at h
 | k + 1 => by
  have ih0 := bourneref26_Cells.mono_l k
  ·
   intro y0 y1 y2 y3 y4 y5 y6 y7 y8 y9 y10 y11 y12 y13 y14 y15; unfold bourneref26_Cells.l0
   repeat' first
   | (with_reducible exact ih0 _ _ _ _ _ _ _ _ _ _ _ _ _ _ _ _)
   | (with_reducible exact bourneref26_Cell.mono _ _ _ _ _ _ _ _ _ _ _ _ _ _ _ _)
   | (with_reducible exact LeO.refl _)
   | (with_reducible exact LeO.none _)
   | (with_reducible refine LeO.ite ?_ ?_)
   | (with_reducible refine LeO.bind ?_ (fun _ => ?_))
   | exact ih0 _ _ _ _ _ _ _ _ _ _ _ _ _ _ _ _
   | exact bourneref26_Cell.mono _ _ _ _ _ _ _ _ _ _ _ _ _ _ _ _
   | exact LeO.none _
   | refine LeO.ite ?_ ?_
   | refine LeO.bind ?_ (fun _ => ?_)
theorem bourneref26_Cells.mono : ∀ a0 a1 a2 a3 a4 a5 a6 a7 a8 a9 a10 a11 a12 a13 k, LeO (bourneref26_Cells.f k a0 a1 a2 a3 a4 a5 a6 a7 a8 a9 a10 a11 a12 a13) (bourneref26_Cells.f (k + 1) a0 a1 a2 a3 a4 a5 a6 a7 a8 a9 a10 a11 a12 a13) := by
 intro a0 a1 a2 a3 a4 a5 a6 a7 a8 a9 a10 a11 a12 a13 k; have ih0 := bourneref26_Cells.mono_l k
 unfold bourneref26_Cells.f
 repeat' first
   | (with_reducible exact ih0 _ _ _ _ _ _ _ _ _ _ _ _ _ _ _ _)
   | (with_reducible exact bourneref26_Cell.mono _ _ _ _ _ _ _ _ _ _ _ _ _ _ _ _)
   | (with_reducible exact LeO.refl _)
   | (with_reducible exact LeO.none _)
   | (with_reducible refine LeO.ite ?_ ?_)
   | (with_reducible refine LeO.bind ?_ (fun _ => ?_))
   | exact ih0 _ _ _ _ _ _ _ _ _ _ _ _ _ _ _ _
   | exact bourneref26_Cell.mono _ _ _ _ _ _ _ _ _ _ _ _ _ _ _ _
   | exact LeO.none _
   | refine LeO.ite ?_ ?_
   | refine LeO.bind ?_ (fun _ => ?_)
set_option maxHeartbeats 8000000 in
set_option maxRecDepth 100000 in
theorem bourneref26_Cells.calls (k : Nat) (a0_0 : ByteArray) (A0_1 : Option Addr) (c0_1 : Nat) (l0_1 : List ByteArray) (a0_2 : Int) (A0_3 : Option Addr) (c0_3 : Nat) (l0_3 : List (S56)) (A0_4 : Option Addr) (c0_4 : Nat) (l0_4 : List (S104)) (A0_5 : Option Addr) (c0_5 : Nat) (l0_5 : List (S106)) (A0_6 : Option Addr) (c0_6 : Nat) (l0_6 : List (S67)) (A0_7 : Option Addr) (c0_7 : Nat) (l0_7 : List (S108)) (A0_8 : Option Addr) (c0_8 : Nat) (l0_8 : List (S110)) (A0_9 : Option Addr) (c0_9 : Nat) (l0_9 : List Int) (a0_10 : Int) (A1 : Option Addr) (c1 : Nat) (l1 : List Int) (a2 : Int) (A3 : Option Addr) (c3 : Nat) (l3 : List (S50)) (r : List (S40)) (w : World) (hr0_1 : Kd.C Kd.string w A0_1 l0_1.length l0_1) (hc0_1 : l0_1.length ≤ c0_1) (hr0_3 : Kd.C k56 w A0_3 l0_3.length l0_3) (hc0_3 : l0_3.length ≤ c0_3) (hr0_4 : Kd.C k104 w A0_4 l0_4.length l0_4) (hc0_4 : l0_4.length ≤ c0_4) (hr0_5 : Kd.C k106 w A0_5 l0_5.length l0_5) (hc0_5 : l0_5.length ≤ c0_5) (hr0_6 : Kd.C k67 w A0_6 l0_6.length l0_6) (hc0_6 : l0_6.length ≤ c0_6) (hr0_7 : Kd.C k108 w A0_7 l0_7.length l0_7) (hc0_7 : l0_7.length ≤ c0_7) (hr0_8 : Kd.C k110 w A0_8 l0_8.length l0_8) (hc0_8 : l0_8.length ≤ c0_8) (hr0_9 : Kd.C (Kd.int .i64) w A0_9 l0_9.length l0_9) (hc0_9 : l0_9.length ≤ c0_9) (hr1 : Kd.C (Kd.int .i64) w A1 l1.length l1) (hc1 : l1.length ≤ c1) (hr3 : Kd.C k50 w A3 l3.length l3) (hc3 : l3.length ≤ c3) (h : bourneref26_Cells.f k a0_0 l0_1 a0_2 l0_3 l0_4 l0_5 l0_6 l0_7 l0_8 l0_9 a0_10 l1 a2 l3 = some r) :
  Calls Try.prog 12 #[.agg #[.string a0_0, .slice A0_1 l0_1.length c0_1, .int .i64 a0_2, .slice A0_3 l0_3.length c0_3, .slice A0_4 l0_4.length c0_4, .slice A0_5 l0_5.length c0_5, .slice A0_6 l0_6.length c0_6, .slice A0_7 l0_7.length c0_7, .slice A0_8 l0_8.length c0_8, .slice A0_9 l0_9.length c0_9, .int .i64 a0_10], .slice A1 l1.length c1, .int .i64 a2, .slice A3 l3.length c3] w fun e w' => ∃ v0_ : Value, e = .returned (v0_) ∧ Kd.R k40 40 w' w.heap.size (fun _ => True) v0_ r ∧ Below w.heap.size w w' := by
 have hu31 := Try.underlying31
 have HR0_1 := Aside0.mk hr0_1
 have HC0_1 := Aside0.mk hc0_1
 clear hr0_1 hc0_1; have HR0_3 := Aside0.mk hr0_3
 have HC0_3 := Aside0.mk hc0_3
 clear hr0_3 hc0_3; have HR0_4 := Aside0.mk hr0_4
 have HC0_4 := Aside0.mk hc0_4
 clear hr0_4 hc0_4; have HR0_5 := Aside0.mk hr0_5
 have HC0_5 := Aside0.mk hc0_5
 clear hr0_5 hc0_5; have HR0_6 := Aside0.mk hr0_6
 have HC0_6 := Aside0.mk hc0_6
 clear hr0_6 hc0_6; have HR0_7 := Aside0.mk hr0_7
 have HC0_7 := Aside0.mk hc0_7
 clear hr0_7 hc0_7; have HR0_8 := Aside0.mk hr0_8
 have HC0_8 := Aside0.mk hc0_8
 clear hr0_8 hc0_8; have HR0_9 := Aside0.mk hr0_9
 have HC0_9 := Aside0.mk hc0_9
 clear hr0_9 hc0_9; have HR1 := Aside0.mk hr1
 have HC1 := Aside0.mk hc1
 clear hr1 hc1; have HR3 := Aside0.mk hr3
 have HC3 := Aside0.mk hc3
 clear hr3 hc3; have HB := Aside0.mk (Below.refl w.heap.size w)
 have H : (bourneref26_Cells.l0 k l1 a2 l3 ([] : List (S40)) 0 a0_0 l0_1 a0_2 l0_3 l0_4 l0_5 l0_6 l0_7 l0_8 l0_9 a0_10) = some r := h
 clear h; have H' := Aside0.mk H
 clear H; go_enter Try.func12, Try.ntmps12
 go_wp2_with (first | ((with_reducible refine gate_dst (N := 4) rfl ?_); refine box_event ?hg (N := 4) ?hd (cs := #[.string a0_0, .slice A0_1 l0_1.length c0_1, .int .i64 a0_2, .slice A0_3 l0_3.length c0_3, .slice A0_4 l0_4.length c0_4, .slice A0_5 l0_5.length c0_5, .slice A0_6 l0_6.length c0_6, .slice A0_7 l0_7.length c0_7, .slice A0_8 l0_8.length c0_8, .slice A0_9 l0_9.length c0_9, .int .i64 a0_10]) (t := 31) ?hr ?_; (case hd => rfl); (case hg => rfl); (case hr => first | (go_simp; done) | (go_simp; rfl)); intro gb235 hg w5 hbox hb; have n0_ := Aside0.mk (bP (by repeat (first | (with_reducible first | exact HB.out | apply bL | apply bW | apply b1) | exact HB.out)) hb); have n1_ := Aside0.mk (hbox); have n2_ := Aside0.mk ((by rw [hg]; exact (bZ (by repeat (first | (with_reducible first | exact HB.out | apply bL | apply bW | apply b1) | exact HB.out))) : w.heap.size ≤ gb235)); have n3_ := Aside0.mk ((by rw [hg]; exact (bZ (by repeat (first | (with_reducible first | exact HB.out | apply bL | apply bW | apply b1) | exact HB.out))) : w.heap.size ≤ gb235)); clear HB; have HB := n0_; have BK235 := n1_; have GW235 := n2_; have GE235 := n3_; clear n0_ n1_ n2_ n3_; clear hb hbox hg))
 go_loopg [9, 10] k (fun kq v9 v10 w' => ∃ (x9_1 : List (S40)) (x10_1 : Int), v10 = .int .i64 x10_1 ∧ Aside0 (bourneref26_Cells.l0 kq l1 a2 l3 x9_1 x10_1 a0_0 l0_1 a0_2 l0_3 l0_4 l0_5 l0_6 l0_7 l0_8 l0_9 a0_10 = some r) ∧ Aside0 (kq ≤ k) ∧ Aside0 (Kd.R k40 40 w' w.heap.size (fun _ => True) v9 x9_1) ∧ Aside0 (w'.heap[gb235]? = some (.cells #[.string a0_0, (.slice A0_1 l0_1.length c0_1), .int .i64 a0_2, (.slice A0_3 l0_3.length c0_3), (.slice A0_4 l0_4.length c0_4), (.slice A0_5 l0_5.length c0_5), (.slice A0_6 l0_6.length c0_6), (.slice A0_7 l0_7.length c0_7), (.slice A0_8 l0_8.length c0_8), (.slice A0_9 l0_9.length c0_9), .int .i64 a0_10] 31 (0, 0))) ∧ Aside0 (Below w.heap.size w w'))
 case atStart => exact ⟨(([] : List (S40))), (0), (by first | rfl | (simp; done) | (simp [*]; done)), H', ⟨Nat.le_refl _⟩, ⟨by first | exact Kd.R_nil _ _ _ _ _ | exact Kd.N_nil _ _ _ _ _ | exact Kd.V_nil _ _ _ _ _ | exact Kd.Q_nil _ _ _ _ _ | exact Kd.S_nil _ _ _ _ _⟩, ⟨by (with_reducible repeat (first | refine bN ?_ _ | refine bD ?_ | refine bA ?_ _)); exact BK235.out⟩, ⟨by repeat (first | (with_reducible first | exact HB.out | apply bL | apply bW | apply b1 | refine bS ?_ GE235.out) | exact HB.out)⟩⟩
 case round =>
  clear H'; try clear c1
  try clear p2
  try clear c3
  obtain ⟨x9_1, x10_1, rfl, HA, HK1, HO_9, BK235, HB⟩ := hrel
  cases gk with
  | zero => exact absurd HA.out (by simp [bourneref26_Cells.l0])
  | succ k1 =>
   have H := HA.out
   clear HA; simp only [bourneref26_Cells.l0] at H; by_cases c6 : x10_1 < a0_2
   ·
    rw [if_pos c6] at H; have c6b0 : decide (x10_1 < a0_2) = true := decide_eq_true c6
    clear c6; by_cases c7 : x10_1 < 64
    ·
     rw [if_pos c7] at H; have c7b0 : decide (x10_1 < 64) = true := decide_eq_true c7
     clear c7; replace H := Option.bind_eq_some_iff.mp H
     obtain ⟨⟨t236, t237⟩, A80, H⟩ := H
     dsimp only at H
     have A8 := Aside0.mk A80
     clear A80; by_cases c9 : x9_1.length < 8796093022208
     ·
      rw [if_pos c9] at H; have LMc9 := Aside0.mk c9
      clear c9; obtain ⟨y238, hy238⟩ : ∃ y_ : List (S40), y_ = (x9_1 ++ [(⟨t236, t237⟩ : S40)]) := ⟨_, rfl⟩
      replace H : (bourneref26_Cells.l0 k1 l1 a2 l3 y238 (wrap64 (x10_1 + 1)) a0_0 l0_1 a0_2 l0_3 l0_4 l0_5 l0_6 l0_7 l0_8 l0_9 a0_10) = some r := by first | (rw [hy238]; with_reducible exact H) | (have H2_ := (Option.bind_some _ _).symm.trans H; rw [hy238]; with_reducible exact H2_) | (have H2_ := (Option.bind_some _ _).symm.trans H; with_reducible exact H2_) | with_reducible exact H | (rw [hy238]; exact H) | exact H
      have Ny238 := Aside0.mk hy238
      clear hy238; have H' := Aside0.mk H
      clear H; have hcz10_0 : wr.cell? ⟨gb235, 0, none⟩ = some (.string a0_0) := (bC BK235.out 0).trans rfl
      have hcz10_1 : wr.cell? ⟨gb235, 1, none⟩ = some (.slice A0_1 l0_1.length c0_1) := (bC BK235.out 1).trans rfl
      have hcz10_2 : wr.cell? ⟨gb235, 2, none⟩ = some (.int .i64 a0_2) := (bC BK235.out 2).trans rfl
      have hcz10_3 : wr.cell? ⟨gb235, 3, none⟩ = some (.slice A0_3 l0_3.length c0_3) := (bC BK235.out 3).trans rfl
      have hcz10_4 : wr.cell? ⟨gb235, 4, none⟩ = some (.slice A0_4 l0_4.length c0_4) := (bC BK235.out 4).trans rfl
      have hcz10_5 : wr.cell? ⟨gb235, 5, none⟩ = some (.slice A0_5 l0_5.length c0_5) := (bC BK235.out 5).trans rfl
      have hcz10_6 : wr.cell? ⟨gb235, 6, none⟩ = some (.slice A0_6 l0_6.length c0_6) := (bC BK235.out 6).trans rfl
      have hcz10_7 : wr.cell? ⟨gb235, 7, none⟩ = some (.slice A0_7 l0_7.length c0_7) := (bC BK235.out 7).trans rfl
      have hcz10_8 : wr.cell? ⟨gb235, 8, none⟩ = some (.slice A0_8 l0_8.length c0_8) := (bC BK235.out 8).trans rfl
      have hcz10_9 : wr.cell? ⟨gb235, 9, none⟩ = some (.slice A0_9 l0_9.length c0_9) := (bC BK235.out 9).trans rfl
      have hcz10_10 : wr.cell? ⟨gb235, 10, none⟩ = some (.int .i64 a0_10) := (bC BK235.out 10).trans rfl
      have hfz10_0 := bF BK235.out 0
      have hfz10_1 := bF BK235.out 1
      have hfz10_2 := bF BK235.out 2
      have hfz10_3 := bF BK235.out 3
      have hfz10_4 := bF BK235.out 4
      have hfz10_5 := bF BK235.out 5
      have hfz10_6 := bF BK235.out 6
      have hfz10_7 := bF BK235.out 7
      have hfz10_8 := bF BK235.out 8
      have hfz10_9 := bF BK235.out 9
      have hfz10_10 := bF BK235.out 10
      go_wp2_with (first | ((with_reducible refine gate_callee (f := 29) rfl ?_); refine goesL_ (some 27) rfl rfl Try.func29 (by kernel_rfl) rfl #[.agg #[.string a0_0, .slice A0_1 l0_1.length c0_1, .int .i64 a0_2, .slice A0_3 l0_3.length c0_3, .slice A0_4 l0_4.length c0_4, .slice A0_5 l0_5.length c0_5, .slice A0_6 l0_6.length c0_6, .slice A0_7 l0_7.length c0_7, .slice A0_8 l0_8.length c0_8, .slice A0_9 l0_9.length c0_9, .int .i64 a0_10], .slice A1 l1.length c1, .int .i64 a2, .slice A3 l3.length c3, .int .i64 x10_1] rfl (by (try simp only [List.map_toArray, List.map_cons, List.map_nil]); first | done | rfl | (simp only [List.length_drop, List.length_take]; rfl)) ?_; (with_reducible refine (bourneref26_Cell.calls k1 a0_0 _ _ l0_1 a0_2 _ _ l0_3 _ _ l0_4 _ _ l0_5 _ _ l0_6 _ _ l0_7 _ _ l0_8 _ _ l0_9 a0_10 _ _ l1 a2 _ _ l3 x10_1 t236 t237 _ ?side1 ?side2 ?side3 ?side4 ?side5 ?side6 ?side7 ?side8 ?side9 ?side10 ?side11 ?side12 ?side13 ?side14 ?side15 ?side16 ?side17 ?side18 ?side19 ?side20 A8.out).mono ?_); (case side1 => repeat (first | exact (Kd.C_below HR0_1.out HB.out) | (with_reducible refine Kd.C_alloc ?_ _) | (with_reducible refine Kd.C_drewN ?_ _) | (with_reducible refine Kd.C_drew ?_))); (case side2 => exact HC0_1.out); (case side3 => repeat (first | exact (Kd.C_below HR0_3.out HB.out) | (with_reducible refine Kd.C_alloc ?_ _) | (with_reducible refine Kd.C_drewN ?_ _) | (with_reducible refine Kd.C_drew ?_))); (case side4 => exact HC0_3.out); (case side5 => repeat (first | exact (Kd.C_below HR0_4.out HB.out) | (with_reducible refine Kd.C_alloc ?_ _) | (with_reducible refine Kd.C_drewN ?_ _) | (with_reducible refine Kd.C_drew ?_))); (case side6 => exact HC0_4.out); (case side7 => repeat (first | exact (Kd.C_below HR0_5.out HB.out) | (with_reducible refine Kd.C_alloc ?_ _) | (with_reducible refine Kd.C_drewN ?_ _) | (with_reducible refine Kd.C_drew ?_))); (case side8 => exact HC0_5.out); (case side9 => repeat (first | exact (Kd.C_below HR0_6.out HB.out) | (with_reducible refine Kd.C_alloc ?_ _) | (with_reducible refine Kd.C_drewN ?_ _) | (with_reducible refine Kd.C_drew ?_))); (case side10 => exact HC0_6.out); (case side11 => repeat (first | exact (Kd.C_below HR0_7.out HB.out) | (with_reducible refine Kd.C_alloc ?_ _) | (with_reducible refine Kd.C_drewN ?_ _) | (with_reducible refine Kd.C_drew ?_))); (case side12 => exact HC0_7.out); (case side13 => repeat (first | exact (Kd.C_below HR0_8.out HB.out) | (with_reducible refine Kd.C_alloc ?_ _) | (with_reducible refine Kd.C_drewN ?_ _) | (with_reducible refine Kd.C_drew ?_))); (case side14 => exact HC0_8.out); (case side15 => repeat (first | exact (Kd.C_below HR0_9.out HB.out) | (with_reducible refine Kd.C_alloc ?_ _) | (with_reducible refine Kd.C_drewN ?_ _) | (with_reducible refine Kd.C_drew ?_))); (case side16 => exact HC0_9.out); (case side17 => repeat (first | exact (Kd.C_below HR1.out HB.out) | (with_reducible refine Kd.C_alloc ?_ _) | (with_reducible refine Kd.C_drewN ?_ _) | (with_reducible refine Kd.C_drew ?_))); (case side18 => exact HC1.out); (case side19 => repeat (first | exact (Kd.C_below HR3.out HB.out) | (with_reducible refine Kd.C_alloc ?_ _) | (with_reducible refine Kd.C_drewN ?_ _) | (with_reducible refine Kd.C_drew ?_))); (case side20 => exact HC3.out); rintro e w11 ⟨rfl, hb⟩; refine ⟨_, rfl, ?_⟩; have n0_ := Aside0.mk (Kd.R_below (by (with_reducible repeat (first | apply Kd.R_alloc | apply Kd.R_drewN | apply Kd.R_drew)); exact HO_9.out) hb); have n1_ := Aside0.mk (bB (g := gb235) (o := .cells #[.string a0_0, .slice A0_1 l0_1.length c0_1, .int .i64 a0_2, .slice A0_3 l0_3.length c0_3, .slice A0_4 l0_4.length c0_4, .slice A0_5 l0_5.length c0_5, .slice A0_6 l0_6.length c0_6, .slice A0_7 l0_7.length c0_7, .slice A0_8 l0_8.length c0_8, .slice A0_9 l0_9.length c0_9, .int .i64 a0_10] 31 (0, 0)) (by (with_reducible repeat (first | refine bN ?_ _ | refine bD ?_ | refine bA ?_ _)); exact BK235.out) hb); have n2_ := Aside0.mk (bP (by repeat (first | (with_reducible first | exact HB.out | apply bL | apply bW | apply b1 | refine bS ?_ GE235.out) | exact HB.out)) hb); clear HO_9; clear BK235; clear HB; have HO_9 := n0_; have BK235 := n1_; have HB := n2_; clear n0_ n1_ n2_; (try clear hb); (try clear hb2); (try clear hk); (try clear hi)) | ((with_reducible refine gate_builtin (b := .append) (xs := #[.tmp 21, .tmp 28]) rfl ?_); at_builtin; refine Kd.R_append k40 (w0 := w) w.heap.size rfl (.tmp 21) (.tmp 28) 33 40 (.agg #[(.int .i64 0), (.int .i64 0)]) 16 rfl Try.underlying33 info40 rfl (by decide) (by omega) u9 x9_1 (⟨t236, t237⟩ : S40) [.int .i64 t236, .int .i64 t237] (fun _ => True) (fun _ => False) rfl rfl ?aP (fun _ hk => hk.elim) ?aF ?aO ?aB ?aS ?aL ?_; (case aP => exact k40_mkM _ _ _ (⟨t236, t237⟩ : S40)); (case aB => exact (by repeat (first | (with_reducible first | exact HB.out | apply bL | apply bW | apply b1 | refine bS ?_ GE235.out) | exact HB.out))); (case aF => exact (fun _ _ => trivial)); (case aO => exact (by (with_reducible repeat (first | apply Kd.R_alloc | apply Kd.R_drewN | apply Kd.R_drew)); exact HO_9.out)); (case aS => exact (bZ (by repeat (first | (with_reducible first | exact HB.out | apply bL | apply bW | apply b1 | refine bS ?_ GE235.out) | exact HB.out)))); (case aL => have := LMc9.out; omega); intro v239 w12 ho hb hg hat; rw [← Ny238.out] at ho; have n0_ := Aside0.mk (blk_grown (g := gb235) (o := .cells #[.string a0_0, .slice A0_1 l0_1.length c0_1, .int .i64 a0_2, .slice A0_3 l0_3.length c0_3, .slice A0_4 l0_4.length c0_4, .slice A0_5 l0_5.length c0_5, .slice A0_6 l0_6.length c0_6, .slice A0_7 l0_7.length c0_7, .slice A0_8 l0_8.length c0_8, .slice A0_9 l0_9.length c0_9, .int .i64 a0_10] 31 (0, 0)) (by (with_reducible repeat (first | refine bN ?_ _ | refine bD ?_ | refine bA ?_ _)); exact BK235.out) hg (Kd.R_ne HO_9.out BK235.out (by decide))); have n1_ := Aside0.mk (hb); have n2_ := Aside0.mk (ho); clear BK235; clear HB; clear HO_9; have BK235 := n0_; have HB := n1_; have HO240 := n2_; clear n0_ n1_ n2_; clear ho hb hg hat))
      go_roundg k1
      case measure => have := HK1.out; omega
      case rel => exact ⟨(y238), (wrap64 (x10_1 + 1)), (by first | rfl | (simp; done) | (simp [*]; done)), H', ⟨by have := HK1.out; omega⟩, ⟨by (with_reducible repeat (first | apply Kd.R_alloc | apply Kd.R_drewN | apply Kd.R_drew)); exact HO240.out⟩, ⟨by (with_reducible repeat (first | refine bN ?_ _ | refine bD ?_ | refine bA ?_ _)); exact BK235.out⟩, ⟨by repeat (first | (with_reducible first | exact HB.out | apply bL | apply bW | apply b1 | refine bS ?_ GE235.out) | exact HB.out)⟩⟩
     ·
      rw [if_neg c9] at H; exact absurd H (by simp)
    ·
     rw [if_neg c7] at H; have c7b0 : decide (x10_1 < 64) = false := decide_eq_false c7
     clear c7; obtain rfl := Option.some.inj H
     have hcz13_0 : wr.cell? ⟨gb235, 0, none⟩ = some (.string a0_0) := (bC BK235.out 0).trans rfl
     have hcz13_1 : wr.cell? ⟨gb235, 1, none⟩ = some (.slice A0_1 l0_1.length c0_1) := (bC BK235.out 1).trans rfl
     have hcz13_2 : wr.cell? ⟨gb235, 2, none⟩ = some (.int .i64 a0_2) := (bC BK235.out 2).trans rfl
     have hcz13_3 : wr.cell? ⟨gb235, 3, none⟩ = some (.slice A0_3 l0_3.length c0_3) := (bC BK235.out 3).trans rfl
     have hcz13_4 : wr.cell? ⟨gb235, 4, none⟩ = some (.slice A0_4 l0_4.length c0_4) := (bC BK235.out 4).trans rfl
     have hcz13_5 : wr.cell? ⟨gb235, 5, none⟩ = some (.slice A0_5 l0_5.length c0_5) := (bC BK235.out 5).trans rfl
     have hcz13_6 : wr.cell? ⟨gb235, 6, none⟩ = some (.slice A0_6 l0_6.length c0_6) := (bC BK235.out 6).trans rfl
     have hcz13_7 : wr.cell? ⟨gb235, 7, none⟩ = some (.slice A0_7 l0_7.length c0_7) := (bC BK235.out 7).trans rfl
     have hcz13_8 : wr.cell? ⟨gb235, 8, none⟩ = some (.slice A0_8 l0_8.length c0_8) := (bC BK235.out 8).trans rfl
     have hcz13_9 : wr.cell? ⟨gb235, 9, none⟩ = some (.slice A0_9 l0_9.length c0_9) := (bC BK235.out 9).trans rfl
     have hcz13_10 : wr.cell? ⟨gb235, 10, none⟩ = some (.int .i64 a0_10) := (bC BK235.out 10).trans rfl
     have hfz13_0 := bF BK235.out 0
     have hfz13_1 := bF BK235.out 1
     have hfz13_2 := bF BK235.out 2
     have hfz13_3 := bF BK235.out 3
     have hfz13_4 := bF BK235.out 4
     have hfz13_5 := bF BK235.out 5
     have hfz13_6 := bF BK235.out 6
     have hfz13_7 := bF BK235.out 7
     have hfz13_8 := bF BK235.out 8
     have hfz13_9 := bF BK235.out 9
     have hfz13_10 := bF BK235.out 10
     go_wp2
     go_ret
     exact ⟨_, by first | rfl | (simp [errW_none, errW_some] <;> rfl) | (simp [*, errW_none, errW_some] <;> rfl), by (with_reducible repeat (first | apply Kd.R_alloc | apply Kd.R_drewN | apply Kd.R_drew)); exact HO_9.out, by repeat (first | (with_reducible first | exact HB.out | apply bL | apply bW | apply b1 | refine bS ?_ GE235.out) | exact HB.out)⟩
   ·
    rw [if_neg c6] at H; have c6b0 : decide (x10_1 < a0_2) = false := decide_eq_false c6
    clear c6; obtain rfl := Option.some.inj H
    have hcz14_0 : wr.cell? ⟨gb235, 0, none⟩ = some (.string a0_0) := (bC BK235.out 0).trans rfl
    have hcz14_1 : wr.cell? ⟨gb235, 1, none⟩ = some (.slice A0_1 l0_1.length c0_1) := (bC BK235.out 1).trans rfl
    have hcz14_2 : wr.cell? ⟨gb235, 2, none⟩ = some (.int .i64 a0_2) := (bC BK235.out 2).trans rfl
    have hcz14_3 : wr.cell? ⟨gb235, 3, none⟩ = some (.slice A0_3 l0_3.length c0_3) := (bC BK235.out 3).trans rfl
    have hcz14_4 : wr.cell? ⟨gb235, 4, none⟩ = some (.slice A0_4 l0_4.length c0_4) := (bC BK235.out 4).trans rfl
    have hcz14_5 : wr.cell? ⟨gb235, 5, none⟩ = some (.slice A0_5 l0_5.length c0_5) := (bC BK235.out 5).trans rfl
    have hcz14_6 : wr.cell? ⟨gb235, 6, none⟩ = some (.slice A0_6 l0_6.length c0_6) := (bC BK235.out 6).trans rfl
    have hcz14_7 : wr.cell? ⟨gb235, 7, none⟩ = some (.slice A0_7 l0_7.length c0_7) := (bC BK235.out 7).trans rfl
    have hcz14_8 : wr.cell? ⟨gb235, 8, none⟩ = some (.slice A0_8 l0_8.length c0_8) := (bC BK235.out 8).trans rfl
    have hcz14_9 : wr.cell? ⟨gb235, 9, none⟩ = some (.slice A0_9 l0_9.length c0_9) := (bC BK235.out 9).trans rfl
    have hcz14_10 : wr.cell? ⟨gb235, 10, none⟩ = some (.int .i64 a0_10) := (bC BK235.out 10).trans rfl
    have hfz14_0 := bF BK235.out 0
    have hfz14_1 := bF BK235.out 1
    have hfz14_2 := bF BK235.out 2
    have hfz14_3 := bF BK235.out 3
    have hfz14_4 := bF BK235.out 4
    have hfz14_5 := bF BK235.out 5
    have hfz14_6 := bF BK235.out 6
    have hfz14_7 := bF BK235.out 7
    have hfz14_8 := bF BK235.out 8
    have hfz14_9 := bF BK235.out 9
    have hfz14_10 := bF BK235.out 10
    go_wp2
    go_ret
    exact ⟨_, by first | rfl | (simp [errW_none, errW_some] <;> rfl) | (simp [*, errW_none, errW_some] <;> rfl), by (with_reducible repeat (first | apply Kd.R_alloc | apply Kd.R_drewN | apply Kd.R_drew)); exact HO_9.out, by repeat (first | (with_reducible first | exact HB.out | apply bL | apply bW | apply b1 | refine bS ?_ GE235.out) | exact HB.out)⟩
def bourneref01_Add.j0 : Nat → Int → Int → Bool → Option (Int)
 | 0, _, _, _ => none
 | k + 1, x0, x1, x12 => if x12 = true then (some 9223372036854775807) else (if x1 < 0 then (if x0 < (wrap64 ((-9223372036854775808) - x1)) then (some (-9223372036854775808)) else (some (wrap64 (x0 + x1)))) else (some (wrap64 (x0 + x1))))
def bourneref01_Add.f (k : Nat) (a0 : Int) (a1 : Int) : Option (Int) := if a1 > 0 then (bourneref01_Add.j0 k a0 a1 (decide (a0 > (wrap64 (9223372036854775807 - a1))))) else (bourneref01_Add.j0 k a0 a1 false)
theorem bourneref01_Add.mono_l : ∀ k, (∀ y0 y1 y2, LeO (bourneref01_Add.j0 k y0 y1 y2) (bourneref01_Add.j0 (k + 1) y0 y1 y2))
 | 0 => fun _ _ _ r h => by simp [bourneref01_Add.j0] at h
 | k + 1 => by
  have ih0 := bourneref01_Add.mono_l k
  ·
   intro y0 y1 y2; unfold bourneref01_Add.j0
   repeat' first
   | (with_reducible exact ih0 _ _ _)
   | (with_reducible exact LeO.refl _)
   | (with_reducible exact LeO.none _)
   | (with_reducible refine LeO.ite ?_ ?_)
   | (with_reducible refine LeO.bind ?_ (fun _ => ?_))
   | exact ih0 _ _ _
   | exact LeO.none _
   | refine LeO.ite ?_ ?_
   | refine LeO.bind ?_ (fun _ => ?_)
theorem bourneref01_Add.mono : ∀ a0 a1 k, LeO (bourneref01_Add.f k a0 a1) (bourneref01_Add.f (k + 1) a0 a1) := by
 intro a0 a1 k; have ih0 := bourneref01_Add.mono_l k
 unfold bourneref01_Add.f
 repeat' first
   | (with_reducible exact ih0 _ _ _)
   | (with_reducible exact LeO.refl _)
   | (with_reducible exact LeO.none _)
   | (with_reducible refine LeO.ite ?_ ?_)
   | (with_reducible refine LeO.bind ?_ (fun _ => ?_))
   | exact ih0 _ _ _
   | exact LeO.none _
   | refine LeO.ite ?_ ?_
   | refine LeO.bind ?_ (fun _ => ?_)
set_option maxHeartbeats 8000000 in
set_option maxRecDepth 100000 in
theorem bourneref01_Add.calls (k : Nat) (a0 : Int) (a1 : Int) (r : Int) (w : World) (h : bourneref01_Add.f k a0 a1 = some r) :
  Calls Try.prog 34 #[.int .i64 a0, .int .i64 a1] w fun e w' => e = .returned (.int .i64 r) ∧ Drawn0 w w' := by
 have H : (if a1 > 0 then (bourneref01_Add.j0 k a0 a1 (decide (a0 > (wrap64 (9223372036854775807 - a1))))) else (bourneref01_Add.j0 k a0 a1 false)) = some r := h
 clear h; have HC3 := Aside0.mk H
 clear H; go_enter Try.func34, Try.ntmps34
 go_upto_region 1 with (fail)
 go_cut [12] (fun v12 wc => ∃ (kq : Nat) (x12_2 : Bool), v12 = .bool x12_2 ∧ Aside0 (bourneref01_Add.j0 kq a0 a1 x12_2 = some r) ∧ Aside0 (kq ≤ k) ∧ Drawn0 w wc)
 case first =>
  have H := HC3.out
  clear HC3; by_cases c4 : a1 > 0
  ·
   rw [if_pos c4] at H; have c4b0 : decide (0 < a1) = true := decide_eq_true c4
   clear c4; (first | rw [c4b0] | (simp only [i64_w, i32_w]; rw [c4b0]) | skip)
   have H' := Aside0.mk H
   clear H; go_wp2
   go_meet
   case rel => exact ⟨_, (decide (a0 > (wrap64 (9223372036854775807 - a1)))), (by first | rfl | (simp; done) | (simp [*]; done)), H', ⟨by first | omega | exact Nat.le_refl _⟩, by repeat (first | exact Drawn0.refl _ | apply Drawn0.step)⟩
  ·
   rw [if_neg c4] at H; have c4b0 : decide (0 < a1) = false := decide_eq_false c4
   clear c4; (first | rw [c4b0] | (simp only [i64_w, i32_w]; rw [c4b0]) | skip)
   have H' := Aside0.mk H
   clear H; go_wp2
   go_meet
   case rel => exact ⟨_, (false), (by first | rfl | (simp; done) | (simp [*]; done)), H', ⟨by first | omega | exact Nat.le_refl _⟩, by repeat (first | exact Drawn0.refl _ | apply Drawn0.step)⟩
 case rest =>
  clear HC3; try clear p2
  try clear c3
  try clear c4
  try clear c4b0
  obtain ⟨kq, x12_2, rfl, HA, HJ2, ⟨mc2, rfl⟩⟩ := hcut
  cases kq with
  | zero => exact absurd HA.out (by simp [bourneref01_Add.j0])
  | succ kj2 =>
   have H := HA.out
   clear HA; simp only [bourneref01_Add.j0] at H; by_cases c5 : x12_2 = true
   ·
    subst c5; have H1 : (some 9223372036854775807) = some r := by rw [if_pos rfl] at H; exact H
    clear H; have H := H1
    clear H1; obtain rfl := Option.some.inj H
    go_wp2
    go_ret
    exact ⟨by first | rfl | (simp; done) | (simp [*]; done), by repeat (first | exact Drawn0.refl _ | apply Drawn0.step)⟩
   ·
    replace c5 := Bool.eq_false_iff.mpr c5
    subst c5; have H1 : (if a1 < 0 then (if a0 < (wrap64 ((-9223372036854775808) - a1)) then (some (-9223372036854775808)) else (some (wrap64 (a0 + a1)))) else (some (wrap64 (a0 + a1)))) = some r := by rw [if_neg (show ¬ (false = true) by decide)] at H; exact H
    clear H; have H := H1
    clear H1; by_cases c6 : a1 < 0
    ·
     rw [if_pos c6] at H; have c6b0 : decide (a1 < 0) = true := decide_eq_true c6
     clear c6; by_cases c7 : a0 < (wrap64 ((-9223372036854775808) - a1))
     ·
      rw [if_pos c7] at H; have c7b0 : decide (a0 < (wrap64 ((-9223372036854775808) - a1))) = true := decide_eq_true c7
      clear c7; obtain rfl := Option.some.inj H
      go_wp2
      go_ret
      exact ⟨by first | rfl | (simp; done) | (simp [*]; done), by repeat (first | exact Drawn0.refl _ | apply Drawn0.step)⟩
     ·
      rw [if_neg c7] at H; have c7b0 : decide (a0 < (wrap64 ((-9223372036854775808) - a1))) = false := decide_eq_false c7
      clear c7; obtain rfl := Option.some.inj H
      go_wp2
      go_ret
      exact ⟨by first | rfl | (simp; done) | (simp [*]; done), by repeat (first | exact Drawn0.refl _ | apply Drawn0.step)⟩
    ·
     rw [if_neg c6] at H; have c6b0 : decide (a1 < 0) = false := decide_eq_false c6
     clear c6; obtain rfl := Option.some.inj H
     go_wp2
     go_ret
     exact ⟨by first | rfl | (simp; done) | (simp [*]; done), by repeat (first | exact Drawn0.refl _ | apply Drawn0.step)⟩
def bourneref26_Litres.j0 : Nat → Int → Int → Bool → Option (Int)
 | 0, _, _, _ => none
 | k + 1, x0, x1, x13 => if x13 = true then (some 0) else ((bourneref01_Scale.f k x0 x1 1).bind fun bt241 => (if bt241.2.2 = true then (some bt241.1) else (some 1125899906842624)))
def bourneref26_Litres.f (k : Nat) (a0 : Int) (a1 : Int) : Option (Int) := if a0 ≤ 0 then (bourneref26_Litres.j0 k a0 a1 true) else (bourneref26_Litres.j0 k a0 a1 (decide (a1 ≤ 0)))
theorem bourneref26_Litres.mono_l : ∀ k, (∀ y0 y1 y2, LeO (bourneref26_Litres.j0 k y0 y1 y2) (bourneref26_Litres.j0 (k + 1) y0 y1 y2))
 | 0 => fun _ _ _ r h => by simp [bourneref26_Litres.j0] at h
 | k + 1 => by
  have ih0 := bourneref26_Litres.mono_l k
  ·
   intro y0 y1 y2; unfold bourneref26_Litres.j0
   repeat' first
   | (with_reducible exact ih0 _ _ _)
   | (with_reducible exact bourneref01_Scale.mono _ _ _ _)
   | (with_reducible exact LeO.refl _)
   | (with_reducible exact LeO.none _)
   | (with_reducible refine LeO.ite ?_ ?_)
   | (with_reducible refine LeO.bind ?_ (fun _ => ?_))
   | exact ih0 _ _ _
   | exact bourneref01_Scale.mono _ _ _ _
   | exact LeO.none _
   | refine LeO.ite ?_ ?_
   | refine LeO.bind ?_ (fun _ => ?_)
theorem bourneref26_Litres.mono : ∀ a0 a1 k, LeO (bourneref26_Litres.f k a0 a1) (bourneref26_Litres.f (k + 1) a0 a1) := by
 intro a0 a1 k; have ih0 := bourneref26_Litres.mono_l k
 unfold bourneref26_Litres.f
 repeat' first
   | (with_reducible exact ih0 _ _ _)
   | (with_reducible exact bourneref01_Scale.mono _ _ _ _)
   | (with_reducible exact LeO.refl _)
   | (with_reducible exact LeO.none _)
   | (with_reducible refine LeO.ite ?_ ?_)
   | (with_reducible refine LeO.bind ?_ (fun _ => ?_))
   | exact ih0 _ _ _
   | exact bourneref01_Scale.mono _ _ _ _
   | exact LeO.none _
   | refine LeO.ite ?_ ?_
   | refine LeO.bind ?_ (fun _ => ?_)
set_option maxHeartbeats 8000000 in
set_option maxRecDepth 100000 in
theorem bourneref26_Litres.calls (k : Nat) (a0 : Int) (a1 : Int) (r : Int) (w : World) (h : bourneref26_Litres.f k a0 a1 = some r) :
  Calls Try.prog 35 #[.int .i64 a0, .int .i64 a1] w fun e w' => e = .returned (.int .i64 r) ∧ Drawn0 w w' := by
 have H : (if a0 ≤ 0 then (bourneref26_Litres.j0 k a0 a1 true) else (bourneref26_Litres.j0 k a0 a1 (decide (a1 ≤ 0)))) = some r := h
 clear h; have HC3 := Aside0.mk H
 clear H; go_enter Try.func35, Try.ntmps35
 go_upto_region 1 with (fail)
 go_cut [13] (fun v13 wc => ∃ (kq : Nat) (x13_2 : Bool), v13 = .bool x13_2 ∧ Aside0 (bourneref26_Litres.j0 kq a0 a1 x13_2 = some r) ∧ Aside0 (kq ≤ k) ∧ Drawn0 w wc)
 case first =>
  have H := HC3.out
  clear HC3; by_cases c4 : a0 ≤ 0
  ·
   rw [if_pos c4] at H; have c4b0 : decide (a0 ≤ 0) = true := decide_eq_true c4
   clear c4; (first | rw [c4b0] | (simp only [i64_w, i32_w]; rw [c4b0]) | skip)
   have H' := Aside0.mk H
   clear H; go_wp2
   go_meet
   case rel => exact ⟨_, (true), (by first | rfl | (simp; done) | (simp [*]; done)), H', ⟨by first | omega | exact Nat.le_refl _⟩, by repeat (first | exact Drawn0.refl _ | apply Drawn0.step)⟩
  ·
   rw [if_neg c4] at H; have c4b0 : decide (a0 ≤ 0) = false := decide_eq_false c4
   clear c4; (first | rw [c4b0] | (simp only [i64_w, i32_w]; rw [c4b0]) | skip)
   have H' := Aside0.mk H
   clear H; go_wp2
   go_meet
   case rel => exact ⟨_, (decide (a1 ≤ 0)), (by first | rfl | (simp; done) | (simp [*]; done)), H', ⟨by first | omega | exact Nat.le_refl _⟩, by repeat (first | exact Drawn0.refl _ | apply Drawn0.step)⟩
 case rest =>
  clear HC3; try clear p2
  try clear c3
  try clear c4
  try clear c4b0
  obtain ⟨kq, x13_2, rfl, HA, HJ2, ⟨mc2, rfl⟩⟩ := hcut
  cases kq with
  | zero => exact absurd HA.out (by simp [bourneref26_Litres.j0])
  | succ kj2 =>
   have H := HA.out
   clear HA; simp only [bourneref26_Litres.j0] at H; by_cases c5 : x13_2 = true
   ·
    subst c5; have H1 : (some 0) = some r := by rw [if_pos rfl] at H; exact H
    clear H; have H := H1
    clear H1; obtain rfl := Option.some.inj H
    go_wp2
    go_ret
    exact ⟨by first | rfl | (simp; done) | (simp [*]; done), by repeat (first | exact Drawn0.refl _ | apply Drawn0.step)⟩
   ·
    replace c5 := Bool.eq_false_iff.mpr c5
    subst c5; have H1 : ((bourneref01_Scale.f kj2 a0 a1 1).bind fun bt241 => (if bt241.2.2 = true then (some bt241.1) else (some 1125899906842624))) = some r := by rw [if_neg (show ¬ (false = true) by decide)] at H; exact H
    clear H; have H := H1
    clear H1; replace H := Option.bind_eq_some_iff.mp H
    obtain ⟨⟨t241, t242, t243⟩, A60, H⟩ := H
    dsimp only at H
    have A6 := Aside0.mk A60
    clear A60; by_cases c7 : t243 = true
    ·
     subst c7; have H1 : (some t241) = some r := by rw [if_pos rfl] at H; exact H
     clear H; have H := H1
     clear H1; obtain rfl := Option.some.inj H
     go_wp2_with (first | ((with_reducible refine gate_callee (f := 44) rfl ?_); refine goesL_ (some 17) rfl rfl Try.func44 (by kernel_rfl) rfl #[.int .i64 a0, .int .i64 a1, .int .i64 1] rfl (by (try simp only [List.map_toArray, List.map_cons, List.map_nil]); first | done | rfl | (simp only [List.length_drop, List.length_take]; rfl)) ?_; (with_reducible refine (bourneref01_Scale.calls kj2 a0 a1 1 t241 t242 true _ A6.out).mono ?_); rintro e w' ⟨rfl, ⟨nd, rfl⟩⟩; refine ⟨_, rfl, ?_⟩))
     go_ret
     exact ⟨by first | rfl | (simp; done) | (simp [*]; done), by repeat (first | exact Drawn0.refl _ | apply Drawn0.step)⟩
    ·
     replace c7 := Bool.eq_false_iff.mpr c7
     subst c7; have H1 : (some 1125899906842624) = some r := by rw [if_neg (show ¬ (false = true) by decide)] at H; exact H
     clear H; have H := H1
     clear H1; obtain rfl := Option.some.inj H
     go_wp2_with (first | ((with_reducible refine gate_callee (f := 44) rfl ?_); refine goesL_ (some 17) rfl rfl Try.func44 (by kernel_rfl) rfl #[.int .i64 a0, .int .i64 a1, .int .i64 1] rfl (by (try simp only [List.map_toArray, List.map_cons, List.map_nil]); first | done | rfl | (simp only [List.length_drop, List.length_take]; rfl)) ?_; (with_reducible refine (bourneref01_Scale.calls kj2 a0 a1 1 t241 t242 false _ A6.out).mono ?_); rintro e w' ⟨rfl, ⟨nd, rfl⟩⟩; refine ⟨_, rfl, ?_⟩))
     go_ret
     exact ⟨by first | rfl | (simp; done) | (simp [*]; done), by repeat (first | exact Drawn0.refl _ | apply Drawn0.step)⟩
end Go.Proofs.Ytpklgbnihgljmaa.Fn
