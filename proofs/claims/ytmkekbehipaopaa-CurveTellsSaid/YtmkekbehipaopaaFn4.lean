-- written by this session's program myprint.py out of the translation; Lean checks it
import Derived.Test.YtmkekbehipaopaaFn0
import Derived.Test.YtmkekbehipaopaaFn2
import Derived.Test.YtmkekbehipaopaaFn3
import Derived.Test.YtmkekbehipaopaaSearch
namespace Go.Proofs.Ytmkekbehipaopaa.Fn
open Go.RowKit Go.Proofs.YtmkekbehipaopaaW.PrintWords Go.Proofs.YtmkekbehipaopaaW.PrintLast Go.Proofs.YtmkekbehipaopaaW.PrintMore
open World renaming block_lt_of_cell? → wL
open Bool renaming true → T, false → F
open List renaming setIfInBounds_toArray → lA, set_cons_zero → lZ, set_cons_succ → lS
open Go.Proofs.YtmkekbehipaopaaW.PrintWords renaming blk_drewN → bN, blk_drew → bD, blk_alloc → bA, below_set → bS, blk_cell → bC, blk_below → bB, blk_frozen → bF, pw_below_drewN → bW, below_drew1 → b1, below_alloc → bL, below_step → bP, below_size → bZ, blk_lt → bT
attribute [local go_sem] max2_int min2_int max_two min_two max_three min_three max_four min_four
set_option linter.unusedVariables false
set_option linter.unusedSimpArgs false
def curve_Least.f (k : Nat) (l0 : List (S37)) (a1 : Int) : Option (Int × Bool) := (curve_Right.f k l0).bind fun t114 => (if t114 = true then ((search_y.f l0 a1).bind fun t115 => (if t115 = (l0.length : Int) then (some (0, false)) else (if t115 = 0 then (some (0, true)) else (if 0 ≤ (wrap64 (t115 - 1)) then (if (wrap64 (t115 - 1)) < (l0.length : Int) then (if 0 ≤ t115 then (if t115 < (l0.length : Int) then ((exact_Scale.f k (wrap64 (a1 - ((rd_T37 l0 (wrap64 (t115 - 1))).f1))) (wrap64 (((rd_T37 l0 t115).f0) - ((rd_T37 l0 (wrap64 (t115 - 1))).f0))) (wrap64 (((rd_T37 l0 t115).f1) - ((rd_T37 l0 (wrap64 (t115 - 1))).f1)))).bind fun bt120 => (if bt120.2.1 > 0 then (some (wrap64 (((rd_T37 l0 (wrap64 (t115 - 1))).f0) + (wrap64 (bt120.1 + 1))), true)) else (some (wrap64 (((rd_T37 l0 (wrap64 (t115 - 1))).f0) + bt120.1), true)))) else (none)) else (none)) else (none)) else (none))))) else (some (0, false)))
theorem curve_Least.mono : ∀ a0 a1 k, LeO (curve_Least.f k a0 a1) (curve_Least.f (k + 1) a0 a1) := by
 intro a0 a1 k; unfold curve_Least.f
 repeat' first
   | (with_reducible exact curve_Right.mono _ _)
   | (with_reducible exact exact_Scale.mono _ _ _ _)
   | (with_reducible exact LeO.refl _)
   | (with_reducible exact LeO.none _)
   | (with_reducible refine LeO.ite ?_ ?_)
   | (with_reducible refine LeO.bind ?_ (fun _ => ?_))
   | exact curve_Right.mono _ _
   | exact exact_Scale.mono _ _ _ _
   | exact LeO.none _
   | refine LeO.ite ?_ ?_
   | refine LeO.bind ?_ (fun _ => ?_)
def curve_Least.T9 : Bool × List (List Nat × List Nat) := (true, [([], []), ([], []), ([1], [1]), ([0, 2], [0, 2]), ([3], [3]), ([], []), ([], []), ([5, 6], [5, 6]), ([7], [7]), ([], []), ([], []), ([9, 4, 0, 1, 2, 3, 4, 9, 10], [4, 9]), ([10, 8, 11, 0, 1, 2, 3, 4, 5, 6, 7, 8, 9, 10, 11], [8, 10])])
def curve_Least.B9 : List Nat := [0, 0, 2, 7, 15, 0, 0, 96, 224, 0, 0, 1567, 4095]
theorem curve_Least.tab9 : rtab .any (opsOf Try.f9 9) = curve_Least.T9 := by kernel_rfl
theorem curve_Least.bits9 : waitsOk curve_Least.T9.2 curve_Least.B9 = true := by kernel_rfl
set_option maxHeartbeats 8000000 in
set_option maxRecDepth 100000 in
theorem curve_Least.calls (k : Nat) (A0 : Option Addr) (c0 : Nat) (l0 : List (S37)) (a1 : Int) (r1 : Int) (r2 : Bool) (w : World) (hr0 : Kd.C k37 w A0 l0.length l0) (hc0 : l0.length ≤ c0) (h : curve_Least.f k l0 a1 = some (r1, r2)) :
  Calls Try.prog 9 #[.slice A0 l0.length c0, .int .i64 a1] w fun e w' => e = .returned (.tuple #[.int .i64 r1, .bool r2]) ∧ Below w.heap.size w w' := by
 obtain ⟨W0, hW0⟩ : ∃ W0, W0 = (w.alloc (.cells #[.slice A0 l0.length c0] 22)).alloc (.cells #[.int .i64 a1] 3) := ⟨_, rfl⟩
 have HBZ : Below w.heap.size w W0 := by rw [hW0]; exact bL (bL (Below.refl _ w) _) _
 have hq1 : W0.cell? ⟨w.heap.size, 0, none⟩ = some (.slice A0 l0.length c0) := by rw [hW0]; exact box_fst _ _ _ _ _
 have hq2 : W0.cell? ⟨w.heap.size + 1, 0, none⟩ = some (.int .i64 a1) := by rw [hW0]; exact box_snd _ _ _ _ _
 replace hW0 := Aside0.mk hW0
 replace HBZ := Aside0.mk HBZ
 replace hr0 := Kd.C_below hr0 HBZ.out
 suffices h_ : Calls Try.prog 9 #[.slice A0 l0.length c0, .int .i64 a1] w fun e w' => e = .returned (.tuple #[.int .i64 r1, .bool r2]) ∧ Below W0.heap.size W0 w' from h_.mono fun e w' ⟨he, hb⟩ => ⟨he, bP HBZ.out hb⟩
 have hu37 := Try.underlying37
 have HR0 := Aside0.mk hr0
 have HC0 := Aside0.mk hc0
 clear hr0 hc0; have HB := Aside0.mk (Below.refl W0.heap.size W0)
 have H : ((curve_Right.f k l0).bind fun t114 => (if t114 = true then ((search_y.f l0 a1).bind fun t115 => (if t115 = (l0.length : Int) then (some (0, false)) else (if t115 = 0 then (some (0, true)) else (if 0 ≤ (wrap64 (t115 - 1)) then (if (wrap64 (t115 - 1)) < (l0.length : Int) then (if 0 ≤ t115 then (if t115 < (l0.length : Int) then ((exact_Scale.f k (wrap64 (a1 - ((rd_T37 l0 (wrap64 (t115 - 1))).f1))) (wrap64 (((rd_T37 l0 t115).f0) - ((rd_T37 l0 (wrap64 (t115 - 1))).f0))) (wrap64 (((rd_T37 l0 t115).f1) - ((rd_T37 l0 (wrap64 (t115 - 1))).f1)))).bind fun bt120 => (if bt120.2.1 > 0 then (some (wrap64 (((rd_T37 l0 (wrap64 (t115 - 1))).f0) + (wrap64 (bt120.1 + 1))), true)) else (some (wrap64 (((rd_T37 l0 (wrap64 (t115 - 1))).f0) + bt120.1), true)))) else (none)) else (none)) else (none)) else (none))))) else (some (0, false)))) = some (r1, r2) := h
 clear h; replace H := Option.bind_eq_some_iff.mp H
 obtain ⟨t114, A30, H⟩ := H
 have A3 := Aside0.mk A30
 clear A30; by_cases c4 : t114 = true
 ·
  subst c4; have H1 : ((search_y.f l0 a1).bind fun t115 => (if t115 = (l0.length : Int) then (some (0, false)) else (if t115 = 0 then (some (0, true)) else (if 0 ≤ (wrap64 (t115 - 1)) then (if (wrap64 (t115 - 1)) < (l0.length : Int) then (if 0 ≤ t115 then (if t115 < (l0.length : Int) then ((exact_Scale.f k (wrap64 (a1 - ((rd_T37 l0 (wrap64 (t115 - 1))).f1))) (wrap64 (((rd_T37 l0 t115).f0) - ((rd_T37 l0 (wrap64 (t115 - 1))).f0))) (wrap64 (((rd_T37 l0 t115).f1) - ((rd_T37 l0 (wrap64 (t115 - 1))).f1)))).bind fun bt120 => (if bt120.2.1 > 0 then (some (wrap64 (((rd_T37 l0 (wrap64 (t115 - 1))).f0) + (wrap64 (bt120.1 + 1))), true)) else (some (wrap64 (((rd_T37 l0 (wrap64 (t115 - 1))).f0) + bt120.1), true)))) else (none)) else (none)) else (none)) else (none))))) = some (r1, r2) := by rw [if_pos rfl] at H; exact H
  clear H; have H := H1
  clear H1; replace H := Option.bind_eq_some_iff.mp H
  obtain ⟨t115, A50, H⟩ := H
  have A5 := Aside0.mk A50
  clear A50; by_cases c6 : t115 = (l0.length : Int)
  ·
   rw [if_pos c6] at H; have c6b0 : (t115 == (l0.length : Int)) = true := beq_iff_eq.mpr c6
   have c6b1 : (t115 != (l0.length : Int)) = false := bne_eq_false_iff_eq.mpr c6
   clear c6; simp only [Option.some.injEq, Prod.mk.injEq] at H; obtain ⟨rfl, rfl⟩ := H
   go_enter Try.func9, Try.ntmps9
   have hbx1 := ((HB.out.cell (wL W0 _ hq1)).trans hq1)
   have hbx2 := ((HB.out.cell (wL W0 _ hq2)).trans hq2)
   go_wp2_with (first | ((with_reducible refine gate_callee (f := 11) rfl ?_); refine goesL_ (some 13) rfl rfl Try.func11 (by kernel_rfl) rfl #[.slice A0 l0.length c0] rfl (by (try simp only [List.map_toArray, List.map_cons, List.map_nil]); first | done | rfl | (simp only [List.length_drop, List.length_take]; rfl)) ?_; (try rw [← hW0.out]); (with_reducible refine (curve_Right.calls k _ _ l0 true _ ?side1 ?side2 A3.out).mono ?_); (case side1 => repeat (first | exact HR0.out | (with_reducible refine Kd.C_alloc ?_ _) | (with_reducible refine Kd.C_drewN ?_ _) | (with_reducible refine Kd.C_drew ?_))); (case side2 => exact HC0.out); rintro e w7 ⟨rfl, hb⟩; refine ⟨_, rfl, ?_⟩; have n0_ := Aside0.mk (bP (by repeat (first | (with_reducible first | exact HB.out | apply bL | apply bW | apply b1) | exact HB.out)) hb); clear HB; have HB := n0_; clear n0_; (try clear hbx1 hbx2); have hbx1 := ((HB.out.cell (wL W0 _ hq1)).trans hq1); have hbx2 := ((HB.out.cell (wL W0 _ hq2)).trans hq2); (try clear hb); (try clear hb2); (try clear hk); (try clear hi)) | ((with_reducible refine gate_callee (f := 22) rfl ?_); refine goesL_ (some 18) rfl rfl Try.func22 (by kernel_rfl) rfl #[.int .i64 (l0.length : Int), .func (.func 23) #[] #[.pointer (some ⟨w.heap.size, 0, none⟩), .pointer (some ⟨w.heap.size + 1, 0, none⟩)]] rfl (by (try simp only [List.map_toArray, List.map_cons, List.map_nil]); first | done | rfl | (simp only [List.length_drop, List.length_take]; rfl)) ?_; (try rw [← hW0.out]); (with_reducible refine (search_y.calls w.heap.size (w.heap.size + 1) A0 c0 l0 a1 t115 _ ?bx1 ?bx2 ?side1 A5.out).mono ?_); (case bx1 => exact ((HB.out.cell (wL W0 _ hq1)).trans hq1)); (case bx2 => exact ((HB.out.cell (wL W0 _ hq2)).trans hq2)); (case side1 => repeat (first | exact (Kd.C_below HR0.out HB.out) | (with_reducible refine Kd.C_alloc ?_ _) | (with_reducible refine Kd.C_drewN ?_ _) | (with_reducible refine Kd.C_drew ?_))); rintro e w8 ⟨rfl, hb⟩; refine ⟨_, rfl, ?_⟩; have n0_ := Aside0.mk (bP (by repeat (first | (with_reducible first | exact HB.out | apply bL | apply bW | apply b1) | exact HB.out)) hb); clear HB; have HB := n0_; clear n0_; (try clear hbx1 hbx2); have hbx1 := ((HB.out.cell (wL W0 _ hq1)).trans hq1); have hbx2 := ((HB.out.cell (wL W0 _ hq2)).trans hq2); (try clear hb); (try clear hb2); (try clear hk); (try clear hi)))
   go_ret2
   exact ⟨by first | rfl | (simp [errW_none, errW_some] <;> rfl) | (simp [*, errW_none, errW_some] <;> rfl), by repeat (first | (with_reducible first | exact HB.out | apply bL | apply bW | apply b1) | exact HB.out)⟩
  ·
   rw [if_neg c6] at H; have c6b0 : (t115 == (l0.length : Int)) = false := beq_eq_false_iff_ne.mpr c6
   have c6b1 : (t115 != (l0.length : Int)) = true := bne_iff_ne.mpr c6
   by_cases c9 : t115 = 0
   ·
    rw [if_pos c9] at H; have c9b0 : (t115 == 0) = true := beq_iff_eq.mpr c9
    have c9b1 : (t115 != 0) = false := bne_eq_false_iff_eq.mpr c9
    clear c9; simp only [Option.some.injEq, Prod.mk.injEq] at H; obtain ⟨rfl, rfl⟩ := H
    go_enter Try.func9, Try.ntmps9
    have hbx1 := ((HB.out.cell (wL W0 _ hq1)).trans hq1)
    have hbx2 := ((HB.out.cell (wL W0 _ hq2)).trans hq2)
    go_wp2_with (first | ((with_reducible refine gate_callee (f := 11) rfl ?_); refine goesL_ (some 13) rfl rfl Try.func11 (by kernel_rfl) rfl #[.slice A0 l0.length c0] rfl (by (try simp only [List.map_toArray, List.map_cons, List.map_nil]); first | done | rfl | (simp only [List.length_drop, List.length_take]; rfl)) ?_; (try rw [← hW0.out]); (with_reducible refine (curve_Right.calls k _ _ l0 true _ ?side1 ?side2 A3.out).mono ?_); (case side1 => repeat (first | exact HR0.out | (with_reducible refine Kd.C_alloc ?_ _) | (with_reducible refine Kd.C_drewN ?_ _) | (with_reducible refine Kd.C_drew ?_))); (case side2 => exact HC0.out); rintro e w10 ⟨rfl, hb⟩; refine ⟨_, rfl, ?_⟩; have n0_ := Aside0.mk (bP (by repeat (first | (with_reducible first | exact HB.out | apply bL | apply bW | apply b1) | exact HB.out)) hb); clear HB; have HB := n0_; clear n0_; (try clear hbx1 hbx2); have hbx1 := ((HB.out.cell (wL W0 _ hq1)).trans hq1); have hbx2 := ((HB.out.cell (wL W0 _ hq2)).trans hq2); (try clear hb); (try clear hb2); (try clear hk); (try clear hi)) | ((with_reducible refine gate_callee (f := 22) rfl ?_); refine goesL_ (some 18) rfl rfl Try.func22 (by kernel_rfl) rfl #[.int .i64 (l0.length : Int), .func (.func 23) #[] #[.pointer (some ⟨w.heap.size, 0, none⟩), .pointer (some ⟨w.heap.size + 1, 0, none⟩)]] rfl (by (try simp only [List.map_toArray, List.map_cons, List.map_nil]); first | done | rfl | (simp only [List.length_drop, List.length_take]; rfl)) ?_; (try rw [← hW0.out]); (with_reducible refine (search_y.calls w.heap.size (w.heap.size + 1) A0 c0 l0 a1 t115 _ ?bx1 ?bx2 ?side1 A5.out).mono ?_); (case bx1 => exact ((HB.out.cell (wL W0 _ hq1)).trans hq1)); (case bx2 => exact ((HB.out.cell (wL W0 _ hq2)).trans hq2)); (case side1 => repeat (first | exact (Kd.C_below HR0.out HB.out) | (with_reducible refine Kd.C_alloc ?_ _) | (with_reducible refine Kd.C_drewN ?_ _) | (with_reducible refine Kd.C_drew ?_))); rintro e w11 ⟨rfl, hb⟩; refine ⟨_, rfl, ?_⟩; have n0_ := Aside0.mk (bP (by repeat (first | (with_reducible first | exact HB.out | apply bL | apply bW | apply b1) | exact HB.out)) hb); clear HB; have HB := n0_; clear n0_; (try clear hbx1 hbx2); have hbx1 := ((HB.out.cell (wL W0 _ hq1)).trans hq1); have hbx2 := ((HB.out.cell (wL W0 _ hq2)).trans hq2); (try clear hb); (try clear hb2); (try clear hk); (try clear hi)))
    go_ret2
    exact ⟨by first | rfl | (simp [errW_none, errW_some] <;> rfl) | (simp [*, errW_none, errW_some] <;> rfl), by repeat (first | (with_reducible first | exact HB.out | apply bL | apply bW | apply b1) | exact HB.out)⟩
   ·
    rw [if_neg c9] at H; have c9b0 : (t115 == 0) = false := beq_eq_false_iff_ne.mpr c9
    have c9b1 : (t115 != 0) = true := bne_iff_ne.mpr c9
    obtain ⟨ji12, hji12⟩ : ∃ j_ : Int, (wrap64 (t115 - 1)) = j_ := ⟨_, rfl⟩
    replace H : (if 0 ≤ (ji12) then (if (ji12) < (l0.length : Int) then (if 0 ≤ t115 then (if t115 < (l0.length : Int) then ((exact_Scale.f k (wrap64 (a1 - ((rd_T37 l0 (ji12)).f1))) (wrap64 (((rd_T37 l0 t115).f0) - ((rd_T37 l0 (ji12)).f0))) (wrap64 (((rd_T37 l0 t115).f1) - ((rd_T37 l0 (ji12)).f1)))).bind fun bt120 => (if bt120.2.1 > 0 then (some (wrap64 (((rd_T37 l0 (ji12)).f0) + (wrap64 (bt120.1 + 1))), true)) else (some (wrap64 (((rd_T37 l0 (ji12)).f0) + bt120.1), true)))) else (none)) else (none)) else (none)) else (none)) = some (r1, r2) := by first | (rw [hji12] at H; exact H) | (simp only [hji12] at H ⊢; exact H)
    (try rw [hji12] at A3); (try rw [hji12] at A5); have hji12w : (IntKind.i64.wrap (t115 - 1)) = ji12 := (i64_w _).trans hji12
    by_cases c13 : 0 ≤ (ji12)
    ·
     rw [if_pos c13] at H; have c13b0 : decide (0 ≤ (ji12)) = true := decide_eq_true c13
     clear c13; by_cases c14 : (ji12) < (l0.length : Int)
     ·
      rw [if_pos c14] at H; have c14b0 : decide ((ji12) < (l0.length : Int)) = true := decide_eq_true c14
      clear c14; by_cases c15 : 0 ≤ t115
      ·
       rw [if_pos c15] at H; have c15b0 : decide (0 ≤ t115) = true := decide_eq_true c15
       clear c15; by_cases c16 : t115 < (l0.length : Int)
       ·
        rw [if_pos c16] at H; have c16b0 : decide (t115 < (l0.length : Int)) = true := decide_eq_true c16
        clear c16; replace H := Option.bind_eq_some_iff.mp H
        obtain ⟨⟨t120, t121, t122⟩, A170, H⟩ := H
        dsimp only at H
        have A17 := Aside0.mk A170
        clear A170; by_cases c18 : t121 > 0
        ·
         rw [if_pos c18] at H; have c18b0 : decide (0 < t121) = true := decide_eq_true c18
         clear c18; simp only [Option.some.injEq, Prod.mk.injEq] at H; obtain ⟨rfl, rfl⟩ := H
         go_enter Try.func9, Try.ntmps9
         have hbx1 := ((HB.out.cell (wL W0 _ hq1)).trans hq1)
         have hbx2 := ((HB.out.cell (wL W0 _ hq2)).trans hq2)
         try go_wp2_with (first | ((with_reducible refine gate_callee (f := 11) rfl ?_); refine goesL_ (some 13) rfl rfl Try.func11 (by kernel_rfl) rfl #[.slice A0 l0.length c0] rfl (by (try simp only [List.map_toArray, List.map_cons, List.map_nil]); first | done | rfl | (simp only [List.length_drop, List.length_take]; rfl)) ?_; (try rw [← hW0.out]); (with_reducible refine (curve_Right.calls k _ _ l0 true _ ?side1 ?side2 A3.out).mono ?_); (case side1 => repeat (first | exact HR0.out | (with_reducible refine Kd.C_alloc ?_ _) | (with_reducible refine Kd.C_drewN ?_ _) | (with_reducible refine Kd.C_drew ?_))); (case side2 => exact HC0.out); rintro e w19 ⟨rfl, hb⟩; refine ⟨_, rfl, ?_⟩; have n0_ := Aside0.mk (bP (by repeat (first | (with_reducible first | exact HB.out | apply bL | apply bW | apply b1) | exact HB.out)) hb); clear HB; have HB := n0_; clear n0_; (try clear hbx1 hbx2); have hbx1 := ((HB.out.cell (wL W0 _ hq1)).trans hq1); have hbx2 := ((HB.out.cell (wL W0 _ hq2)).trans hq2); (try clear hb); (try clear hb2); (try clear hk); (try clear hi)) | ((with_reducible refine gate_callee (f := 22) rfl ?_); refine goesL_ (some 18) rfl rfl Try.func22 (by kernel_rfl) rfl #[.int .i64 (l0.length : Int), .func (.func 23) #[] #[.pointer (some ⟨w.heap.size, 0, none⟩), .pointer (some ⟨w.heap.size + 1, 0, none⟩)]] rfl (by (try simp only [List.map_toArray, List.map_cons, List.map_nil]); first | done | rfl | (simp only [List.length_drop, List.length_take]; rfl)) ?_; (try rw [← hW0.out]); (with_reducible refine (search_y.calls w.heap.size (w.heap.size + 1) A0 c0 l0 a1 t115 _ ?bx1 ?bx2 ?side1 A5.out).mono ?_); (case bx1 => exact ((HB.out.cell (wL W0 _ hq1)).trans hq1)); (case bx2 => exact ((HB.out.cell (wL W0 _ hq2)).trans hq2)); (case side1 => repeat (first | exact (Kd.C_below HR0.out HB.out) | (with_reducible refine Kd.C_alloc ?_ _) | (with_reducible refine Kd.C_drewN ?_ _) | (with_reducible refine Kd.C_drew ?_))); rintro e w20 ⟨rfl, hb⟩; refine ⟨_, rfl, ?_⟩; have n0_ := Aside0.mk (bP (by repeat (first | (with_reducible first | exact HB.out | apply bL | apply bW | apply b1) | exact HB.out)) hb); clear HB; have HB := n0_; clear n0_; (try clear hbx1 hbx2); have hbx1 := ((HB.out.cell (wL W0 _ hq1)).trans hq1); have hbx2 := ((HB.out.cell (wL W0 _ hq2)).trans hq2); (try clear hb); (try clear hb2); (try clear hk); (try clear hi)))
         have n0_ := Aside0.mk (b1 HB.out)
         clear HB; have HB := n0_
         clear n0_; have p116 : 0 ≤ ((ji12) : Int) := of_decide_eq_true (by first | (with_reducible assumption) | assumption)
         have q116 : (ji12) < (l0.length : Int) := of_decide_eq_true (by first | (with_reducible assumption) | assumption)
         obtain ⟨ad116, e116, hx116_0, hx116_1⟩ := at_T37 HR0.out (ji12) p116 q116
         have hw116_1 := hx116_1
         have hw116_0 := hx116_0
         cases e116
         replace hx116_0 := (HB.out.cell (wL W0 _ hx116_0)).trans hx116_0
         replace hx116_1 := (HB.out.cell (wL W0 _ hx116_1)).trans hx116_1
         replace p116 := eq_true p116
         replace q116 := eq_true q116
         have p117 : 0 ≤ (t115 : Int) := of_decide_eq_true (by first | (with_reducible assumption) | assumption)
         have q117 : t115 < (l0.length : Int) := of_decide_eq_true (by first | (with_reducible assumption) | assumption)
         obtain ⟨ad117, e117, hx117_0, hx117_1⟩ := at_T37 HR0.out t115 p117 q117
         have hw117_1 := hx117_1
         have hw117_0 := hx117_0
         obtain rfl : ad116 = ad117 := (by injection e117)
         replace hx117_0 := (HB.out.cell (wL W0 _ hx117_0)).trans hx117_0
         replace hx117_1 := (HB.out.cell (wL W0 _ hx117_1)).trans hx117_1
         replace p117 := eq_true p117
         replace q117 := eq_true q117
         refine start_ (n := 13) (S := fun w' => w'.cell? ⟨w.heap.size, 0, none⟩ = some (.slice (some ad116) l0.length c0) ∧ w'.cell? ⟨w.heap.size + 1, 0, none⟩ = some (.int .i64 a1) ∧ w'.cell? (ad116.add (((ji12)).toNat * 2)) = some (.int .i64 ((rd_T37 l0 (ji12)).f0)) ∧ w'.cell? ⟨(ad116.add (((ji12)).toNat * 2)).block, (ad116.add (((ji12)).toNat * 2)).off + 1, none⟩ = some (.int .i64 ((rd_T37 l0 (ji12)).f1)) ∧ w'.cell? (ad116.add ((t115).toNat * 2)) = some (.int .i64 ((rd_T37 l0 t115).f0)) ∧ w'.cell? ⟨(ad116.add ((t115).toNat * 2)).block, (ad116.add ((t115).toNat * 2)).off + 1, none⟩ = some (.int .i64 ((rd_T37 l0 t115).f1))) (ds := []) #[F,F,F,F,F,F,F,F,F,F,F,F,F] (by kernel_rfl) rfl rfl ⟨((HB.out.cell (wL W0 _ hq1)).trans hq1), ((HB.out.cell (wL W0 _ hq2)).trans hq2), ((HB.out.cell (wL W0 _ hw116_0)).trans hw116_0), ((HB.out.cell (wL W0 _ hw116_1)).trans hw116_1), ((HB.out.cell (wL W0 _ hw117_0)).trans hw117_0), ((HB.out.cell (wL W0 _ hw117_1)).trans hw117_1)⟩ (fun hHeld => ?_); refine with_tabW curve_Least.tab9 curve_Least.bits9 (fun HT_ HW_ => ?_)
         generalize w20.drew = w21 at HB hx116_0 hx116_1 hx117_0 hx117_1 hHeld ⊢
         refine take_ (i := 0) (N := some 26) (v := ?_) (a' := ?_) #[T,F,F,F,F,F,F,F,F,F,F,F,F] rfl rfl (take_ofW HT_.out HW_.out (by kernel_rfl)) (fun _ _ _ h => h) (Or.inl ⟨by rfl, ?_⟩) hHeld ?_ ?_
         rotate_left
         ·
          rintro w' ⟨sx1, sx2, sx3⟩
          go_simp; with_reducible rfl
         rotate_left
         ·
          simp only [Act.put, lA, lZ, lS, i64_w, i32_w]; rfl
         refine pure_ (i := 1) (N := some 27) (v := ?_) (a' := ?_) #[T,T,F,F,F,F,F,F,F,F,F,F,F] rfl rfl (any_of HT_.out (by kernel_rfl)) (fun _ _ _ h => h) (Or.inl ⟨by rfl, ?_⟩) ?_ ?_
         rotate_left
         ·
          intro w'; go_simp; with_reducible rfl
         rotate_left
         ·
          simp only [Act.put, lA, lZ, lS, i64_w, i32_w]; rfl
         refine pure_ (i := 2) (N := some 28) (v := ?_) (a' := ?_) #[T,T,T,F,F,F,F,F,F,F,F,F,F] rfl rfl (any_of HT_.out (by kernel_rfl)) (fun _ _ _ h => h) (Or.inl ⟨by rfl, ?_⟩) ?_ ?_
         rotate_left
         ·
          intro w'; go_simp; with_reducible rfl
         rotate_left
         ·
          simp only [Act.put, lA, lZ, lS, i64_w, i32_w]; rfl
         refine pure_ (i := 3) (N := some 29) (v := ?_) (a' := ?_) #[T,T,T,T,F,F,F,F,F,F,F,F,F] rfl rfl (any_of HT_.out (by kernel_rfl)) (fun _ _ _ h => h) (Or.inl ⟨by rfl, ?_⟩) ?_ ?_
         rotate_left
         ·
          intro w'; go_simp; with_reducible rfl
         rotate_left
         ·
          simp only [Act.put, lA, lZ, lS, i64_w, i32_w]; rfl
         refine take_ (i := 5) (N := some 31) (v := ?_) (a' := ?_) #[T,T,T,T,F,T,F,F,F,F,F,F,F] rfl rfl (take_ofW HT_.out HW_.out (by kernel_rfl)) (fun _ _ _ h => h) (Or.inl ⟨by rfl, ?_⟩) hHeld ?_ ?_
         rotate_left
         ·
          rintro w' ⟨sx1, sx2, sx3⟩
          go_simp; with_reducible rfl
         rotate_left
         ·
          simp only [Act.put, lA, lZ, lS, i64_w, i32_w]; rfl
         refine pure_ (i := 6) (N := some 32) (v := ?_) (a' := ?_) #[T,T,T,T,F,T,T,F,F,F,F,F,F] rfl rfl (any_of HT_.out (by kernel_rfl)) (fun _ _ _ h => h) (Or.inl ⟨by rfl, ?_⟩) ?_ ?_
         rotate_left
         ·
          intro w'; go_simp; with_reducible rfl
         rotate_left
         ·
          simp only [Act.put, lA, lZ, lS, i64_w, i32_w]; rfl
         refine pure_ (i := 7) (N := some 33) (v := ?_) (a' := ?_) #[T,T,T,T,F,T,T,T,F,F,F,F,F] rfl rfl (any_of HT_.out (by kernel_rfl)) (fun _ _ _ h => h) (Or.inl ⟨by rfl, ?_⟩) ?_ ?_
         rotate_left
         ·
          intro w'; go_simp; with_reducible rfl
         rotate_left
         ·
          simp only [Act.put, lA, lZ, lS, i64_w, i32_w]; rfl
         refine take_ (i := 4) (N := some 30) (v := ?_) (a' := ?_) #[T,T,T,T,T,T,T,T,F,F,F,F,F] rfl rfl (take_ofW HT_.out HW_.out (by kernel_rfl)) (fun _ _ _ h => h) (Or.inl ⟨by rfl, ?_⟩) hHeld ?_ ?_
         rotate_left
         ·
          rintro w' ⟨sx1, sx2, s0, s1, s2, s3⟩
          go_simp; with_reducible rfl
         rotate_left
         ·
          simp only [Act.put, lA, lZ, lS, i64_w, i32_w]; rfl
         refine take_ (i := 8) (N := some 34) (v := ?_) (a' := ?_) #[T,T,T,T,T,T,T,T,T,F,F,F,F] rfl rfl (take_ofW HT_.out HW_.out (by kernel_rfl)) (fun _ _ _ h => h) (Or.inl ⟨by rfl, ?_⟩) hHeld ?_ ?_
         rotate_left
         ·
          rintro w' ⟨sx1, sx2, s0, s1, s2, s3⟩
          go_simp; with_reducible rfl
         rotate_left
         ·
          simp only [Act.put, lA, lZ, lS, i64_w, i32_w]; rfl
         refine join_ (σ := Nat × Nat) 2 #[T,T,T,T,T,T,T,T,T,T,T,F,F] (fun s_ => [(7, .pointer (some ⟨s_.1, 0, none⟩)), (8, .pointer (some ⟨s_.2, 0, none⟩))]) (fun s_ w' => (w'.cell? ⟨w.heap.size, 0, none⟩ = some (.slice (some ad116) l0.length c0) ∧ w'.cell? ⟨w.heap.size + 1, 0, none⟩ = some (.int .i64 a1) ∧ w'.cell? (ad116.add (((ji12)).toNat * 2)) = some (.int .i64 ((rd_T37 l0 (ji12)).f0)) ∧ w'.cell? ⟨(ad116.add (((ji12)).toNat * 2)).block, (ad116.add (((ji12)).toNat * 2)).off + 1, none⟩ = some (.int .i64 ((rd_T37 l0 (ji12)).f1)) ∧ w'.cell? (ad116.add ((t115).toNat * 2)) = some (.int .i64 ((rd_T37 l0 t115).f0)) ∧ w'.cell? ⟨(ad116.add ((t115).toNat * 2)).block, (ad116.add ((t115).toNat * 2)).off + 1, none⟩ = some (.int .i64 ((rd_T37 l0 t115).f1))) ∧ (w'.heap[s_.1]? = some (.cells #[.int .i64 0, .int .i64 0] 37 (0, 0))) ∧ (w'.heap[s_.2]? = some (.cells #[.int .i64 0, .int .i64 0] 37 (0, 0))) ∧ (W0.heap.size ≤ s_.1) ∧ (W0.heap.size ≤ s_.1) ∧ (s_.2 ≠ s_.1) ∧ (s_.1 ≠ s_.2) ∧ (W0.heap.size ≤ s_.2) ∧ (W0.heap.size ≤ s_.2) ∧ (Below W0.heap.size W0 w')) ?_ ?_
         rotate_left
         ·
          intro hCont; refine two_ (i := 9) (j := 10) (Ni := some 7) (Nj := some 8) #[T,T,T,T,T,T,T,T,T,T,F,F,F] #[T,T,T,T,T,T,T,T,T,F,T,F,F] rfl rfl rfl rfl (two_of HT_.out (by kernel_rfl)) (by decide) (by decide) (fun K hK => ?_) (fun K hK => ?_)
          ·
           skip
           refine box_step ?hg (N := 7) ?hd (cs := #[.int .i64 0, .int .i64 0]) (t := 37) ?hr ?_; (case hd => rfl); (case hg => rfl); (case hr => first | (go_simp; done) | (go_simp; rfl))
           intro gb118 hg w22 hbox hb; have n0_ := Aside0.mk (bP (by repeat (first | (with_reducible first | exact HB.out | apply bL | apply bW | apply b1) | exact HB.out)) hb)
           have n1_ := Aside0.mk (hbox)
           have n2_ := Aside0.mk ((by rw [hg]; exact (bZ (by repeat (first | (with_reducible first | exact HB.out | apply bL | apply bW | apply b1) | exact HB.out))) : W0.heap.size ≤ gb118))
           have n3_ := Aside0.mk ((by rw [hg]; exact (bZ (by repeat (first | (with_reducible first | exact HB.out | apply bL | apply bW | apply b1) | exact HB.out))) : W0.heap.size ≤ gb118))
           clear HB; have HB := n0_
           have BK118 := n1_
           have GW118 := n2_
           have GE118 := n3_
           clear n0_ n1_ n2_ n3_; clear hb hbox hg; refine hK.out _ _ ⟨((HB.out.cell (wL W0 _ hq1)).trans hq1), ((HB.out.cell (wL W0 _ hq2)).trans hq2), ((HB.out.cell (wL W0 _ hw116_0)).trans hw116_0), ((HB.out.cell (wL W0 _ hw116_1)).trans hw116_1), ((HB.out.cell (wL W0 _ hw117_0)).trans hw117_0), ((HB.out.cell (wL W0 _ hw117_1)).trans hw117_1)⟩ (fun hHeld => ?_)
           clear hK K; refine norm_ (a' := ?_) ?_ ?_
           rotate_left
           ·
            show Act.put _ (some 7) _ = _
            simp only [Act.put, lA, lZ, lS, i64_w, i32_w]; rfl
           refine one_ (i := 10) (N := some 8) #[T,T,T,T,T,T,T,T,T,T,T,F,F] rfl rfl (one_of HT_.out (by kernel_rfl)) (by decide) (fun K hK => ?_)
           refine box_step ?hg (N := 8) ?hd (cs := #[.int .i64 0, .int .i64 0]) (t := 37) ?hr ?_; (case hd => rfl); (case hg => rfl); (case hr => first | (go_simp; done) | (go_simp; rfl))
           intro gb119 hg w23 hbox hb; have n0_ := Aside0.mk (bB (g := gb118) (o := .cells #[.int .i64 0, .int .i64 0] 37 (0, 0)) (by (with_reducible repeat (first | refine bN ?_ _ | refine bD ?_ | refine bA ?_ _)); exact BK118.out) hb)
           have n1_ := Aside0.mk (bP (by repeat (first | (with_reducible first | exact HB.out | apply bL | apply bW | apply b1 | refine bS ?_ GE118.out) | exact HB.out)) hb)
           have n2_ := Aside0.mk (hbox)
           have n3_ := Aside0.mk ((by rw [hg]; exact (bZ (by repeat (first | (with_reducible first | exact HB.out | apply bL | apply bW | apply b1 | refine bS ?_ GE118.out) | exact HB.out))) : W0.heap.size ≤ gb119))
           have n4_ := Aside0.mk ((by rw [hg]; exact (bZ (by repeat (first | (with_reducible first | exact HB.out | apply bL | apply bW | apply b1 | refine bS ?_ GE118.out) | exact HB.out))) : W0.heap.size ≤ gb119))
           have n5_ := Aside0.mk ((by rw [hg]; exact Nat.ne_of_lt (bT (g := gb118) (o := .cells #[.int .i64 0, .int .i64 0] 37 (0, 0)) (by (with_reducible repeat (first | refine bN ?_ _ | refine bD ?_ | refine bA ?_ _)); exact BK118.out)) : gb118 ≠ gb119))
           have n6_ := Aside0.mk ((by rw [hg]; exact Nat.ne_of_gt (bT (g := gb118) (o := .cells #[.int .i64 0, .int .i64 0] 37 (0, 0)) (by (with_reducible repeat (first | refine bN ?_ _ | refine bD ?_ | refine bA ?_ _)); exact BK118.out)) : gb119 ≠ gb118))
           clear BK118; clear HB; have BK118 := n0_
           have HB := n1_
           have BK119 := n2_
           have GW119 := n3_
           have GE119 := n4_
           have NB118_119 := n5_
           have NB119_118 := n6_
           clear n0_ n1_ n2_ n3_ n4_ n5_ n6_; clear hb hbox hg; refine hK.out _ _ ⟨((HB.out.cell (wL W0 _ hq1)).trans hq1), ((HB.out.cell (wL W0 _ hq2)).trans hq2), ((HB.out.cell (wL W0 _ hw116_0)).trans hw116_0), ((HB.out.cell (wL W0 _ hw116_1)).trans hw116_1), ((HB.out.cell (wL W0 _ hw117_0)).trans hw117_0), ((HB.out.cell (wL W0 _ hw117_1)).trans hw117_1)⟩ (fun hHeld => ?_)
           clear hK K; refine norm_ (a' := ?_) ?_ ?_
           rotate_left
           ·
            show Act.put _ (some 8) _ = _
            simp only [Act.put, lA, lZ, lS, i64_w, i32_w]; rfl
           exact norm_ (by simp only [putAll, Act.put, lA, lZ, lS]) (hCont (gb118, gb119) _ ⟨hHeld, (by (with_reducible repeat (first | refine bN ?_ _ | refine bD ?_ | refine bA ?_ _)); exact BK118.out), (by (with_reducible repeat (first | refine bN ?_ _ | refine bD ?_ | refine bA ?_ _)); exact BK119.out), GW118.out, GE118.out, NB119_118.out, NB118_119.out, GW119.out, GE119.out, (by repeat (first | (with_reducible first | exact HB.out | apply bL | apply bW | apply b1 | refine bS ?_ GE118.out | refine bS ?_ GE119.out) | exact HB.out))⟩)
          ·
           skip
           refine box_step ?hg (N := 8) ?hd (cs := #[.int .i64 0, .int .i64 0]) (t := 37) ?hr ?_; (case hd => rfl); (case hg => rfl); (case hr => first | (go_simp; done) | (go_simp; rfl))
           intro gb119 hg w22 hbox hb; have n0_ := Aside0.mk (bP (by repeat (first | (with_reducible first | exact HB.out | apply bL | apply bW | apply b1) | exact HB.out)) hb)
           have n1_ := Aside0.mk (hbox)
           have n2_ := Aside0.mk ((by rw [hg]; exact (bZ (by repeat (first | (with_reducible first | exact HB.out | apply bL | apply bW | apply b1) | exact HB.out))) : W0.heap.size ≤ gb119))
           have n3_ := Aside0.mk ((by rw [hg]; exact (bZ (by repeat (first | (with_reducible first | exact HB.out | apply bL | apply bW | apply b1) | exact HB.out))) : W0.heap.size ≤ gb119))
           clear HB; have HB := n0_
           have BK119 := n1_
           have GW119 := n2_
           have GE119 := n3_
           clear n0_ n1_ n2_ n3_; clear hb hbox hg; refine hK.out _ _ ⟨((HB.out.cell (wL W0 _ hq1)).trans hq1), ((HB.out.cell (wL W0 _ hq2)).trans hq2), ((HB.out.cell (wL W0 _ hw116_0)).trans hw116_0), ((HB.out.cell (wL W0 _ hw116_1)).trans hw116_1), ((HB.out.cell (wL W0 _ hw117_0)).trans hw117_0), ((HB.out.cell (wL W0 _ hw117_1)).trans hw117_1)⟩ (fun hHeld => ?_)
           clear hK K; refine norm_ (a' := ?_) ?_ ?_
           rotate_left
           ·
            show Act.put _ (some 8) _ = _
            simp only [Act.put, lA, lZ, lS, i64_w, i32_w]; rfl
           refine one_ (i := 9) (N := some 7) #[T,T,T,T,T,T,T,T,T,T,T,F,F] rfl rfl (one_of HT_.out (by kernel_rfl)) (by decide) (fun K hK => ?_)
           refine box_step ?hg (N := 7) ?hd (cs := #[.int .i64 0, .int .i64 0]) (t := 37) ?hr ?_; (case hd => rfl); (case hg => rfl); (case hr => first | (go_simp; done) | (go_simp; rfl))
           intro gb118 hg w23 hbox hb; have n0_ := Aside0.mk (bB (g := gb119) (o := .cells #[.int .i64 0, .int .i64 0] 37 (0, 0)) (by (with_reducible repeat (first | refine bN ?_ _ | refine bD ?_ | refine bA ?_ _)); exact BK119.out) hb)
           have n1_ := Aside0.mk (bP (by repeat (first | (with_reducible first | exact HB.out | apply bL | apply bW | apply b1 | refine bS ?_ GE119.out) | exact HB.out)) hb)
           have n2_ := Aside0.mk (hbox)
           have n3_ := Aside0.mk ((by rw [hg]; exact (bZ (by repeat (first | (with_reducible first | exact HB.out | apply bL | apply bW | apply b1 | refine bS ?_ GE119.out) | exact HB.out))) : W0.heap.size ≤ gb118))
           have n4_ := Aside0.mk ((by rw [hg]; exact (bZ (by repeat (first | (with_reducible first | exact HB.out | apply bL | apply bW | apply b1 | refine bS ?_ GE119.out) | exact HB.out))) : W0.heap.size ≤ gb118))
           have n5_ := Aside0.mk ((by rw [hg]; exact Nat.ne_of_lt (bT (g := gb119) (o := .cells #[.int .i64 0, .int .i64 0] 37 (0, 0)) (by (with_reducible repeat (first | refine bN ?_ _ | refine bD ?_ | refine bA ?_ _)); exact BK119.out)) : gb119 ≠ gb118))
           have n6_ := Aside0.mk ((by rw [hg]; exact Nat.ne_of_gt (bT (g := gb119) (o := .cells #[.int .i64 0, .int .i64 0] 37 (0, 0)) (by (with_reducible repeat (first | refine bN ?_ _ | refine bD ?_ | refine bA ?_ _)); exact BK119.out)) : gb118 ≠ gb119))
           clear BK119; clear HB; have BK119 := n0_
           have HB := n1_
           have BK118 := n2_
           have GW118 := n3_
           have GE118 := n4_
           have NB119_118 := n5_
           have NB118_119 := n6_
           clear n0_ n1_ n2_ n3_ n4_ n5_ n6_; clear hb hbox hg; refine hK.out _ _ ⟨((HB.out.cell (wL W0 _ hq1)).trans hq1), ((HB.out.cell (wL W0 _ hq2)).trans hq2), ((HB.out.cell (wL W0 _ hw116_0)).trans hw116_0), ((HB.out.cell (wL W0 _ hw116_1)).trans hw116_1), ((HB.out.cell (wL W0 _ hw117_0)).trans hw117_0), ((HB.out.cell (wL W0 _ hw117_1)).trans hw117_1)⟩ (fun hHeld => ?_)
           clear hK K; refine norm_ (a' := ?_) ?_ ?_
           rotate_left
           ·
            show Act.put _ (some 7) _ = _
            simp only [Act.put, lA, lZ, lS, i64_w, i32_w]; rfl
           exact norm_ (by simp only [putAll, Act.put, lA, lZ, lS]) (hCont (gb118, gb119) _ ⟨hHeld, (by (with_reducible repeat (first | refine bN ?_ _ | refine bD ?_ | refine bA ?_ _)); exact BK118.out), (by (with_reducible repeat (first | refine bN ?_ _ | refine bD ?_ | refine bA ?_ _)); exact BK119.out), GW118.out, GE118.out, NB119_118.out, NB118_119.out, GW119.out, GE119.out, (by repeat (first | (with_reducible first | exact HB.out | apply bL | apply bW | apply b1 | refine bS ?_ GE119.out | refine bS ?_ GE118.out) | exact HB.out))⟩)
         rintro ⟨gb118, gb119⟩ w24 ⟨hS_, h0_, h1_, h2_, h3_, h4_, h5_, h6_, h7_, h8_⟩
         have n0_ : Aside0 (w24.heap[gb118]? = some (.cells #[.int .i64 0, .int .i64 0] 37 (0, 0))) := ⟨h0_⟩
         have n1_ : Aside0 (w24.heap[gb119]? = some (.cells #[.int .i64 0, .int .i64 0] 37 (0, 0))) := ⟨h1_⟩
         have n2_ : Aside0 (W0.heap.size ≤ gb118) := ⟨h2_⟩
         have n3_ : Aside0 (W0.heap.size ≤ gb118) := ⟨h3_⟩
         have n4_ : Aside0 (gb119 ≠ gb118) := ⟨h4_⟩
         have n5_ : Aside0 (gb118 ≠ gb119) := ⟨h5_⟩
         have n6_ : Aside0 (W0.heap.size ≤ gb119) := ⟨h6_⟩
         have n7_ : Aside0 (W0.heap.size ≤ gb119) := ⟨h7_⟩
         have n8_ : Aside0 (Below W0.heap.size W0 w24) := ⟨h8_⟩
         clear HB; clear h0_ h1_ h2_ h3_ h4_ h5_ h6_ h7_ h8_; have BK118 := n0_
         have BK119 := n1_
         have GW118 := n2_
         have GE118 := n3_
         have NB119_118 := n4_
         have NB118_119 := n5_
         have GW119 := n6_
         have GE119 := n7_
         have HB := n8_
         clear n0_ n1_ n2_ n3_ n4_ n5_ n6_ n7_ n8_; have hHeld := hS_
         refine norm_ (a' := ?_) ?_ ?_
         rotate_left
         ·
          simp only [putAll, Act.put, lA, lZ, lS]; rfl
         refine one_ (i := 11) (N := none) #[T,T,T,T,T,T,T,T,T,T,T,T,F] rfl rfl (one_of HT_.out (by kernel_rfl)) (by decide) (fun K hK => ?_)
         have hs25 : w24.cell? ⟨gb118, 0, none⟩ = some (.int .i64 0) := (bC BK118.out 0).trans rfl
         have hfs25 := bF BK118.out 0
         have hns25_1 := NB119_118.out
         have hms25_1 := NB118_119.out
         have hs26 : w24.cell? ⟨gb118, 1, none⟩ = some (.int .i64 0) := (bC BK118.out 1).trans rfl
         have hfs26 := bF BK118.out 1
         have hns26_1 := NB119_118.out
         have hms26_1 := NB118_119.out
         refine skip_ (w1 := ?_) (by rfl) rfl ?_ ?_
         rotate_left
         ·
          go_simp; rfl
         refine hK.out _ _ ⟨((cell_far (p := ⟨gb118, _, none⟩) (by have z_ := wL _ _ hq1; (try rw [add_block] at z_); have y_ := Nat.ne_of_lt (Nat.lt_of_lt_of_le z_ GW118.out); first | exact y_ | (rw [add_block]; exact y_) | (show (Addr.add _ _).block ≠ _; rw [add_block]; exact y_) | (dsimp only; exact y_)) _).trans (((cell_far (p := ⟨gb118, _, none⟩) (by have z_ := wL _ _ hq1; (try rw [add_block] at z_); have y_ := Nat.ne_of_lt (Nat.lt_of_lt_of_le z_ GW118.out); first | exact y_ | (rw [add_block]; exact y_) | (show (Addr.add _ _).block ≠ _; rw [add_block]; exact y_) | (dsimp only; exact y_)) _).trans (hHeld.1)))), ((cell_far (p := ⟨gb118, _, none⟩) (by have z_ := wL _ _ hq2; (try rw [add_block] at z_); have y_ := Nat.ne_of_lt (Nat.lt_of_lt_of_le z_ GW118.out); first | exact y_ | (rw [add_block]; exact y_) | (show (Addr.add _ _).block ≠ _; rw [add_block]; exact y_) | (dsimp only; exact y_)) _).trans (((cell_far (p := ⟨gb118, _, none⟩) (by have z_ := wL _ _ hq2; (try rw [add_block] at z_); have y_ := Nat.ne_of_lt (Nat.lt_of_lt_of_le z_ GW118.out); first | exact y_ | (rw [add_block]; exact y_) | (show (Addr.add _ _).block ≠ _; rw [add_block]; exact y_) | (dsimp only; exact y_)) _).trans (hHeld.2.1)))), ((cell_far (p := ⟨gb118, _, none⟩) (by have z_ := wL _ _ hw116_0; (try rw [add_block] at z_); have y_ := Nat.ne_of_lt (Nat.lt_of_lt_of_le z_ GW118.out); first | exact y_ | (rw [add_block]; exact y_) | (show (Addr.add _ _).block ≠ _; rw [add_block]; exact y_) | (dsimp only; exact y_)) _).trans (((cell_far (p := ⟨gb118, _, none⟩) (by have z_ := wL _ _ hw116_0; (try rw [add_block] at z_); have y_ := Nat.ne_of_lt (Nat.lt_of_lt_of_le z_ GW118.out); first | exact y_ | (rw [add_block]; exact y_) | (show (Addr.add _ _).block ≠ _; rw [add_block]; exact y_) | (dsimp only; exact y_)) _).trans (hHeld.2.2.1)))), ((cell_far (p := ⟨gb118, _, none⟩) (by have z_ := wL _ _ hw116_1; (try rw [add_block] at z_); have y_ := Nat.ne_of_lt (Nat.lt_of_lt_of_le z_ GW118.out); first | exact y_ | (rw [add_block]; exact y_) | (show (Addr.add _ _).block ≠ _; rw [add_block]; exact y_) | (dsimp only; exact y_)) _).trans (((cell_far (p := ⟨gb118, _, none⟩) (by have z_ := wL _ _ hw116_1; (try rw [add_block] at z_); have y_ := Nat.ne_of_lt (Nat.lt_of_lt_of_le z_ GW118.out); first | exact y_ | (rw [add_block]; exact y_) | (show (Addr.add _ _).block ≠ _; rw [add_block]; exact y_) | (dsimp only; exact y_)) _).trans (hHeld.2.2.2.1)))), ((cell_far (p := ⟨gb118, _, none⟩) (by have z_ := wL _ _ hw117_0; (try rw [add_block] at z_); have y_ := Nat.ne_of_lt (Nat.lt_of_lt_of_le z_ GW118.out); first | exact y_ | (rw [add_block]; exact y_) | (show (Addr.add _ _).block ≠ _; rw [add_block]; exact y_) | (dsimp only; exact y_)) _).trans (((cell_far (p := ⟨gb118, _, none⟩) (by have z_ := wL _ _ hw117_0; (try rw [add_block] at z_); have y_ := Nat.ne_of_lt (Nat.lt_of_lt_of_le z_ GW118.out); first | exact y_ | (rw [add_block]; exact y_) | (show (Addr.add _ _).block ≠ _; rw [add_block]; exact y_) | (dsimp only; exact y_)) _).trans (hHeld.2.2.2.2.1)))), ((cell_far (p := ⟨gb118, _, none⟩) (by have z_ := wL _ _ hw117_1; (try rw [add_block] at z_); have y_ := Nat.ne_of_lt (Nat.lt_of_lt_of_le z_ GW118.out); first | exact y_ | (rw [add_block]; exact y_) | (show (Addr.add _ _).block ≠ _; rw [add_block]; exact y_) | (dsimp only; exact y_)) _).trans (((cell_far (p := ⟨gb118, _, none⟩) (by have z_ := wL _ _ hw117_1; (try rw [add_block] at z_); have y_ := Nat.ne_of_lt (Nat.lt_of_lt_of_le z_ GW118.out); first | exact y_ | (rw [add_block]; exact y_) | (show (Addr.add _ _).block ≠ _; rw [add_block]; exact y_) | (dsimp only; exact y_)) _).trans (hHeld.2.2.2.2.2))))⟩ (fun hHeld => ?_)
         clear hK K; refine one_ (i := 12) (N := none) #[T,T,T,T,T,T,T,T,T,T,T,T,T] rfl rfl (one_of HT_.out (by kernel_rfl)) (by decide) (fun K hK => ?_)
         have hs27 : w24.cell? ⟨gb119, 0, none⟩ = some (.int .i64 0) := (bC BK119.out 0).trans rfl
         have hfs27 := bF BK119.out 0
         have hns27_0 := NB118_119.out
         have hms27_0 := NB119_118.out
         have hs28 : w24.cell? ⟨gb119, 1, none⟩ = some (.int .i64 0) := (bC BK119.out 1).trans rfl
         have hfs28 := bF BK119.out 1
         have hns28_0 := NB118_119.out
         have hms28_0 := NB119_118.out
         refine skip_ (w1 := ?_) (by rfl) rfl ?_ ?_
         rotate_left
         ·
          go_simp; rfl
         refine hK.out _ _ ⟨((cell_far (p := ⟨gb119, _, none⟩) (by have z_ := wL _ _ hq1; (try rw [add_block] at z_); have y_ := Nat.ne_of_lt (Nat.lt_of_lt_of_le z_ GW119.out); first | exact y_ | (rw [add_block]; exact y_) | (show (Addr.add _ _).block ≠ _; rw [add_block]; exact y_) | (dsimp only; exact y_)) _).trans (((cell_far (p := ⟨gb119, _, none⟩) (by have z_ := wL _ _ hq1; (try rw [add_block] at z_); have y_ := Nat.ne_of_lt (Nat.lt_of_lt_of_le z_ GW119.out); first | exact y_ | (rw [add_block]; exact y_) | (show (Addr.add _ _).block ≠ _; rw [add_block]; exact y_) | (dsimp only; exact y_)) _).trans (hHeld.1)))), ((cell_far (p := ⟨gb119, _, none⟩) (by have z_ := wL _ _ hq2; (try rw [add_block] at z_); have y_ := Nat.ne_of_lt (Nat.lt_of_lt_of_le z_ GW119.out); first | exact y_ | (rw [add_block]; exact y_) | (show (Addr.add _ _).block ≠ _; rw [add_block]; exact y_) | (dsimp only; exact y_)) _).trans (((cell_far (p := ⟨gb119, _, none⟩) (by have z_ := wL _ _ hq2; (try rw [add_block] at z_); have y_ := Nat.ne_of_lt (Nat.lt_of_lt_of_le z_ GW119.out); first | exact y_ | (rw [add_block]; exact y_) | (show (Addr.add _ _).block ≠ _; rw [add_block]; exact y_) | (dsimp only; exact y_)) _).trans (hHeld.2.1)))), ((cell_far (p := ⟨gb119, _, none⟩) (by have z_ := wL _ _ hw116_0; (try rw [add_block] at z_); have y_ := Nat.ne_of_lt (Nat.lt_of_lt_of_le z_ GW119.out); first | exact y_ | (rw [add_block]; exact y_) | (show (Addr.add _ _).block ≠ _; rw [add_block]; exact y_) | (dsimp only; exact y_)) _).trans (((cell_far (p := ⟨gb119, _, none⟩) (by have z_ := wL _ _ hw116_0; (try rw [add_block] at z_); have y_ := Nat.ne_of_lt (Nat.lt_of_lt_of_le z_ GW119.out); first | exact y_ | (rw [add_block]; exact y_) | (show (Addr.add _ _).block ≠ _; rw [add_block]; exact y_) | (dsimp only; exact y_)) _).trans (hHeld.2.2.1)))), ((cell_far (p := ⟨gb119, _, none⟩) (by have z_ := wL _ _ hw116_1; (try rw [add_block] at z_); have y_ := Nat.ne_of_lt (Nat.lt_of_lt_of_le z_ GW119.out); first | exact y_ | (rw [add_block]; exact y_) | (show (Addr.add _ _).block ≠ _; rw [add_block]; exact y_) | (dsimp only; exact y_)) _).trans (((cell_far (p := ⟨gb119, _, none⟩) (by have z_ := wL _ _ hw116_1; (try rw [add_block] at z_); have y_ := Nat.ne_of_lt (Nat.lt_of_lt_of_le z_ GW119.out); first | exact y_ | (rw [add_block]; exact y_) | (show (Addr.add _ _).block ≠ _; rw [add_block]; exact y_) | (dsimp only; exact y_)) _).trans (hHeld.2.2.2.1)))), ((cell_far (p := ⟨gb119, _, none⟩) (by have z_ := wL _ _ hw117_0; (try rw [add_block] at z_); have y_ := Nat.ne_of_lt (Nat.lt_of_lt_of_le z_ GW119.out); first | exact y_ | (rw [add_block]; exact y_) | (show (Addr.add _ _).block ≠ _; rw [add_block]; exact y_) | (dsimp only; exact y_)) _).trans (((cell_far (p := ⟨gb119, _, none⟩) (by have z_ := wL _ _ hw117_0; (try rw [add_block] at z_); have y_ := Nat.ne_of_lt (Nat.lt_of_lt_of_le z_ GW119.out); first | exact y_ | (rw [add_block]; exact y_) | (show (Addr.add _ _).block ≠ _; rw [add_block]; exact y_) | (dsimp only; exact y_)) _).trans (hHeld.2.2.2.2.1)))), ((cell_far (p := ⟨gb119, _, none⟩) (by have z_ := wL _ _ hw117_1; (try rw [add_block] at z_); have y_ := Nat.ne_of_lt (Nat.lt_of_lt_of_le z_ GW119.out); first | exact y_ | (rw [add_block]; exact y_) | (show (Addr.add _ _).block ≠ _; rw [add_block]; exact y_) | (dsimp only; exact y_)) _).trans (((cell_far (p := ⟨gb119, _, none⟩) (by have z_ := wL _ _ hw117_1; (try rw [add_block] at z_); have y_ := Nat.ne_of_lt (Nat.lt_of_lt_of_le z_ GW119.out); first | exact y_ | (rw [add_block]; exact y_) | (show (Addr.add _ _).block ≠ _; rw [add_block]; exact y_) | (dsimp only; exact y_)) _).trans (hHeld.2.2.2.2.2))))⟩ (fun hHeld => ?_)
         clear hK K; refine done_ (done_of HT_.out (by kernel_rfl)) ?_
         have hnb29 := NB118_119.out
         have hnc29 := NB119_118.out
         have hcz30_0 : w24.cell? ⟨gb118, 0, none⟩ = some (.int .i64 0) := (bC BK118.out 0).trans rfl
         have hcz30_1 : w24.cell? ⟨gb118, 1, none⟩ = some (.int .i64 0) := (bC BK118.out 1).trans rfl
         have hfz30_0 := bF BK118.out 0
         have hfz30_1 := bF BK118.out 1
         have hcz31_0 : w24.cell? ⟨gb119, 0, none⟩ = some (.int .i64 0) := (bC BK119.out 0).trans rfl
         have hcz31_1 : w24.cell? ⟨gb119, 1, none⟩ = some (.int .i64 0) := (bC BK119.out 1).trans rfl
         have hfz31_0 := bF BK119.out 0
         have hfz31_1 := bF BK119.out 1
         have hbx1 := ((HB.out.cell (wL W0 _ hq1)).trans hq1)
         have hbx2 := ((HB.out.cell (wL W0 _ hq2)).trans hq2)
         try go_wp2_with (first | ((with_reducible refine gate_callee (f := 21) rfl ?_); refine goesL_ (some 50) rfl rfl Try.func21 (by kernel_rfl) rfl #[.int .i64 (wrap64 (a1 - ((rd_T37 l0 (ji12)).f1))), .int .i64 (wrap64 (((rd_T37 l0 t115).f0) - ((rd_T37 l0 (ji12)).f0))), .int .i64 (wrap64 (((rd_T37 l0 t115).f1) - ((rd_T37 l0 (ji12)).f1)))] rfl (by (try simp only [List.map_toArray, List.map_cons, List.map_nil]); first | done | (simp only [hji12]; rfl) | rfl | (simp only [List.length_drop, List.length_take]; rfl)) ?_; (try rw [← hW0.out]); (with_reducible refine (exact_Scale.calls k (wrap64 (a1 - ((rd_T37 l0 (ji12)).f1))) (wrap64 (((rd_T37 l0 t115).f0) - ((rd_T37 l0 (ji12)).f0))) (wrap64 (((rd_T37 l0 t115).f1) - ((rd_T37 l0 (ji12)).f1))) t120 t121 t122 _ A17.out).mono ?_); rintro e w' ⟨rfl, ⟨nd, rfl⟩⟩; refine ⟨_, rfl, ?_⟩))
         go_ret2
         exact ⟨by first | rfl | (simp [errW_none, errW_some] <;> rfl) | (simp only [← hji12]; first | rfl | (simp [errW_none, errW_some] <;> rfl)) | (simp [*, errW_none, errW_some] <;> rfl), by repeat (first | (with_reducible first | exact HB.out | apply bL | apply bW | apply b1 | refine bS ?_ GE118.out | refine bS ?_ GE119.out) | exact HB.out)⟩
        ·
         rw [if_neg c18] at H; have c18b0 : decide (0 < t121) = false := decide_eq_false c18
         clear c18; simp only [Option.some.injEq, Prod.mk.injEq] at H; obtain ⟨rfl, rfl⟩ := H
         go_enter Try.func9, Try.ntmps9
         have hbx1 := ((HB.out.cell (wL W0 _ hq1)).trans hq1)
         have hbx2 := ((HB.out.cell (wL W0 _ hq2)).trans hq2)
         try go_wp2_with (first | ((with_reducible refine gate_callee (f := 11) rfl ?_); refine goesL_ (some 13) rfl rfl Try.func11 (by kernel_rfl) rfl #[.slice A0 l0.length c0] rfl (by (try simp only [List.map_toArray, List.map_cons, List.map_nil]); first | done | rfl | (simp only [List.length_drop, List.length_take]; rfl)) ?_; (try rw [← hW0.out]); (with_reducible refine (curve_Right.calls k _ _ l0 true _ ?side1 ?side2 A3.out).mono ?_); (case side1 => repeat (first | exact HR0.out | (with_reducible refine Kd.C_alloc ?_ _) | (with_reducible refine Kd.C_drewN ?_ _) | (with_reducible refine Kd.C_drew ?_))); (case side2 => exact HC0.out); rintro e w32 ⟨rfl, hb⟩; refine ⟨_, rfl, ?_⟩; have n0_ := Aside0.mk (bP (by repeat (first | (with_reducible first | exact HB.out | apply bL | apply bW | apply b1) | exact HB.out)) hb); clear HB; have HB := n0_; clear n0_; (try clear hbx1 hbx2); have hbx1 := ((HB.out.cell (wL W0 _ hq1)).trans hq1); have hbx2 := ((HB.out.cell (wL W0 _ hq2)).trans hq2); (try clear hb); (try clear hb2); (try clear hk); (try clear hi)) | ((with_reducible refine gate_callee (f := 22) rfl ?_); refine goesL_ (some 18) rfl rfl Try.func22 (by kernel_rfl) rfl #[.int .i64 (l0.length : Int), .func (.func 23) #[] #[.pointer (some ⟨w.heap.size, 0, none⟩), .pointer (some ⟨w.heap.size + 1, 0, none⟩)]] rfl (by (try simp only [List.map_toArray, List.map_cons, List.map_nil]); first | done | rfl | (simp only [List.length_drop, List.length_take]; rfl)) ?_; (try rw [← hW0.out]); (with_reducible refine (search_y.calls w.heap.size (w.heap.size + 1) A0 c0 l0 a1 t115 _ ?bx1 ?bx2 ?side1 A5.out).mono ?_); (case bx1 => exact ((HB.out.cell (wL W0 _ hq1)).trans hq1)); (case bx2 => exact ((HB.out.cell (wL W0 _ hq2)).trans hq2)); (case side1 => repeat (first | exact (Kd.C_below HR0.out HB.out) | (with_reducible refine Kd.C_alloc ?_ _) | (with_reducible refine Kd.C_drewN ?_ _) | (with_reducible refine Kd.C_drew ?_))); rintro e w33 ⟨rfl, hb⟩; refine ⟨_, rfl, ?_⟩; have n0_ := Aside0.mk (bP (by repeat (first | (with_reducible first | exact HB.out | apply bL | apply bW | apply b1) | exact HB.out)) hb); clear HB; have HB := n0_; clear n0_; (try clear hbx1 hbx2); have hbx1 := ((HB.out.cell (wL W0 _ hq1)).trans hq1); have hbx2 := ((HB.out.cell (wL W0 _ hq2)).trans hq2); (try clear hb); (try clear hb2); (try clear hk); (try clear hi)))
         have n0_ := Aside0.mk (b1 HB.out)
         clear HB; have HB := n0_
         clear n0_; have p116 : 0 ≤ ((ji12) : Int) := of_decide_eq_true (by first | (with_reducible assumption) | assumption)
         have q116 : (ji12) < (l0.length : Int) := of_decide_eq_true (by first | (with_reducible assumption) | assumption)
         obtain ⟨ad116, e116, hx116_0, hx116_1⟩ := at_T37 HR0.out (ji12) p116 q116
         have hw116_1 := hx116_1
         have hw116_0 := hx116_0
         cases e116
         replace hx116_0 := (HB.out.cell (wL W0 _ hx116_0)).trans hx116_0
         replace hx116_1 := (HB.out.cell (wL W0 _ hx116_1)).trans hx116_1
         replace p116 := eq_true p116
         replace q116 := eq_true q116
         have p117 : 0 ≤ (t115 : Int) := of_decide_eq_true (by first | (with_reducible assumption) | assumption)
         have q117 : t115 < (l0.length : Int) := of_decide_eq_true (by first | (with_reducible assumption) | assumption)
         obtain ⟨ad117, e117, hx117_0, hx117_1⟩ := at_T37 HR0.out t115 p117 q117
         have hw117_1 := hx117_1
         have hw117_0 := hx117_0
         obtain rfl : ad116 = ad117 := (by injection e117)
         replace hx117_0 := (HB.out.cell (wL W0 _ hx117_0)).trans hx117_0
         replace hx117_1 := (HB.out.cell (wL W0 _ hx117_1)).trans hx117_1
         replace p117 := eq_true p117
         replace q117 := eq_true q117
         refine start_ (n := 13) (S := fun w' => w'.cell? ⟨w.heap.size, 0, none⟩ = some (.slice (some ad116) l0.length c0) ∧ w'.cell? ⟨w.heap.size + 1, 0, none⟩ = some (.int .i64 a1) ∧ w'.cell? (ad116.add (((ji12)).toNat * 2)) = some (.int .i64 ((rd_T37 l0 (ji12)).f0)) ∧ w'.cell? ⟨(ad116.add (((ji12)).toNat * 2)).block, (ad116.add (((ji12)).toNat * 2)).off + 1, none⟩ = some (.int .i64 ((rd_T37 l0 (ji12)).f1)) ∧ w'.cell? (ad116.add ((t115).toNat * 2)) = some (.int .i64 ((rd_T37 l0 t115).f0)) ∧ w'.cell? ⟨(ad116.add ((t115).toNat * 2)).block, (ad116.add ((t115).toNat * 2)).off + 1, none⟩ = some (.int .i64 ((rd_T37 l0 t115).f1))) (ds := []) #[F,F,F,F,F,F,F,F,F,F,F,F,F] (by kernel_rfl) rfl rfl ⟨((HB.out.cell (wL W0 _ hq1)).trans hq1), ((HB.out.cell (wL W0 _ hq2)).trans hq2), ((HB.out.cell (wL W0 _ hw116_0)).trans hw116_0), ((HB.out.cell (wL W0 _ hw116_1)).trans hw116_1), ((HB.out.cell (wL W0 _ hw117_0)).trans hw117_0), ((HB.out.cell (wL W0 _ hw117_1)).trans hw117_1)⟩ (fun hHeld => ?_); refine with_tabW curve_Least.tab9 curve_Least.bits9 (fun HT_ HW_ => ?_)
         generalize w33.drew = w34 at HB hx116_0 hx116_1 hx117_0 hx117_1 hHeld ⊢
         refine take_ (i := 0) (N := some 26) (v := ?_) (a' := ?_) #[T,F,F,F,F,F,F,F,F,F,F,F,F] rfl rfl (take_ofW HT_.out HW_.out (by kernel_rfl)) (fun _ _ _ h => h) (Or.inl ⟨by rfl, ?_⟩) hHeld ?_ ?_
         rotate_left
         ·
          rintro w' ⟨sx1, sx2, sx3⟩
          go_simp; with_reducible rfl
         rotate_left
         ·
          simp only [Act.put, lA, lZ, lS, i64_w, i32_w]; rfl
         refine pure_ (i := 1) (N := some 27) (v := ?_) (a' := ?_) #[T,T,F,F,F,F,F,F,F,F,F,F,F] rfl rfl (any_of HT_.out (by kernel_rfl)) (fun _ _ _ h => h) (Or.inl ⟨by rfl, ?_⟩) ?_ ?_
         rotate_left
         ·
          intro w'; go_simp; with_reducible rfl
         rotate_left
         ·
          simp only [Act.put, lA, lZ, lS, i64_w, i32_w]; rfl
         refine pure_ (i := 2) (N := some 28) (v := ?_) (a' := ?_) #[T,T,T,F,F,F,F,F,F,F,F,F,F] rfl rfl (any_of HT_.out (by kernel_rfl)) (fun _ _ _ h => h) (Or.inl ⟨by rfl, ?_⟩) ?_ ?_
         rotate_left
         ·
          intro w'; go_simp; with_reducible rfl
         rotate_left
         ·
          simp only [Act.put, lA, lZ, lS, i64_w, i32_w]; rfl
         refine pure_ (i := 3) (N := some 29) (v := ?_) (a' := ?_) #[T,T,T,T,F,F,F,F,F,F,F,F,F] rfl rfl (any_of HT_.out (by kernel_rfl)) (fun _ _ _ h => h) (Or.inl ⟨by rfl, ?_⟩) ?_ ?_
         rotate_left
         ·
          intro w'; go_simp; with_reducible rfl
         rotate_left
         ·
          simp only [Act.put, lA, lZ, lS, i64_w, i32_w]; rfl
         refine take_ (i := 5) (N := some 31) (v := ?_) (a' := ?_) #[T,T,T,T,F,T,F,F,F,F,F,F,F] rfl rfl (take_ofW HT_.out HW_.out (by kernel_rfl)) (fun _ _ _ h => h) (Or.inl ⟨by rfl, ?_⟩) hHeld ?_ ?_
         rotate_left
         ·
          rintro w' ⟨sx1, sx2, sx3⟩
          go_simp; with_reducible rfl
         rotate_left
         ·
          simp only [Act.put, lA, lZ, lS, i64_w, i32_w]; rfl
         refine pure_ (i := 6) (N := some 32) (v := ?_) (a' := ?_) #[T,T,T,T,F,T,T,F,F,F,F,F,F] rfl rfl (any_of HT_.out (by kernel_rfl)) (fun _ _ _ h => h) (Or.inl ⟨by rfl, ?_⟩) ?_ ?_
         rotate_left
         ·
          intro w'; go_simp; with_reducible rfl
         rotate_left
         ·
          simp only [Act.put, lA, lZ, lS, i64_w, i32_w]; rfl
         refine pure_ (i := 7) (N := some 33) (v := ?_) (a' := ?_) #[T,T,T,T,F,T,T,T,F,F,F,F,F] rfl rfl (any_of HT_.out (by kernel_rfl)) (fun _ _ _ h => h) (Or.inl ⟨by rfl, ?_⟩) ?_ ?_
         rotate_left
         ·
          intro w'; go_simp; with_reducible rfl
         rotate_left
         ·
          simp only [Act.put, lA, lZ, lS, i64_w, i32_w]; rfl
         refine take_ (i := 4) (N := some 30) (v := ?_) (a' := ?_) #[T,T,T,T,T,T,T,T,F,F,F,F,F] rfl rfl (take_ofW HT_.out HW_.out (by kernel_rfl)) (fun _ _ _ h => h) (Or.inl ⟨by rfl, ?_⟩) hHeld ?_ ?_
         rotate_left
         ·
          rintro w' ⟨sx1, sx2, s0, s1, s2, s3⟩
          go_simp; with_reducible rfl
         rotate_left
         ·
          simp only [Act.put, lA, lZ, lS, i64_w, i32_w]; rfl
         refine take_ (i := 8) (N := some 34) (v := ?_) (a' := ?_) #[T,T,T,T,T,T,T,T,T,F,F,F,F] rfl rfl (take_ofW HT_.out HW_.out (by kernel_rfl)) (fun _ _ _ h => h) (Or.inl ⟨by rfl, ?_⟩) hHeld ?_ ?_
         rotate_left
         ·
          rintro w' ⟨sx1, sx2, s0, s1, s2, s3⟩
          go_simp; with_reducible rfl
         rotate_left
         ·
          simp only [Act.put, lA, lZ, lS, i64_w, i32_w]; rfl
         refine join_ (σ := Nat × Nat) 2 #[T,T,T,T,T,T,T,T,T,T,T,F,F] (fun s_ => [(7, .pointer (some ⟨s_.1, 0, none⟩)), (8, .pointer (some ⟨s_.2, 0, none⟩))]) (fun s_ w' => (w'.cell? ⟨w.heap.size, 0, none⟩ = some (.slice (some ad116) l0.length c0) ∧ w'.cell? ⟨w.heap.size + 1, 0, none⟩ = some (.int .i64 a1) ∧ w'.cell? (ad116.add (((ji12)).toNat * 2)) = some (.int .i64 ((rd_T37 l0 (ji12)).f0)) ∧ w'.cell? ⟨(ad116.add (((ji12)).toNat * 2)).block, (ad116.add (((ji12)).toNat * 2)).off + 1, none⟩ = some (.int .i64 ((rd_T37 l0 (ji12)).f1)) ∧ w'.cell? (ad116.add ((t115).toNat * 2)) = some (.int .i64 ((rd_T37 l0 t115).f0)) ∧ w'.cell? ⟨(ad116.add ((t115).toNat * 2)).block, (ad116.add ((t115).toNat * 2)).off + 1, none⟩ = some (.int .i64 ((rd_T37 l0 t115).f1))) ∧ (w'.heap[s_.1]? = some (.cells #[.int .i64 0, .int .i64 0] 37 (0, 0))) ∧ (w'.heap[s_.2]? = some (.cells #[.int .i64 0, .int .i64 0] 37 (0, 0))) ∧ (W0.heap.size ≤ s_.1) ∧ (W0.heap.size ≤ s_.1) ∧ (s_.2 ≠ s_.1) ∧ (s_.1 ≠ s_.2) ∧ (W0.heap.size ≤ s_.2) ∧ (W0.heap.size ≤ s_.2) ∧ (Below W0.heap.size W0 w')) ?_ ?_
         rotate_left
         ·
          intro hCont; refine two_ (i := 9) (j := 10) (Ni := some 7) (Nj := some 8) #[T,T,T,T,T,T,T,T,T,T,F,F,F] #[T,T,T,T,T,T,T,T,T,F,T,F,F] rfl rfl rfl rfl (two_of HT_.out (by kernel_rfl)) (by decide) (by decide) (fun K hK => ?_) (fun K hK => ?_)
          ·
           skip
           refine box_step ?hg (N := 7) ?hd (cs := #[.int .i64 0, .int .i64 0]) (t := 37) ?hr ?_; (case hd => rfl); (case hg => rfl); (case hr => first | (go_simp; done) | (go_simp; rfl))
           intro gb118 hg w35 hbox hb; have n0_ := Aside0.mk (bP (by repeat (first | (with_reducible first | exact HB.out | apply bL | apply bW | apply b1) | exact HB.out)) hb)
           have n1_ := Aside0.mk (hbox)
           have n2_ := Aside0.mk ((by rw [hg]; exact (bZ (by repeat (first | (with_reducible first | exact HB.out | apply bL | apply bW | apply b1) | exact HB.out))) : W0.heap.size ≤ gb118))
           have n3_ := Aside0.mk ((by rw [hg]; exact (bZ (by repeat (first | (with_reducible first | exact HB.out | apply bL | apply bW | apply b1) | exact HB.out))) : W0.heap.size ≤ gb118))
           clear HB; have HB := n0_
           have BK118 := n1_
           have GW118 := n2_
           have GE118 := n3_
           clear n0_ n1_ n2_ n3_; clear hb hbox hg; refine hK.out _ _ ⟨((HB.out.cell (wL W0 _ hq1)).trans hq1), ((HB.out.cell (wL W0 _ hq2)).trans hq2), ((HB.out.cell (wL W0 _ hw116_0)).trans hw116_0), ((HB.out.cell (wL W0 _ hw116_1)).trans hw116_1), ((HB.out.cell (wL W0 _ hw117_0)).trans hw117_0), ((HB.out.cell (wL W0 _ hw117_1)).trans hw117_1)⟩ (fun hHeld => ?_)
           clear hK K; refine norm_ (a' := ?_) ?_ ?_
           rotate_left
           ·
            show Act.put _ (some 7) _ = _
            simp only [Act.put, lA, lZ, lS, i64_w, i32_w]; rfl
           refine one_ (i := 10) (N := some 8) #[T,T,T,T,T,T,T,T,T,T,T,F,F] rfl rfl (one_of HT_.out (by kernel_rfl)) (by decide) (fun K hK => ?_)
           refine box_step ?hg (N := 8) ?hd (cs := #[.int .i64 0, .int .i64 0]) (t := 37) ?hr ?_; (case hd => rfl); (case hg => rfl); (case hr => first | (go_simp; done) | (go_simp; rfl))
           intro gb119 hg w36 hbox hb; have n0_ := Aside0.mk (bB (g := gb118) (o := .cells #[.int .i64 0, .int .i64 0] 37 (0, 0)) (by (with_reducible repeat (first | refine bN ?_ _ | refine bD ?_ | refine bA ?_ _)); exact BK118.out) hb)
           have n1_ := Aside0.mk (bP (by repeat (first | (with_reducible first | exact HB.out | apply bL | apply bW | apply b1 | refine bS ?_ GE118.out) | exact HB.out)) hb)
           have n2_ := Aside0.mk (hbox)
           have n3_ := Aside0.mk ((by rw [hg]; exact (bZ (by repeat (first | (with_reducible first | exact HB.out | apply bL | apply bW | apply b1 | refine bS ?_ GE118.out) | exact HB.out))) : W0.heap.size ≤ gb119))
           have n4_ := Aside0.mk ((by rw [hg]; exact (bZ (by repeat (first | (with_reducible first | exact HB.out | apply bL | apply bW | apply b1 | refine bS ?_ GE118.out) | exact HB.out))) : W0.heap.size ≤ gb119))
           have n5_ := Aside0.mk ((by rw [hg]; exact Nat.ne_of_lt (bT (g := gb118) (o := .cells #[.int .i64 0, .int .i64 0] 37 (0, 0)) (by (with_reducible repeat (first | refine bN ?_ _ | refine bD ?_ | refine bA ?_ _)); exact BK118.out)) : gb118 ≠ gb119))
           have n6_ := Aside0.mk ((by rw [hg]; exact Nat.ne_of_gt (bT (g := gb118) (o := .cells #[.int .i64 0, .int .i64 0] 37 (0, 0)) (by (with_reducible repeat (first | refine bN ?_ _ | refine bD ?_ | refine bA ?_ _)); exact BK118.out)) : gb119 ≠ gb118))
           clear BK118; clear HB; have BK118 := n0_
           have HB := n1_
           have BK119 := n2_
           have GW119 := n3_
           have GE119 := n4_
           have NB118_119 := n5_
           have NB119_118 := n6_
           clear n0_ n1_ n2_ n3_ n4_ n5_ n6_; clear hb hbox hg; refine hK.out _ _ ⟨((HB.out.cell (wL W0 _ hq1)).trans hq1), ((HB.out.cell (wL W0 _ hq2)).trans hq2), ((HB.out.cell (wL W0 _ hw116_0)).trans hw116_0), ((HB.out.cell (wL W0 _ hw116_1)).trans hw116_1), ((HB.out.cell (wL W0 _ hw117_0)).trans hw117_0), ((HB.out.cell (wL W0 _ hw117_1)).trans hw117_1)⟩ (fun hHeld => ?_)
           clear hK K; refine norm_ (a' := ?_) ?_ ?_
           rotate_left
           ·
            show Act.put _ (some 8) _ = _
            simp only [Act.put, lA, lZ, lS, i64_w, i32_w]; rfl
           exact norm_ (by simp only [putAll, Act.put, lA, lZ, lS]) (hCont (gb118, gb119) _ ⟨hHeld, (by (with_reducible repeat (first | refine bN ?_ _ | refine bD ?_ | refine bA ?_ _)); exact BK118.out), (by (with_reducible repeat (first | refine bN ?_ _ | refine bD ?_ | refine bA ?_ _)); exact BK119.out), GW118.out, GE118.out, NB119_118.out, NB118_119.out, GW119.out, GE119.out, (by repeat (first | (with_reducible first | exact HB.out | apply bL | apply bW | apply b1 | refine bS ?_ GE118.out | refine bS ?_ GE119.out) | exact HB.out))⟩)
          ·
           skip
           refine box_step ?hg (N := 8) ?hd (cs := #[.int .i64 0, .int .i64 0]) (t := 37) ?hr ?_; (case hd => rfl); (case hg => rfl); (case hr => first | (go_simp; done) | (go_simp; rfl))
           intro gb119 hg w35 hbox hb; have n0_ := Aside0.mk (bP (by repeat (first | (with_reducible first | exact HB.out | apply bL | apply bW | apply b1) | exact HB.out)) hb)
           have n1_ := Aside0.mk (hbox)
           have n2_ := Aside0.mk ((by rw [hg]; exact (bZ (by repeat (first | (with_reducible first | exact HB.out | apply bL | apply bW | apply b1) | exact HB.out))) : W0.heap.size ≤ gb119))
           have n3_ := Aside0.mk ((by rw [hg]; exact (bZ (by repeat (first | (with_reducible first | exact HB.out | apply bL | apply bW | apply b1) | exact HB.out))) : W0.heap.size ≤ gb119))
           clear HB; have HB := n0_
           have BK119 := n1_
           have GW119 := n2_
           have GE119 := n3_
           clear n0_ n1_ n2_ n3_; clear hb hbox hg; refine hK.out _ _ ⟨((HB.out.cell (wL W0 _ hq1)).trans hq1), ((HB.out.cell (wL W0 _ hq2)).trans hq2), ((HB.out.cell (wL W0 _ hw116_0)).trans hw116_0), ((HB.out.cell (wL W0 _ hw116_1)).trans hw116_1), ((HB.out.cell (wL W0 _ hw117_0)).trans hw117_0), ((HB.out.cell (wL W0 _ hw117_1)).trans hw117_1)⟩ (fun hHeld => ?_)
           clear hK K; refine norm_ (a' := ?_) ?_ ?_
           rotate_left
           ·
            show Act.put _ (some 8) _ = _
            simp only [Act.put, lA, lZ, lS, i64_w, i32_w]; rfl
           refine one_ (i := 9) (N := some 7) #[T,T,T,T,T,T,T,T,T,T,T,F,F] rfl rfl (one_of HT_.out (by kernel_rfl)) (by decide) (fun K hK => ?_)
           refine box_step ?hg (N := 7) ?hd (cs := #[.int .i64 0, .int .i64 0]) (t := 37) ?hr ?_; (case hd => rfl); (case hg => rfl); (case hr => first | (go_simp; done) | (go_simp; rfl))
           intro gb118 hg w36 hbox hb; have n0_ := Aside0.mk (bB (g := gb119) (o := .cells #[.int .i64 0, .int .i64 0] 37 (0, 0)) (by (with_reducible repeat (first | refine bN ?_ _ | refine bD ?_ | refine bA ?_ _)); exact BK119.out) hb)
           have n1_ := Aside0.mk (bP (by repeat (first | (with_reducible first | exact HB.out | apply bL | apply bW | apply b1 | refine bS ?_ GE119.out) | exact HB.out)) hb)
           have n2_ := Aside0.mk (hbox)
           have n3_ := Aside0.mk ((by rw [hg]; exact (bZ (by repeat (first | (with_reducible first | exact HB.out | apply bL | apply bW | apply b1 | refine bS ?_ GE119.out) | exact HB.out))) : W0.heap.size ≤ gb118))
           have n4_ := Aside0.mk ((by rw [hg]; exact (bZ (by repeat (first | (with_reducible first | exact HB.out | apply bL | apply bW | apply b1 | refine bS ?_ GE119.out) | exact HB.out))) : W0.heap.size ≤ gb118))
           have n5_ := Aside0.mk ((by rw [hg]; exact Nat.ne_of_lt (bT (g := gb119) (o := .cells #[.int .i64 0, .int .i64 0] 37 (0, 0)) (by (with_reducible repeat (first | refine bN ?_ _ | refine bD ?_ | refine bA ?_ _)); exact BK119.out)) : gb119 ≠ gb118))
           have n6_ := Aside0.mk ((by rw [hg]; exact Nat.ne_of_gt (bT (g := gb119) (o := .cells #[.int .i64 0, .int .i64 0] 37 (0, 0)) (by (with_reducible repeat (first | refine bN ?_ _ | refine bD ?_ | refine bA ?_ _)); exact BK119.out)) : gb118 ≠ gb119))
           clear BK119; clear HB; have BK119 := n0_
           have HB := n1_
           have BK118 := n2_
           have GW118 := n3_
           have GE118 := n4_
           have NB119_118 := n5_
           have NB118_119 := n6_
           clear n0_ n1_ n2_ n3_ n4_ n5_ n6_; clear hb hbox hg; refine hK.out _ _ ⟨((HB.out.cell (wL W0 _ hq1)).trans hq1), ((HB.out.cell (wL W0 _ hq2)).trans hq2), ((HB.out.cell (wL W0 _ hw116_0)).trans hw116_0), ((HB.out.cell (wL W0 _ hw116_1)).trans hw116_1), ((HB.out.cell (wL W0 _ hw117_0)).trans hw117_0), ((HB.out.cell (wL W0 _ hw117_1)).trans hw117_1)⟩ (fun hHeld => ?_)
           clear hK K; refine norm_ (a' := ?_) ?_ ?_
           rotate_left
           ·
            show Act.put _ (some 7) _ = _
            simp only [Act.put, lA, lZ, lS, i64_w, i32_w]; rfl
           exact norm_ (by simp only [putAll, Act.put, lA, lZ, lS]) (hCont (gb118, gb119) _ ⟨hHeld, (by (with_reducible repeat (first | refine bN ?_ _ | refine bD ?_ | refine bA ?_ _)); exact BK118.out), (by (with_reducible repeat (first | refine bN ?_ _ | refine bD ?_ | refine bA ?_ _)); exact BK119.out), GW118.out, GE118.out, NB119_118.out, NB118_119.out, GW119.out, GE119.out, (by repeat (first | (with_reducible first | exact HB.out | apply bL | apply bW | apply b1 | refine bS ?_ GE119.out | refine bS ?_ GE118.out) | exact HB.out))⟩)
         rintro ⟨gb118, gb119⟩ w37 ⟨hS_, h0_, h1_, h2_, h3_, h4_, h5_, h6_, h7_, h8_⟩
         have n0_ : Aside0 (w37.heap[gb118]? = some (.cells #[.int .i64 0, .int .i64 0] 37 (0, 0))) := ⟨h0_⟩
         have n1_ : Aside0 (w37.heap[gb119]? = some (.cells #[.int .i64 0, .int .i64 0] 37 (0, 0))) := ⟨h1_⟩
         have n2_ : Aside0 (W0.heap.size ≤ gb118) := ⟨h2_⟩
         have n3_ : Aside0 (W0.heap.size ≤ gb118) := ⟨h3_⟩
         have n4_ : Aside0 (gb119 ≠ gb118) := ⟨h4_⟩
         have n5_ : Aside0 (gb118 ≠ gb119) := ⟨h5_⟩
         have n6_ : Aside0 (W0.heap.size ≤ gb119) := ⟨h6_⟩
         have n7_ : Aside0 (W0.heap.size ≤ gb119) := ⟨h7_⟩
         have n8_ : Aside0 (Below W0.heap.size W0 w37) := ⟨h8_⟩
         clear HB; clear h0_ h1_ h2_ h3_ h4_ h5_ h6_ h7_ h8_; have BK118 := n0_
         have BK119 := n1_
         have GW118 := n2_
         have GE118 := n3_
         have NB119_118 := n4_
         have NB118_119 := n5_
         have GW119 := n6_
         have GE119 := n7_
         have HB := n8_
         clear n0_ n1_ n2_ n3_ n4_ n5_ n6_ n7_ n8_; have hHeld := hS_
         refine norm_ (a' := ?_) ?_ ?_
         rotate_left
         ·
          simp only [putAll, Act.put, lA, lZ, lS]; rfl
         refine one_ (i := 11) (N := none) #[T,T,T,T,T,T,T,T,T,T,T,T,F] rfl rfl (one_of HT_.out (by kernel_rfl)) (by decide) (fun K hK => ?_)
         have hs38 : w37.cell? ⟨gb118, 0, none⟩ = some (.int .i64 0) := (bC BK118.out 0).trans rfl
         have hfs38 := bF BK118.out 0
         have hns38_1 := NB119_118.out
         have hms38_1 := NB118_119.out
         have hs39 : w37.cell? ⟨gb118, 1, none⟩ = some (.int .i64 0) := (bC BK118.out 1).trans rfl
         have hfs39 := bF BK118.out 1
         have hns39_1 := NB119_118.out
         have hms39_1 := NB118_119.out
         refine skip_ (w1 := ?_) (by rfl) rfl ?_ ?_
         rotate_left
         ·
          go_simp; rfl
         refine hK.out _ _ ⟨((cell_far (p := ⟨gb118, _, none⟩) (by have z_ := wL _ _ hq1; (try rw [add_block] at z_); have y_ := Nat.ne_of_lt (Nat.lt_of_lt_of_le z_ GW118.out); first | exact y_ | (rw [add_block]; exact y_) | (show (Addr.add _ _).block ≠ _; rw [add_block]; exact y_) | (dsimp only; exact y_)) _).trans (((cell_far (p := ⟨gb118, _, none⟩) (by have z_ := wL _ _ hq1; (try rw [add_block] at z_); have y_ := Nat.ne_of_lt (Nat.lt_of_lt_of_le z_ GW118.out); first | exact y_ | (rw [add_block]; exact y_) | (show (Addr.add _ _).block ≠ _; rw [add_block]; exact y_) | (dsimp only; exact y_)) _).trans (hHeld.1)))), ((cell_far (p := ⟨gb118, _, none⟩) (by have z_ := wL _ _ hq2; (try rw [add_block] at z_); have y_ := Nat.ne_of_lt (Nat.lt_of_lt_of_le z_ GW118.out); first | exact y_ | (rw [add_block]; exact y_) | (show (Addr.add _ _).block ≠ _; rw [add_block]; exact y_) | (dsimp only; exact y_)) _).trans (((cell_far (p := ⟨gb118, _, none⟩) (by have z_ := wL _ _ hq2; (try rw [add_block] at z_); have y_ := Nat.ne_of_lt (Nat.lt_of_lt_of_le z_ GW118.out); first | exact y_ | (rw [add_block]; exact y_) | (show (Addr.add _ _).block ≠ _; rw [add_block]; exact y_) | (dsimp only; exact y_)) _).trans (hHeld.2.1)))), ((cell_far (p := ⟨gb118, _, none⟩) (by have z_ := wL _ _ hw116_0; (try rw [add_block] at z_); have y_ := Nat.ne_of_lt (Nat.lt_of_lt_of_le z_ GW118.out); first | exact y_ | (rw [add_block]; exact y_) | (show (Addr.add _ _).block ≠ _; rw [add_block]; exact y_) | (dsimp only; exact y_)) _).trans (((cell_far (p := ⟨gb118, _, none⟩) (by have z_ := wL _ _ hw116_0; (try rw [add_block] at z_); have y_ := Nat.ne_of_lt (Nat.lt_of_lt_of_le z_ GW118.out); first | exact y_ | (rw [add_block]; exact y_) | (show (Addr.add _ _).block ≠ _; rw [add_block]; exact y_) | (dsimp only; exact y_)) _).trans (hHeld.2.2.1)))), ((cell_far (p := ⟨gb118, _, none⟩) (by have z_ := wL _ _ hw116_1; (try rw [add_block] at z_); have y_ := Nat.ne_of_lt (Nat.lt_of_lt_of_le z_ GW118.out); first | exact y_ | (rw [add_block]; exact y_) | (show (Addr.add _ _).block ≠ _; rw [add_block]; exact y_) | (dsimp only; exact y_)) _).trans (((cell_far (p := ⟨gb118, _, none⟩) (by have z_ := wL _ _ hw116_1; (try rw [add_block] at z_); have y_ := Nat.ne_of_lt (Nat.lt_of_lt_of_le z_ GW118.out); first | exact y_ | (rw [add_block]; exact y_) | (show (Addr.add _ _).block ≠ _; rw [add_block]; exact y_) | (dsimp only; exact y_)) _).trans (hHeld.2.2.2.1)))), ((cell_far (p := ⟨gb118, _, none⟩) (by have z_ := wL _ _ hw117_0; (try rw [add_block] at z_); have y_ := Nat.ne_of_lt (Nat.lt_of_lt_of_le z_ GW118.out); first | exact y_ | (rw [add_block]; exact y_) | (show (Addr.add _ _).block ≠ _; rw [add_block]; exact y_) | (dsimp only; exact y_)) _).trans (((cell_far (p := ⟨gb118, _, none⟩) (by have z_ := wL _ _ hw117_0; (try rw [add_block] at z_); have y_ := Nat.ne_of_lt (Nat.lt_of_lt_of_le z_ GW118.out); first | exact y_ | (rw [add_block]; exact y_) | (show (Addr.add _ _).block ≠ _; rw [add_block]; exact y_) | (dsimp only; exact y_)) _).trans (hHeld.2.2.2.2.1)))), ((cell_far (p := ⟨gb118, _, none⟩) (by have z_ := wL _ _ hw117_1; (try rw [add_block] at z_); have y_ := Nat.ne_of_lt (Nat.lt_of_lt_of_le z_ GW118.out); first | exact y_ | (rw [add_block]; exact y_) | (show (Addr.add _ _).block ≠ _; rw [add_block]; exact y_) | (dsimp only; exact y_)) _).trans (((cell_far (p := ⟨gb118, _, none⟩) (by have z_ := wL _ _ hw117_1; (try rw [add_block] at z_); have y_ := Nat.ne_of_lt (Nat.lt_of_lt_of_le z_ GW118.out); first | exact y_ | (rw [add_block]; exact y_) | (show (Addr.add _ _).block ≠ _; rw [add_block]; exact y_) | (dsimp only; exact y_)) _).trans (hHeld.2.2.2.2.2))))⟩ (fun hHeld => ?_)
         clear hK K; refine one_ (i := 12) (N := none) #[T,T,T,T,T,T,T,T,T,T,T,T,T] rfl rfl (one_of HT_.out (by kernel_rfl)) (by decide) (fun K hK => ?_)
         have hs40 : w37.cell? ⟨gb119, 0, none⟩ = some (.int .i64 0) := (bC BK119.out 0).trans rfl
         have hfs40 := bF BK119.out 0
         have hns40_0 := NB118_119.out
         have hms40_0 := NB119_118.out
         have hs41 : w37.cell? ⟨gb119, 1, none⟩ = some (.int .i64 0) := (bC BK119.out 1).trans rfl
         have hfs41 := bF BK119.out 1
         have hns41_0 := NB118_119.out
         have hms41_0 := NB119_118.out
         refine skip_ (w1 := ?_) (by rfl) rfl ?_ ?_
         rotate_left
         ·
          go_simp; rfl
         refine hK.out _ _ ⟨((cell_far (p := ⟨gb119, _, none⟩) (by have z_ := wL _ _ hq1; (try rw [add_block] at z_); have y_ := Nat.ne_of_lt (Nat.lt_of_lt_of_le z_ GW119.out); first | exact y_ | (rw [add_block]; exact y_) | (show (Addr.add _ _).block ≠ _; rw [add_block]; exact y_) | (dsimp only; exact y_)) _).trans (((cell_far (p := ⟨gb119, _, none⟩) (by have z_ := wL _ _ hq1; (try rw [add_block] at z_); have y_ := Nat.ne_of_lt (Nat.lt_of_lt_of_le z_ GW119.out); first | exact y_ | (rw [add_block]; exact y_) | (show (Addr.add _ _).block ≠ _; rw [add_block]; exact y_) | (dsimp only; exact y_)) _).trans (hHeld.1)))), ((cell_far (p := ⟨gb119, _, none⟩) (by have z_ := wL _ _ hq2; (try rw [add_block] at z_); have y_ := Nat.ne_of_lt (Nat.lt_of_lt_of_le z_ GW119.out); first | exact y_ | (rw [add_block]; exact y_) | (show (Addr.add _ _).block ≠ _; rw [add_block]; exact y_) | (dsimp only; exact y_)) _).trans (((cell_far (p := ⟨gb119, _, none⟩) (by have z_ := wL _ _ hq2; (try rw [add_block] at z_); have y_ := Nat.ne_of_lt (Nat.lt_of_lt_of_le z_ GW119.out); first | exact y_ | (rw [add_block]; exact y_) | (show (Addr.add _ _).block ≠ _; rw [add_block]; exact y_) | (dsimp only; exact y_)) _).trans (hHeld.2.1)))), ((cell_far (p := ⟨gb119, _, none⟩) (by have z_ := wL _ _ hw116_0; (try rw [add_block] at z_); have y_ := Nat.ne_of_lt (Nat.lt_of_lt_of_le z_ GW119.out); first | exact y_ | (rw [add_block]; exact y_) | (show (Addr.add _ _).block ≠ _; rw [add_block]; exact y_) | (dsimp only; exact y_)) _).trans (((cell_far (p := ⟨gb119, _, none⟩) (by have z_ := wL _ _ hw116_0; (try rw [add_block] at z_); have y_ := Nat.ne_of_lt (Nat.lt_of_lt_of_le z_ GW119.out); first | exact y_ | (rw [add_block]; exact y_) | (show (Addr.add _ _).block ≠ _; rw [add_block]; exact y_) | (dsimp only; exact y_)) _).trans (hHeld.2.2.1)))), ((cell_far (p := ⟨gb119, _, none⟩) (by have z_ := wL _ _ hw116_1; (try rw [add_block] at z_); have y_ := Nat.ne_of_lt (Nat.lt_of_lt_of_le z_ GW119.out); first | exact y_ | (rw [add_block]; exact y_) | (show (Addr.add _ _).block ≠ _; rw [add_block]; exact y_) | (dsimp only; exact y_)) _).trans (((cell_far (p := ⟨gb119, _, none⟩) (by have z_ := wL _ _ hw116_1; (try rw [add_block] at z_); have y_ := Nat.ne_of_lt (Nat.lt_of_lt_of_le z_ GW119.out); first | exact y_ | (rw [add_block]; exact y_) | (show (Addr.add _ _).block ≠ _; rw [add_block]; exact y_) | (dsimp only; exact y_)) _).trans (hHeld.2.2.2.1)))), ((cell_far (p := ⟨gb119, _, none⟩) (by have z_ := wL _ _ hw117_0; (try rw [add_block] at z_); have y_ := Nat.ne_of_lt (Nat.lt_of_lt_of_le z_ GW119.out); first | exact y_ | (rw [add_block]; exact y_) | (show (Addr.add _ _).block ≠ _; rw [add_block]; exact y_) | (dsimp only; exact y_)) _).trans (((cell_far (p := ⟨gb119, _, none⟩) (by have z_ := wL _ _ hw117_0; (try rw [add_block] at z_); have y_ := Nat.ne_of_lt (Nat.lt_of_lt_of_le z_ GW119.out); first | exact y_ | (rw [add_block]; exact y_) | (show (Addr.add _ _).block ≠ _; rw [add_block]; exact y_) | (dsimp only; exact y_)) _).trans (hHeld.2.2.2.2.1)))), ((cell_far (p := ⟨gb119, _, none⟩) (by have z_ := wL _ _ hw117_1; (try rw [add_block] at z_); have y_ := Nat.ne_of_lt (Nat.lt_of_lt_of_le z_ GW119.out); first | exact y_ | (rw [add_block]; exact y_) | (show (Addr.add _ _).block ≠ _; rw [add_block]; exact y_) | (dsimp only; exact y_)) _).trans (((cell_far (p := ⟨gb119, _, none⟩) (by have z_ := wL _ _ hw117_1; (try rw [add_block] at z_); have y_ := Nat.ne_of_lt (Nat.lt_of_lt_of_le z_ GW119.out); first | exact y_ | (rw [add_block]; exact y_) | (show (Addr.add _ _).block ≠ _; rw [add_block]; exact y_) | (dsimp only; exact y_)) _).trans (hHeld.2.2.2.2.2))))⟩ (fun hHeld => ?_)
         clear hK K; refine done_ (done_of HT_.out (by kernel_rfl)) ?_
         have hnb42 := NB118_119.out
         have hnc42 := NB119_118.out
         have hcz43_0 : w37.cell? ⟨gb118, 0, none⟩ = some (.int .i64 0) := (bC BK118.out 0).trans rfl
         have hcz43_1 : w37.cell? ⟨gb118, 1, none⟩ = some (.int .i64 0) := (bC BK118.out 1).trans rfl
         have hfz43_0 := bF BK118.out 0
         have hfz43_1 := bF BK118.out 1
         have hcz44_0 : w37.cell? ⟨gb119, 0, none⟩ = some (.int .i64 0) := (bC BK119.out 0).trans rfl
         have hcz44_1 : w37.cell? ⟨gb119, 1, none⟩ = some (.int .i64 0) := (bC BK119.out 1).trans rfl
         have hfz44_0 := bF BK119.out 0
         have hfz44_1 := bF BK119.out 1
         have hbx1 := ((HB.out.cell (wL W0 _ hq1)).trans hq1)
         have hbx2 := ((HB.out.cell (wL W0 _ hq2)).trans hq2)
         try go_wp2_with (first | ((with_reducible refine gate_callee (f := 21) rfl ?_); refine goesL_ (some 50) rfl rfl Try.func21 (by kernel_rfl) rfl #[.int .i64 (wrap64 (a1 - ((rd_T37 l0 (ji12)).f1))), .int .i64 (wrap64 (((rd_T37 l0 t115).f0) - ((rd_T37 l0 (ji12)).f0))), .int .i64 (wrap64 (((rd_T37 l0 t115).f1) - ((rd_T37 l0 (ji12)).f1)))] rfl (by (try simp only [List.map_toArray, List.map_cons, List.map_nil]); first | done | (simp only [hji12]; rfl) | rfl | (simp only [List.length_drop, List.length_take]; rfl)) ?_; (try rw [← hW0.out]); (with_reducible refine (exact_Scale.calls k (wrap64 (a1 - ((rd_T37 l0 (ji12)).f1))) (wrap64 (((rd_T37 l0 t115).f0) - ((rd_T37 l0 (ji12)).f0))) (wrap64 (((rd_T37 l0 t115).f1) - ((rd_T37 l0 (ji12)).f1))) t120 t121 t122 _ A17.out).mono ?_); rintro e w' ⟨rfl, ⟨nd, rfl⟩⟩; refine ⟨_, rfl, ?_⟩))
         go_ret2
         exact ⟨by first | rfl | (simp [errW_none, errW_some] <;> rfl) | (simp only [← hji12]; first | rfl | (simp [errW_none, errW_some] <;> rfl)) | (simp [*, errW_none, errW_some] <;> rfl), by repeat (first | (with_reducible first | exact HB.out | apply bL | apply bW | apply b1 | refine bS ?_ GE118.out | refine bS ?_ GE119.out) | exact HB.out)⟩
       ·
        rw [if_neg c16] at H; exact absurd H (by simp)
      ·
       rw [if_neg c15] at H; exact absurd H (by simp)
     ·
      rw [if_neg c14] at H; exact absurd H (by simp)
    ·
     rw [if_neg c13] at H; exact absurd H (by simp)
 ·
  replace c4 := Bool.eq_false_iff.mpr c4
  subst c4; have H1 : (some (0, false)) = some (r1, r2) := by rw [if_neg (show ¬ (false = true) by decide)] at H; exact H
  clear H; have H := H1
  clear H1; simp only [Option.some.injEq, Prod.mk.injEq] at H; obtain ⟨rfl, rfl⟩ := H
  go_enter Try.func9, Try.ntmps9
  have hbx1 := ((HB.out.cell (wL W0 _ hq1)).trans hq1)
  have hbx2 := ((HB.out.cell (wL W0 _ hq2)).trans hq2)
  go_wp2_with (first | ((with_reducible refine gate_callee (f := 11) rfl ?_); refine goesL_ (some 13) rfl rfl Try.func11 (by kernel_rfl) rfl #[.slice A0 l0.length c0] rfl (by (try simp only [List.map_toArray, List.map_cons, List.map_nil]); first | done | rfl | (simp only [List.length_drop, List.length_take]; rfl)) ?_; (try rw [← hW0.out]); (with_reducible refine (curve_Right.calls k _ _ l0 false _ ?side1 ?side2 A3.out).mono ?_); (case side1 => repeat (first | exact HR0.out | (with_reducible refine Kd.C_alloc ?_ _) | (with_reducible refine Kd.C_drewN ?_ _) | (with_reducible refine Kd.C_drew ?_))); (case side2 => exact HC0.out); rintro e w45 ⟨rfl, hb⟩; refine ⟨_, rfl, ?_⟩; have n0_ := Aside0.mk (bP (by repeat (first | (with_reducible first | exact HB.out | apply bL | apply bW | apply b1) | exact HB.out)) hb); clear HB; have HB := n0_; clear n0_; (try clear hbx1 hbx2); have hbx1 := ((HB.out.cell (wL W0 _ hq1)).trans hq1); have hbx2 := ((HB.out.cell (wL W0 _ hq2)).trans hq2); (try clear hb); (try clear hb2); (try clear hk); (try clear hi)))
  go_ret2
  exact ⟨by first | rfl | (simp [errW_none, errW_some] <;> rfl) | (simp [*, errW_none, errW_some] <;> rfl), by repeat (first | (with_reducible first | exact HB.out | apply bL | apply bW | apply b1) | exact HB.out)⟩
end Go.Proofs.Ytmkekbehipaopaa.Fn
