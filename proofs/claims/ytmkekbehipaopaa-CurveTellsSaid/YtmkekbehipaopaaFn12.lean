-- written by this session's program myprint.py out of the translation; Lean checks it
import Derived.Test.YtmkekbehipaopaaFn0
import Derived.Test.YtmkekbehipaopaaFn8
import Derived.Test.YtmkekbehipaopaaFn9
import Derived.Test.YtmkekbehipaopaaFn10
import Derived.Test.YtmkekbehipaopaaFn11
namespace Go.Proofs.Ytmkekbehipaopaa.Fn
open Go.RowKit Go.Proofs.YtmkekbehipaopaaW.PrintWords Go.Proofs.YtmkekbehipaopaaW.PrintLast Go.Proofs.YtmkekbehipaopaaW.PrintMore
open World renaming block_lt_of_cell? → wL
open Bool renaming true → T, false → F
open List renaming setIfInBounds_toArray → lA, set_cons_zero → lZ, set_cons_succ → lS
open Go.Proofs.YtmkekbehipaopaaW.PrintWords renaming pw_below_drewN → bW, below_drew1 → b1, below_alloc → bL, below_step → bP
attribute [local go_sem] max2_int min2_int max_two min_two max_three min_three max_four min_four
set_option linter.unusedVariables false
set_option linter.unusedSimpArgs false
mutual
def bourneref10_Least.j0 : Nat → List (S37) → Int → Bool → Option (Int × Bool)
 | 0, _, _, _ => none
 | k + 1, x0, x1, x22 => if x22 = true then (some (0, false)) else (if 0 ≤ (wrap64 ((x0.length : Int) - 1)) then (if (wrap64 ((x0.length : Int) - 1)) < (x0.length : Int) then (bourneref10_Least.l0 k x0 x1 0 ((rd_T37 x0 (wrap64 ((x0.length : Int) - 1))).f0)) else (none)) else (none))
def bourneref10_Least.l0 : Nat → List (S37) → Int → Int → Int → Option (Int × Bool)
 | 0, _, _, _, _ => none
 | k + 1, x0, x1, x6, x7 => if x6 < x7 then ((bourneref10_At.f k x0 (wrap64 (Int.tdiv (wrap64 (x6 + x7)) 2))).bind fun t219 => (if t219 ≥ x1 then (bourneref10_Least.l0 k x0 x1 x6 (wrap64 (Int.tdiv (wrap64 (x6 + x7)) 2))) else (bourneref10_Least.l0 k x0 x1 (wrap64 ((wrap64 (Int.tdiv (wrap64 (x6 + x7)) 2)) + 1)) x7))) else (some (x6, true))
end
def bourneref10_Least.f (k : Nat) (l0 : List (S37)) (a1 : Int) : Option (Int × Bool) := (bourneref10_Right.f k l0).bind fun t216 => (if t216 = true then (if 0 ≤ (wrap64 ((l0.length : Int) - 1)) then (if (wrap64 ((l0.length : Int) - 1)) < (l0.length : Int) then (bourneref10_Least.j0 k l0 a1 (decide (a1 > ((rd_T37 l0 (wrap64 ((l0.length : Int) - 1))).f1)))) else (none)) else (none)) else (bourneref10_Least.j0 k l0 a1 true))
theorem bourneref10_Least.mono_l : ∀ k, (∀ y0 y1 y2, LeO (bourneref10_Least.j0 k y0 y1 y2) (bourneref10_Least.j0 (k + 1) y0 y1 y2)) ∧ (∀ y0 y1 y2 y3, LeO (bourneref10_Least.l0 k y0 y1 y2 y3) (bourneref10_Least.l0 (k + 1) y0 y1 y2 y3))
 | 0 => ⟨fun _ _ _ r h => by simp [bourneref10_Least.j0] at h, fun _ _ _ _ r h => by simp [bourneref10_Least.l0] at h⟩
 | k + 1 => by
  obtain ⟨ih0, ih1⟩ := bourneref10_Least.mono_l k
  refine ⟨?_, ?_⟩
  ·
   intro y0 y1 y2; unfold bourneref10_Least.j0
   repeat' first
   | (with_reducible exact ih0 _ _ _)
   | (with_reducible exact ih1 _ _ _ _)
   | (with_reducible exact bourneref10_At.mono _ _ _)
   | (with_reducible exact bourneref10_Right.mono _ _)
   | (with_reducible exact LeO.refl _)
   | (with_reducible exact LeO.none _)
   | (with_reducible refine LeO.ite ?_ ?_)
   | (with_reducible refine LeO.bind ?_ (fun _ => ?_))
   | exact ih0 _ _ _
   | exact ih1 _ _ _ _
   | exact bourneref10_At.mono _ _ _
   | exact bourneref10_Right.mono _ _
   | exact LeO.none _
   | refine LeO.ite ?_ ?_
   | refine LeO.bind ?_ (fun _ => ?_)
  ·
   intro y0 y1 y2 y3; unfold bourneref10_Least.l0
   repeat' first
   | (with_reducible exact ih0 _ _ _)
   | (with_reducible exact ih1 _ _ _ _)
   | (with_reducible exact bourneref10_At.mono _ _ _)
   | (with_reducible exact bourneref10_Right.mono _ _)
   | (with_reducible exact LeO.refl _)
   | (with_reducible exact LeO.none _)
   | (with_reducible refine LeO.ite ?_ ?_)
   | (with_reducible refine LeO.bind ?_ (fun _ => ?_))
   | exact ih0 _ _ _
   | exact ih1 _ _ _ _
   | exact bourneref10_At.mono _ _ _
   | exact bourneref10_Right.mono _ _
   | exact LeO.none _
   | refine LeO.ite ?_ ?_
   | refine LeO.bind ?_ (fun _ => ?_)
theorem bourneref10_Least.mono : ∀ a0 a1 k, LeO (bourneref10_Least.f k a0 a1) (bourneref10_Least.f (k + 1) a0 a1) := by
 intro a0 a1 k; obtain ⟨ih0, ih1⟩ := bourneref10_Least.mono_l k
 unfold bourneref10_Least.f
 repeat' first
   | (with_reducible exact ih0 _ _ _)
   | (with_reducible exact ih1 _ _ _ _)
   | (with_reducible exact bourneref10_At.mono _ _ _)
   | (with_reducible exact bourneref10_Right.mono _ _)
   | (with_reducible exact LeO.refl _)
   | (with_reducible exact LeO.none _)
   | (with_reducible refine LeO.ite ?_ ?_)
   | (with_reducible refine LeO.bind ?_ (fun _ => ?_))
   | exact ih0 _ _ _
   | exact ih1 _ _ _ _
   | exact bourneref10_At.mono _ _ _
   | exact bourneref10_Right.mono _ _
   | exact LeO.none _
   | refine LeO.ite ?_ ?_
   | refine LeO.bind ?_ (fun _ => ?_)
set_option maxHeartbeats 8000000 in
set_option maxRecDepth 100000 in
theorem bourneref10_Least.calls (k : Nat) (A0 : Option Addr) (c0 : Nat) (l0 : List (S37)) (a1 : Int) (r1 : Int) (r2 : Bool) (w : World) (hr0 : Kd.C k37 w A0 l0.length l0) (hc0 : l0.length ≤ c0) (h : bourneref10_Least.f k l0 a1 = some (r1, r2)) :
  Calls Try.prog 10 #[.slice A0 l0.length c0, .int .i64 a1] w fun e w' => e = .returned (.tuple #[.int .i64 r1, .bool r2]) ∧ Below w.heap.size w w' := by
 have HR0 := Aside0.mk hr0
 have HC0 := Aside0.mk hc0
 clear hr0 hc0; have HB := Aside0.mk (Below.refl w.heap.size w)
 have H : ((bourneref10_Right.f k l0).bind fun t216 => (if t216 = true then (if 0 ≤ (wrap64 ((l0.length : Int) - 1)) then (if (wrap64 ((l0.length : Int) - 1)) < (l0.length : Int) then (bourneref10_Least.j0 k l0 a1 (decide (a1 > ((rd_T37 l0 (wrap64 ((l0.length : Int) - 1))).f1)))) else (none)) else (none)) else (bourneref10_Least.j0 k l0 a1 true))) = some (r1, r2) := h
 clear h; have HC3 := Aside0.mk H
 clear H; go_enter Try.func10, Try.ntmps10
 go_upto_region 1 with (fail)
 go_cut [22] (fun v22 wc => ∃ (kq : Nat) (x22_2 : Bool), v22 = .bool x22_2 ∧ Aside0 (bourneref10_Least.j0 kq l0 a1 x22_2 = some (r1, r2)) ∧ Aside0 (kq ≤ k) ∧ Aside0 (Below w.heap.size w wc))
 case first =>
  have H := HC3.out
  clear HC3; replace H := Option.bind_eq_some_iff.mp H
  obtain ⟨t216, A40, H⟩ := H
  have A4 := Aside0.mk A40
  clear A40; by_cases c5 : t216 = true
  ·
   subst c5; have H1 : (if 0 ≤ (wrap64 ((l0.length : Int) - 1)) then (if (wrap64 ((l0.length : Int) - 1)) < (l0.length : Int) then (bourneref10_Least.j0 k l0 a1 (decide (a1 > ((rd_T37 l0 (wrap64 ((l0.length : Int) - 1))).f1)))) else (none)) else (none)) = some (r1, r2) := by rw [if_pos rfl] at H; exact H
   clear H; have H := H1
   clear H1; obtain ⟨ji6, hji6⟩ : ∃ j_ : Int, (wrap64 ((l0.length : Int) - 1)) = j_ := ⟨_, rfl⟩
   replace H : (if 0 ≤ (ji6) then (if (ji6) < (l0.length : Int) then (bourneref10_Least.j0 k l0 a1 (decide (a1 > ((rd_T37 l0 (ji6)).f1)))) else (none)) else (none)) = some (r1, r2) := by first | (rw [hji6] at H; exact H) | (simp only [hji6] at H ⊢; exact H)
   (try rw [hji6] at A4); have hji6w : (IntKind.i64.wrap ((l0.length : Int) - 1)) = ji6 := (i64_w _).trans hji6
   by_cases c7 : 0 ≤ (ji6)
   ·
    rw [if_pos c7] at H; have c7b0 : decide (0 ≤ (ji6)) = true := decide_eq_true c7
    clear c7; (first | rw [c7b0] | (simp only [i64_w, i32_w]; rw [c7b0]) | skip)
    by_cases c8 : (ji6) < (l0.length : Int)
    ·
     rw [if_pos c8] at H; have c8b0 : decide ((ji6) < (l0.length : Int)) = true := decide_eq_true c8
     clear c8; have H' := Aside0.mk H
     clear H; go_wp2_with (first | ((with_reducible refine gate_callee (f := 12) rfl ?_); refine goesL_ (some 10) rfl rfl Try.func12 (by kernel_rfl) rfl #[.slice A0 l0.length c0] rfl (by (try simp only [List.map_toArray, List.map_cons, List.map_nil]); first | done | rfl | (simp only [List.length_drop, List.length_take]; rfl)) ?_; (with_reducible refine (bourneref10_Right.calls k _ _ l0 true _ ?side1 ?side2 A4.out).mono ?_); (case side1 => repeat (first | exact (Kd.C_below HR0.out HB.out) | (with_reducible refine Kd.C_alloc ?_ _) | (with_reducible refine Kd.C_drewN ?_ _) | (with_reducible refine Kd.C_drew ?_))); (case side2 => exact HC0.out); rintro e w9 ⟨rfl, hb⟩; refine ⟨_, rfl, ?_⟩; have n0_ := Aside0.mk (bP (by repeat (first | (with_reducible first | exact HB.out | apply bL | apply bW | apply b1) | exact HB.out)) hb); clear HB; have HB := n0_; clear n0_; (try clear hb); (try clear hb2); (try clear hk); (try clear hi); have p217 : 0 ≤ ((ji6) : Int) := of_decide_eq_true (by first | (with_reducible assumption) | assumption); have q217 : (ji6) < (l0.length : Int) := of_decide_eq_true (by first | (with_reducible assumption) | assumption); obtain ⟨ad217, e217, hx217_0, hx217_1⟩ := at_T37 HR0.out (ji6) p217 q217; cases e217; replace hx217_0 := (HB.out.cell (wL w _ hx217_0)).trans hx217_0; replace hx217_1 := (HB.out.cell (wL w _ hx217_1)).trans hx217_1; replace p217 := eq_true p217; replace q217 := eq_true q217))
     go_meet
     case rel => exact ⟨_, (decide (a1 > ((rd_T37 l0 (ji6)).f1))), (by first | rfl | (simp; done) | (simp only [← hji6] <;> (first | rfl | simp)) | (simp [*]; done)), H', ⟨by first | omega | exact Nat.le_refl _⟩, ⟨by repeat (first | (with_reducible first | exact HB.out | apply bL | apply bW | apply b1) | exact HB.out)⟩⟩
    ·
     rw [if_neg c8] at H; exact absurd H (by simp)
   ·
    rw [if_neg c7] at H; exact absurd H (by simp)
  ·
   replace c5 := Bool.eq_false_iff.mpr c5
   subst c5; have H1 : (bourneref10_Least.j0 k l0 a1 true) = some (r1, r2) := by rw [if_neg (show ¬ (false = true) by decide)] at H; exact H
   clear H; have H := H1
   clear H1; have H' := Aside0.mk H
   clear H; go_wp2_with (first | ((with_reducible refine gate_callee (f := 12) rfl ?_); refine goesL_ (some 10) rfl rfl Try.func12 (by kernel_rfl) rfl #[.slice A0 l0.length c0] rfl (by (try simp only [List.map_toArray, List.map_cons, List.map_nil]); first | done | rfl | (simp only [List.length_drop, List.length_take]; rfl)) ?_; (with_reducible refine (bourneref10_Right.calls k _ _ l0 false _ ?side1 ?side2 A4.out).mono ?_); (case side1 => repeat (first | exact (Kd.C_below HR0.out HB.out) | (with_reducible refine Kd.C_alloc ?_ _) | (with_reducible refine Kd.C_drewN ?_ _) | (with_reducible refine Kd.C_drew ?_))); (case side2 => exact HC0.out); rintro e w10 ⟨rfl, hb⟩; refine ⟨_, rfl, ?_⟩; have n0_ := Aside0.mk (bP (by repeat (first | (with_reducible first | exact HB.out | apply bL | apply bW | apply b1) | exact HB.out)) hb); clear HB; have HB := n0_; clear n0_; (try clear hb); (try clear hb2); (try clear hk); (try clear hi)))
   go_meet
   case rel => exact ⟨_, (true), (by first | rfl | (simp; done) | (simp [*]; done)), H', ⟨by first | omega | exact Nat.le_refl _⟩, ⟨by repeat (first | (with_reducible first | exact HB.out | apply bL | apply bW | apply b1) | exact HB.out)⟩⟩
 case rest =>
  clear HC3; try clear c1
  try clear p2
  try clear q2
  try clear hx2
  try clear c5
  try clear p6
  try clear c7
  try clear c7b0
  try clear c8
  try clear c8b0
  try clear c10
  try clear hx217_0
  try clear hx217_1
  try clear p217
  try clear q217
  obtain ⟨kq, x22_2, rfl, HA, HJ2, HB⟩ := hcut
  cases kq with
  | zero => exact absurd HA.out (by simp [bourneref10_Least.j0])
  | succ kj2 =>
   have H := HA.out
   clear HA; simp only [bourneref10_Least.j0] at H; by_cases c11 : x22_2 = true
   ·
    subst c11; have H1 : (some (0, false)) = some (r1, r2) := by rw [if_pos rfl] at H; exact H
    clear H; have H := H1
    clear H1; simp only [Option.some.injEq, Prod.mk.injEq] at H; obtain ⟨rfl, rfl⟩ := H
    go_wp2
    go_ret2
    exact ⟨by first | rfl | (simp [errW_none, errW_some] <;> rfl) | (simp [*, errW_none, errW_some] <;> rfl), by repeat (first | (with_reducible first | exact HB.out | apply bL | apply bW | apply b1) | exact HB.out)⟩
   ·
    replace c11 := Bool.eq_false_iff.mpr c11
    subst c11; have H1 : (if 0 ≤ (wrap64 ((l0.length : Int) - 1)) then (if (wrap64 ((l0.length : Int) - 1)) < (l0.length : Int) then (bourneref10_Least.l0 kj2 l0 a1 0 ((rd_T37 l0 (wrap64 ((l0.length : Int) - 1))).f0)) else (none)) else (none)) = some (r1, r2) := by rw [if_neg (show ¬ (false = true) by decide)] at H; exact H
    clear H; have H := H1
    clear H1; obtain ⟨ji12, hji12⟩ : ∃ j_ : Int, (wrap64 ((l0.length : Int) - 1)) = j_ := ⟨_, rfl⟩
    replace H : (if 0 ≤ (ji12) then (if (ji12) < (l0.length : Int) then (bourneref10_Least.l0 kj2 l0 a1 0 ((rd_T37 l0 (ji12)).f0)) else (none)) else (none)) = some (r1, r2) := by first | (rw [hji12] at H; exact H) | (simp only [hji12] at H ⊢; exact H)
    have hji12w : (IntKind.i64.wrap ((l0.length : Int) - 1)) = ji12 := (i64_w _).trans hji12
    by_cases c13 : 0 ≤ (ji12)
    ·
     rw [if_pos c13] at H; have c13b0 : decide (0 ≤ (ji12)) = true := decide_eq_true c13
     clear c13; by_cases c14 : (ji12) < (l0.length : Int)
     ·
      rw [if_pos c14] at H; have c14b0 : decide ((ji12) < (l0.length : Int)) = true := decide_eq_true c14
      clear c14; have H' := Aside0.mk H
      clear H; have p218 : 0 ≤ ((ji12) : Int) := of_decide_eq_true (by first | (with_reducible assumption) | assumption)
      have q218 : (ji12) < (l0.length : Int) := of_decide_eq_true (by first | (with_reducible assumption) | assumption)
      obtain ⟨ad218, e218, hx218_0, hx218_1⟩ := at_T37 HR0.out (ji12) p218 q218
      cases e218
      replace hx218_0 := (HB.out.cell (wL w _ hx218_0)).trans hx218_0
      replace hx218_1 := (HB.out.cell (wL w _ hx218_1)).trans hx218_1
      replace p218 := eq_true p218
      replace q218 := eq_true q218
      go_wp2
      go_loopg [6, 7] kj2 (fun kq v6 v7 w' => ∃ (x6_2 : Int) (x7_2 : Int), v6 = .int .i64 x6_2 ∧ v7 = .int .i64 x7_2 ∧ Aside0 (bourneref10_Least.l0 kq l0 a1 x6_2 x7_2 = some (r1, r2)) ∧ Aside0 (kq ≤ kj2) ∧ Aside0 (Below w.heap.size w w'))
      case atStart => exact ⟨(0), ((rd_T37 l0 (ji12)).f0), (by first | rfl | (simp; done) | (simp [*]; done)), (by first | rfl | (simp; done) | (simp only [← hji12] <;> (first | rfl | simp)) | (simp [*]; done)), H', ⟨Nat.le_refl _⟩, ⟨by repeat (first | (with_reducible first | exact HB.out | apply bL | apply bW | apply b1) | exact HB.out)⟩⟩
      case round =>
       clear H'; try clear c1
       try clear p2
       try clear q2
       try clear hx2
       try clear c5
       try clear p6
       try clear c7
       try clear c7b0
       try clear c8
       try clear c8b0
       try clear c10
       try clear c11
       try clear c12
       try clear c13
       try clear c13b0
       try clear c14
       try clear c14b0
       try clear hx217_0
       try clear hx217_1
       try clear hx218_0
       try clear hx218_1
       try clear p2
       try clear p217
       try clear p218
       try clear p6
       try clear q2
       try clear q217
       try clear q218
       obtain ⟨x6_2, x7_2, rfl, rfl, HA, HK2, HB⟩ := hrel
       cases gk with
       | zero => exact absurd HA.out (by simp [bourneref10_Least.l0])
       | succ k2 =>
        have H := HA.out
        clear HA; simp only [bourneref10_Least.l0] at H; by_cases c15 : x6_2 < x7_2
        ·
         rw [if_pos c15] at H; have c15b0 : decide (x6_2 < x7_2) = true := decide_eq_true c15
         clear c15; replace H := Option.bind_eq_some_iff.mp H
         obtain ⟨t219, A160, H⟩ := H
         have A16 := Aside0.mk A160
         clear A160; by_cases c17 : t219 ≥ a1
         ·
          rw [if_pos c17] at H; have c17b0 : decide (a1 ≤ t219) = true := decide_eq_true c17
          clear c17; have H' := Aside0.mk H
          clear H; go_wp2_with (first | ((with_reducible refine gate_callee (f := 14) rfl ?_); refine goesL_ (some 39) rfl rfl Try.func14 (by kernel_rfl) rfl #[.slice (some ad218) l0.length c0, .int .i64 (wrap64 (Int.tdiv (wrap64 (x6_2 + x7_2)) 2))] rfl (by (try simp only [List.map_toArray, List.map_cons, List.map_nil]); first | done | rfl | (simp only [List.length_drop, List.length_take]; rfl)) ?_; (with_reducible refine (bourneref10_At.calls k2 _ _ l0 (wrap64 (Int.tdiv (wrap64 (x6_2 + x7_2)) 2)) t219 _ ?side1 ?side2 A16.out).mono ?_); (case side1 => repeat (first | exact (Kd.C_below HR0.out HB.out) | (with_reducible refine Kd.C_alloc ?_ _) | (with_reducible refine Kd.C_drewN ?_ _) | (with_reducible refine Kd.C_drew ?_))); (case side2 => exact HC0.out); rintro e w18 ⟨rfl, hb⟩; refine ⟨_, rfl, ?_⟩; have n0_ := Aside0.mk (bP (by repeat (first | (with_reducible first | exact HB.out | apply bL | apply bW | apply b1) | exact HB.out)) hb); clear HB; have HB := n0_; clear n0_; (try clear hb); (try clear hb2); (try clear hk); (try clear hi)))
          go_roundg k2
          case measure => have := HJ2.out; have := HK2.out; omega
          case rel => exact ⟨(x6_2), (wrap64 (Int.tdiv (wrap64 (x6_2 + x7_2)) 2)), (by first | rfl | (simp; done) | (simp [*]; done)), (by first | rfl | (simp; done) | (simp [*]; done)), H', ⟨by have := HJ2.out; have := HK2.out; omega⟩, ⟨by repeat (first | (with_reducible first | exact HB.out | apply bL | apply bW | apply b1) | exact HB.out)⟩⟩
         ·
          rw [if_neg c17] at H; have c17b0 : decide (a1 ≤ t219) = false := decide_eq_false c17
          clear c17; have H' := Aside0.mk H
          clear H; go_wp2_with (first | ((with_reducible refine gate_callee (f := 14) rfl ?_); refine goesL_ (some 39) rfl rfl Try.func14 (by kernel_rfl) rfl #[.slice (some ad218) l0.length c0, .int .i64 (wrap64 (Int.tdiv (wrap64 (x6_2 + x7_2)) 2))] rfl (by (try simp only [List.map_toArray, List.map_cons, List.map_nil]); first | done | rfl | (simp only [List.length_drop, List.length_take]; rfl)) ?_; (with_reducible refine (bourneref10_At.calls k2 _ _ l0 (wrap64 (Int.tdiv (wrap64 (x6_2 + x7_2)) 2)) t219 _ ?side1 ?side2 A16.out).mono ?_); (case side1 => repeat (first | exact (Kd.C_below HR0.out HB.out) | (with_reducible refine Kd.C_alloc ?_ _) | (with_reducible refine Kd.C_drewN ?_ _) | (with_reducible refine Kd.C_drew ?_))); (case side2 => exact HC0.out); rintro e w19 ⟨rfl, hb⟩; refine ⟨_, rfl, ?_⟩; have n0_ := Aside0.mk (bP (by repeat (first | (with_reducible first | exact HB.out | apply bL | apply bW | apply b1) | exact HB.out)) hb); clear HB; have HB := n0_; clear n0_; (try clear hb); (try clear hb2); (try clear hk); (try clear hi)))
          go_roundg k2
          case measure => have := HJ2.out; have := HK2.out; omega
          case rel => exact ⟨(wrap64 ((wrap64 (Int.tdiv (wrap64 (x6_2 + x7_2)) 2)) + 1)), (x7_2), (by first | rfl | (simp; done) | (simp [*]; done)), (by first | rfl | (simp; done) | (simp [*]; done)), H', ⟨by have := HJ2.out; have := HK2.out; omega⟩, ⟨by repeat (first | (with_reducible first | exact HB.out | apply bL | apply bW | apply b1) | exact HB.out)⟩⟩
        ·
         rw [if_neg c15] at H; have c15b0 : decide (x6_2 < x7_2) = false := decide_eq_false c15
         clear c15; simp only [Option.some.injEq, Prod.mk.injEq] at H; obtain ⟨rfl, rfl⟩ := H
         go_wp2
         go_ret2
         exact ⟨by first | rfl | (simp [errW_none, errW_some] <;> rfl) | (simp only [← hji12]; first | rfl | (simp [errW_none, errW_some] <;> rfl)) | (simp [*, errW_none, errW_some] <;> rfl), by repeat (first | (with_reducible first | exact HB.out | apply bL | apply bW | apply b1) | exact HB.out)⟩
     ·
      rw [if_neg c14] at H; exact absurd H (by simp)
    ·
     rw [if_neg c13] at H; exact absurd H (by simp)
mutual
def bourneref10_Slope.j0 : Nat → List (S37) → Int → Int → Bool → Option (Bool)
 | 0, _, _, _, _ => none
 | k + 1, x0, x1, x2, x27 => if x27 = true then (some false) else (bourneref10_Slope.l0 k x0 x1 x2 1)
def bourneref10_Slope.l0 : Nat → List (S37) → Int → Int → Int → Option (Bool)
 | 0, _, _, _, _ => none
 | k + 1, x0, x1, x2, x7 => if x7 < (x0.length : Int) then (if 0 ≤ x7 then (if 0 ≤ (wrap64 (x7 - 1)) then (if (wrap64 (x7 - 1)) < (x0.length : Int) then ((bourneref01_Scale.f k (wrap64 (((rd_T37 x0 x7).f0) - ((rd_T37 x0 (wrap64 (x7 - 1))).f0))) x1 x2).bind fun bt225 => (if bt225.2.2 = true then (if (wrap64 (((rd_T37 x0 x7).f1) - ((rd_T37 x0 (wrap64 (x7 - 1))).f1))) > bt225.1 then (some false) else (bourneref10_Slope.l0 k x0 x1 x2 (wrap64 (x7 + 1)))) else (bourneref10_Slope.l0 k x0 x1 x2 (wrap64 (x7 + 1))))) else (none)) else (none)) else (none)) else (some true)
end
def bourneref10_Slope.f (k : Nat) (l0 : List (S37)) (a1 : Int) (a2 : Int) : Option (Bool) := (bourneref10_Right.f k l0).bind fun t220 => (if t220 = true then ((bourneref10_vol.f a1).bind fun t221 => (if t221 = true then ((bourneref10_vol.f a2).bind fun t222 => (if t222 = true then (bourneref10_Slope.j0 k l0 a1 a2 (a2 == 0)) else (bourneref10_Slope.j0 k l0 a1 a2 true))) else (bourneref10_Slope.j0 k l0 a1 a2 true))) else (bourneref10_Slope.j0 k l0 a1 a2 true))
theorem bourneref10_Slope.mono_l : ∀ k, (∀ y0 y1 y2 y3, LeO (bourneref10_Slope.j0 k y0 y1 y2 y3) (bourneref10_Slope.j0 (k + 1) y0 y1 y2 y3)) ∧ (∀ y0 y1 y2 y3, LeO (bourneref10_Slope.l0 k y0 y1 y2 y3) (bourneref10_Slope.l0 (k + 1) y0 y1 y2 y3))
 | 0 => ⟨fun _ _ _ _ r h => by simp [bourneref10_Slope.j0] at h, fun _ _ _ _ r h => by simp [bourneref10_Slope.l0] at h⟩
 | k + 1 => by
  obtain ⟨ih0, ih1⟩ := bourneref10_Slope.mono_l k
  refine ⟨?_, ?_⟩
  ·
   intro y0 y1 y2 y3; unfold bourneref10_Slope.j0
   repeat' first
   | (with_reducible exact ih0 _ _ _ _)
   | (with_reducible exact ih1 _ _ _ _)
   | (with_reducible exact bourneref01_Scale.mono _ _ _ _)
   | (with_reducible exact bourneref10_Right.mono _ _)
   | (with_reducible exact LeO.refl _)
   | (with_reducible exact LeO.none _)
   | (with_reducible refine LeO.ite ?_ ?_)
   | (with_reducible refine LeO.bind ?_ (fun _ => ?_))
   | exact ih0 _ _ _ _
   | exact ih1 _ _ _ _
   | exact bourneref01_Scale.mono _ _ _ _
   | exact bourneref10_Right.mono _ _
   | exact LeO.none _
   | refine LeO.ite ?_ ?_
   | refine LeO.bind ?_ (fun _ => ?_)
  ·
   intro y0 y1 y2 y3; unfold bourneref10_Slope.l0
   repeat' first
   | (with_reducible exact ih0 _ _ _ _)
   | (with_reducible exact ih1 _ _ _ _)
   | (with_reducible exact bourneref01_Scale.mono _ _ _ _)
   | (with_reducible exact bourneref10_Right.mono _ _)
   | (with_reducible exact LeO.refl _)
   | (with_reducible exact LeO.none _)
   | (with_reducible refine LeO.ite ?_ ?_)
   | (with_reducible refine LeO.bind ?_ (fun _ => ?_))
   | exact ih0 _ _ _ _
   | exact ih1 _ _ _ _
   | exact bourneref01_Scale.mono _ _ _ _
   | exact bourneref10_Right.mono _ _
   | exact LeO.none _
   | refine LeO.ite ?_ ?_
   | refine LeO.bind ?_ (fun _ => ?_)
theorem bourneref10_Slope.mono : ∀ a0 a1 a2 k, LeO (bourneref10_Slope.f k a0 a1 a2) (bourneref10_Slope.f (k + 1) a0 a1 a2) := by
 intro a0 a1 a2 k; obtain ⟨ih0, ih1⟩ := bourneref10_Slope.mono_l k
 unfold bourneref10_Slope.f
 repeat' first
   | (with_reducible exact ih0 _ _ _ _)
   | (with_reducible exact ih1 _ _ _ _)
   | (with_reducible exact bourneref01_Scale.mono _ _ _ _)
   | (with_reducible exact bourneref10_Right.mono _ _)
   | (with_reducible exact LeO.refl _)
   | (with_reducible exact LeO.none _)
   | (with_reducible refine LeO.ite ?_ ?_)
   | (with_reducible refine LeO.bind ?_ (fun _ => ?_))
   | exact ih0 _ _ _ _
   | exact ih1 _ _ _ _
   | exact bourneref01_Scale.mono _ _ _ _
   | exact bourneref10_Right.mono _ _
   | exact LeO.none _
   | refine LeO.ite ?_ ?_
   | refine LeO.bind ?_ (fun _ => ?_)
set_option maxHeartbeats 8000000 in
set_option maxRecDepth 100000 in
theorem bourneref10_Slope.calls (k : Nat) (A0 : Option Addr) (c0 : Nat) (l0 : List (S37)) (a1 : Int) (a2 : Int) (r : Bool) (w : World) (hr0 : Kd.C k37 w A0 l0.length l0) (hc0 : l0.length ≤ c0) (h : bourneref10_Slope.f k l0 a1 a2 = some r) :
  Calls Try.prog 16 #[.slice A0 l0.length c0, .int .i64 a1, .int .i64 a2] w fun e w' => e = .returned (.bool r) ∧ Below w.heap.size w w' := by
 have HR0 := Aside0.mk hr0
 have HC0 := Aside0.mk hc0
 clear hr0 hc0; have HB := Aside0.mk (Below.refl w.heap.size w)
 have H : ((bourneref10_Right.f k l0).bind fun t220 => (if t220 = true then ((bourneref10_vol.f a1).bind fun t221 => (if t221 = true then ((bourneref10_vol.f a2).bind fun t222 => (if t222 = true then (bourneref10_Slope.j0 k l0 a1 a2 (a2 == 0)) else (bourneref10_Slope.j0 k l0 a1 a2 true))) else (bourneref10_Slope.j0 k l0 a1 a2 true))) else (bourneref10_Slope.j0 k l0 a1 a2 true))) = some r := h
 clear h; have HC4 := Aside0.mk H
 clear H; go_enter Try.func16, Try.ntmps16
 (try simp only [List.append_eq, List.cons_append, List.nil_append]); go_upto_region 1 with (fail)
 repeat (go_quiet (fail); go_upto_region 1 with (fail))
 go_cut [27] (fun v27 wc => ∃ (kq : Nat) (x27_3 : Bool), v27 = .bool x27_3 ∧ Aside0 (bourneref10_Slope.j0 kq l0 a1 a2 x27_3 = some r) ∧ Aside0 (kq ≤ k) ∧ Aside0 (Below w.heap.size w wc))
 case first =>
  have H := HC4.out
  clear HC4; replace H := Option.bind_eq_some_iff.mp H
  obtain ⟨t220, A50, H⟩ := H
  have A5 := Aside0.mk A50
  clear A50; by_cases c6 : t220 = true
  ·
   subst c6; have H1 : ((bourneref10_vol.f a1).bind fun t221 => (if t221 = true then ((bourneref10_vol.f a2).bind fun t222 => (if t222 = true then (bourneref10_Slope.j0 k l0 a1 a2 (a2 == 0)) else (bourneref10_Slope.j0 k l0 a1 a2 true))) else (bourneref10_Slope.j0 k l0 a1 a2 true))) = some r := by rw [if_pos rfl] at H; exact H
   clear H; have H := H1
   clear H1; replace H := Option.bind_eq_some_iff.mp H
   obtain ⟨t221, A70, H⟩ := H
   have A7 := Aside0.mk A70
   clear A70; by_cases c8 : t221 = true
   ·
    subst c8; have H1 : ((bourneref10_vol.f a2).bind fun t222 => (if t222 = true then (bourneref10_Slope.j0 k l0 a1 a2 (a2 == 0)) else (bourneref10_Slope.j0 k l0 a1 a2 true))) = some r := by rw [if_pos rfl] at H; exact H
    clear H; have H := H1
    clear H1; replace H := Option.bind_eq_some_iff.mp H
    obtain ⟨t222, A90, H⟩ := H
    have A9 := Aside0.mk A90
    clear A90; by_cases c10 : t222 = true
    ·
     subst c10; have H1 : (bourneref10_Slope.j0 k l0 a1 a2 (a2 == 0)) = some r := by rw [if_pos rfl] at H; exact H
     clear H; have H := H1
     clear H1; have H' := Aside0.mk H
     clear H; go_wp2_with (first | (go_at_call 12; (with_reducible refine (bourneref10_Right.calls k _ _ l0 true _ ?side1 ?side2 A5.out).mono ?_); (case side1 => repeat (first | exact (Kd.C_below HR0.out HB.out) | (with_reducible refine Kd.C_alloc ?_ _) | (with_reducible refine Kd.C_drewN ?_ _) | (with_reducible refine Kd.C_drew ?_))); (case side2 => exact HC0.out); rintro e w11 ⟨rfl, hb⟩; have n0_ := Aside0.mk (bP (by repeat (first | (with_reducible first | exact HB.out | apply bL | apply bW | apply b1) | exact HB.out)) hb); clear HB; have HB := n0_; clear n0_; (try clear hb); (try clear hb2); (try clear hk); (try clear hi)) | (go_at_call 24; (with_reducible refine (bourneref10_vol.calls a1 true _ A7.out).mono ?_); rintro e w' ⟨rfl, ⟨nd, rfl⟩⟩; (try clear A7); (try first | exact ⟨rfl, _, World.drewN_drewN _ _ _⟩ | exact ⟨rfl, _, Eq.trans (World.drewN_drewN _ _ _) (congrArg (World.drewN _) (Nat.add_assoc _ _ _))⟩)) | (go_at_call 24; (with_reducible refine (bourneref10_vol.calls a2 true _ A9.out).mono ?_); rintro e w' ⟨rfl, ⟨nd, rfl⟩⟩; (try clear A9); (try first | exact ⟨rfl, _, World.drewN_drewN _ _ _⟩ | exact ⟨rfl, _, Eq.trans (World.drewN_drewN _ _ _) (congrArg (World.drewN _) (Nat.add_assoc _ _ _))⟩)))
     repeat (go_quiet (first | (go_at_call 12; (try simp only [i64_w, i32_w]); (with_reducible refine (bourneref10_Right.calls k _ _ l0 true _ ?side1 ?side2 A5.out).mono ?_); (case side1 => repeat (first | exact (Kd.C_below HR0.out HB.out) | (with_reducible refine Kd.C_alloc ?_ _) | (with_reducible refine Kd.C_drewN ?_ _) | (with_reducible refine Kd.C_drew ?_))); (case side2 => exact HC0.out); rintro e w11 ⟨rfl, hb⟩; have n0_ := Aside0.mk (bP (by repeat (first | (with_reducible first | exact HB.out | apply bL | apply bW | apply b1) | exact HB.out)) hb); clear HB; have HB := n0_; clear n0_; (try clear hb); (try clear hb2); (try clear hk); (try clear hi)) | (go_at_call 24; (try simp only [i64_w, i32_w]); (with_reducible refine (bourneref10_vol.calls a1 true _ A7.out).mono ?_); rintro e w' ⟨rfl, ⟨nd, rfl⟩⟩; (try clear A7); (try first | exact ⟨rfl, _, World.drewN_drewN _ _ _⟩ | exact ⟨rfl, _, Eq.trans (World.drewN_drewN _ _ _) (congrArg (World.drewN _) (Nat.add_assoc _ _ _))⟩)) | (go_at_call 24; (try simp only [i64_w, i32_w]); (with_reducible refine (bourneref10_vol.calls a2 true _ A9.out).mono ?_); rintro e w' ⟨rfl, ⟨nd, rfl⟩⟩; (try clear A9); (try first | exact ⟨rfl, _, World.drewN_drewN _ _ _⟩ | exact ⟨rfl, _, Eq.trans (World.drewN_drewN _ _ _) (congrArg (World.drewN _) (Nat.add_assoc _ _ _))⟩))); try go_wp2_with (first | (go_at_call 12; (try simp only [i64_w, i32_w]); (with_reducible refine (bourneref10_Right.calls k _ _ l0 true _ ?side1 ?side2 A5.out).mono ?_); (case side1 => repeat (first | exact (Kd.C_below HR0.out HB.out) | (with_reducible refine Kd.C_alloc ?_ _) | (with_reducible refine Kd.C_drewN ?_ _) | (with_reducible refine Kd.C_drew ?_))); (case side2 => exact HC0.out); rintro e w11 ⟨rfl, hb⟩; have n0_ := Aside0.mk (bP (by repeat (first | (with_reducible first | exact HB.out | apply bL | apply bW | apply b1) | exact HB.out)) hb); clear HB; have HB := n0_; clear n0_; (try clear hb); (try clear hb2); (try clear hk); (try clear hi)) | (go_at_call 24; (try simp only [i64_w, i32_w]); (with_reducible refine (bourneref10_vol.calls a1 true _ A7.out).mono ?_); rintro e w' ⟨rfl, ⟨nd, rfl⟩⟩; (try clear A7); (try first | exact ⟨rfl, _, World.drewN_drewN _ _ _⟩ | exact ⟨rfl, _, Eq.trans (World.drewN_drewN _ _ _) (congrArg (World.drewN _) (Nat.add_assoc _ _ _))⟩)) | (go_at_call 24; (try simp only [i64_w, i32_w]); (with_reducible refine (bourneref10_vol.calls a2 true _ A9.out).mono ?_); rintro e w' ⟨rfl, ⟨nd, rfl⟩⟩; (try clear A9); (try first | exact ⟨rfl, _, World.drewN_drewN _ _ _⟩ | exact ⟨rfl, _, Eq.trans (World.drewN_drewN _ _ _) (congrArg (World.drewN _) (Nat.add_assoc _ _ _))⟩))))
     go_meet
     case rel => exact ⟨_, ((a2 == 0)), (by first | rfl | (simp; done) | (simp [*]; done)), H', ⟨by first | omega | exact Nat.le_refl _⟩, ⟨by repeat (first | (with_reducible first | exact HB.out | apply bL | apply bW | apply b1) | exact HB.out)⟩⟩
    ·
     replace c10 := Bool.eq_false_iff.mpr c10
     subst c10; have H1 : (bourneref10_Slope.j0 k l0 a1 a2 true) = some r := by rw [if_neg (show ¬ (false = true) by decide)] at H; exact H
     clear H; have H := H1
     clear H1; have H' := Aside0.mk H
     clear H; go_wp2_with (first | (go_at_call 12; (with_reducible refine (bourneref10_Right.calls k _ _ l0 true _ ?side1 ?side2 A5.out).mono ?_); (case side1 => repeat (first | exact (Kd.C_below HR0.out HB.out) | (with_reducible refine Kd.C_alloc ?_ _) | (with_reducible refine Kd.C_drewN ?_ _) | (with_reducible refine Kd.C_drew ?_))); (case side2 => exact HC0.out); rintro e w12 ⟨rfl, hb⟩; have n0_ := Aside0.mk (bP (by repeat (first | (with_reducible first | exact HB.out | apply bL | apply bW | apply b1) | exact HB.out)) hb); clear HB; have HB := n0_; clear n0_; (try clear hb); (try clear hb2); (try clear hk); (try clear hi)) | (go_at_call 24; (with_reducible refine (bourneref10_vol.calls a1 true _ A7.out).mono ?_); rintro e w' ⟨rfl, ⟨nd, rfl⟩⟩; (try clear A7); (try first | exact ⟨rfl, _, World.drewN_drewN _ _ _⟩ | exact ⟨rfl, _, Eq.trans (World.drewN_drewN _ _ _) (congrArg (World.drewN _) (Nat.add_assoc _ _ _))⟩)) | (go_at_call 24; (with_reducible refine (bourneref10_vol.calls a2 false _ A9.out).mono ?_); rintro e w' ⟨rfl, ⟨nd, rfl⟩⟩; (try clear A9); (try first | exact ⟨rfl, _, World.drewN_drewN _ _ _⟩ | exact ⟨rfl, _, Eq.trans (World.drewN_drewN _ _ _) (congrArg (World.drewN _) (Nat.add_assoc _ _ _))⟩)))
     repeat (go_quiet (first | (go_at_call 12; (try simp only [i64_w, i32_w]); (with_reducible refine (bourneref10_Right.calls k _ _ l0 true _ ?side1 ?side2 A5.out).mono ?_); (case side1 => repeat (first | exact (Kd.C_below HR0.out HB.out) | (with_reducible refine Kd.C_alloc ?_ _) | (with_reducible refine Kd.C_drewN ?_ _) | (with_reducible refine Kd.C_drew ?_))); (case side2 => exact HC0.out); rintro e w12 ⟨rfl, hb⟩; have n0_ := Aside0.mk (bP (by repeat (first | (with_reducible first | exact HB.out | apply bL | apply bW | apply b1) | exact HB.out)) hb); clear HB; have HB := n0_; clear n0_; (try clear hb); (try clear hb2); (try clear hk); (try clear hi)) | (go_at_call 24; (try simp only [i64_w, i32_w]); (with_reducible refine (bourneref10_vol.calls a1 true _ A7.out).mono ?_); rintro e w' ⟨rfl, ⟨nd, rfl⟩⟩; (try clear A7); (try first | exact ⟨rfl, _, World.drewN_drewN _ _ _⟩ | exact ⟨rfl, _, Eq.trans (World.drewN_drewN _ _ _) (congrArg (World.drewN _) (Nat.add_assoc _ _ _))⟩)) | (go_at_call 24; (try simp only [i64_w, i32_w]); (with_reducible refine (bourneref10_vol.calls a2 false _ A9.out).mono ?_); rintro e w' ⟨rfl, ⟨nd, rfl⟩⟩; (try clear A9); (try first | exact ⟨rfl, _, World.drewN_drewN _ _ _⟩ | exact ⟨rfl, _, Eq.trans (World.drewN_drewN _ _ _) (congrArg (World.drewN _) (Nat.add_assoc _ _ _))⟩))); try go_wp2_with (first | (go_at_call 12; (try simp only [i64_w, i32_w]); (with_reducible refine (bourneref10_Right.calls k _ _ l0 true _ ?side1 ?side2 A5.out).mono ?_); (case side1 => repeat (first | exact (Kd.C_below HR0.out HB.out) | (with_reducible refine Kd.C_alloc ?_ _) | (with_reducible refine Kd.C_drewN ?_ _) | (with_reducible refine Kd.C_drew ?_))); (case side2 => exact HC0.out); rintro e w12 ⟨rfl, hb⟩; have n0_ := Aside0.mk (bP (by repeat (first | (with_reducible first | exact HB.out | apply bL | apply bW | apply b1) | exact HB.out)) hb); clear HB; have HB := n0_; clear n0_; (try clear hb); (try clear hb2); (try clear hk); (try clear hi)) | (go_at_call 24; (try simp only [i64_w, i32_w]); (with_reducible refine (bourneref10_vol.calls a1 true _ A7.out).mono ?_); rintro e w' ⟨rfl, ⟨nd, rfl⟩⟩; (try clear A7); (try first | exact ⟨rfl, _, World.drewN_drewN _ _ _⟩ | exact ⟨rfl, _, Eq.trans (World.drewN_drewN _ _ _) (congrArg (World.drewN _) (Nat.add_assoc _ _ _))⟩)) | (go_at_call 24; (try simp only [i64_w, i32_w]); (with_reducible refine (bourneref10_vol.calls a2 false _ A9.out).mono ?_); rintro e w' ⟨rfl, ⟨nd, rfl⟩⟩; (try clear A9); (try first | exact ⟨rfl, _, World.drewN_drewN _ _ _⟩ | exact ⟨rfl, _, Eq.trans (World.drewN_drewN _ _ _) (congrArg (World.drewN _) (Nat.add_assoc _ _ _))⟩))))
     go_meet
     case rel => exact ⟨_, (true), (by first | rfl | (simp; done) | (simp [*]; done)), H', ⟨by first | omega | exact Nat.le_refl _⟩, ⟨by repeat (first | (with_reducible first | exact HB.out | apply bL | apply bW | apply b1) | exact HB.out)⟩⟩
   ·
    replace c8 := Bool.eq_false_iff.mpr c8
    subst c8; have H1 : (bourneref10_Slope.j0 k l0 a1 a2 true) = some r := by rw [if_neg (show ¬ (false = true) by decide)] at H; exact H
    clear H; have H := H1
    clear H1; have H' := Aside0.mk H
    clear H; go_wp2_with (first | (go_at_call 12; (with_reducible refine (bourneref10_Right.calls k _ _ l0 true _ ?side1 ?side2 A5.out).mono ?_); (case side1 => repeat (first | exact (Kd.C_below HR0.out HB.out) | (with_reducible refine Kd.C_alloc ?_ _) | (with_reducible refine Kd.C_drewN ?_ _) | (with_reducible refine Kd.C_drew ?_))); (case side2 => exact HC0.out); rintro e w13 ⟨rfl, hb⟩; have n0_ := Aside0.mk (bP (by repeat (first | (with_reducible first | exact HB.out | apply bL | apply bW | apply b1) | exact HB.out)) hb); clear HB; have HB := n0_; clear n0_; (try clear hb); (try clear hb2); (try clear hk); (try clear hi)) | (go_at_call 24; (with_reducible refine (bourneref10_vol.calls a1 false _ A7.out).mono ?_); rintro e w' ⟨rfl, ⟨nd, rfl⟩⟩; (try clear A7); (try first | exact ⟨rfl, _, World.drewN_drewN _ _ _⟩ | exact ⟨rfl, _, Eq.trans (World.drewN_drewN _ _ _) (congrArg (World.drewN _) (Nat.add_assoc _ _ _))⟩)))
    repeat (go_quiet (first | (go_at_call 12; (try simp only [i64_w, i32_w]); (with_reducible refine (bourneref10_Right.calls k _ _ l0 true _ ?side1 ?side2 A5.out).mono ?_); (case side1 => repeat (first | exact (Kd.C_below HR0.out HB.out) | (with_reducible refine Kd.C_alloc ?_ _) | (with_reducible refine Kd.C_drewN ?_ _) | (with_reducible refine Kd.C_drew ?_))); (case side2 => exact HC0.out); rintro e w13 ⟨rfl, hb⟩; have n0_ := Aside0.mk (bP (by repeat (first | (with_reducible first | exact HB.out | apply bL | apply bW | apply b1) | exact HB.out)) hb); clear HB; have HB := n0_; clear n0_; (try clear hb); (try clear hb2); (try clear hk); (try clear hi)) | (go_at_call 24; (try simp only [i64_w, i32_w]); (with_reducible refine (bourneref10_vol.calls a1 false _ A7.out).mono ?_); rintro e w' ⟨rfl, ⟨nd, rfl⟩⟩; (try clear A7); (try first | exact ⟨rfl, _, World.drewN_drewN _ _ _⟩ | exact ⟨rfl, _, Eq.trans (World.drewN_drewN _ _ _) (congrArg (World.drewN _) (Nat.add_assoc _ _ _))⟩))); try go_wp2_with (first | (go_at_call 12; (try simp only [i64_w, i32_w]); (with_reducible refine (bourneref10_Right.calls k _ _ l0 true _ ?side1 ?side2 A5.out).mono ?_); (case side1 => repeat (first | exact (Kd.C_below HR0.out HB.out) | (with_reducible refine Kd.C_alloc ?_ _) | (with_reducible refine Kd.C_drewN ?_ _) | (with_reducible refine Kd.C_drew ?_))); (case side2 => exact HC0.out); rintro e w13 ⟨rfl, hb⟩; have n0_ := Aside0.mk (bP (by repeat (first | (with_reducible first | exact HB.out | apply bL | apply bW | apply b1) | exact HB.out)) hb); clear HB; have HB := n0_; clear n0_; (try clear hb); (try clear hb2); (try clear hk); (try clear hi)) | (go_at_call 24; (try simp only [i64_w, i32_w]); (with_reducible refine (bourneref10_vol.calls a1 false _ A7.out).mono ?_); rintro e w' ⟨rfl, ⟨nd, rfl⟩⟩; (try clear A7); (try first | exact ⟨rfl, _, World.drewN_drewN _ _ _⟩ | exact ⟨rfl, _, Eq.trans (World.drewN_drewN _ _ _) (congrArg (World.drewN _) (Nat.add_assoc _ _ _))⟩))))
    go_meet
    case rel => exact ⟨_, (true), (by first | rfl | (simp; done) | (simp [*]; done)), H', ⟨by first | omega | exact Nat.le_refl _⟩, ⟨by repeat (first | (with_reducible first | exact HB.out | apply bL | apply bW | apply b1) | exact HB.out)⟩⟩
  ·
   replace c6 := Bool.eq_false_iff.mpr c6
   subst c6; have H1 : (bourneref10_Slope.j0 k l0 a1 a2 true) = some r := by rw [if_neg (show ¬ (false = true) by decide)] at H; exact H
   clear H; have H := H1
   clear H1; have H' := Aside0.mk H
   clear H; go_wp2_with (first | (go_at_call 12; (with_reducible refine (bourneref10_Right.calls k _ _ l0 false _ ?side1 ?side2 A5.out).mono ?_); (case side1 => repeat (first | exact (Kd.C_below HR0.out HB.out) | (with_reducible refine Kd.C_alloc ?_ _) | (with_reducible refine Kd.C_drewN ?_ _) | (with_reducible refine Kd.C_drew ?_))); (case side2 => exact HC0.out); rintro e w14 ⟨rfl, hb⟩; have n0_ := Aside0.mk (bP (by repeat (first | (with_reducible first | exact HB.out | apply bL | apply bW | apply b1) | exact HB.out)) hb); clear HB; have HB := n0_; clear n0_; (try clear hb); (try clear hb2); (try clear hk); (try clear hi)))
   repeat (go_quiet (first | (go_at_call 12; (try simp only [i64_w, i32_w]); (with_reducible refine (bourneref10_Right.calls k _ _ l0 false _ ?side1 ?side2 A5.out).mono ?_); (case side1 => repeat (first | exact (Kd.C_below HR0.out HB.out) | (with_reducible refine Kd.C_alloc ?_ _) | (with_reducible refine Kd.C_drewN ?_ _) | (with_reducible refine Kd.C_drew ?_))); (case side2 => exact HC0.out); rintro e w14 ⟨rfl, hb⟩; have n0_ := Aside0.mk (bP (by repeat (first | (with_reducible first | exact HB.out | apply bL | apply bW | apply b1) | exact HB.out)) hb); clear HB; have HB := n0_; clear n0_; (try clear hb); (try clear hb2); (try clear hk); (try clear hi))); try go_wp2_with (first | (go_at_call 12; (try simp only [i64_w, i32_w]); (with_reducible refine (bourneref10_Right.calls k _ _ l0 false _ ?side1 ?side2 A5.out).mono ?_); (case side1 => repeat (first | exact (Kd.C_below HR0.out HB.out) | (with_reducible refine Kd.C_alloc ?_ _) | (with_reducible refine Kd.C_drewN ?_ _) | (with_reducible refine Kd.C_drew ?_))); (case side2 => exact HC0.out); rintro e w14 ⟨rfl, hb⟩; have n0_ := Aside0.mk (bP (by repeat (first | (with_reducible first | exact HB.out | apply bL | apply bW | apply b1) | exact HB.out)) hb); clear HB; have HB := n0_; clear n0_; (try clear hb); (try clear hb2); (try clear hk); (try clear hi))))
   go_meet
   case rel => exact ⟨_, (true), (by first | rfl | (simp; done) | (simp [*]; done)), H', ⟨by first | omega | exact Nat.le_refl _⟩, ⟨by repeat (first | (with_reducible first | exact HB.out | apply bL | apply bW | apply b1) | exact HB.out)⟩⟩
 case rest =>
  clear HC4; try clear c1
  try clear p2
  try clear c6
  try clear c8
  try clear c10
  obtain ⟨kq, x27_3, rfl, HA, HJ3, HB⟩ := hcut
  cases kq with
  | zero => exact absurd HA.out (by simp [bourneref10_Slope.j0])
  | succ kj3 =>
   have H := HA.out
   clear HA; simp only [bourneref10_Slope.j0] at H; by_cases c15 : x27_3 = true
   ·
    subst c15; have H1 : (some false) = some r := by rw [if_pos rfl] at H; exact H
    clear H; have H := H1
    clear H1; obtain rfl := Option.some.inj H
    go_wp2
    repeat (go_quiet (fail); try go_wp2)
    go_ret
    exact ⟨by first | rfl | (simp [errW_none, errW_some] <;> rfl) | (simp [*, errW_none, errW_some] <;> rfl), by repeat (first | (with_reducible first | exact HB.out | apply bL | apply bW | apply b1) | exact HB.out)⟩
   ·
    replace c15 := Bool.eq_false_iff.mpr c15
    subst c15; have H1 : (bourneref10_Slope.l0 kj3 l0 a1 a2 1) = some r := by rw [if_neg (show ¬ (false = true) by decide)] at H; exact H
    clear H; have H := H1
    clear H1; have H' := Aside0.mk H
    clear H; go_wp2
    repeat (go_quiet (fail); try go_wp2)
    go_loopg [7] kj3 (fun kq v7 w' => ∃ (x7_2 : Int), v7 = .int .i64 x7_2 ∧ Aside0 (bourneref10_Slope.l0 kq l0 a1 a2 x7_2 = some r) ∧ Aside0 (kq ≤ kj3) ∧ Aside0 (Below w.heap.size w w'))
    case atStart => exact ⟨(1), (by first | rfl | (simp; done) | (simp [*]; done)), H', ⟨Nat.le_refl _⟩, ⟨by repeat (first | (with_reducible first | exact HB.out | apply bL | apply bW | apply b1) | exact HB.out)⟩⟩
    case round =>
     clear H'; try clear c1
     try clear p2
     try clear c6
     try clear c8
     try clear c10
     try clear c15
     try clear p2
     obtain ⟨x7_2, rfl, HA, HK2, HB⟩ := hrel
     cases gk with
     | zero => exact absurd HA.out (by simp [bourneref10_Slope.l0])
     | succ k2 =>
      have H := HA.out
      clear HA; simp only [bourneref10_Slope.l0] at H; by_cases c16 : x7_2 < (l0.length : Int)
      ·
       rw [if_pos c16] at H; have c16b0 : decide (x7_2 < (l0.length : Int)) = true := decide_eq_true c16
       clear c16; by_cases c17 : 0 ≤ x7_2
       ·
        rw [if_pos c17] at H; have c17b0 : decide (0 ≤ x7_2) = true := decide_eq_true c17
        clear c17; obtain ⟨ji18, hji18⟩ : ∃ j_ : Int, (wrap64 (x7_2 - 1)) = j_ := ⟨_, rfl⟩
        replace H : (if 0 ≤ (ji18) then (if (ji18) < (l0.length : Int) then ((bourneref01_Scale.f k2 (wrap64 (((rd_T37 l0 x7_2).f0) - ((rd_T37 l0 (ji18)).f0))) a1 a2).bind fun bt225 => (if bt225.2.2 = true then (if (wrap64 (((rd_T37 l0 x7_2).f1) - ((rd_T37 l0 (ji18)).f1))) > bt225.1 then (some false) else (bourneref10_Slope.l0 k2 l0 a1 a2 (wrap64 (x7_2 + 1)))) else (bourneref10_Slope.l0 k2 l0 a1 a2 (wrap64 (x7_2 + 1))))) else (none)) else (none)) = some r := by first | (rw [hji18] at H; exact H) | (simp only [hji18] at H ⊢; exact H)
        have hji18w : (IntKind.i64.wrap (x7_2 - 1)) = ji18 := (i64_w _).trans hji18
        by_cases c19 : 0 ≤ (ji18)
        ·
         rw [if_pos c19] at H; have c19b0 : decide (0 ≤ (ji18)) = true := decide_eq_true c19
         clear c19; by_cases c20 : (ji18) < (l0.length : Int)
         ·
          rw [if_pos c20] at H; have c20b0 : decide ((ji18) < (l0.length : Int)) = true := decide_eq_true c20
          clear c20; replace H := Option.bind_eq_some_iff.mp H
          obtain ⟨⟨t225, t226, t227⟩, A210, H⟩ := H
          dsimp only at H
          have A21 := Aside0.mk A210
          clear A210; by_cases c22 : t227 = true
          ·
           subst c22; have H1 : (if (wrap64 (((rd_T37 l0 x7_2).f1) - ((rd_T37 l0 (ji18)).f1))) > t225 then (some false) else (bourneref10_Slope.l0 k2 l0 a1 a2 (wrap64 (x7_2 + 1)))) = some r := by rw [if_pos rfl] at H; exact H
           clear H; have H := H1
           clear H1; by_cases c23 : (wrap64 (((rd_T37 l0 x7_2).f1) - ((rd_T37 l0 (ji18)).f1))) > t225
           ·
            rw [if_pos c23] at H; have c23b0 : decide (t225 < (wrap64 (((rd_T37 l0 x7_2).f1) - ((rd_T37 l0 (ji18)).f1)))) = true := decide_eq_true c23
            clear c23; obtain rfl := Option.some.inj H
            have p223 : 0 ≤ (x7_2 : Int) := of_decide_eq_true (by first | (with_reducible assumption) | assumption)
            have q223 : x7_2 < (l0.length : Int) := of_decide_eq_true (by first | (with_reducible assumption) | assumption)
            obtain ⟨ad223, e223, hx223_0, hx223_1⟩ := at_T37 HR0.out x7_2 p223 q223
            cases e223
            replace hx223_0 := (HB.out.cell (wL w _ hx223_0)).trans hx223_0
            replace hx223_1 := (HB.out.cell (wL w _ hx223_1)).trans hx223_1
            replace p223 := eq_true p223
            replace q223 := eq_true q223
            have p224 : 0 ≤ ((ji18) : Int) := of_decide_eq_true (by first | (with_reducible assumption) | assumption)
            have q224 : (ji18) < (l0.length : Int) := of_decide_eq_true (by first | (with_reducible assumption) | assumption)
            obtain ⟨ad224, e224, hx224_0, hx224_1⟩ := at_T37 HR0.out (ji18) p224 q224
            obtain rfl : ad223 = ad224 := (by injection e224)
            replace hx224_0 := (HB.out.cell (wL w _ hx224_0)).trans hx224_0
            replace hx224_1 := (HB.out.cell (wL w _ hx224_1)).trans hx224_1
            replace p224 := eq_true p224
            replace q224 := eq_true q224
            go_wp2_with (first | (go_at_call 27; (with_reducible refine (bourneref01_Scale.calls k2 (wrap64 (((rd_T37 l0 x7_2).f0) - ((rd_T37 l0 (ji18)).f0))) a1 a2 t225 t226 true _ A21.out).mono ?_); rintro e w' ⟨rfl, ⟨nd, rfl⟩⟩; (try first | exact ⟨rfl, _, World.drewN_drewN _ _ _⟩ | exact ⟨rfl, _, Eq.trans (World.drewN_drewN _ _ _) (congrArg (World.drewN _) (Nat.add_assoc _ _ _))⟩); have p228 : 0 ≤ (x7_2 : Int) := of_decide_eq_true (by first | (with_reducible assumption) | assumption); have q228 : x7_2 < (l0.length : Int) := of_decide_eq_true (by first | (with_reducible assumption) | assumption); obtain ⟨ad228, e228, hx228_0, hx228_1⟩ := at_T37 HR0.out x7_2 p228 q228; obtain rfl : ad223 = ad228 := (by injection e228); replace hx228_0 := (HB.out.cell (wL w _ hx228_0)).trans hx228_0; replace hx228_1 := (HB.out.cell (wL w _ hx228_1)).trans hx228_1; replace p228 := eq_true p228; replace q228 := eq_true q228; have p229 : 0 ≤ ((ji18) : Int) := of_decide_eq_true (by first | (with_reducible assumption) | assumption); have q229 : (ji18) < (l0.length : Int) := of_decide_eq_true (by first | (with_reducible assumption) | assumption); obtain ⟨ad229, e229, hx229_0, hx229_1⟩ := at_T37 HR0.out (ji18) p229 q229; obtain rfl : ad223 = ad229 := (by injection e229); replace hx229_0 := (HB.out.cell (wL w _ hx229_0)).trans hx229_0; replace hx229_1 := (HB.out.cell (wL w _ hx229_1)).trans hx229_1; replace p229 := eq_true p229; replace q229 := eq_true q229))
            repeat (go_quiet (first | (go_at_call 27; (try simp only [i64_w, i32_w]); (with_reducible refine (bourneref01_Scale.calls k2 (wrap64 (((rd_T37 l0 x7_2).f0) - ((rd_T37 l0 (ji18)).f0))) a1 a2 t225 t226 true _ A21.out).mono ?_); rintro e w' ⟨rfl, ⟨nd, rfl⟩⟩; (try first | exact ⟨rfl, _, World.drewN_drewN _ _ _⟩ | exact ⟨rfl, _, Eq.trans (World.drewN_drewN _ _ _) (congrArg (World.drewN _) (Nat.add_assoc _ _ _))⟩); have p228 : 0 ≤ (x7_2 : Int) := of_decide_eq_true (by first | (with_reducible assumption) | assumption); have q228 : x7_2 < (l0.length : Int) := of_decide_eq_true (by first | (with_reducible assumption) | assumption); obtain ⟨ad228, e228, hx228_0, hx228_1⟩ := at_T37 HR0.out x7_2 p228 q228; obtain rfl : ad223 = ad228 := (by injection e228); replace hx228_0 := (HB.out.cell (wL w _ hx228_0)).trans hx228_0; replace hx228_1 := (HB.out.cell (wL w _ hx228_1)).trans hx228_1; replace p228 := eq_true p228; replace q228 := eq_true q228; have p229 : 0 ≤ ((ji18) : Int) := of_decide_eq_true (by first | (with_reducible assumption) | assumption); have q229 : (ji18) < (l0.length : Int) := of_decide_eq_true (by first | (with_reducible assumption) | assumption); obtain ⟨ad229, e229, hx229_0, hx229_1⟩ := at_T37 HR0.out (ji18) p229 q229; obtain rfl : ad223 = ad229 := (by injection e229); replace hx229_0 := (HB.out.cell (wL w _ hx229_0)).trans hx229_0; replace hx229_1 := (HB.out.cell (wL w _ hx229_1)).trans hx229_1; replace p229 := eq_true p229; replace q229 := eq_true q229)); try go_wp2_with (first | (go_at_call 27; (try simp only [i64_w, i32_w]); (with_reducible refine (bourneref01_Scale.calls k2 (wrap64 (((rd_T37 l0 x7_2).f0) - ((rd_T37 l0 (ji18)).f0))) a1 a2 t225 t226 true _ A21.out).mono ?_); rintro e w' ⟨rfl, ⟨nd, rfl⟩⟩; (try first | exact ⟨rfl, _, World.drewN_drewN _ _ _⟩ | exact ⟨rfl, _, Eq.trans (World.drewN_drewN _ _ _) (congrArg (World.drewN _) (Nat.add_assoc _ _ _))⟩); have p228 : 0 ≤ (x7_2 : Int) := of_decide_eq_true (by first | (with_reducible assumption) | assumption); have q228 : x7_2 < (l0.length : Int) := of_decide_eq_true (by first | (with_reducible assumption) | assumption); obtain ⟨ad228, e228, hx228_0, hx228_1⟩ := at_T37 HR0.out x7_2 p228 q228; obtain rfl : ad223 = ad228 := (by injection e228); replace hx228_0 := (HB.out.cell (wL w _ hx228_0)).trans hx228_0; replace hx228_1 := (HB.out.cell (wL w _ hx228_1)).trans hx228_1; replace p228 := eq_true p228; replace q228 := eq_true q228; have p229 : 0 ≤ ((ji18) : Int) := of_decide_eq_true (by first | (with_reducible assumption) | assumption); have q229 : (ji18) < (l0.length : Int) := of_decide_eq_true (by first | (with_reducible assumption) | assumption); obtain ⟨ad229, e229, hx229_0, hx229_1⟩ := at_T37 HR0.out (ji18) p229 q229; obtain rfl : ad223 = ad229 := (by injection e229); replace hx229_0 := (HB.out.cell (wL w _ hx229_0)).trans hx229_0; replace hx229_1 := (HB.out.cell (wL w _ hx229_1)).trans hx229_1; replace p229 := eq_true p229; replace q229 := eq_true q229)))
            go_ret
            exact ⟨by first | rfl | (simp [errW_none, errW_some] <;> rfl) | (simp only [← hji18]; first | rfl | (simp [errW_none, errW_some] <;> rfl)) | (simp [*, errW_none, errW_some] <;> rfl), by repeat (first | (with_reducible first | exact HB.out | apply bL | apply bW | apply b1) | exact HB.out)⟩
           ·
            rw [if_neg c23] at H; have c23b0 : decide (t225 < (wrap64 (((rd_T37 l0 x7_2).f1) - ((rd_T37 l0 (ji18)).f1)))) = false := decide_eq_false c23
            clear c23; have H' := Aside0.mk H
            clear H; have p223 : 0 ≤ (x7_2 : Int) := of_decide_eq_true (by first | (with_reducible assumption) | assumption)
            have q223 : x7_2 < (l0.length : Int) := of_decide_eq_true (by first | (with_reducible assumption) | assumption)
            obtain ⟨ad223, e223, hx223_0, hx223_1⟩ := at_T37 HR0.out x7_2 p223 q223
            cases e223
            replace hx223_0 := (HB.out.cell (wL w _ hx223_0)).trans hx223_0
            replace hx223_1 := (HB.out.cell (wL w _ hx223_1)).trans hx223_1
            replace p223 := eq_true p223
            replace q223 := eq_true q223
            have p224 : 0 ≤ ((ji18) : Int) := of_decide_eq_true (by first | (with_reducible assumption) | assumption)
            have q224 : (ji18) < (l0.length : Int) := of_decide_eq_true (by first | (with_reducible assumption) | assumption)
            obtain ⟨ad224, e224, hx224_0, hx224_1⟩ := at_T37 HR0.out (ji18) p224 q224
            obtain rfl : ad223 = ad224 := (by injection e224)
            replace hx224_0 := (HB.out.cell (wL w _ hx224_0)).trans hx224_0
            replace hx224_1 := (HB.out.cell (wL w _ hx224_1)).trans hx224_1
            replace p224 := eq_true p224
            replace q224 := eq_true q224
            go_wp2_with (first | (go_at_call 27; (with_reducible refine (bourneref01_Scale.calls k2 (wrap64 (((rd_T37 l0 x7_2).f0) - ((rd_T37 l0 (ji18)).f0))) a1 a2 t225 t226 true _ A21.out).mono ?_); rintro e w' ⟨rfl, ⟨nd, rfl⟩⟩; (try first | exact ⟨rfl, _, World.drewN_drewN _ _ _⟩ | exact ⟨rfl, _, Eq.trans (World.drewN_drewN _ _ _) (congrArg (World.drewN _) (Nat.add_assoc _ _ _))⟩); have p228 : 0 ≤ (x7_2 : Int) := of_decide_eq_true (by first | (with_reducible assumption) | assumption); have q228 : x7_2 < (l0.length : Int) := of_decide_eq_true (by first | (with_reducible assumption) | assumption); obtain ⟨ad228, e228, hx228_0, hx228_1⟩ := at_T37 HR0.out x7_2 p228 q228; obtain rfl : ad223 = ad228 := (by injection e228); replace hx228_0 := (HB.out.cell (wL w _ hx228_0)).trans hx228_0; replace hx228_1 := (HB.out.cell (wL w _ hx228_1)).trans hx228_1; replace p228 := eq_true p228; replace q228 := eq_true q228; have p229 : 0 ≤ ((ji18) : Int) := of_decide_eq_true (by first | (with_reducible assumption) | assumption); have q229 : (ji18) < (l0.length : Int) := of_decide_eq_true (by first | (with_reducible assumption) | assumption); obtain ⟨ad229, e229, hx229_0, hx229_1⟩ := at_T37 HR0.out (ji18) p229 q229; obtain rfl : ad223 = ad229 := (by injection e229); replace hx229_0 := (HB.out.cell (wL w _ hx229_0)).trans hx229_0; replace hx229_1 := (HB.out.cell (wL w _ hx229_1)).trans hx229_1; replace p229 := eq_true p229; replace q229 := eq_true q229))
            repeat (go_quiet (first | (go_at_call 27; (try simp only [i64_w, i32_w]); (with_reducible refine (bourneref01_Scale.calls k2 (wrap64 (((rd_T37 l0 x7_2).f0) - ((rd_T37 l0 (ji18)).f0))) a1 a2 t225 t226 true _ A21.out).mono ?_); rintro e w' ⟨rfl, ⟨nd, rfl⟩⟩; (try first | exact ⟨rfl, _, World.drewN_drewN _ _ _⟩ | exact ⟨rfl, _, Eq.trans (World.drewN_drewN _ _ _) (congrArg (World.drewN _) (Nat.add_assoc _ _ _))⟩); have p228 : 0 ≤ (x7_2 : Int) := of_decide_eq_true (by first | (with_reducible assumption) | assumption); have q228 : x7_2 < (l0.length : Int) := of_decide_eq_true (by first | (with_reducible assumption) | assumption); obtain ⟨ad228, e228, hx228_0, hx228_1⟩ := at_T37 HR0.out x7_2 p228 q228; obtain rfl : ad223 = ad228 := (by injection e228); replace hx228_0 := (HB.out.cell (wL w _ hx228_0)).trans hx228_0; replace hx228_1 := (HB.out.cell (wL w _ hx228_1)).trans hx228_1; replace p228 := eq_true p228; replace q228 := eq_true q228; have p229 : 0 ≤ ((ji18) : Int) := of_decide_eq_true (by first | (with_reducible assumption) | assumption); have q229 : (ji18) < (l0.length : Int) := of_decide_eq_true (by first | (with_reducible assumption) | assumption); obtain ⟨ad229, e229, hx229_0, hx229_1⟩ := at_T37 HR0.out (ji18) p229 q229; obtain rfl : ad223 = ad229 := (by injection e229); replace hx229_0 := (HB.out.cell (wL w _ hx229_0)).trans hx229_0; replace hx229_1 := (HB.out.cell (wL w _ hx229_1)).trans hx229_1; replace p229 := eq_true p229; replace q229 := eq_true q229)); try go_wp2_with (first | (go_at_call 27; (try simp only [i64_w, i32_w]); (with_reducible refine (bourneref01_Scale.calls k2 (wrap64 (((rd_T37 l0 x7_2).f0) - ((rd_T37 l0 (ji18)).f0))) a1 a2 t225 t226 true _ A21.out).mono ?_); rintro e w' ⟨rfl, ⟨nd, rfl⟩⟩; (try first | exact ⟨rfl, _, World.drewN_drewN _ _ _⟩ | exact ⟨rfl, _, Eq.trans (World.drewN_drewN _ _ _) (congrArg (World.drewN _) (Nat.add_assoc _ _ _))⟩); have p228 : 0 ≤ (x7_2 : Int) := of_decide_eq_true (by first | (with_reducible assumption) | assumption); have q228 : x7_2 < (l0.length : Int) := of_decide_eq_true (by first | (with_reducible assumption) | assumption); obtain ⟨ad228, e228, hx228_0, hx228_1⟩ := at_T37 HR0.out x7_2 p228 q228; obtain rfl : ad223 = ad228 := (by injection e228); replace hx228_0 := (HB.out.cell (wL w _ hx228_0)).trans hx228_0; replace hx228_1 := (HB.out.cell (wL w _ hx228_1)).trans hx228_1; replace p228 := eq_true p228; replace q228 := eq_true q228; have p229 : 0 ≤ ((ji18) : Int) := of_decide_eq_true (by first | (with_reducible assumption) | assumption); have q229 : (ji18) < (l0.length : Int) := of_decide_eq_true (by first | (with_reducible assumption) | assumption); obtain ⟨ad229, e229, hx229_0, hx229_1⟩ := at_T37 HR0.out (ji18) p229 q229; obtain rfl : ad223 = ad229 := (by injection e229); replace hx229_0 := (HB.out.cell (wL w _ hx229_0)).trans hx229_0; replace hx229_1 := (HB.out.cell (wL w _ hx229_1)).trans hx229_1; replace p229 := eq_true p229; replace q229 := eq_true q229)))
            go_roundg k2
            case measure => have := HJ3.out; have := HK2.out; omega
            case rel => exact ⟨(wrap64 (x7_2 + 1)), (by first | rfl | (simp; done) | (simp [*]; done)), H', ⟨by have := HJ3.out; have := HK2.out; omega⟩, ⟨by repeat (first | (with_reducible first | exact HB.out | apply bL | apply bW | apply b1) | exact HB.out)⟩⟩
          ·
           replace c22 := Bool.eq_false_iff.mpr c22
           subst c22; have H1 : (bourneref10_Slope.l0 k2 l0 a1 a2 (wrap64 (x7_2 + 1))) = some r := by rw [if_neg (show ¬ (false = true) by decide)] at H; exact H
           clear H; have H := H1
           clear H1; have H' := Aside0.mk H
           clear H; have p223 : 0 ≤ (x7_2 : Int) := of_decide_eq_true (by first | (with_reducible assumption) | assumption)
           have q223 : x7_2 < (l0.length : Int) := of_decide_eq_true (by first | (with_reducible assumption) | assumption)
           obtain ⟨ad223, e223, hx223_0, hx223_1⟩ := at_T37 HR0.out x7_2 p223 q223
           cases e223
           replace hx223_0 := (HB.out.cell (wL w _ hx223_0)).trans hx223_0
           replace hx223_1 := (HB.out.cell (wL w _ hx223_1)).trans hx223_1
           replace p223 := eq_true p223
           replace q223 := eq_true q223
           have p224 : 0 ≤ ((ji18) : Int) := of_decide_eq_true (by first | (with_reducible assumption) | assumption)
           have q224 : (ji18) < (l0.length : Int) := of_decide_eq_true (by first | (with_reducible assumption) | assumption)
           obtain ⟨ad224, e224, hx224_0, hx224_1⟩ := at_T37 HR0.out (ji18) p224 q224
           obtain rfl : ad223 = ad224 := (by injection e224)
           replace hx224_0 := (HB.out.cell (wL w _ hx224_0)).trans hx224_0
           replace hx224_1 := (HB.out.cell (wL w _ hx224_1)).trans hx224_1
           replace p224 := eq_true p224
           replace q224 := eq_true q224
           go_wp2_with (first | (go_at_call 27; (with_reducible refine (bourneref01_Scale.calls k2 (wrap64 (((rd_T37 l0 x7_2).f0) - ((rd_T37 l0 (ji18)).f0))) a1 a2 t225 t226 false _ A21.out).mono ?_); rintro e w' ⟨rfl, ⟨nd, rfl⟩⟩; (try first | exact ⟨rfl, _, World.drewN_drewN _ _ _⟩ | exact ⟨rfl, _, Eq.trans (World.drewN_drewN _ _ _) (congrArg (World.drewN _) (Nat.add_assoc _ _ _))⟩)))
           repeat (go_quiet (first | (go_at_call 27; (try simp only [i64_w, i32_w]); (with_reducible refine (bourneref01_Scale.calls k2 (wrap64 (((rd_T37 l0 x7_2).f0) - ((rd_T37 l0 (ji18)).f0))) a1 a2 t225 t226 false _ A21.out).mono ?_); rintro e w' ⟨rfl, ⟨nd, rfl⟩⟩; (try first | exact ⟨rfl, _, World.drewN_drewN _ _ _⟩ | exact ⟨rfl, _, Eq.trans (World.drewN_drewN _ _ _) (congrArg (World.drewN _) (Nat.add_assoc _ _ _))⟩))); try go_wp2_with (first | (go_at_call 27; (try simp only [i64_w, i32_w]); (with_reducible refine (bourneref01_Scale.calls k2 (wrap64 (((rd_T37 l0 x7_2).f0) - ((rd_T37 l0 (ji18)).f0))) a1 a2 t225 t226 false _ A21.out).mono ?_); rintro e w' ⟨rfl, ⟨nd, rfl⟩⟩; (try first | exact ⟨rfl, _, World.drewN_drewN _ _ _⟩ | exact ⟨rfl, _, Eq.trans (World.drewN_drewN _ _ _) (congrArg (World.drewN _) (Nat.add_assoc _ _ _))⟩))))
           go_roundg k2
           case measure => have := HJ3.out; have := HK2.out; omega
           case rel => exact ⟨(wrap64 (x7_2 + 1)), (by first | rfl | (simp; done) | (simp [*]; done)), H', ⟨by have := HJ3.out; have := HK2.out; omega⟩, ⟨by repeat (first | (with_reducible first | exact HB.out | apply bL | apply bW | apply b1) | exact HB.out)⟩⟩
         ·
          rw [if_neg c20] at H; exact absurd H (by simp)
        ·
         rw [if_neg c19] at H; exact absurd H (by simp)
       ·
        rw [if_neg c17] at H; exact absurd H (by simp)
      ·
       rw [if_neg c16] at H; have c16b0 : decide (x7_2 < (l0.length : Int)) = false := decide_eq_false c16
       clear c16; obtain rfl := Option.some.inj H
       go_wp2
       repeat (go_quiet (fail); try go_wp2)
       go_ret
       exact ⟨by first | rfl | (simp [errW_none, errW_some] <;> rfl) | (simp [*, errW_none, errW_some] <;> rfl), by repeat (first | (with_reducible first | exact HB.out | apply bL | apply bW | apply b1) | exact HB.out)⟩
end Go.Proofs.Ytmkekbehipaopaa.Fn
