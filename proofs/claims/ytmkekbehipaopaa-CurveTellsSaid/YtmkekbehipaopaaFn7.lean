-- written by this session's program myprint.py out of the translation; Lean checks it
import Derived.Test.YtmkekbehipaopaaFn0
import Derived.Test.YtmkekbehipaopaaFn2
import Derived.Test.YtmkekbehipaopaaFn3
import Derived.Test.YtmkekbehipaopaaFn6
namespace Go.Proofs.Ytmkekbehipaopaa.Fn
open Go.RowKit Go.Proofs.YtmkekbehipaopaaW.PrintWords Go.Proofs.YtmkekbehipaopaaW.PrintLast Go.Proofs.YtmkekbehipaopaaW.PrintMore
open World renaming block_lt_of_cell? → wL
open Bool renaming true → T, false → F
open List renaming setIfInBounds_toArray → lA, set_cons_zero → lZ, set_cons_succ → lS
open Go.Proofs.YtmkekbehipaopaaW.PrintWords renaming blk_drewN → bN, blk_drew → bD, blk_alloc → bA, below_set → bS, blk_cell → bC, blk_below → bB, blk_frozen → bF, pw_below_drewN → bW, below_drew1 → b1, below_alloc → bL, below_step → bP, below_size → bZ, blk_put → bU
attribute [local go_sem] max2_int min2_int max_two min_two max_three min_three max_four min_four
set_option linter.unusedVariables false
set_option linter.unusedSimpArgs false
def curve_At.f (k : Nat) (l0 : List (S37)) (a1 : Int) : Option (Int) := (curve_Right.f k l0).bind fun t135 => (if t135 = true then ((curve_at.f k l0 a1).bind fun bt136 => (some bt136.1)) else (some 0))
theorem curve_At.mono : ∀ a0 a1 k, LeO (curve_At.f k a0 a1) (curve_At.f (k + 1) a0 a1) := by
 intro a0 a1 k; unfold curve_At.f
 repeat' first
   | (with_reducible exact curve_Right.mono _ _)
   | (with_reducible exact curve_at.mono _ _ _)
   | (with_reducible exact LeO.refl _)
   | (with_reducible exact LeO.none _)
   | (with_reducible refine LeO.ite ?_ ?_)
   | (with_reducible refine LeO.bind ?_ (fun _ => ?_))
   | exact curve_Right.mono _ _
   | exact curve_at.mono _ _ _
   | exact LeO.none _
   | refine LeO.ite ?_ ?_
   | refine LeO.bind ?_ (fun _ => ?_)
set_option maxHeartbeats 8000000 in
set_option maxRecDepth 100000 in
theorem curve_At.calls (k : Nat) (A0 : Option Addr) (c0 : Nat) (l0 : List (S37)) (a1 : Int) (r : Int) (w : World) (hr0 : Kd.C k37 w A0 l0.length l0) (hc0 : l0.length ≤ c0) (h : curve_At.f k l0 a1 = some r) :
  Calls Try.prog 13 #[.slice A0 l0.length c0, .int .i64 a1] w fun e w' => e = .returned (.int .i64 r) ∧ Below w.heap.size w w' := by
 have HR0 := Aside0.mk hr0
 have HC0 := Aside0.mk hc0
 clear hr0 hc0; have HB := Aside0.mk (Below.refl w.heap.size w)
 have H : ((curve_Right.f k l0).bind fun t135 => (if t135 = true then ((curve_at.f k l0 a1).bind fun bt136 => (some bt136.1)) else (some 0))) = some r := h
 clear h; replace H := Option.bind_eq_some_iff.mp H
 obtain ⟨t135, A30, H⟩ := H
 have A3 := Aside0.mk A30
 clear A30; by_cases c4 : t135 = true
 ·
  subst c4; have H1 : ((curve_at.f k l0 a1).bind fun bt136 => (some bt136.1)) = some r := by rw [if_pos rfl] at H; exact H
  clear H; have H := H1
  clear H1; replace H := Option.bind_eq_some_iff.mp H
  obtain ⟨⟨t136, t137⟩, A50, H⟩ := H
  dsimp only at H
  have A5 := Aside0.mk A50
  clear A50; obtain rfl := Option.some.inj H
  go_enter Try.func13, Try.ntmps13
  go_wp2_with (first | ((with_reducible refine gate_callee (f := 11) rfl ?_); refine goesL_ (some 8) rfl rfl Try.func11 (by kernel_rfl) rfl #[.slice A0 l0.length c0] rfl (by (try simp only [List.map_toArray, List.map_cons, List.map_nil]); first | done | rfl | (simp only [List.length_drop, List.length_take]; rfl)) ?_; (with_reducible refine (curve_Right.calls k _ _ l0 true _ ?side1 ?side2 A3.out).mono ?_); (case side1 => repeat (first | exact HR0.out | (with_reducible refine Kd.C_alloc ?_ _) | (with_reducible refine Kd.C_drewN ?_ _) | (with_reducible refine Kd.C_drew ?_))); (case side2 => exact HC0.out); rintro e w6 ⟨rfl, hb⟩; refine ⟨_, rfl, ?_⟩; have n0_ := Aside0.mk (bP (by repeat (first | (with_reducible first | exact HB.out | apply bL | apply bW | apply b1) | exact HB.out)) hb); clear HB; have HB := n0_; clear n0_; (try clear hb); (try clear hb2); (try clear hk); (try clear hi)) | ((with_reducible refine gate_callee (f := 25) rfl ?_); refine goesL_ (some 13) rfl rfl Try.func25 (by kernel_rfl) rfl #[.slice A0 l0.length c0, .int .i64 a1] rfl (by (try simp only [List.map_toArray, List.map_cons, List.map_nil]); first | done | rfl | (simp only [List.length_drop, List.length_take]; rfl)) ?_; (with_reducible refine (curve_at.calls k _ _ l0 a1 t136 t137 _ ?side1 ?side2 A5.out).mono ?_); (case side1 => repeat (first | exact (Kd.C_below HR0.out HB.out) | (with_reducible refine Kd.C_alloc ?_ _) | (with_reducible refine Kd.C_drewN ?_ _) | (with_reducible refine Kd.C_drew ?_))); (case side2 => exact HC0.out); rintro e w7 ⟨rfl, hb⟩; refine ⟨_, rfl, ?_⟩; have n0_ := Aside0.mk (bP (by repeat (first | (with_reducible first | exact HB.out | apply bL | apply bW | apply b1) | exact HB.out)) hb); clear HB; have HB := n0_; clear n0_; (try clear hb); (try clear hb2); (try clear hk); (try clear hi)))
  go_ret
  exact ⟨by first | rfl | (simp [errW_none, errW_some] <;> rfl) | (simp [*, errW_none, errW_some] <;> rfl), by repeat (first | (with_reducible first | exact HB.out | apply bL | apply bW | apply b1) | exact HB.out)⟩
 ·
  replace c4 := Bool.eq_false_iff.mpr c4
  subst c4; have H1 : (some 0) = some r := by rw [if_neg (show ¬ (false = true) by decide)] at H; exact H
  clear H; have H := H1
  clear H1; obtain rfl := Option.some.inj H
  go_enter Try.func13, Try.ntmps13
  go_wp2_with (first | ((with_reducible refine gate_callee (f := 11) rfl ?_); refine goesL_ (some 8) rfl rfl Try.func11 (by kernel_rfl) rfl #[.slice A0 l0.length c0] rfl (by (try simp only [List.map_toArray, List.map_cons, List.map_nil]); first | done | rfl | (simp only [List.length_drop, List.length_take]; rfl)) ?_; (with_reducible refine (curve_Right.calls k _ _ l0 false _ ?side1 ?side2 A3.out).mono ?_); (case side1 => repeat (first | exact HR0.out | (with_reducible refine Kd.C_alloc ?_ _) | (with_reducible refine Kd.C_drewN ?_ _) | (with_reducible refine Kd.C_drew ?_))); (case side2 => exact HC0.out); rintro e w8 ⟨rfl, hb⟩; refine ⟨_, rfl, ?_⟩; have n0_ := Aside0.mk (bP (by repeat (first | (with_reducible first | exact HB.out | apply bL | apply bW | apply b1) | exact HB.out)) hb); clear HB; have HB := n0_; clear n0_; (try clear hb); (try clear hb2); (try clear hk); (try clear hi)))
  go_ret
  exact ⟨by first | rfl | (simp [errW_none, errW_some] <;> rfl) | (simp [*, errW_none, errW_some] <;> rfl), by repeat (first | (with_reducible first | exact HB.out | apply bL | apply bW | apply b1) | exact HB.out)⟩
mutual
def curve_Slope.j0 : Nat → List (S37) → Int → Int → Bool → Option (Bool)
 | 0, _, _, _, _ => none
 | k + 1, x0, x1, x2, x29 => if x29 = true then (some false) else (curve_Slope.l0 k x0 x1 x2 1)
def curve_Slope.l0 : Nat → List (S37) → Int → Int → Int → Option (Bool)
 | 0, _, _, _, _ => none
 | k + 1, x0, x1, x2, x7 => if x7 < (x0.length : Int) then (if 0 ≤ x7 then (if 0 ≤ (wrap64 (x7 - 1)) then (if (wrap64 (x7 - 1)) < (x0.length : Int) then ((exact_Scale.f k x1 (wrap64 (((rd_T37 x0 x7).f0) - ((rd_T37 x0 (wrap64 (x7 - 1))).f0))) x2).bind fun bt141 => (if bt141.2.2 = true then (if (wrap64 (((rd_T37 x0 x7).f1) - ((rd_T37 x0 (wrap64 (x7 - 1))).f1))) > bt141.1 then (some false) else (curve_Slope.l0 k x0 x1 x2 (wrap64 (x7 + 1)))) else (curve_Slope.l0 k x0 x1 x2 (wrap64 (x7 + 1))))) else (none)) else (none)) else (none)) else (some true)
end
def curve_Slope.f (k : Nat) (l0 : List (S37)) (a1 : Int) (a2 : Int) : Option (Bool) := (curve_Right.f k l0).bind fun t138 => (if t138 = true then (if a1 < 0 then (curve_Slope.j0 k l0 a1 a2 true) else (if a1 > 1125899906842624 then (curve_Slope.j0 k l0 a1 a2 true) else (if a2 < 1 then (curve_Slope.j0 k l0 a1 a2 true) else (curve_Slope.j0 k l0 a1 a2 (decide (a2 > 1125899906842624)))))) else (curve_Slope.j0 k l0 a1 a2 true))
theorem curve_Slope.mono_l : ∀ k, (∀ y0 y1 y2 y3, LeO (curve_Slope.j0 k y0 y1 y2 y3) (curve_Slope.j0 (k + 1) y0 y1 y2 y3)) ∧ (∀ y0 y1 y2 y3, LeO (curve_Slope.l0 k y0 y1 y2 y3) (curve_Slope.l0 (k + 1) y0 y1 y2 y3))
 | 0 => ⟨fun _ _ _ _ r h => by simp [curve_Slope.j0] at h, fun _ _ _ _ r h => by simp [curve_Slope.l0] at h⟩
 | k + 1 => by
  obtain ⟨ih0, ih1⟩ := curve_Slope.mono_l k
  refine ⟨?_, ?_⟩
  ·
   intro y0 y1 y2 y3; unfold curve_Slope.j0
   repeat' first
   | (with_reducible exact ih0 _ _ _ _)
   | (with_reducible exact ih1 _ _ _ _)
   | (with_reducible exact curve_Right.mono _ _)
   | (with_reducible exact exact_Scale.mono _ _ _ _)
   | (with_reducible exact LeO.refl _)
   | (with_reducible exact LeO.none _)
   | (with_reducible refine LeO.ite ?_ ?_)
   | (with_reducible refine LeO.bind ?_ (fun _ => ?_))
   | exact ih0 _ _ _ _
   | exact ih1 _ _ _ _
   | exact curve_Right.mono _ _
   | exact exact_Scale.mono _ _ _ _
   | exact LeO.none _
   | refine LeO.ite ?_ ?_
   | refine LeO.bind ?_ (fun _ => ?_)
  ·
   intro y0 y1 y2 y3; unfold curve_Slope.l0
   repeat' first
   | (with_reducible exact ih0 _ _ _ _)
   | (with_reducible exact ih1 _ _ _ _)
   | (with_reducible exact curve_Right.mono _ _)
   | (with_reducible exact exact_Scale.mono _ _ _ _)
   | (with_reducible exact LeO.refl _)
   | (with_reducible exact LeO.none _)
   | (with_reducible refine LeO.ite ?_ ?_)
   | (with_reducible refine LeO.bind ?_ (fun _ => ?_))
   | exact ih0 _ _ _ _
   | exact ih1 _ _ _ _
   | exact curve_Right.mono _ _
   | exact exact_Scale.mono _ _ _ _
   | exact LeO.none _
   | refine LeO.ite ?_ ?_
   | refine LeO.bind ?_ (fun _ => ?_)
theorem curve_Slope.mono : ∀ a0 a1 a2 k, LeO (curve_Slope.f k a0 a1 a2) (curve_Slope.f (k + 1) a0 a1 a2) := by
 intro a0 a1 a2 k; obtain ⟨ih0, ih1⟩ := curve_Slope.mono_l k
 unfold curve_Slope.f
 repeat' first
   | (with_reducible exact ih0 _ _ _ _)
   | (with_reducible exact ih1 _ _ _ _)
   | (with_reducible exact curve_Right.mono _ _)
   | (with_reducible exact exact_Scale.mono _ _ _ _)
   | (with_reducible exact LeO.refl _)
   | (with_reducible exact LeO.none _)
   | (with_reducible refine LeO.ite ?_ ?_)
   | (with_reducible refine LeO.bind ?_ (fun _ => ?_))
   | exact ih0 _ _ _ _
   | exact ih1 _ _ _ _
   | exact curve_Right.mono _ _
   | exact exact_Scale.mono _ _ _ _
   | exact LeO.none _
   | refine LeO.ite ?_ ?_
   | refine LeO.bind ?_ (fun _ => ?_)
set_option maxHeartbeats 8000000 in
set_option maxRecDepth 100000 in
theorem curve_Slope.calls (k : Nat) (A0 : Option Addr) (c0 : Nat) (l0 : List (S37)) (a1 : Int) (a2 : Int) (r : Bool) (w : World) (hr0 : Kd.C k37 w A0 l0.length l0) (hc0 : l0.length ≤ c0) (h : curve_Slope.f k l0 a1 a2 = some r) :
  Calls Try.prog 15 #[.slice A0 l0.length c0, .int .i64 a1, .int .i64 a2] w fun e w' => e = .returned (.bool r) ∧ Below w.heap.size w w' := by
 have HR0 := Aside0.mk hr0
 have HC0 := Aside0.mk hc0
 clear hr0 hc0; have HB := Aside0.mk (Below.refl w.heap.size w)
 have H : ((curve_Right.f k l0).bind fun t138 => (if t138 = true then (if a1 < 0 then (curve_Slope.j0 k l0 a1 a2 true) else (if a1 > 1125899906842624 then (curve_Slope.j0 k l0 a1 a2 true) else (if a2 < 1 then (curve_Slope.j0 k l0 a1 a2 true) else (curve_Slope.j0 k l0 a1 a2 (decide (a2 > 1125899906842624)))))) else (curve_Slope.j0 k l0 a1 a2 true))) = some r := h
 clear h; have HC4 := Aside0.mk H
 clear H; go_enter Try.func15, Try.ntmps15
 (try simp only [List.append_eq, List.cons_append, List.nil_append]); go_upto_region 1 with (fail)
 repeat (go_quiet (fail); go_upto_region 1 with (fail))
 go_cut [29] (fun v29 wc => ∃ (kq : Nat) (x29_3 : Bool), v29 = .bool x29_3 ∧ Aside0 (curve_Slope.j0 kq l0 a1 a2 x29_3 = some r) ∧ Aside0 (kq ≤ k) ∧ Aside0 (Below w.heap.size w wc))
 case first =>
  have H := HC4.out
  clear HC4; replace H := Option.bind_eq_some_iff.mp H
  obtain ⟨t138, A50, H⟩ := H
  have A5 := Aside0.mk A50
  clear A50; by_cases c6 : t138 = true
  ·
   subst c6; have H1 : (if a1 < 0 then (curve_Slope.j0 k l0 a1 a2 true) else (if a1 > 1125899906842624 then (curve_Slope.j0 k l0 a1 a2 true) else (if a2 < 1 then (curve_Slope.j0 k l0 a1 a2 true) else (curve_Slope.j0 k l0 a1 a2 (decide (a2 > 1125899906842624)))))) = some r := by rw [if_pos rfl] at H; exact H
   clear H; have H := H1
   clear H1; by_cases c7 : a1 < 0
   ·
    rw [if_pos c7] at H; have c7b0 : decide (a1 < 0) = true := decide_eq_true c7
    clear c7; (first | rw [c7b0] | (simp only [i64_w, i32_w]; rw [c7b0]) | skip)
    have H' := Aside0.mk H
    clear H; go_wp2_with (first | (go_at_call 11; (with_reducible refine (curve_Right.calls k _ _ l0 true _ ?side1 ?side2 A5.out).mono ?_); (case side1 => repeat (first | exact (Kd.C_below HR0.out HB.out) | (with_reducible refine Kd.C_alloc ?_ _) | (with_reducible refine Kd.C_drewN ?_ _) | (with_reducible refine Kd.C_drew ?_))); (case side2 => exact HC0.out); rintro e w8 ⟨rfl, hb⟩; have n0_ := Aside0.mk (bP (by repeat (first | (with_reducible first | exact HB.out | apply bL | apply bW | apply b1) | exact HB.out)) hb); clear HB; have HB := n0_; clear n0_; (try clear hb); (try clear hb2); (try clear hk); (try clear hi)))
    repeat (go_quiet (first | (go_at_call 11; (try simp only [i64_w, i32_w]); (with_reducible refine (curve_Right.calls k _ _ l0 true _ ?side1 ?side2 A5.out).mono ?_); (case side1 => repeat (first | exact (Kd.C_below HR0.out HB.out) | (with_reducible refine Kd.C_alloc ?_ _) | (with_reducible refine Kd.C_drewN ?_ _) | (with_reducible refine Kd.C_drew ?_))); (case side2 => exact HC0.out); rintro e w8 ⟨rfl, hb⟩; have n0_ := Aside0.mk (bP (by repeat (first | (with_reducible first | exact HB.out | apply bL | apply bW | apply b1) | exact HB.out)) hb); clear HB; have HB := n0_; clear n0_; (try clear hb); (try clear hb2); (try clear hk); (try clear hi))); try go_wp2_with (first | (go_at_call 11; (try simp only [i64_w, i32_w]); (with_reducible refine (curve_Right.calls k _ _ l0 true _ ?side1 ?side2 A5.out).mono ?_); (case side1 => repeat (first | exact (Kd.C_below HR0.out HB.out) | (with_reducible refine Kd.C_alloc ?_ _) | (with_reducible refine Kd.C_drewN ?_ _) | (with_reducible refine Kd.C_drew ?_))); (case side2 => exact HC0.out); rintro e w8 ⟨rfl, hb⟩; have n0_ := Aside0.mk (bP (by repeat (first | (with_reducible first | exact HB.out | apply bL | apply bW | apply b1) | exact HB.out)) hb); clear HB; have HB := n0_; clear n0_; (try clear hb); (try clear hb2); (try clear hk); (try clear hi))))
    go_meet
    case rel => exact ⟨_, (true), (by first | rfl | (simp; done) | (simp [*]; done)), H', ⟨by first | omega | exact Nat.le_refl _⟩, ⟨by repeat (first | (with_reducible first | exact HB.out | apply bL | apply bW | apply b1) | exact HB.out)⟩⟩
   ·
    rw [if_neg c7] at H; have c7b0 : decide (a1 < 0) = false := decide_eq_false c7
    clear c7; (first | rw [c7b0] | (simp only [i64_w, i32_w]; rw [c7b0]) | skip)
    by_cases c9 : a1 > 1125899906842624
    ·
     rw [if_pos c9] at H; have c9b0 : decide (1125899906842624 < a1) = true := decide_eq_true c9
     clear c9; have H' := Aside0.mk H
     clear H; go_wp2_with (first | (go_at_call 11; (with_reducible refine (curve_Right.calls k _ _ l0 true _ ?side1 ?side2 A5.out).mono ?_); (case side1 => repeat (first | exact (Kd.C_below HR0.out HB.out) | (with_reducible refine Kd.C_alloc ?_ _) | (with_reducible refine Kd.C_drewN ?_ _) | (with_reducible refine Kd.C_drew ?_))); (case side2 => exact HC0.out); rintro e w10 ⟨rfl, hb⟩; have n0_ := Aside0.mk (bP (by repeat (first | (with_reducible first | exact HB.out | apply bL | apply bW | apply b1) | exact HB.out)) hb); clear HB; have HB := n0_; clear n0_; (try clear hb); (try clear hb2); (try clear hk); (try clear hi)))
     repeat (go_quiet (first | (go_at_call 11; (try simp only [i64_w, i32_w]); (with_reducible refine (curve_Right.calls k _ _ l0 true _ ?side1 ?side2 A5.out).mono ?_); (case side1 => repeat (first | exact (Kd.C_below HR0.out HB.out) | (with_reducible refine Kd.C_alloc ?_ _) | (with_reducible refine Kd.C_drewN ?_ _) | (with_reducible refine Kd.C_drew ?_))); (case side2 => exact HC0.out); rintro e w10 ⟨rfl, hb⟩; have n0_ := Aside0.mk (bP (by repeat (first | (with_reducible first | exact HB.out | apply bL | apply bW | apply b1) | exact HB.out)) hb); clear HB; have HB := n0_; clear n0_; (try clear hb); (try clear hb2); (try clear hk); (try clear hi))); try go_wp2_with (first | (go_at_call 11; (try simp only [i64_w, i32_w]); (with_reducible refine (curve_Right.calls k _ _ l0 true _ ?side1 ?side2 A5.out).mono ?_); (case side1 => repeat (first | exact (Kd.C_below HR0.out HB.out) | (with_reducible refine Kd.C_alloc ?_ _) | (with_reducible refine Kd.C_drewN ?_ _) | (with_reducible refine Kd.C_drew ?_))); (case side2 => exact HC0.out); rintro e w10 ⟨rfl, hb⟩; have n0_ := Aside0.mk (bP (by repeat (first | (with_reducible first | exact HB.out | apply bL | apply bW | apply b1) | exact HB.out)) hb); clear HB; have HB := n0_; clear n0_; (try clear hb); (try clear hb2); (try clear hk); (try clear hi))))
     go_meet
     case rel => exact ⟨_, (true), (by first | rfl | (simp; done) | (simp [*]; done)), H', ⟨by first | omega | exact Nat.le_refl _⟩, ⟨by repeat (first | (with_reducible first | exact HB.out | apply bL | apply bW | apply b1) | exact HB.out)⟩⟩
    ·
     rw [if_neg c9] at H; have c9b0 : decide (1125899906842624 < a1) = false := decide_eq_false c9
     clear c9; by_cases c11 : a2 < 1
     ·
      rw [if_pos c11] at H; have c11b0 : decide (a2 < 1) = true := decide_eq_true c11
      clear c11; have H' := Aside0.mk H
      clear H; go_wp2_with (first | (go_at_call 11; (with_reducible refine (curve_Right.calls k _ _ l0 true _ ?side1 ?side2 A5.out).mono ?_); (case side1 => repeat (first | exact (Kd.C_below HR0.out HB.out) | (with_reducible refine Kd.C_alloc ?_ _) | (with_reducible refine Kd.C_drewN ?_ _) | (with_reducible refine Kd.C_drew ?_))); (case side2 => exact HC0.out); rintro e w12 ⟨rfl, hb⟩; have n0_ := Aside0.mk (bP (by repeat (first | (with_reducible first | exact HB.out | apply bL | apply bW | apply b1) | exact HB.out)) hb); clear HB; have HB := n0_; clear n0_; (try clear hb); (try clear hb2); (try clear hk); (try clear hi)))
      repeat (go_quiet (first | (go_at_call 11; (try simp only [i64_w, i32_w]); (with_reducible refine (curve_Right.calls k _ _ l0 true _ ?side1 ?side2 A5.out).mono ?_); (case side1 => repeat (first | exact (Kd.C_below HR0.out HB.out) | (with_reducible refine Kd.C_alloc ?_ _) | (with_reducible refine Kd.C_drewN ?_ _) | (with_reducible refine Kd.C_drew ?_))); (case side2 => exact HC0.out); rintro e w12 ⟨rfl, hb⟩; have n0_ := Aside0.mk (bP (by repeat (first | (with_reducible first | exact HB.out | apply bL | apply bW | apply b1) | exact HB.out)) hb); clear HB; have HB := n0_; clear n0_; (try clear hb); (try clear hb2); (try clear hk); (try clear hi))); try go_wp2_with (first | (go_at_call 11; (try simp only [i64_w, i32_w]); (with_reducible refine (curve_Right.calls k _ _ l0 true _ ?side1 ?side2 A5.out).mono ?_); (case side1 => repeat (first | exact (Kd.C_below HR0.out HB.out) | (with_reducible refine Kd.C_alloc ?_ _) | (with_reducible refine Kd.C_drewN ?_ _) | (with_reducible refine Kd.C_drew ?_))); (case side2 => exact HC0.out); rintro e w12 ⟨rfl, hb⟩; have n0_ := Aside0.mk (bP (by repeat (first | (with_reducible first | exact HB.out | apply bL | apply bW | apply b1) | exact HB.out)) hb); clear HB; have HB := n0_; clear n0_; (try clear hb); (try clear hb2); (try clear hk); (try clear hi))))
      go_meet
      case rel => exact ⟨_, (true), (by first | rfl | (simp; done) | (simp [*]; done)), H', ⟨by first | omega | exact Nat.le_refl _⟩, ⟨by repeat (first | (with_reducible first | exact HB.out | apply bL | apply bW | apply b1) | exact HB.out)⟩⟩
     ·
      rw [if_neg c11] at H; have c11b0 : decide (a2 < 1) = false := decide_eq_false c11
      clear c11; have H' := Aside0.mk H
      clear H; go_wp2_with (first | (go_at_call 11; (with_reducible refine (curve_Right.calls k _ _ l0 true _ ?side1 ?side2 A5.out).mono ?_); (case side1 => repeat (first | exact (Kd.C_below HR0.out HB.out) | (with_reducible refine Kd.C_alloc ?_ _) | (with_reducible refine Kd.C_drewN ?_ _) | (with_reducible refine Kd.C_drew ?_))); (case side2 => exact HC0.out); rintro e w13 ⟨rfl, hb⟩; have n0_ := Aside0.mk (bP (by repeat (first | (with_reducible first | exact HB.out | apply bL | apply bW | apply b1) | exact HB.out)) hb); clear HB; have HB := n0_; clear n0_; (try clear hb); (try clear hb2); (try clear hk); (try clear hi)))
      repeat (go_quiet (first | (go_at_call 11; (try simp only [i64_w, i32_w]); (with_reducible refine (curve_Right.calls k _ _ l0 true _ ?side1 ?side2 A5.out).mono ?_); (case side1 => repeat (first | exact (Kd.C_below HR0.out HB.out) | (with_reducible refine Kd.C_alloc ?_ _) | (with_reducible refine Kd.C_drewN ?_ _) | (with_reducible refine Kd.C_drew ?_))); (case side2 => exact HC0.out); rintro e w13 ⟨rfl, hb⟩; have n0_ := Aside0.mk (bP (by repeat (first | (with_reducible first | exact HB.out | apply bL | apply bW | apply b1) | exact HB.out)) hb); clear HB; have HB := n0_; clear n0_; (try clear hb); (try clear hb2); (try clear hk); (try clear hi))); try go_wp2_with (first | (go_at_call 11; (try simp only [i64_w, i32_w]); (with_reducible refine (curve_Right.calls k _ _ l0 true _ ?side1 ?side2 A5.out).mono ?_); (case side1 => repeat (first | exact (Kd.C_below HR0.out HB.out) | (with_reducible refine Kd.C_alloc ?_ _) | (with_reducible refine Kd.C_drewN ?_ _) | (with_reducible refine Kd.C_drew ?_))); (case side2 => exact HC0.out); rintro e w13 ⟨rfl, hb⟩; have n0_ := Aside0.mk (bP (by repeat (first | (with_reducible first | exact HB.out | apply bL | apply bW | apply b1) | exact HB.out)) hb); clear HB; have HB := n0_; clear n0_; (try clear hb); (try clear hb2); (try clear hk); (try clear hi))))
      go_meet
      case rel => exact ⟨_, (decide (a2 > 1125899906842624)), (by first | rfl | (simp; done) | (simp [*]; done)), H', ⟨by first | omega | exact Nat.le_refl _⟩, ⟨by repeat (first | (with_reducible first | exact HB.out | apply bL | apply bW | apply b1) | exact HB.out)⟩⟩
  ·
   replace c6 := Bool.eq_false_iff.mpr c6
   subst c6; have H1 : (curve_Slope.j0 k l0 a1 a2 true) = some r := by rw [if_neg (show ¬ (false = true) by decide)] at H; exact H
   clear H; have H := H1
   clear H1; have H' := Aside0.mk H
   clear H; go_wp2_with (first | (go_at_call 11; (with_reducible refine (curve_Right.calls k _ _ l0 false _ ?side1 ?side2 A5.out).mono ?_); (case side1 => repeat (first | exact (Kd.C_below HR0.out HB.out) | (with_reducible refine Kd.C_alloc ?_ _) | (with_reducible refine Kd.C_drewN ?_ _) | (with_reducible refine Kd.C_drew ?_))); (case side2 => exact HC0.out); rintro e w14 ⟨rfl, hb⟩; have n0_ := Aside0.mk (bP (by repeat (first | (with_reducible first | exact HB.out | apply bL | apply bW | apply b1) | exact HB.out)) hb); clear HB; have HB := n0_; clear n0_; (try clear hb); (try clear hb2); (try clear hk); (try clear hi)))
   repeat (go_quiet (first | (go_at_call 11; (try simp only [i64_w, i32_w]); (with_reducible refine (curve_Right.calls k _ _ l0 false _ ?side1 ?side2 A5.out).mono ?_); (case side1 => repeat (first | exact (Kd.C_below HR0.out HB.out) | (with_reducible refine Kd.C_alloc ?_ _) | (with_reducible refine Kd.C_drewN ?_ _) | (with_reducible refine Kd.C_drew ?_))); (case side2 => exact HC0.out); rintro e w14 ⟨rfl, hb⟩; have n0_ := Aside0.mk (bP (by repeat (first | (with_reducible first | exact HB.out | apply bL | apply bW | apply b1) | exact HB.out)) hb); clear HB; have HB := n0_; clear n0_; (try clear hb); (try clear hb2); (try clear hk); (try clear hi))); try go_wp2_with (first | (go_at_call 11; (try simp only [i64_w, i32_w]); (with_reducible refine (curve_Right.calls k _ _ l0 false _ ?side1 ?side2 A5.out).mono ?_); (case side1 => repeat (first | exact (Kd.C_below HR0.out HB.out) | (with_reducible refine Kd.C_alloc ?_ _) | (with_reducible refine Kd.C_drewN ?_ _) | (with_reducible refine Kd.C_drew ?_))); (case side2 => exact HC0.out); rintro e w14 ⟨rfl, hb⟩; have n0_ := Aside0.mk (bP (by repeat (first | (with_reducible first | exact HB.out | apply bL | apply bW | apply b1) | exact HB.out)) hb); clear HB; have HB := n0_; clear n0_; (try clear hb); (try clear hb2); (try clear hk); (try clear hi))))
   go_meet
   case rel => exact ⟨_, (true), (by first | rfl | (simp; done) | (simp [*]; done)), H', ⟨by first | omega | exact Nat.le_refl _⟩, ⟨by repeat (first | (with_reducible first | exact HB.out | apply bL | apply bW | apply b1) | exact HB.out)⟩⟩
 case rest =>
  clear HC4; try clear c1
  try clear p2
  try clear c6
  try clear c7
  try clear c7b0
  try clear c9
  try clear c9b0
  try clear c11
  try clear c11b0
  obtain ⟨kq, x29_3, rfl, HA, HJ3, HB⟩ := hcut
  cases kq with
  | zero => exact absurd HA.out (by simp [curve_Slope.j0])
  | succ kj3 =>
   have H := HA.out
   clear HA; simp only [curve_Slope.j0] at H; by_cases c15 : x29_3 = true
   ·
    subst c15; have H1 : (some false) = some r := by rw [if_pos rfl] at H; exact H
    clear H; have H := H1
    clear H1; obtain rfl := Option.some.inj H
    go_wp2
    repeat (go_quiet (fail); try go_wp2)
    go_ret
    exact ⟨by first | rfl | (simp [errW_none, errW_some] <;> rfl) | (simp [*, errW_none, errW_some] <;> rfl), by repeat (first | (with_reducible first | exact HB.out | apply bL | apply bW | apply b1) | exact HB.out)⟩
   ·
    replace c15 := Bool.eq_false_iff.mpr c15
    subst c15; have H1 : (curve_Slope.l0 kj3 l0 a1 a2 1) = some r := by rw [if_neg (show ¬ (false = true) by decide)] at H; exact H
    clear H; have H := H1
    clear H1; have H' := Aside0.mk H
    clear H; go_wp2
    repeat (go_quiet (fail); try go_wp2)
    go_loopg [7] kj3 (fun kq v7 w' => ∃ (x7_2 : Int), v7 = .int .i64 x7_2 ∧ Aside0 (curve_Slope.l0 kq l0 a1 a2 x7_2 = some r) ∧ Aside0 (kq ≤ kj3) ∧ Aside0 (Below w.heap.size w w'))
    case atStart => exact ⟨(1), (by first | rfl | (simp; done) | (simp [*]; done)), H', ⟨Nat.le_refl _⟩, ⟨by repeat (first | (with_reducible first | exact HB.out | apply bL | apply bW | apply b1) | exact HB.out)⟩⟩
    case round =>
     clear H'; try clear c1
     try clear p2
     try clear c6
     try clear c7
     try clear c7b0
     try clear c9
     try clear c9b0
     try clear c11
     try clear c11b0
     try clear c15
     try clear p2
     obtain ⟨x7_2, rfl, HA, HK2, HB⟩ := hrel
     cases gk with
     | zero => exact absurd HA.out (by simp [curve_Slope.l0])
     | succ k2 =>
      have H := HA.out
      clear HA; simp only [curve_Slope.l0] at H; by_cases c16 : x7_2 < (l0.length : Int)
      ·
       rw [if_pos c16] at H; have c16b0 : decide (x7_2 < (l0.length : Int)) = true := decide_eq_true c16
       clear c16; by_cases c17 : 0 ≤ x7_2
       ·
        rw [if_pos c17] at H; have c17b0 : decide (0 ≤ x7_2) = true := decide_eq_true c17
        clear c17; obtain ⟨ji18, hji18⟩ : ∃ j_ : Int, (wrap64 (x7_2 - 1)) = j_ := ⟨_, rfl⟩
        replace H : (if 0 ≤ (ji18) then (if (ji18) < (l0.length : Int) then ((exact_Scale.f k2 a1 (wrap64 (((rd_T37 l0 x7_2).f0) - ((rd_T37 l0 (ji18)).f0))) a2).bind fun bt141 => (if bt141.2.2 = true then (if (wrap64 (((rd_T37 l0 x7_2).f1) - ((rd_T37 l0 (ji18)).f1))) > bt141.1 then (some false) else (curve_Slope.l0 k2 l0 a1 a2 (wrap64 (x7_2 + 1)))) else (curve_Slope.l0 k2 l0 a1 a2 (wrap64 (x7_2 + 1))))) else (none)) else (none)) = some r := by first | (rw [hji18] at H; exact H) | (simp only [hji18] at H ⊢; exact H)
        have hji18w : (IntKind.i64.wrap (x7_2 - 1)) = ji18 := (i64_w _).trans hji18
        by_cases c19 : 0 ≤ (ji18)
        ·
         rw [if_pos c19] at H; have c19b0 : decide (0 ≤ (ji18)) = true := decide_eq_true c19
         clear c19; by_cases c20 : (ji18) < (l0.length : Int)
         ·
          rw [if_pos c20] at H; have c20b0 : decide ((ji18) < (l0.length : Int)) = true := decide_eq_true c20
          clear c20; replace H := Option.bind_eq_some_iff.mp H
          obtain ⟨⟨t141, t142, t143⟩, A210, H⟩ := H
          dsimp only at H
          have A21 := Aside0.mk A210
          clear A210; by_cases c22 : t143 = true
          ·
           subst c22; have H1 : (if (wrap64 (((rd_T37 l0 x7_2).f1) - ((rd_T37 l0 (ji18)).f1))) > t141 then (some false) else (curve_Slope.l0 k2 l0 a1 a2 (wrap64 (x7_2 + 1)))) = some r := by rw [if_pos rfl] at H; exact H
           clear H; have H := H1
           clear H1; by_cases c23 : (wrap64 (((rd_T37 l0 x7_2).f1) - ((rd_T37 l0 (ji18)).f1))) > t141
           ·
            rw [if_pos c23] at H; have c23b0 : decide (t141 < (wrap64 (((rd_T37 l0 x7_2).f1) - ((rd_T37 l0 (ji18)).f1)))) = true := decide_eq_true c23
            clear c23; obtain rfl := Option.some.inj H
            have p139 : 0 ≤ (x7_2 : Int) := of_decide_eq_true (by first | (with_reducible assumption) | assumption)
            have q139 : x7_2 < (l0.length : Int) := of_decide_eq_true (by first | (with_reducible assumption) | assumption)
            obtain ⟨ad139, e139, hx139_0, hx139_1⟩ := at_T37 HR0.out x7_2 p139 q139
            cases e139
            replace hx139_0 := (HB.out.cell (wL w _ hx139_0)).trans hx139_0
            replace hx139_1 := (HB.out.cell (wL w _ hx139_1)).trans hx139_1
            replace p139 := eq_true p139
            replace q139 := eq_true q139
            have p140 : 0 ≤ ((ji18) : Int) := of_decide_eq_true (by first | (with_reducible assumption) | assumption)
            have q140 : (ji18) < (l0.length : Int) := of_decide_eq_true (by first | (with_reducible assumption) | assumption)
            obtain ⟨ad140, e140, hx140_0, hx140_1⟩ := at_T37 HR0.out (ji18) p140 q140
            obtain rfl : ad139 = ad140 := (by injection e140)
            replace hx140_0 := (HB.out.cell (wL w _ hx140_0)).trans hx140_0
            replace hx140_1 := (HB.out.cell (wL w _ hx140_1)).trans hx140_1
            replace p140 := eq_true p140
            replace q140 := eq_true q140
            go_wp2_with (first | (go_at_call 21; (with_reducible refine (exact_Scale.calls k2 a1 (wrap64 (((rd_T37 l0 x7_2).f0) - ((rd_T37 l0 (ji18)).f0))) a2 t141 t142 true _ A21.out).mono ?_); rintro e w' ⟨rfl, ⟨nd, rfl⟩⟩; (try first | exact ⟨rfl, _, World.drewN_drewN _ _ _⟩ | exact ⟨rfl, _, Eq.trans (World.drewN_drewN _ _ _) (congrArg (World.drewN _) (Nat.add_assoc _ _ _))⟩); have p144 : 0 ≤ (x7_2 : Int) := of_decide_eq_true (by first | (with_reducible assumption) | assumption); have q144 : x7_2 < (l0.length : Int) := of_decide_eq_true (by first | (with_reducible assumption) | assumption); obtain ⟨ad144, e144, hx144_0, hx144_1⟩ := at_T37 HR0.out x7_2 p144 q144; obtain rfl : ad139 = ad144 := (by injection e144); replace hx144_0 := (HB.out.cell (wL w _ hx144_0)).trans hx144_0; replace hx144_1 := (HB.out.cell (wL w _ hx144_1)).trans hx144_1; replace p144 := eq_true p144; replace q144 := eq_true q144; have p145 : 0 ≤ ((ji18) : Int) := of_decide_eq_true (by first | (with_reducible assumption) | assumption); have q145 : (ji18) < (l0.length : Int) := of_decide_eq_true (by first | (with_reducible assumption) | assumption); obtain ⟨ad145, e145, hx145_0, hx145_1⟩ := at_T37 HR0.out (ji18) p145 q145; obtain rfl : ad139 = ad145 := (by injection e145); replace hx145_0 := (HB.out.cell (wL w _ hx145_0)).trans hx145_0; replace hx145_1 := (HB.out.cell (wL w _ hx145_1)).trans hx145_1; replace p145 := eq_true p145; replace q145 := eq_true q145))
            repeat (go_quiet (first | (go_at_call 21; (try simp only [i64_w, i32_w]); (with_reducible refine (exact_Scale.calls k2 a1 (wrap64 (((rd_T37 l0 x7_2).f0) - ((rd_T37 l0 (ji18)).f0))) a2 t141 t142 true _ A21.out).mono ?_); rintro e w' ⟨rfl, ⟨nd, rfl⟩⟩; (try first | exact ⟨rfl, _, World.drewN_drewN _ _ _⟩ | exact ⟨rfl, _, Eq.trans (World.drewN_drewN _ _ _) (congrArg (World.drewN _) (Nat.add_assoc _ _ _))⟩); have p144 : 0 ≤ (x7_2 : Int) := of_decide_eq_true (by first | (with_reducible assumption) | assumption); have q144 : x7_2 < (l0.length : Int) := of_decide_eq_true (by first | (with_reducible assumption) | assumption); obtain ⟨ad144, e144, hx144_0, hx144_1⟩ := at_T37 HR0.out x7_2 p144 q144; obtain rfl : ad139 = ad144 := (by injection e144); replace hx144_0 := (HB.out.cell (wL w _ hx144_0)).trans hx144_0; replace hx144_1 := (HB.out.cell (wL w _ hx144_1)).trans hx144_1; replace p144 := eq_true p144; replace q144 := eq_true q144; have p145 : 0 ≤ ((ji18) : Int) := of_decide_eq_true (by first | (with_reducible assumption) | assumption); have q145 : (ji18) < (l0.length : Int) := of_decide_eq_true (by first | (with_reducible assumption) | assumption); obtain ⟨ad145, e145, hx145_0, hx145_1⟩ := at_T37 HR0.out (ji18) p145 q145; obtain rfl : ad139 = ad145 := (by injection e145); replace hx145_0 := (HB.out.cell (wL w _ hx145_0)).trans hx145_0; replace hx145_1 := (HB.out.cell (wL w _ hx145_1)).trans hx145_1; replace p145 := eq_true p145; replace q145 := eq_true q145)); try go_wp2_with (first | (go_at_call 21; (try simp only [i64_w, i32_w]); (with_reducible refine (exact_Scale.calls k2 a1 (wrap64 (((rd_T37 l0 x7_2).f0) - ((rd_T37 l0 (ji18)).f0))) a2 t141 t142 true _ A21.out).mono ?_); rintro e w' ⟨rfl, ⟨nd, rfl⟩⟩; (try first | exact ⟨rfl, _, World.drewN_drewN _ _ _⟩ | exact ⟨rfl, _, Eq.trans (World.drewN_drewN _ _ _) (congrArg (World.drewN _) (Nat.add_assoc _ _ _))⟩); have p144 : 0 ≤ (x7_2 : Int) := of_decide_eq_true (by first | (with_reducible assumption) | assumption); have q144 : x7_2 < (l0.length : Int) := of_decide_eq_true (by first | (with_reducible assumption) | assumption); obtain ⟨ad144, e144, hx144_0, hx144_1⟩ := at_T37 HR0.out x7_2 p144 q144; obtain rfl : ad139 = ad144 := (by injection e144); replace hx144_0 := (HB.out.cell (wL w _ hx144_0)).trans hx144_0; replace hx144_1 := (HB.out.cell (wL w _ hx144_1)).trans hx144_1; replace p144 := eq_true p144; replace q144 := eq_true q144; have p145 : 0 ≤ ((ji18) : Int) := of_decide_eq_true (by first | (with_reducible assumption) | assumption); have q145 : (ji18) < (l0.length : Int) := of_decide_eq_true (by first | (with_reducible assumption) | assumption); obtain ⟨ad145, e145, hx145_0, hx145_1⟩ := at_T37 HR0.out (ji18) p145 q145; obtain rfl : ad139 = ad145 := (by injection e145); replace hx145_0 := (HB.out.cell (wL w _ hx145_0)).trans hx145_0; replace hx145_1 := (HB.out.cell (wL w _ hx145_1)).trans hx145_1; replace p145 := eq_true p145; replace q145 := eq_true q145)))
            go_ret
            exact ⟨by first | rfl | (simp [errW_none, errW_some] <;> rfl) | (simp only [← hji18]; first | rfl | (simp [errW_none, errW_some] <;> rfl)) | (simp [*, errW_none, errW_some] <;> rfl), by repeat (first | (with_reducible first | exact HB.out | apply bL | apply bW | apply b1) | exact HB.out)⟩
           ·
            rw [if_neg c23] at H; have c23b0 : decide (t141 < (wrap64 (((rd_T37 l0 x7_2).f1) - ((rd_T37 l0 (ji18)).f1)))) = false := decide_eq_false c23
            clear c23; have H' := Aside0.mk H
            clear H; have p139 : 0 ≤ (x7_2 : Int) := of_decide_eq_true (by first | (with_reducible assumption) | assumption)
            have q139 : x7_2 < (l0.length : Int) := of_decide_eq_true (by first | (with_reducible assumption) | assumption)
            obtain ⟨ad139, e139, hx139_0, hx139_1⟩ := at_T37 HR0.out x7_2 p139 q139
            cases e139
            replace hx139_0 := (HB.out.cell (wL w _ hx139_0)).trans hx139_0
            replace hx139_1 := (HB.out.cell (wL w _ hx139_1)).trans hx139_1
            replace p139 := eq_true p139
            replace q139 := eq_true q139
            have p140 : 0 ≤ ((ji18) : Int) := of_decide_eq_true (by first | (with_reducible assumption) | assumption)
            have q140 : (ji18) < (l0.length : Int) := of_decide_eq_true (by first | (with_reducible assumption) | assumption)
            obtain ⟨ad140, e140, hx140_0, hx140_1⟩ := at_T37 HR0.out (ji18) p140 q140
            obtain rfl : ad139 = ad140 := (by injection e140)
            replace hx140_0 := (HB.out.cell (wL w _ hx140_0)).trans hx140_0
            replace hx140_1 := (HB.out.cell (wL w _ hx140_1)).trans hx140_1
            replace p140 := eq_true p140
            replace q140 := eq_true q140
            go_wp2_with (first | (go_at_call 21; (with_reducible refine (exact_Scale.calls k2 a1 (wrap64 (((rd_T37 l0 x7_2).f0) - ((rd_T37 l0 (ji18)).f0))) a2 t141 t142 true _ A21.out).mono ?_); rintro e w' ⟨rfl, ⟨nd, rfl⟩⟩; (try first | exact ⟨rfl, _, World.drewN_drewN _ _ _⟩ | exact ⟨rfl, _, Eq.trans (World.drewN_drewN _ _ _) (congrArg (World.drewN _) (Nat.add_assoc _ _ _))⟩); have p144 : 0 ≤ (x7_2 : Int) := of_decide_eq_true (by first | (with_reducible assumption) | assumption); have q144 : x7_2 < (l0.length : Int) := of_decide_eq_true (by first | (with_reducible assumption) | assumption); obtain ⟨ad144, e144, hx144_0, hx144_1⟩ := at_T37 HR0.out x7_2 p144 q144; obtain rfl : ad139 = ad144 := (by injection e144); replace hx144_0 := (HB.out.cell (wL w _ hx144_0)).trans hx144_0; replace hx144_1 := (HB.out.cell (wL w _ hx144_1)).trans hx144_1; replace p144 := eq_true p144; replace q144 := eq_true q144; have p145 : 0 ≤ ((ji18) : Int) := of_decide_eq_true (by first | (with_reducible assumption) | assumption); have q145 : (ji18) < (l0.length : Int) := of_decide_eq_true (by first | (with_reducible assumption) | assumption); obtain ⟨ad145, e145, hx145_0, hx145_1⟩ := at_T37 HR0.out (ji18) p145 q145; obtain rfl : ad139 = ad145 := (by injection e145); replace hx145_0 := (HB.out.cell (wL w _ hx145_0)).trans hx145_0; replace hx145_1 := (HB.out.cell (wL w _ hx145_1)).trans hx145_1; replace p145 := eq_true p145; replace q145 := eq_true q145))
            repeat (go_quiet (first | (go_at_call 21; (try simp only [i64_w, i32_w]); (with_reducible refine (exact_Scale.calls k2 a1 (wrap64 (((rd_T37 l0 x7_2).f0) - ((rd_T37 l0 (ji18)).f0))) a2 t141 t142 true _ A21.out).mono ?_); rintro e w' ⟨rfl, ⟨nd, rfl⟩⟩; (try first | exact ⟨rfl, _, World.drewN_drewN _ _ _⟩ | exact ⟨rfl, _, Eq.trans (World.drewN_drewN _ _ _) (congrArg (World.drewN _) (Nat.add_assoc _ _ _))⟩); have p144 : 0 ≤ (x7_2 : Int) := of_decide_eq_true (by first | (with_reducible assumption) | assumption); have q144 : x7_2 < (l0.length : Int) := of_decide_eq_true (by first | (with_reducible assumption) | assumption); obtain ⟨ad144, e144, hx144_0, hx144_1⟩ := at_T37 HR0.out x7_2 p144 q144; obtain rfl : ad139 = ad144 := (by injection e144); replace hx144_0 := (HB.out.cell (wL w _ hx144_0)).trans hx144_0; replace hx144_1 := (HB.out.cell (wL w _ hx144_1)).trans hx144_1; replace p144 := eq_true p144; replace q144 := eq_true q144; have p145 : 0 ≤ ((ji18) : Int) := of_decide_eq_true (by first | (with_reducible assumption) | assumption); have q145 : (ji18) < (l0.length : Int) := of_decide_eq_true (by first | (with_reducible assumption) | assumption); obtain ⟨ad145, e145, hx145_0, hx145_1⟩ := at_T37 HR0.out (ji18) p145 q145; obtain rfl : ad139 = ad145 := (by injection e145); replace hx145_0 := (HB.out.cell (wL w _ hx145_0)).trans hx145_0; replace hx145_1 := (HB.out.cell (wL w _ hx145_1)).trans hx145_1; replace p145 := eq_true p145; replace q145 := eq_true q145)); try go_wp2_with (first | (go_at_call 21; (try simp only [i64_w, i32_w]); (with_reducible refine (exact_Scale.calls k2 a1 (wrap64 (((rd_T37 l0 x7_2).f0) - ((rd_T37 l0 (ji18)).f0))) a2 t141 t142 true _ A21.out).mono ?_); rintro e w' ⟨rfl, ⟨nd, rfl⟩⟩; (try first | exact ⟨rfl, _, World.drewN_drewN _ _ _⟩ | exact ⟨rfl, _, Eq.trans (World.drewN_drewN _ _ _) (congrArg (World.drewN _) (Nat.add_assoc _ _ _))⟩); have p144 : 0 ≤ (x7_2 : Int) := of_decide_eq_true (by first | (with_reducible assumption) | assumption); have q144 : x7_2 < (l0.length : Int) := of_decide_eq_true (by first | (with_reducible assumption) | assumption); obtain ⟨ad144, e144, hx144_0, hx144_1⟩ := at_T37 HR0.out x7_2 p144 q144; obtain rfl : ad139 = ad144 := (by injection e144); replace hx144_0 := (HB.out.cell (wL w _ hx144_0)).trans hx144_0; replace hx144_1 := (HB.out.cell (wL w _ hx144_1)).trans hx144_1; replace p144 := eq_true p144; replace q144 := eq_true q144; have p145 : 0 ≤ ((ji18) : Int) := of_decide_eq_true (by first | (with_reducible assumption) | assumption); have q145 : (ji18) < (l0.length : Int) := of_decide_eq_true (by first | (with_reducible assumption) | assumption); obtain ⟨ad145, e145, hx145_0, hx145_1⟩ := at_T37 HR0.out (ji18) p145 q145; obtain rfl : ad139 = ad145 := (by injection e145); replace hx145_0 := (HB.out.cell (wL w _ hx145_0)).trans hx145_0; replace hx145_1 := (HB.out.cell (wL w _ hx145_1)).trans hx145_1; replace p145 := eq_true p145; replace q145 := eq_true q145)))
            go_roundg k2
            case measure => have := HJ3.out; have := HK2.out; omega
            case rel => exact ⟨(wrap64 (x7_2 + 1)), (by first | rfl | (simp; done) | (simp [*]; done)), H', ⟨by have := HJ3.out; have := HK2.out; omega⟩, ⟨by repeat (first | (with_reducible first | exact HB.out | apply bL | apply bW | apply b1) | exact HB.out)⟩⟩
          ·
           replace c22 := Bool.eq_false_iff.mpr c22
           subst c22; have H1 : (curve_Slope.l0 k2 l0 a1 a2 (wrap64 (x7_2 + 1))) = some r := by rw [if_neg (show ¬ (false = true) by decide)] at H; exact H
           clear H; have H := H1
           clear H1; have H' := Aside0.mk H
           clear H; have p139 : 0 ≤ (x7_2 : Int) := of_decide_eq_true (by first | (with_reducible assumption) | assumption)
           have q139 : x7_2 < (l0.length : Int) := of_decide_eq_true (by first | (with_reducible assumption) | assumption)
           obtain ⟨ad139, e139, hx139_0, hx139_1⟩ := at_T37 HR0.out x7_2 p139 q139
           cases e139
           replace hx139_0 := (HB.out.cell (wL w _ hx139_0)).trans hx139_0
           replace hx139_1 := (HB.out.cell (wL w _ hx139_1)).trans hx139_1
           replace p139 := eq_true p139
           replace q139 := eq_true q139
           have p140 : 0 ≤ ((ji18) : Int) := of_decide_eq_true (by first | (with_reducible assumption) | assumption)
           have q140 : (ji18) < (l0.length : Int) := of_decide_eq_true (by first | (with_reducible assumption) | assumption)
           obtain ⟨ad140, e140, hx140_0, hx140_1⟩ := at_T37 HR0.out (ji18) p140 q140
           obtain rfl : ad139 = ad140 := (by injection e140)
           replace hx140_0 := (HB.out.cell (wL w _ hx140_0)).trans hx140_0
           replace hx140_1 := (HB.out.cell (wL w _ hx140_1)).trans hx140_1
           replace p140 := eq_true p140
           replace q140 := eq_true q140
           go_wp2_with (first | (go_at_call 21; (with_reducible refine (exact_Scale.calls k2 a1 (wrap64 (((rd_T37 l0 x7_2).f0) - ((rd_T37 l0 (ji18)).f0))) a2 t141 t142 false _ A21.out).mono ?_); rintro e w' ⟨rfl, ⟨nd, rfl⟩⟩; (try first | exact ⟨rfl, _, World.drewN_drewN _ _ _⟩ | exact ⟨rfl, _, Eq.trans (World.drewN_drewN _ _ _) (congrArg (World.drewN _) (Nat.add_assoc _ _ _))⟩)))
           repeat (go_quiet (first | (go_at_call 21; (try simp only [i64_w, i32_w]); (with_reducible refine (exact_Scale.calls k2 a1 (wrap64 (((rd_T37 l0 x7_2).f0) - ((rd_T37 l0 (ji18)).f0))) a2 t141 t142 false _ A21.out).mono ?_); rintro e w' ⟨rfl, ⟨nd, rfl⟩⟩; (try first | exact ⟨rfl, _, World.drewN_drewN _ _ _⟩ | exact ⟨rfl, _, Eq.trans (World.drewN_drewN _ _ _) (congrArg (World.drewN _) (Nat.add_assoc _ _ _))⟩))); try go_wp2_with (first | (go_at_call 21; (try simp only [i64_w, i32_w]); (with_reducible refine (exact_Scale.calls k2 a1 (wrap64 (((rd_T37 l0 x7_2).f0) - ((rd_T37 l0 (ji18)).f0))) a2 t141 t142 false _ A21.out).mono ?_); rintro e w' ⟨rfl, ⟨nd, rfl⟩⟩; (try first | exact ⟨rfl, _, World.drewN_drewN _ _ _⟩ | exact ⟨rfl, _, Eq.trans (World.drewN_drewN _ _ _) (congrArg (World.drewN _) (Nat.add_assoc _ _ _))⟩))))
           go_roundg k2
           case measure => have := HJ3.out; have := HK2.out; omega
           case rel => exact ⟨(wrap64 (x7_2 + 1)), (by first | rfl | (simp; done) | (simp [*]; done)), H', ⟨by have := HJ3.out; have := HK2.out; omega⟩, ⟨by repeat (first | (with_reducible first | exact HB.out | apply bL | apply bW | apply b1) | exact HB.out)⟩⟩
         ·
          rw [if_neg c20] at H; exact absurd H (by simp)
        ·
         rw [if_neg c19] at H; exact absurd H (by simp)
       ·
        rw [if_neg c17] at H; exact absurd H (by simp)
      ·
       rw [if_neg c16] at H; have c16b0 : decide (x7_2 < (l0.length : Int)) = false := decide_eq_false c16
       clear c16; obtain rfl := Option.some.inj H
       go_wp2
       repeat (go_quiet (fail); try go_wp2)
       go_ret
       exact ⟨by first | rfl | (simp [errW_none, errW_some] <;> rfl) | (simp [*, errW_none, errW_some] <;> rfl), by repeat (first | (with_reducible first | exact HB.out | apply bL | apply bW | apply b1) | exact HB.out)⟩
mutual
def curve_Under.j0 : Nat → List (S37) → List (S37) → Bool → Option (Bool)
 | 0, _, _, _ => none
 | k + 1, x0, x1, x20 => if x20 = true then (some false) else (curve_Under.l0 k x0 x1 x0 (x0.length : Int) 0)
def curve_Under.l0 : Nat → List (S37) → List (S37) → List (S37) → Int → Int → Option (Bool)
 | 0, _, _, _, _, _ => none
 | k + 1, x0, x1, x21, x22, x23 => if x23 < x22 then (if 0 ≤ x23 then (if x23 < (x21.length : Int) then ((curve_at.f k x1 ((rd_T37 x21 x23).f0)).bind fun bt150 => (if ((rd_T37 x21 x23).f1) > bt150.1 then (some false) else (curve_Under.l0 k x0 x1 x21 x22 (wrap64 (x23 + 1))))) else (none)) else (none)) else (curve_Under.l1 k x0 x1 (x1.length : Int) 0)
def curve_Under.l1 : Nat → List (S37) → List (S37) → Int → Int → Option (Bool)
 | 0, _, _, _, _ => none
 | k + 1, x0, x39, x40, x41 => if x41 < x40 then (if 0 ≤ x41 then (if x41 < (x39.length : Int) then ((curve_at.f k x0 ((rd_T37 x39 x41).f0)).bind fun bt154 => (if bt154.2 > ((rd_T37 x39 x41).f1) then (some false) else (curve_Under.l1 k x0 x39 x40 (wrap64 (x41 + 1))))) else (none)) else (none)) else (some true)
end
def curve_Under.f (k : Nat) (l0 : List (S37)) (l1 : List (S37)) : Option (Bool) := (curve_Right.f k l0).bind fun t146 => (if t146 = true then ((curve_Right.f k l1).bind fun t147 => (curve_Under.j0 k l0 l1 (!t147))) else (curve_Under.j0 k l0 l1 true))
theorem curve_Under.mono_l : ∀ k, (∀ y0 y1 y2, LeO (curve_Under.j0 k y0 y1 y2) (curve_Under.j0 (k + 1) y0 y1 y2)) ∧ (∀ y0 y1 y2 y3 y4, LeO (curve_Under.l0 k y0 y1 y2 y3 y4) (curve_Under.l0 (k + 1) y0 y1 y2 y3 y4)) ∧ (∀ y0 y1 y2 y3, LeO (curve_Under.l1 k y0 y1 y2 y3) (curve_Under.l1 (k + 1) y0 y1 y2 y3))
 | 0 => ⟨fun _ _ _ r h => by simp [curve_Under.j0] at h, fun _ _ _ _ _ r h => by simp [curve_Under.l0] at h, fun _ _ _ _ r h => by simp [curve_Under.l1] at h⟩
 | k + 1 => by
  obtain ⟨ih0, ih1, ih2⟩ := curve_Under.mono_l k
  refine ⟨?_, ?_, ?_⟩
  ·
   intro y0 y1 y2; unfold curve_Under.j0
   repeat' first
   | (with_reducible exact ih0 _ _ _)
   | (with_reducible exact ih1 _ _ _ _ _)
   | (with_reducible exact ih2 _ _ _ _)
   | (with_reducible exact curve_Right.mono _ _)
   | (with_reducible exact curve_at.mono _ _ _)
   | (with_reducible exact LeO.refl _)
   | (with_reducible exact LeO.none _)
   | (with_reducible refine LeO.ite ?_ ?_)
   | (with_reducible refine LeO.bind ?_ (fun _ => ?_))
   | exact ih0 _ _ _
   | exact ih1 _ _ _ _ _
   | exact ih2 _ _ _ _
   | exact curve_Right.mono _ _
   | exact curve_at.mono _ _ _
   | exact LeO.none _
   | refine LeO.ite ?_ ?_
   | refine LeO.bind ?_ (fun _ => ?_)
  ·
   intro y0 y1 y2 y3 y4; unfold curve_Under.l0
   repeat' first
   | (with_reducible exact ih0 _ _ _)
   | (with_reducible exact ih1 _ _ _ _ _)
   | (with_reducible exact ih2 _ _ _ _)
   | (with_reducible exact curve_Right.mono _ _)
   | (with_reducible exact curve_at.mono _ _ _)
   | (with_reducible exact LeO.refl _)
   | (with_reducible exact LeO.none _)
   | (with_reducible refine LeO.ite ?_ ?_)
   | (with_reducible refine LeO.bind ?_ (fun _ => ?_))
   | exact ih0 _ _ _
   | exact ih1 _ _ _ _ _
   | exact ih2 _ _ _ _
   | exact curve_Right.mono _ _
   | exact curve_at.mono _ _ _
   | exact LeO.none _
   | refine LeO.ite ?_ ?_
   | refine LeO.bind ?_ (fun _ => ?_)
  ·
   intro y0 y1 y2 y3; unfold curve_Under.l1
   repeat' first
   | (with_reducible exact ih0 _ _ _)
   | (with_reducible exact ih1 _ _ _ _ _)
   | (with_reducible exact ih2 _ _ _ _)
   | (with_reducible exact curve_Right.mono _ _)
   | (with_reducible exact curve_at.mono _ _ _)
   | (with_reducible exact LeO.refl _)
   | (with_reducible exact LeO.none _)
   | (with_reducible refine LeO.ite ?_ ?_)
   | (with_reducible refine LeO.bind ?_ (fun _ => ?_))
   | exact ih0 _ _ _
   | exact ih1 _ _ _ _ _
   | exact ih2 _ _ _ _
   | exact curve_Right.mono _ _
   | exact curve_at.mono _ _ _
   | exact LeO.none _
   | refine LeO.ite ?_ ?_
   | refine LeO.bind ?_ (fun _ => ?_)
theorem curve_Under.mono : ∀ a0 a1 k, LeO (curve_Under.f k a0 a1) (curve_Under.f (k + 1) a0 a1) := by
 intro a0 a1 k; obtain ⟨ih0, ih1, ih2⟩ := curve_Under.mono_l k
 unfold curve_Under.f
 repeat' first
   | (with_reducible exact ih0 _ _ _)
   | (with_reducible exact ih1 _ _ _ _ _)
   | (with_reducible exact ih2 _ _ _ _)
   | (with_reducible exact curve_Right.mono _ _)
   | (with_reducible exact curve_at.mono _ _ _)
   | (with_reducible exact LeO.refl _)
   | (with_reducible exact LeO.none _)
   | (with_reducible refine LeO.ite ?_ ?_)
   | (with_reducible refine LeO.bind ?_ (fun _ => ?_))
   | exact ih0 _ _ _
   | exact ih1 _ _ _ _ _
   | exact ih2 _ _ _ _
   | exact curve_Right.mono _ _
   | exact curve_at.mono _ _ _
   | exact LeO.none _
   | refine LeO.ite ?_ ?_
   | refine LeO.bind ?_ (fun _ => ?_)
set_option maxHeartbeats 8000000 in
set_option maxRecDepth 100000 in
theorem curve_Under.calls (k : Nat) (A0 : Option Addr) (c0 : Nat) (l0 : List (S37)) (A1 : Option Addr) (c1 : Nat) (l1 : List (S37)) (r : Bool) (w : World) (hr0 : Kd.C k37 w A0 l0.length l0) (hc0 : l0.length ≤ c0) (hr1 : Kd.C k37 w A1 l1.length l1) (hc1 : l1.length ≤ c1) (h : curve_Under.f k l0 l1 = some r) :
  Calls Try.prog 17 #[.slice A0 l0.length c0, .slice A1 l1.length c1] w fun e w' => e = .returned (.bool r) ∧ Below w.heap.size w w' := by
 have hu37 := Try.underlying37
 have HR0 := Aside0.mk hr0
 have HC0 := Aside0.mk hc0
 clear hr0 hc0; have HR1 := Aside0.mk hr1
 have HC1 := Aside0.mk hc1
 clear hr1 hc1; have HB := Aside0.mk (Below.refl w.heap.size w)
 have H : ((curve_Right.f k l0).bind fun t146 => (if t146 = true then ((curve_Right.f k l1).bind fun t147 => (curve_Under.j0 k l0 l1 (!t147))) else (curve_Under.j0 k l0 l1 true))) = some r := h
 clear h; have HC3 := Aside0.mk H
 clear H; go_enter Try.func17, Try.ntmps17
 go_upto_region 1 with (fail)
 go_cut [20] (fun v20 wc => ∃ (kq : Nat) (x20_2 : Bool), v20 = .bool x20_2 ∧ Aside0 (curve_Under.j0 kq l0 l1 x20_2 = some r) ∧ Aside0 (kq ≤ k) ∧ Aside0 (Below w.heap.size w wc))
 case first =>
  have H := HC3.out
  clear HC3; replace H := Option.bind_eq_some_iff.mp H
  obtain ⟨t146, A40, H⟩ := H
  have A4 := Aside0.mk A40
  clear A40; by_cases c5 : t146 = true
  ·
   subst c5; have H1 : ((curve_Right.f k l1).bind fun t147 => (curve_Under.j0 k l0 l1 (!t147))) = some r := by rw [if_pos rfl] at H; exact H
   clear H; have H := H1
   clear H1; replace H := Option.bind_eq_some_iff.mp H
   obtain ⟨t147, A60, H⟩ := H
   have A6 := Aside0.mk A60
   clear A60; have H' := Aside0.mk H
   clear H; go_wp2_with (first | ((with_reducible refine gate_callee (f := 11) rfl ?_); refine goesL_ (some 14) rfl rfl Try.func11 (by kernel_rfl) rfl #[.slice A0 l0.length c0] rfl (by (try simp only [List.map_toArray, List.map_cons, List.map_nil]); first | done | rfl | (simp only [List.length_drop, List.length_take]; rfl)) ?_; (with_reducible refine (curve_Right.calls k _ _ l0 true _ ?side1 ?side2 A4.out).mono ?_); (case side1 => repeat (first | exact (Kd.C_below HR0.out HB.out) | (with_reducible refine Kd.C_alloc ?_ _) | (with_reducible refine Kd.C_drewN ?_ _) | (with_reducible refine Kd.C_drew ?_))); (case side2 => exact HC0.out); rintro e w7 ⟨rfl, hb⟩; refine ⟨_, rfl, ?_⟩; have n0_ := Aside0.mk (bP (by repeat (first | (with_reducible first | exact HB.out | apply bL | apply bW | apply b1) | exact HB.out)) hb); clear HB; have HB := n0_; clear n0_; (try clear hb); (try clear hb2); (try clear hk); (try clear hi)) | (go_at_call 11; (with_reducible refine (curve_Right.calls k _ _ l1 t147 _ ?side1 ?side2 A6.out).mono ?_); (case side1 => repeat (first | exact (Kd.C_below HR1.out HB.out) | (with_reducible refine Kd.C_alloc ?_ _) | (with_reducible refine Kd.C_drewN ?_ _) | (with_reducible refine Kd.C_drew ?_))); (case side2 => exact HC1.out); rintro e w8 ⟨rfl, hb⟩; (try clear A6); have n0_ := Aside0.mk (bP (by repeat (first | (with_reducible first | exact HB.out | apply bL | apply bW | apply b1) | exact HB.out)) hb); clear HB; have HB := n0_; clear n0_; (try clear hb); (try clear hb2); (try clear hk); (try clear hi)))
   go_meet
   case rel => exact ⟨_, (!t147), (by first | rfl | (simp; done) | (simp [*]; done)), H', ⟨by first | omega | exact Nat.le_refl _⟩, ⟨by repeat (first | (with_reducible first | exact HB.out | apply bL | apply bW | apply b1) | exact HB.out)⟩⟩
  ·
   replace c5 := Bool.eq_false_iff.mpr c5
   subst c5; have H1 : (curve_Under.j0 k l0 l1 true) = some r := by rw [if_neg (show ¬ (false = true) by decide)] at H; exact H
   clear H; have H := H1
   clear H1; have H' := Aside0.mk H
   clear H; go_wp2_with (first | ((with_reducible refine gate_callee (f := 11) rfl ?_); refine goesL_ (some 14) rfl rfl Try.func11 (by kernel_rfl) rfl #[.slice A0 l0.length c0] rfl (by (try simp only [List.map_toArray, List.map_cons, List.map_nil]); first | done | rfl | (simp only [List.length_drop, List.length_take]; rfl)) ?_; (with_reducible refine (curve_Right.calls k _ _ l0 false _ ?side1 ?side2 A4.out).mono ?_); (case side1 => repeat (first | exact (Kd.C_below HR0.out HB.out) | (with_reducible refine Kd.C_alloc ?_ _) | (with_reducible refine Kd.C_drewN ?_ _) | (with_reducible refine Kd.C_drew ?_))); (case side2 => exact HC0.out); rintro e w9 ⟨rfl, hb⟩; refine ⟨_, rfl, ?_⟩; have n0_ := Aside0.mk (bP (by repeat (first | (with_reducible first | exact HB.out | apply bL | apply bW | apply b1) | exact HB.out)) hb); clear HB; have HB := n0_; clear n0_; (try clear hb); (try clear hb2); (try clear hk); (try clear hi)))
   go_meet
   case rel => exact ⟨_, (true), (by first | rfl | (simp; done) | (simp [*]; done)), H', ⟨by first | omega | exact Nat.le_refl _⟩, ⟨by repeat (first | (with_reducible first | exact HB.out | apply bL | apply bW | apply b1) | exact HB.out)⟩⟩
 case rest =>
  clear HC3; try clear c1
  try clear p2
  try clear c5
  obtain ⟨kq, x20_2, rfl, HA, HJ2, HB⟩ := hcut
  cases kq with
  | zero => exact absurd HA.out (by simp [curve_Under.j0])
  | succ kj2 =>
   have H := HA.out
   clear HA; simp only [curve_Under.j0] at H; by_cases c10 : x20_2 = true
   ·
    subst c10; have H1 : (some false) = some r := by rw [if_pos rfl] at H; exact H
    clear H; have H := H1
    clear H1; obtain rfl := Option.some.inj H
    go_wp2
    go_ret
    exact ⟨by first | rfl | (simp [errW_none, errW_some] <;> rfl) | (simp [*, errW_none, errW_some] <;> rfl), by repeat (first | (with_reducible first | exact HB.out | apply bL | apply bW | apply b1) | exact HB.out)⟩
   ·
    replace c10 := Bool.eq_false_iff.mpr c10
    subst c10; have H1 : (curve_Under.l0 kj2 l0 l1 l0 (l0.length : Int) 0) = some r := by rw [if_neg (show ¬ (false = true) by decide)] at H; exact H
    clear H; have H := H1
    clear H1; have H' := Aside0.mk H
    clear H; go_wp2
    go_loopg [23] kj2 (fun kq v23 w' => ∃ (x23_2 : Int), v23 = .int .i64 x23_2 ∧ Aside0 (curve_Under.l0 kq l0 l1 l0 (l0.length : Int) x23_2 = some r) ∧ Aside0 (kq ≤ kj2) ∧ Aside0 (Below w.heap.size w w'))
    case atStart => exact ⟨(0), (by first | rfl | (simp; done) | (simp [*]; done)), H', ⟨Nat.le_refl _⟩, ⟨by repeat (first | (with_reducible first | exact HB.out | apply bL | apply bW | apply b1) | exact HB.out)⟩⟩
    case round =>
     clear H'; try clear c1
     try clear p2
     try clear c5
     try clear c10
     try clear p2
     obtain ⟨x23_2, rfl, HA, HK2, HB⟩ := hrel
     cases gk with
     | zero => exact absurd HA.out (by simp [curve_Under.l0])
     | succ k2 =>
      have H := HA.out
      clear HA; simp only [curve_Under.l0] at H; by_cases c11 : x23_2 < (l0.length : Int)
      ·
       rw [if_pos c11] at H; have c11b0 : decide (x23_2 < (l0.length : Int)) = true := decide_eq_true c11
       clear c11; by_cases c12 : 0 ≤ x23_2
       ·
        rw [if_pos c12] at H; have c12b0 : decide (0 ≤ x23_2) = true := decide_eq_true c12
        clear c12; by_cases c13 : x23_2 < (l0.length : Int)
        ·
         rw [if_pos c13] at H; have c13b0 : decide (x23_2 < (l0.length : Int)) = true := decide_eq_true c13
         clear c13; replace H := Option.bind_eq_some_iff.mp H
         obtain ⟨⟨t150, t151⟩, A140, H⟩ := H
         dsimp only at H
         have A14 := Aside0.mk A140
         clear A140; by_cases c15 : ((rd_T37 l0 x23_2).f1) > t150
         ·
          rw [if_pos c15] at H; have c15b0 : decide (t150 < ((rd_T37 l0 x23_2).f1)) = true := decide_eq_true c15
          clear c15; obtain rfl := Option.some.inj H
          have p148 : 0 ≤ (x23_2 : Int) := of_decide_eq_true (by first | (with_reducible assumption) | assumption)
          have q148 : x23_2 < (l0.length : Int) := of_decide_eq_true (by first | (with_reducible assumption) | assumption)
          obtain ⟨ad148, e148, hx148_0, hx148_1⟩ := at_T37 HR0.out x23_2 p148 q148
          cases e148
          replace hx148_0 := (HB.out.cell (wL w _ hx148_0)).trans hx148_0
          replace hx148_1 := (HB.out.cell (wL w _ hx148_1)).trans hx148_1
          replace p148 := eq_true p148
          replace q148 := eq_true q148
          go_wp2_with (first | ((with_reducible refine gate_dst (N := 6) rfl ?_); refine box_event ?hg (N := 6) ?hd (cs := #[.int .i64 0, .int .i64 0]) (t := 37) ?hr ?_; (case hd => rfl); (case hg => rfl); (case hr => first | (go_simp; done) | (go_simp; rfl)); intro gb149 hg w16 hbox hb; have n0_ := Aside0.mk (bP (by repeat (first | (with_reducible first | exact HB.out | apply bL | apply bW | apply b1) | exact HB.out)) hb); have n1_ := Aside0.mk (hbox); have n2_ := Aside0.mk ((by rw [hg]; exact (bZ (by repeat (first | (with_reducible first | exact HB.out | apply bL | apply bW | apply b1) | exact HB.out))) : w.heap.size ≤ gb149)); have n3_ := Aside0.mk ((by rw [hg]; exact (bZ (by repeat (first | (with_reducible first | exact HB.out | apply bL | apply bW | apply b1) | exact HB.out))) : w.heap.size ≤ gb149)); clear HB; have HB := n0_; have BK149 := n1_; have GW149 := n2_; have GE149 := n3_; clear n0_ n1_ n2_ n3_; clear hb hbox hg; have hcz17_0 : w16.cell? ⟨gb149, 0, none⟩ = some (.int .i64 0) := (bC BK149.out 0).trans rfl; have hcz17_1 : w16.cell? ⟨gb149, 1, none⟩ = some (.int .i64 0) := (bC BK149.out 1).trans rfl; have hfz17_0 := bF BK149.out 0; have hfz17_1 := bF BK149.out 1) | ((with_reducible refine gate_callee (f := 25) rfl ?_); refine goesL_ (some 31) rfl rfl Try.func25 (by kernel_rfl) rfl #[.slice A1 l1.length c1, .int .i64 ((rd_T37 l0 x23_2).f0)] rfl (by (try simp only [List.map_toArray, List.map_cons, List.map_nil]); first | done | rfl | (simp only [List.length_drop, List.length_take]; rfl)) ?_; (with_reducible refine (curve_at.calls k2 _ _ l1 ((rd_T37 l0 x23_2).f0) t150 t151 _ ?side1 ?side2 A14.out).mono ?_); (case side1 => exact Kd.C_below HR1.out (by repeat (first | (with_reducible first | exact HB.out | apply bL | apply bW | apply b1 | refine bS ?_ GE149.out) | exact HB.out))); (case side2 => exact HC1.out); rintro e w18 ⟨rfl, hb⟩; refine ⟨_, rfl, ?_⟩; have n0_ := Aside0.mk (bB (g := gb149) (o := .cells #[.int .i64 ((rd_T37 l0 x23_2).f0), .int .i64 ((rd_T37 l0 x23_2).f1)] 37 (0, 0)) (by (with_reducible repeat (first | refine bN ?_ _ | refine bD ?_ | refine bA ?_ _)); refine bU (cs := #[.int .i64 ((rd_T37 l0 x23_2).f0), .int .i64 0]) ?_ 1 _ rfl; (with_reducible repeat (first | refine bN ?_ _ | refine bD ?_ | refine bA ?_ _)); refine bU (cs := #[.int .i64 0, .int .i64 0]) ?_ 0 _ rfl; (with_reducible repeat (first | refine bN ?_ _ | refine bD ?_ | refine bA ?_ _)); exact BK149.out) hb); have n1_ := Aside0.mk (bP (by repeat (first | (with_reducible first | exact HB.out | apply bL | apply bW | apply b1 | refine bS ?_ GE149.out) | exact HB.out)) hb); clear BK149; clear HB; have BK149 := n0_; have HB := n1_; clear n0_ n1_; (try clear hb); (try clear hb2); (try clear hk); (try clear hi); have hcz19_0 : w18.cell? ⟨gb149, 0, none⟩ = some (.int .i64 ((rd_T37 l0 x23_2).f0)) := (bC BK149.out 0).trans rfl; have hcz19_1 : w18.cell? ⟨gb149, 1, none⟩ = some (.int .i64 ((rd_T37 l0 x23_2).f1)) := (bC BK149.out 1).trans rfl; have hfz19_0 := bF BK149.out 0; have hfz19_1 := bF BK149.out 1))
          go_ret
          exact ⟨by first | rfl | (simp [errW_none, errW_some] <;> rfl) | (simp [*, errW_none, errW_some] <;> rfl), by repeat (first | (with_reducible first | exact HB.out | apply bL | apply bW | apply b1 | refine bS ?_ GE149.out) | exact HB.out)⟩
         ·
          rw [if_neg c15] at H; have c15b0 : decide (t150 < ((rd_T37 l0 x23_2).f1)) = false := decide_eq_false c15
          clear c15; have H' := Aside0.mk H
          clear H; have p148 : 0 ≤ (x23_2 : Int) := of_decide_eq_true (by first | (with_reducible assumption) | assumption)
          have q148 : x23_2 < (l0.length : Int) := of_decide_eq_true (by first | (with_reducible assumption) | assumption)
          obtain ⟨ad148, e148, hx148_0, hx148_1⟩ := at_T37 HR0.out x23_2 p148 q148
          cases e148
          replace hx148_0 := (HB.out.cell (wL w _ hx148_0)).trans hx148_0
          replace hx148_1 := (HB.out.cell (wL w _ hx148_1)).trans hx148_1
          replace p148 := eq_true p148
          replace q148 := eq_true q148
          go_wp2_with (first | ((with_reducible refine gate_dst (N := 6) rfl ?_); refine box_event ?hg (N := 6) ?hd (cs := #[.int .i64 0, .int .i64 0]) (t := 37) ?hr ?_; (case hd => rfl); (case hg => rfl); (case hr => first | (go_simp; done) | (go_simp; rfl)); intro gb149 hg w20 hbox hb; have n0_ := Aside0.mk (bP (by repeat (first | (with_reducible first | exact HB.out | apply bL | apply bW | apply b1) | exact HB.out)) hb); have n1_ := Aside0.mk (hbox); have n2_ := Aside0.mk ((by rw [hg]; exact (bZ (by repeat (first | (with_reducible first | exact HB.out | apply bL | apply bW | apply b1) | exact HB.out))) : w.heap.size ≤ gb149)); have n3_ := Aside0.mk ((by rw [hg]; exact (bZ (by repeat (first | (with_reducible first | exact HB.out | apply bL | apply bW | apply b1) | exact HB.out))) : w.heap.size ≤ gb149)); clear HB; have HB := n0_; have BK149 := n1_; have GW149 := n2_; have GE149 := n3_; clear n0_ n1_ n2_ n3_; clear hb hbox hg; have hcz21_0 : w20.cell? ⟨gb149, 0, none⟩ = some (.int .i64 0) := (bC BK149.out 0).trans rfl; have hcz21_1 : w20.cell? ⟨gb149, 1, none⟩ = some (.int .i64 0) := (bC BK149.out 1).trans rfl; have hfz21_0 := bF BK149.out 0; have hfz21_1 := bF BK149.out 1) | ((with_reducible refine gate_callee (f := 25) rfl ?_); refine goesL_ (some 31) rfl rfl Try.func25 (by kernel_rfl) rfl #[.slice A1 l1.length c1, .int .i64 ((rd_T37 l0 x23_2).f0)] rfl (by (try simp only [List.map_toArray, List.map_cons, List.map_nil]); first | done | rfl | (simp only [List.length_drop, List.length_take]; rfl)) ?_; (with_reducible refine (curve_at.calls k2 _ _ l1 ((rd_T37 l0 x23_2).f0) t150 t151 _ ?side1 ?side2 A14.out).mono ?_); (case side1 => exact Kd.C_below HR1.out (by repeat (first | (with_reducible first | exact HB.out | apply bL | apply bW | apply b1 | refine bS ?_ GE149.out) | exact HB.out))); (case side2 => exact HC1.out); rintro e w22 ⟨rfl, hb⟩; refine ⟨_, rfl, ?_⟩; have n0_ := Aside0.mk (bB (g := gb149) (o := .cells #[.int .i64 ((rd_T37 l0 x23_2).f0), .int .i64 ((rd_T37 l0 x23_2).f1)] 37 (0, 0)) (by (with_reducible repeat (first | refine bN ?_ _ | refine bD ?_ | refine bA ?_ _)); refine bU (cs := #[.int .i64 ((rd_T37 l0 x23_2).f0), .int .i64 0]) ?_ 1 _ rfl; (with_reducible repeat (first | refine bN ?_ _ | refine bD ?_ | refine bA ?_ _)); refine bU (cs := #[.int .i64 0, .int .i64 0]) ?_ 0 _ rfl; (with_reducible repeat (first | refine bN ?_ _ | refine bD ?_ | refine bA ?_ _)); exact BK149.out) hb); have n1_ := Aside0.mk (bP (by repeat (first | (with_reducible first | exact HB.out | apply bL | apply bW | apply b1 | refine bS ?_ GE149.out) | exact HB.out)) hb); clear BK149; clear HB; have BK149 := n0_; have HB := n1_; clear n0_ n1_; (try clear hb); (try clear hb2); (try clear hk); (try clear hi); have hcz23_0 : w22.cell? ⟨gb149, 0, none⟩ = some (.int .i64 ((rd_T37 l0 x23_2).f0)) := (bC BK149.out 0).trans rfl; have hcz23_1 : w22.cell? ⟨gb149, 1, none⟩ = some (.int .i64 ((rd_T37 l0 x23_2).f1)) := (bC BK149.out 1).trans rfl; have hfz23_0 := bF BK149.out 0; have hfz23_1 := bF BK149.out 1))
          go_roundg k2
          case measure => have := HJ2.out; have := HK2.out; omega
          case rel => exact ⟨(wrap64 (x23_2 + 1)), (by first | rfl | (simp; done) | (simp [*]; done)), H', ⟨by have := HJ2.out; have := HK2.out; omega⟩, ⟨by repeat (first | (with_reducible first | exact HB.out | apply bL | apply bW | apply b1 | refine bS ?_ GE149.out) | exact HB.out)⟩⟩
        ·
         rw [if_neg c13] at H; exact absurd H (by simp)
       ·
        rw [if_neg c12] at H; exact absurd H (by simp)
      ·
       rw [if_neg c11] at H; have c11b0 : decide (x23_2 < (l0.length : Int)) = false := decide_eq_false c11
       clear c11; have H' := Aside0.mk H
       clear H; go_wp2
       go_loopg [41] k2 (fun kq v41 w' => ∃ (x41_3 : Int), v41 = .int .i64 x41_3 ∧ Aside0 (curve_Under.l1 kq l0 l1 (l1.length : Int) x41_3 = some r) ∧ Aside0 (kq ≤ k2) ∧ Aside0 (Below w.heap.size w w'))
       case atStart => exact ⟨(0), (by first | rfl | (simp; done) | (simp [*]; done)), H', ⟨Nat.le_refl _⟩, ⟨by repeat (first | (with_reducible first | exact HB.out | apply bL | apply bW | apply b1) | exact HB.out)⟩⟩
       case round =>
        clear H'; try clear c1
        try clear p1
        try clear q1
        try clear hx1
        try clear c2
        try clear p2
        try clear c5
        try clear p6
        try clear c10
        try clear c11
        try clear c11b0
        try clear c12
        try clear c12b0
        try clear c13
        try clear c13b0
        try clear p14
        try clear q14
        try clear hx14
        try clear c15
        try clear c15b0
        try clear c17
        try clear hcz17_0
        try clear hcz17_1
        try clear hcz19_0
        try clear hcz19_1
        try clear hcz21_0
        try clear hcz21_1
        try clear hcz23_0
        try clear hcz23_1
        try clear hfz17_0
        try clear hfz17_1
        try clear hfz19_0
        try clear hfz19_1
        try clear hfz21_0
        try clear hfz21_1
        try clear hfz23_0
        try clear hfz23_1
        try clear hx148_0
        try clear hx148_1
        try clear p148
        try clear p2
        try clear q148
        obtain ⟨x41_3, rfl, HA, HK3, HB⟩ := hrel
        cases gk with
        | zero => exact absurd HA.out (by simp [curve_Under.l1])
        | succ k3 =>
         have H := HA.out
         clear HA; simp only [curve_Under.l1] at H; by_cases c24 : x41_3 < (l1.length : Int)
         ·
          rw [if_pos c24] at H; have c24b0 : decide (x41_3 < (l1.length : Int)) = true := decide_eq_true c24
          clear c24; by_cases c25 : 0 ≤ x41_3
          ·
           rw [if_pos c25] at H; have c25b0 : decide (0 ≤ x41_3) = true := decide_eq_true c25
           clear c25; by_cases c26 : x41_3 < (l1.length : Int)
           ·
            rw [if_pos c26] at H; have c26b0 : decide (x41_3 < (l1.length : Int)) = true := decide_eq_true c26
            clear c26; replace H := Option.bind_eq_some_iff.mp H
            obtain ⟨⟨t154, t155⟩, A270, H⟩ := H
            dsimp only at H
            have A27 := Aside0.mk A270
            clear A270; by_cases c28 : t155 > ((rd_T37 l1 x41_3).f1)
            ·
             rw [if_pos c28] at H; have c28b0 : decide (((rd_T37 l1 x41_3).f1) < t155) = true := decide_eq_true c28
             clear c28; obtain rfl := Option.some.inj H
             have p152 : 0 ≤ (x41_3 : Int) := of_decide_eq_true (by first | (with_reducible assumption) | assumption)
             have q152 : x41_3 < (l1.length : Int) := of_decide_eq_true (by first | (with_reducible assumption) | assumption)
             obtain ⟨ad152, e152, hx152_0, hx152_1⟩ := at_T37 HR1.out x41_3 p152 q152
             cases e152
             replace hx152_0 := (HB.out.cell (wL w _ hx152_0)).trans hx152_0
             replace hx152_1 := (HB.out.cell (wL w _ hx152_1)).trans hx152_1
             replace p152 := eq_true p152
             replace q152 := eq_true q152
             go_wp2_with (first | ((with_reducible refine gate_dst (N := 10) rfl ?_); refine box_event ?hg (N := 10) ?hd (cs := #[.int .i64 0, .int .i64 0]) (t := 37) ?hr ?_; (case hd => rfl); (case hg => rfl); (case hr => first | (go_simp; done) | (go_simp; rfl)); intro gb153 hg w29 hbox hb; have n0_ := Aside0.mk (bP (by repeat (first | (with_reducible first | exact HB.out | apply bL | apply bW | apply b1) | exact HB.out)) hb); have n1_ := Aside0.mk (hbox); have n2_ := Aside0.mk ((by rw [hg]; exact (bZ (by repeat (first | (with_reducible first | exact HB.out | apply bL | apply bW | apply b1) | exact HB.out))) : w.heap.size ≤ gb153)); have n3_ := Aside0.mk ((by rw [hg]; exact (bZ (by repeat (first | (with_reducible first | exact HB.out | apply bL | apply bW | apply b1) | exact HB.out))) : w.heap.size ≤ gb153)); clear HB; have HB := n0_; have BK153 := n1_; have GW153 := n2_; have GE153 := n3_; clear n0_ n1_ n2_ n3_; clear hb hbox hg; have hcz30_0 : w29.cell? ⟨gb153, 0, none⟩ = some (.int .i64 0) := (bC BK153.out 0).trans rfl; have hcz30_1 : w29.cell? ⟨gb153, 1, none⟩ = some (.int .i64 0) := (bC BK153.out 1).trans rfl; have hfz30_0 := bF BK153.out 0; have hfz30_1 := bF BK153.out 1) | ((with_reducible refine gate_callee (f := 25) rfl ?_); refine goesL_ (some 49) rfl rfl Try.func25 (by kernel_rfl) rfl #[.slice A0 l0.length c0, .int .i64 ((rd_T37 l1 x41_3).f0)] rfl (by (try simp only [List.map_toArray, List.map_cons, List.map_nil]); first | done | rfl | (simp only [List.length_drop, List.length_take]; rfl)) ?_; (with_reducible refine (curve_at.calls k3 _ _ l0 ((rd_T37 l1 x41_3).f0) t154 t155 _ ?side1 ?side2 A27.out).mono ?_); (case side1 => exact Kd.C_below HR0.out (by repeat (first | (with_reducible first | exact HB.out | apply bL | apply bW | apply b1 | refine bS ?_ GE153.out) | exact HB.out))); (case side2 => exact HC0.out); rintro e w31 ⟨rfl, hb⟩; refine ⟨_, rfl, ?_⟩; have n0_ := Aside0.mk (bB (g := gb153) (o := .cells #[.int .i64 ((rd_T37 l1 x41_3).f0), .int .i64 ((rd_T37 l1 x41_3).f1)] 37 (0, 0)) (by (with_reducible repeat (first | refine bN ?_ _ | refine bD ?_ | refine bA ?_ _)); refine bU (cs := #[.int .i64 ((rd_T37 l1 x41_3).f0), .int .i64 0]) ?_ 1 _ rfl; (with_reducible repeat (first | refine bN ?_ _ | refine bD ?_ | refine bA ?_ _)); refine bU (cs := #[.int .i64 0, .int .i64 0]) ?_ 0 _ rfl; (with_reducible repeat (first | refine bN ?_ _ | refine bD ?_ | refine bA ?_ _)); exact BK153.out) hb); have n1_ := Aside0.mk (bP (by repeat (first | (with_reducible first | exact HB.out | apply bL | apply bW | apply b1 | refine bS ?_ GE153.out) | exact HB.out)) hb); clear BK153; clear HB; have BK153 := n0_; have HB := n1_; clear n0_ n1_; (try clear hb); (try clear hb2); (try clear hk); (try clear hi); have hcz32_0 : w31.cell? ⟨gb153, 0, none⟩ = some (.int .i64 ((rd_T37 l1 x41_3).f0)) := (bC BK153.out 0).trans rfl; have hcz32_1 : w31.cell? ⟨gb153, 1, none⟩ = some (.int .i64 ((rd_T37 l1 x41_3).f1)) := (bC BK153.out 1).trans rfl; have hfz32_0 := bF BK153.out 0; have hfz32_1 := bF BK153.out 1))
             go_ret
             exact ⟨by first | rfl | (simp [errW_none, errW_some] <;> rfl) | (simp [*, errW_none, errW_some] <;> rfl), by repeat (first | (with_reducible first | exact HB.out | apply bL | apply bW | apply b1 | refine bS ?_ GE153.out) | exact HB.out)⟩
            ·
             rw [if_neg c28] at H; have c28b0 : decide (((rd_T37 l1 x41_3).f1) < t155) = false := decide_eq_false c28
             clear c28; have H' := Aside0.mk H
             clear H; have p152 : 0 ≤ (x41_3 : Int) := of_decide_eq_true (by first | (with_reducible assumption) | assumption)
             have q152 : x41_3 < (l1.length : Int) := of_decide_eq_true (by first | (with_reducible assumption) | assumption)
             obtain ⟨ad152, e152, hx152_0, hx152_1⟩ := at_T37 HR1.out x41_3 p152 q152
             cases e152
             replace hx152_0 := (HB.out.cell (wL w _ hx152_0)).trans hx152_0
             replace hx152_1 := (HB.out.cell (wL w _ hx152_1)).trans hx152_1
             replace p152 := eq_true p152
             replace q152 := eq_true q152
             go_wp2_with (first | ((with_reducible refine gate_dst (N := 10) rfl ?_); refine box_event ?hg (N := 10) ?hd (cs := #[.int .i64 0, .int .i64 0]) (t := 37) ?hr ?_; (case hd => rfl); (case hg => rfl); (case hr => first | (go_simp; done) | (go_simp; rfl)); intro gb153 hg w33 hbox hb; have n0_ := Aside0.mk (bP (by repeat (first | (with_reducible first | exact HB.out | apply bL | apply bW | apply b1) | exact HB.out)) hb); have n1_ := Aside0.mk (hbox); have n2_ := Aside0.mk ((by rw [hg]; exact (bZ (by repeat (first | (with_reducible first | exact HB.out | apply bL | apply bW | apply b1) | exact HB.out))) : w.heap.size ≤ gb153)); have n3_ := Aside0.mk ((by rw [hg]; exact (bZ (by repeat (first | (with_reducible first | exact HB.out | apply bL | apply bW | apply b1) | exact HB.out))) : w.heap.size ≤ gb153)); clear HB; have HB := n0_; have BK153 := n1_; have GW153 := n2_; have GE153 := n3_; clear n0_ n1_ n2_ n3_; clear hb hbox hg; have hcz34_0 : w33.cell? ⟨gb153, 0, none⟩ = some (.int .i64 0) := (bC BK153.out 0).trans rfl; have hcz34_1 : w33.cell? ⟨gb153, 1, none⟩ = some (.int .i64 0) := (bC BK153.out 1).trans rfl; have hfz34_0 := bF BK153.out 0; have hfz34_1 := bF BK153.out 1) | ((with_reducible refine gate_callee (f := 25) rfl ?_); refine goesL_ (some 49) rfl rfl Try.func25 (by kernel_rfl) rfl #[.slice A0 l0.length c0, .int .i64 ((rd_T37 l1 x41_3).f0)] rfl (by (try simp only [List.map_toArray, List.map_cons, List.map_nil]); first | done | rfl | (simp only [List.length_drop, List.length_take]; rfl)) ?_; (with_reducible refine (curve_at.calls k3 _ _ l0 ((rd_T37 l1 x41_3).f0) t154 t155 _ ?side1 ?side2 A27.out).mono ?_); (case side1 => exact Kd.C_below HR0.out (by repeat (first | (with_reducible first | exact HB.out | apply bL | apply bW | apply b1 | refine bS ?_ GE153.out) | exact HB.out))); (case side2 => exact HC0.out); rintro e w35 ⟨rfl, hb⟩; refine ⟨_, rfl, ?_⟩; have n0_ := Aside0.mk (bB (g := gb153) (o := .cells #[.int .i64 ((rd_T37 l1 x41_3).f0), .int .i64 ((rd_T37 l1 x41_3).f1)] 37 (0, 0)) (by (with_reducible repeat (first | refine bN ?_ _ | refine bD ?_ | refine bA ?_ _)); refine bU (cs := #[.int .i64 ((rd_T37 l1 x41_3).f0), .int .i64 0]) ?_ 1 _ rfl; (with_reducible repeat (first | refine bN ?_ _ | refine bD ?_ | refine bA ?_ _)); refine bU (cs := #[.int .i64 0, .int .i64 0]) ?_ 0 _ rfl; (with_reducible repeat (first | refine bN ?_ _ | refine bD ?_ | refine bA ?_ _)); exact BK153.out) hb); have n1_ := Aside0.mk (bP (by repeat (first | (with_reducible first | exact HB.out | apply bL | apply bW | apply b1 | refine bS ?_ GE153.out) | exact HB.out)) hb); clear BK153; clear HB; have BK153 := n0_; have HB := n1_; clear n0_ n1_; (try clear hb); (try clear hb2); (try clear hk); (try clear hi); have hcz36_0 : w35.cell? ⟨gb153, 0, none⟩ = some (.int .i64 ((rd_T37 l1 x41_3).f0)) := (bC BK153.out 0).trans rfl; have hcz36_1 : w35.cell? ⟨gb153, 1, none⟩ = some (.int .i64 ((rd_T37 l1 x41_3).f1)) := (bC BK153.out 1).trans rfl; have hfz36_0 := bF BK153.out 0; have hfz36_1 := bF BK153.out 1))
             go_roundg k3
             case measure => have := HJ2.out; have := HK2.out; have := HK3.out; omega
             case rel => exact ⟨(wrap64 (x41_3 + 1)), (by first | rfl | (simp; done) | (simp [*]; done)), H', ⟨by have := HJ2.out; have := HK2.out; have := HK3.out; omega⟩, ⟨by repeat (first | (with_reducible first | exact HB.out | apply bL | apply bW | apply b1 | refine bS ?_ GE153.out) | exact HB.out)⟩⟩
           ·
            rw [if_neg c26] at H; exact absurd H (by simp)
          ·
           rw [if_neg c25] at H; exact absurd H (by simp)
         ·
          rw [if_neg c24] at H; have c24b0 : decide (x41_3 < (l1.length : Int)) = false := decide_eq_false c24
          clear c24; obtain rfl := Option.some.inj H
          go_wp2
          go_ret
          exact ⟨by first | rfl | (simp [errW_none, errW_some] <;> rfl) | (simp [*, errW_none, errW_some] <;> rfl), by repeat (first | (with_reducible first | exact HB.out | apply bL | apply bW | apply b1) | exact HB.out)⟩
end Go.Proofs.Ytmkekbehipaopaa.Fn
