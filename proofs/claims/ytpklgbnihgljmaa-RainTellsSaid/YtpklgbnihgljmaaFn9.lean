-- written by this session's program myprint.py out of the translation; Lean checks it
import Derived.Test.YtpklgbnihgljmaaFn0
namespace Go.Proofs.Ytpklgbnihgljmaa.Fn
open Go.RowKit Go.Proofs.YtpklgbnihgljmaaW.PrintWords Go.Proofs.YtpklgbnihgljmaaW.PrintLast Go.Proofs.YtpklgbnihgljmaaW.PrintMore
open Bool renaming true → T, false → F
open List renaming setIfInBounds_toArray → lA, set_cons_zero → lZ, set_cons_succ → lS
open Go.Proofs.YtpklgbnihgljmaaW.PrintWords renaming blk_drewN → bN, blk_drew → bD, blk_alloc → bA, below_set → bS, blk_cell → bC, blk_below → bB, blk_frozen → bF, pw_below_drewN → bW, below_drew1 → b1, below_alloc → bL, below_step → bP, below_size → bZ, blk_far → bR, blk_put → bU, blk_lt → bT
attribute [local go_sem] max2_int min2_int max_two min_two max_three min_three max_four min_four
set_option linter.unusedVariables false
set_option linter.unusedSimpArgs false
mutual
def bourneref01_Scale.j0 : Nat → Int → Int → Int → Bool → Option (Int × Int × Bool)
 | 0, _, _, _, _ => none
 | k + 1, x0, x1, x2, x33 => if x33 = true then (some (0, 0, false)) else (bourneref01_Scale.l0 k x0 x1 x2 0 0 1125899906842624)
def bourneref01_Scale.l0 : Nat → Int → Int → Int → Int → Int → Int → Option (Int × Int × Bool)
 | 0, _, _, _, _, _, _ => none
 | k + 1, x0, x1, x2, x9, x10, x11 => if x11 > 0 then (if (Go.bits .and .i64 x1 x11) = 0 then (bourneref01_Scale.j2 k x0 x1 x2 (wrap64 (2 * x9)) (wrap64 (2 * x10)) x11) else (bourneref01_Scale.j2 k x0 x1 x2 (wrap64 (2 * x9)) (wrap64 ((wrap64 (2 * x10)) + x0)) x11)) else (some (x9, x10, true))
def bourneref01_Scale.j2 : Nat → Int → Int → Int → Int → Int → Int → Option (Int × Int × Bool)
 | 0, _, _, _, _, _, _ => none
 | k + 1, x0, x1, x2, x9, x10, x11 => if x2 = 0 then (none) else (if (wrap64 (x9 + (wrap64 (Int.tdiv x10 x2)))) > 1125899906842624 then (some (0, 0, false)) else (bourneref01_Scale.l0 k x0 x1 x2 (wrap64 (x9 + (wrap64 (Int.tdiv x10 x2)))) (Int.tmod x10 x2) (wrap64 (Int.tdiv x11 2))))
end
def bourneref01_Scale.f (k : Nat) (a0 : Int) (a1 : Int) (a2 : Int) : Option (Int × Int × Bool) := if a0 < 0 then (bourneref01_Scale.j0 k a0 a1 a2 true) else (if a0 > 1125899906842624 then (bourneref01_Scale.j0 k a0 a1 a2 true) else (if a1 < 0 then (bourneref01_Scale.j0 k a0 a1 a2 true) else (if a1 > 1125899906842624 then (bourneref01_Scale.j0 k a0 a1 a2 true) else (if a2 < 1 then (bourneref01_Scale.j0 k a0 a1 a2 true) else (bourneref01_Scale.j0 k a0 a1 a2 (decide (a2 > 1125899906842624)))))))
theorem bourneref01_Scale.mono_l : ∀ k, (∀ y0 y1 y2 y3, LeO (bourneref01_Scale.j0 k y0 y1 y2 y3) (bourneref01_Scale.j0 (k + 1) y0 y1 y2 y3)) ∧ (∀ y0 y1 y2 y3 y4 y5, LeO (bourneref01_Scale.l0 k y0 y1 y2 y3 y4 y5) (bourneref01_Scale.l0 (k + 1) y0 y1 y2 y3 y4 y5)) ∧ (∀ y0 y1 y2 y3 y4 y5, LeO (bourneref01_Scale.j2 k y0 y1 y2 y3 y4 y5) (bourneref01_Scale.j2 (k + 1) y0 y1 y2 y3 y4 y5))
 | 0 => ⟨fun _ _ _ _ r h => by simp [bourneref01_Scale.j0] at h, fun _ _ _ _ _ _ r h => by simp [bourneref01_Scale.l0] at h, fun _ _ _ _ _ _ r h => by simp [bourneref01_Scale.j2] at h⟩
 | k + 1 => by
  obtain ⟨ih0, ih1, ih2⟩ := bourneref01_Scale.mono_l k
  refine ⟨?_, ?_, ?_⟩
  ·
   intro y0 y1 y2 y3; unfold bourneref01_Scale.j0
   repeat' first
   | (with_reducible exact ih0 _ _ _ _)
   | (with_reducible exact ih1 _ _ _ _ _ _)
   | (with_reducible exact ih2 _ _ _ _ _ _)
   | (with_reducible exact LeO.refl _)
   | (with_reducible exact LeO.none _)
   | (with_reducible refine LeO.ite ?_ ?_)
   | (with_reducible refine LeO.bind ?_ (fun _ => ?_))
   | exact ih0 _ _ _ _
   | exact ih1 _ _ _ _ _ _
   | exact ih2 _ _ _ _ _ _
   | exact LeO.none _
   | refine LeO.ite ?_ ?_
   | refine LeO.bind ?_ (fun _ => ?_)
  ·
   intro y0 y1 y2 y3 y4 y5; unfold bourneref01_Scale.l0
   repeat' first
   | (with_reducible exact ih0 _ _ _ _)
   | (with_reducible exact ih1 _ _ _ _ _ _)
   | (with_reducible exact ih2 _ _ _ _ _ _)
   | (with_reducible exact LeO.refl _)
   | (with_reducible exact LeO.none _)
   | (with_reducible refine LeO.ite ?_ ?_)
   | (with_reducible refine LeO.bind ?_ (fun _ => ?_))
   | exact ih0 _ _ _ _
   | exact ih1 _ _ _ _ _ _
   | exact ih2 _ _ _ _ _ _
   | exact LeO.none _
   | refine LeO.ite ?_ ?_
   | refine LeO.bind ?_ (fun _ => ?_)
  ·
   intro y0 y1 y2 y3 y4 y5; unfold bourneref01_Scale.j2
   repeat' first
   | (with_reducible exact ih0 _ _ _ _)
   | (with_reducible exact ih1 _ _ _ _ _ _)
   | (with_reducible exact ih2 _ _ _ _ _ _)
   | (with_reducible exact LeO.refl _)
   | (with_reducible exact LeO.none _)
   | (with_reducible refine LeO.ite ?_ ?_)
   | (with_reducible refine LeO.bind ?_ (fun _ => ?_))
   | exact ih0 _ _ _ _
   | exact ih1 _ _ _ _ _ _
   | exact ih2 _ _ _ _ _ _
   | exact LeO.none _
   | refine LeO.ite ?_ ?_
   | refine LeO.bind ?_ (fun _ => ?_)
theorem bourneref01_Scale.mono : ∀ a0 a1 a2 k, LeO (bourneref01_Scale.f k a0 a1 a2) (bourneref01_Scale.f (k + 1) a0 a1 a2) := by
 intro a0 a1 a2 k; obtain ⟨ih0, ih1, ih2⟩ := bourneref01_Scale.mono_l k
 unfold bourneref01_Scale.f
 repeat' first
   | (with_reducible exact ih0 _ _ _ _)
   | (with_reducible exact ih1 _ _ _ _ _ _)
   | (with_reducible exact ih2 _ _ _ _ _ _)
   | (with_reducible exact LeO.refl _)
   | (with_reducible exact LeO.none _)
   | (with_reducible refine LeO.ite ?_ ?_)
   | (with_reducible refine LeO.bind ?_ (fun _ => ?_))
   | exact ih0 _ _ _ _
   | exact ih1 _ _ _ _ _ _
   | exact ih2 _ _ _ _ _ _
   | exact LeO.none _
   | refine LeO.ite ?_ ?_
   | refine LeO.bind ?_ (fun _ => ?_)
set_option maxHeartbeats 8000000 in
set_option maxRecDepth 100000 in
theorem bourneref01_Scale.calls (k : Nat) (a0 : Int) (a1 : Int) (a2 : Int) (r1 : Int) (r2 : Int) (r3 : Bool) (w : World) (h : bourneref01_Scale.f k a0 a1 a2 = some (r1, r2, r3)) :
  Calls Try.prog 44 #[.int .i64 a0, .int .i64 a1, .int .i64 a2] w fun e w' => e = .returned (.tuple #[.int .i64 r1, .int .i64 r2, .bool r3]) ∧ Drawn0 w w' := by
 have H : (if a0 < 0 then (bourneref01_Scale.j0 k a0 a1 a2 true) else (if a0 > 1125899906842624 then (bourneref01_Scale.j0 k a0 a1 a2 true) else (if a1 < 0 then (bourneref01_Scale.j0 k a0 a1 a2 true) else (if a1 > 1125899906842624 then (bourneref01_Scale.j0 k a0 a1 a2 true) else (if a2 < 1 then (bourneref01_Scale.j0 k a0 a1 a2 true) else (bourneref01_Scale.j0 k a0 a1 a2 (decide (a2 > 1125899906842624)))))))) = some (r1, r2, r3) := h
 clear h; have HC4 := Aside0.mk H
 clear H; go_enter Try.func44, Try.ntmps44
 go_upto_region 1 with (fail)
 go_cut [33] (fun v33 wc => ∃ (kq : Nat) (x33_3 : Bool), v33 = .bool x33_3 ∧ Aside0 (bourneref01_Scale.j0 kq a0 a1 a2 x33_3 = some (r1, r2, r3)) ∧ Aside0 (kq ≤ k) ∧ Drawn0 w wc)
 case first =>
  have H := HC4.out
  clear HC4; by_cases c5 : a0 < 0
  ·
   rw [if_pos c5] at H; have c5b0 : decide (a0 < 0) = true := decide_eq_true c5
   clear c5; (first | rw [c5b0] | (simp only [i64_w, i32_w]; rw [c5b0]) | skip)
   have H' := Aside0.mk H
   clear H; go_wp2
   go_meet
   case rel => exact ⟨_, (true), (by first | rfl | (simp; done) | (simp [*]; done)), H', ⟨by first | omega | exact Nat.le_refl _⟩, by repeat (first | exact Drawn0.refl _ | apply Drawn0.step)⟩
  ·
   rw [if_neg c5] at H; have c5b0 : decide (a0 < 0) = false := decide_eq_false c5
   clear c5; (first | rw [c5b0] | (simp only [i64_w, i32_w]; rw [c5b0]) | skip)
   by_cases c6 : a0 > 1125899906842624
   ·
    rw [if_pos c6] at H; have c6b0 : decide (1125899906842624 < a0) = true := decide_eq_true c6
    clear c6; have H' := Aside0.mk H
    clear H; go_wp2
    go_meet
    case rel => exact ⟨_, (true), (by first | rfl | (simp; done) | (simp [*]; done)), H', ⟨by first | omega | exact Nat.le_refl _⟩, by repeat (first | exact Drawn0.refl _ | apply Drawn0.step)⟩
   ·
    rw [if_neg c6] at H; have c6b0 : decide (1125899906842624 < a0) = false := decide_eq_false c6
    clear c6; by_cases c7 : a1 < 0
    ·
     rw [if_pos c7] at H; have c7b0 : decide (a1 < 0) = true := decide_eq_true c7
     clear c7; have H' := Aside0.mk H
     clear H; go_wp2
     go_meet
     case rel => exact ⟨_, (true), (by first | rfl | (simp; done) | (simp [*]; done)), H', ⟨by first | omega | exact Nat.le_refl _⟩, by repeat (first | exact Drawn0.refl _ | apply Drawn0.step)⟩
    ·
     rw [if_neg c7] at H; have c7b0 : decide (a1 < 0) = false := decide_eq_false c7
     clear c7; by_cases c8 : a1 > 1125899906842624
     ·
      rw [if_pos c8] at H; have c8b0 : decide (1125899906842624 < a1) = true := decide_eq_true c8
      clear c8; have H' := Aside0.mk H
      clear H; go_wp2
      go_meet
      case rel => exact ⟨_, (true), (by first | rfl | (simp; done) | (simp [*]; done)), H', ⟨by first | omega | exact Nat.le_refl _⟩, by repeat (first | exact Drawn0.refl _ | apply Drawn0.step)⟩
     ·
      rw [if_neg c8] at H; have c8b0 : decide (1125899906842624 < a1) = false := decide_eq_false c8
      clear c8; by_cases c9 : a2 < 1
      ·
       rw [if_pos c9] at H; have c9b0 : decide (a2 < 1) = true := decide_eq_true c9
       clear c9; have H' := Aside0.mk H
       clear H; go_wp2
       go_meet
       case rel => exact ⟨_, (true), (by first | rfl | (simp; done) | (simp [*]; done)), H', ⟨by first | omega | exact Nat.le_refl _⟩, by repeat (first | exact Drawn0.refl _ | apply Drawn0.step)⟩
      ·
       rw [if_neg c9] at H; have c9b0 : decide (a2 < 1) = false := decide_eq_false c9
       clear c9; have H' := Aside0.mk H
       clear H; go_wp2
       go_meet
       case rel => exact ⟨_, (decide (a2 > 1125899906842624)), (by first | rfl | (simp; done) | (simp [*]; done)), H', ⟨by first | omega | exact Nat.le_refl _⟩, by repeat (first | exact Drawn0.refl _ | apply Drawn0.step)⟩
 case rest =>
  clear HC4; try clear p2
  try clear c4
  try clear c5
  try clear c5b0
  try clear c6
  try clear c6b0
  try clear c7
  try clear c7b0
  try clear c8
  try clear c8b0
  try clear c9
  try clear c9b0
  obtain ⟨kq, x33_3, rfl, HA, HJ3, ⟨mc3, rfl⟩⟩ := hcut
  cases kq with
  | zero => exact absurd HA.out (by simp [bourneref01_Scale.j0])
  | succ kj3 =>
   have H := HA.out
   clear HA; simp only [bourneref01_Scale.j0] at H; by_cases c10 : x33_3 = true
   ·
    subst c10; have H1 : (some (0, 0, false)) = some (r1, r2, r3) := by rw [if_pos rfl] at H; exact H
    clear H; have H := H1
    clear H1; simp only [Option.some.injEq, Prod.mk.injEq] at H; obtain ⟨rfl, rfl, rfl⟩ := H
    go_wp2
    go_ret3
    exact ⟨by first | rfl | (simp; done) | (simp [*]; done), by repeat (first | exact Drawn0.refl _ | apply Drawn0.step)⟩
   ·
    replace c10 := Bool.eq_false_iff.mpr c10
    subst c10; have H1 : (bourneref01_Scale.l0 kj3 a0 a1 a2 0 0 1125899906842624) = some (r1, r2, r3) := by rw [if_neg (show ¬ (false = true) by decide)] at H; exact H
    clear H; have H := H1
    clear H1; have H' := Aside0.mk H
    clear H; go_wp2
    go_loopg [9, 10, 11] kj3 (fun kq v9 v10 v11 w' => ∃ (x9_2 : Int) (x10_2 : Int) (x11_2 : Int), v9 = .int .i64 x9_2 ∧ v10 = .int .i64 x10_2 ∧ v11 = .int .i64 x11_2 ∧ Aside0 (bourneref01_Scale.l0 kq a0 a1 a2 x9_2 x10_2 x11_2 = some (r1, r2, r3)) ∧ Aside0 (kq ≤ kj3) ∧ Drawn0 w w')
    case atStart => exact ⟨(0), (0), (1125899906842624), (by first | rfl | (simp; done) | (simp [*]; done)), (by first | rfl | (simp; done) | (simp [*]; done)), (by first | rfl | (simp; done) | (simp [*]; done)), H', ⟨Nat.le_refl _⟩, by repeat (first | exact Drawn0.refl _ | apply Drawn0.step)⟩
    case round =>
     clear H'; try clear c1
     try clear p2
     try clear c3
     try clear c4
     try clear c5
     try clear c5b0
     try clear c6
     try clear c6b0
     try clear c7
     try clear c7b0
     try clear c8
     try clear c8b0
     try clear c9
     try clear c9b0
     try clear c10
     try clear p2
     obtain ⟨x9_2, x10_2, x11_2, rfl, rfl, rfl, HA, HK2, ⟨m2, rfl⟩⟩ := hrel
     cases gk with
     | zero => exact absurd HA.out (by simp [bourneref01_Scale.l0])
     | succ k2 =>
      have H := HA.out
      clear HA; simp only [bourneref01_Scale.l0] at H; by_cases c11 : x11_2 > 0
      ·
       rw [if_pos c11] at H; have c11b0 : decide (0 < x11_2) = true := decide_eq_true c11
       clear c11; have HC12 := Aside0.mk H
       clear H; go_upto_if 45 with (fail)
       go_cut [10] (fun v10 wc => ∃ (kq : Nat) (x10_11 : Int), v10 = .int .i64 x10_11 ∧ Aside0 (bourneref01_Scale.j2 kq a0 a1 a2 (wrap64 (2 * x9_2)) x10_11 x11_2 = some (r1, r2, r3)) ∧ Aside0 (kq ≤ k2) ∧ Drawn0 w wc)
       case first =>
        have H := HC12.out
        clear HC12; by_cases c13 : (Go.bits .and .i64 a1 x11_2) = 0
        ·
         rw [if_pos c13] at H; have c13b0 : ((Go.bits .and .i64 a1 x11_2) == 0) = true := beq_iff_eq.mpr c13
         have c13b1 : ((Go.bits .and .i64 a1 x11_2) != 0) = false := bne_eq_false_iff_eq.mpr c13
         clear c13; (first | rw [c13b0] | (simp only [i64_w, i32_w]; rw [c13b0]) | skip)
         have H' := Aside0.mk H
         clear H; go_wp2
         go_meet
         case rel => exact ⟨_, (wrap64 (2 * x10_2)), (by first | rfl | (simp; done) | (simp [*]; done)), H', ⟨by have := HJ3.out; have := HK2.out; first | omega | exact Nat.le_refl _⟩, by repeat (first | exact Drawn0.refl _ | apply Drawn0.step)⟩
        ·
         rw [if_neg c13] at H; have c13b0 : ((Go.bits .and .i64 a1 x11_2) == 0) = false := beq_eq_false_iff_ne.mpr c13
         have c13b1 : ((Go.bits .and .i64 a1 x11_2) != 0) = true := bne_iff_ne.mpr c13
         (first | rw [c13b0] | (simp only [i64_w, i32_w]; rw [c13b0]) | skip)
         have H' := Aside0.mk H
         clear H; go_wp2
         go_meet
         case rel => exact ⟨_, (wrap64 ((wrap64 (2 * x10_2)) + a0)), (by first | rfl | (simp; done) | (simp [*]; done)), H', ⟨by have := HJ3.out; have := HK2.out; first | omega | exact Nat.le_refl _⟩, by repeat (first | exact Drawn0.refl _ | apply Drawn0.step)⟩
       case rest =>
        clear HC12; try clear c1
        try clear p2
        try clear c3
        try clear c4
        try clear c5
        try clear c5b0
        try clear c6
        try clear c6b0
        try clear p6
        try clear c7
        try clear c7b0
        try clear c8
        try clear c8b0
        try clear c9
        try clear c9b0
        try clear c10
        try clear c11
        try clear c11b0
        try clear c13
        try clear c13b0
        try clear c13b1
        try clear p2
        obtain ⟨kq, x10_11, rfl, HA, HJ11, ⟨mc11, rfl⟩⟩ := hcut
        cases kq with
        | zero => exact absurd HA.out (by simp [bourneref01_Scale.j2])
        | succ kj11 =>
         have H := HA.out
         clear HA; simp only [bourneref01_Scale.j2] at H; by_cases c14 : a2 = 0
         ·
          rw [if_pos c14] at H; exact absurd H (by simp)
         ·
          rw [if_neg c14] at H; have c14b0 : (a2 == 0) = false := beq_eq_false_iff_ne.mpr c14
          have c14b1 : (a2 != 0) = true := bne_iff_ne.mpr c14
          by_cases c15 : (wrap64 ((wrap64 (2 * x9_2)) + (wrap64 (Int.tdiv x10_11 a2)))) > 1125899906842624
          ·
           rw [if_pos c15] at H; have c15b0 : decide (1125899906842624 < (wrap64 ((wrap64 (2 * x9_2)) + (wrap64 (Int.tdiv x10_11 a2))))) = true := decide_eq_true c15
           clear c15; simp only [Option.some.injEq, Prod.mk.injEq] at H; obtain ⟨rfl, rfl, rfl⟩ := H
           go_wp2
           go_ret3
           exact ⟨by first | rfl | (simp; done) | (simp [*]; done), by repeat (first | exact Drawn0.refl _ | apply Drawn0.step)⟩
          ·
           rw [if_neg c15] at H; have c15b0 : decide (1125899906842624 < (wrap64 ((wrap64 (2 * x9_2)) + (wrap64 (Int.tdiv x10_11 a2))))) = false := decide_eq_false c15
           clear c15; have H' := Aside0.mk H
           clear H; go_wp2
           go_roundg kj11
           case measure => have := HJ3.out; have := HK2.out; have := HJ11.out; omega
           case rel => exact ⟨(wrap64 ((wrap64 (2 * x9_2)) + (wrap64 (Int.tdiv x10_11 a2)))), (Int.tmod x10_11 a2), (wrap64 (Int.tdiv x11_2 2)), (by first | rfl | (simp; done) | (simp [*]; done)), (by first | rfl | (simp; done) | (simp [*]; done)), (by first | rfl | (simp; done) | (simp [*]; done)), H', ⟨by have := HJ3.out; have := HK2.out; have := HJ11.out; omega⟩, by repeat (first | exact Drawn0.refl _ | apply Drawn0.step)⟩
      ·
       rw [if_neg c11] at H; have c11b0 : decide (0 < x11_2) = false := decide_eq_false c11
       clear c11; simp only [Option.some.injEq, Prod.mk.injEq] at H; obtain ⟨rfl, rfl, rfl⟩ := H
       go_wp2
       go_ret3
       exact ⟨by first | rfl | (simp; done) | (simp [*]; done), by repeat (first | exact Drawn0.refl _ | apply Drawn0.step)⟩
def bourneref26_Radar.f (k : Nat) (a0 : Int) (a1 : Int) : Option (Int × Int) := (bourneref01_Scale.f k (mx 0 (mn a0 1125899906842624)) (1000 - (mx 0 (mn a1 1000))) 1000).bind fun bt209 => ((bourneref01_Scale.f k (mx 0 (mn a0 1125899906842624)) (1000 + (mx 0 (mn a1 1000))) 1000).bind fun bt212 => (if bt212.2.2 = true then (if bt212.2.1 > 0 then (some (bt209.1, mn (wrap64 (bt212.1 + 1)) 1125899906842624)) else (some (bt209.1, mn bt212.1 1125899906842624))) else (some (bt209.1, 1125899906842624))))
theorem bourneref26_Radar.mono : ∀ a0 a1 k, LeO (bourneref26_Radar.f k a0 a1) (bourneref26_Radar.f (k + 1) a0 a1) := by
 intro a0 a1 k; unfold bourneref26_Radar.f
 repeat' first
   | (with_reducible exact bourneref01_Scale.mono _ _ _ _)
   | (with_reducible exact LeO.refl _)
   | (with_reducible exact LeO.none _)
   | (with_reducible refine LeO.ite ?_ ?_)
   | (with_reducible refine LeO.bind ?_ (fun _ => ?_))
   | exact bourneref01_Scale.mono _ _ _ _
   | exact LeO.none _
   | refine LeO.ite ?_ ?_
   | refine LeO.bind ?_ (fun _ => ?_)
set_option maxHeartbeats 8000000 in
set_option maxRecDepth 100000 in
theorem bourneref26_Radar.calls (k : Nat) (a0 : Int) (a1 : Int) (r1 : Int) (r2 : Int) (w : World) (h : bourneref26_Radar.f k a0 a1 = some (r1, r2)) :
  Calls Try.prog 41 #[.int .i64 a0, .int .i64 a1] w fun e w' => e = .returned (.agg #[.int .i64 r1, .int .i64 r2]) ∧ Below w.heap.size w w' := by
 have hu40 := Try.underlying40
 have HB := Aside0.mk (Below.refl w.heap.size w)
 have H : ((bourneref01_Scale.f k (mx 0 (mn a0 1125899906842624)) (1000 - (mx 0 (mn a1 1000))) 1000).bind fun bt209 => ((bourneref01_Scale.f k (mx 0 (mn a0 1125899906842624)) (1000 + (mx 0 (mn a1 1000))) 1000).bind fun bt212 => (if bt212.2.2 = true then (if bt212.2.1 > 0 then (some (bt209.1, mn (wrap64 (bt212.1 + 1)) 1125899906842624)) else (some (bt209.1, mn bt212.1 1125899906842624))) else (some (bt209.1, 1125899906842624))))) = some (r1, r2) := h
 clear h; obtain ⟨ji3, hji3⟩ : ∃ j_ : Int, (mn a0 1125899906842624) = j_ := ⟨_, rfl⟩
 replace H : ((bourneref01_Scale.f k (mx 0 (ji3)) (1000 - (mx 0 (mn a1 1000))) 1000).bind fun bt209 => ((bourneref01_Scale.f k (mx 0 (ji3)) (1000 + (mx 0 (mn a1 1000))) 1000).bind fun bt212 => (if bt212.2.2 = true then (if bt212.2.1 > 0 then (some (bt209.1, mn (wrap64 (bt212.1 + 1)) 1125899906842624)) else (some (bt209.1, mn bt212.1 1125899906842624))) else (some (bt209.1, 1125899906842624))))) = some (r1, r2) := by first | (rw [hji3] at H; exact H) | (simp only [hji3] at H ⊢; exact H)
 (try (have hji3h : ji3 ≤ 1125899906842624 := by (rw [← hji3]; unfold mn; (repeat' split) <;> omega)))
 (try (have hji3g : ji3 ≤ 64 := by omega)); have hji3_ : (if 1125899906842624 < a0 then 1125899906842624 else a0) = ji3 := hji3
 obtain ⟨ji4, hji4⟩ : ∃ j_ : Int, (mx 0 (ji3)) = j_ := ⟨_, rfl⟩
 replace H : ((bourneref01_Scale.f k (ji4) (1000 - (mx 0 (mn a1 1000))) 1000).bind fun bt209 => ((bourneref01_Scale.f k (ji4) (1000 + (mx 0 (mn a1 1000))) 1000).bind fun bt212 => (if bt212.2.2 = true then (if bt212.2.1 > 0 then (some (bt209.1, mn (wrap64 (bt212.1 + 1)) 1125899906842624)) else (some (bt209.1, mn bt212.1 1125899906842624))) else (some (bt209.1, 1125899906842624))))) = some (r1, r2) := by first | (rw [hji4] at H; exact H) | (simp only [hji4] at H ⊢; exact H)
 have hji4_ : (if 0 < (ji3) then (ji3) else 0) = ji4 := hji4
 obtain ⟨ji5, hji5⟩ : ∃ j_ : Int, (mn a1 1000) = j_ := ⟨_, rfl⟩
 replace H : ((bourneref01_Scale.f k (ji4) (1000 - (mx 0 (ji5))) 1000).bind fun bt209 => ((bourneref01_Scale.f k (ji4) (1000 + (mx 0 (ji5))) 1000).bind fun bt212 => (if bt212.2.2 = true then (if bt212.2.1 > 0 then (some (bt209.1, mn (wrap64 (bt212.1 + 1)) 1125899906842624)) else (some (bt209.1, mn bt212.1 1125899906842624))) else (some (bt209.1, 1125899906842624))))) = some (r1, r2) := by first | (rw [hji5] at H; exact H) | (simp only [hji5] at H ⊢; exact H)
 (try (have hji5h : ji5 ≤ 1000 := by (rw [← hji5]; unfold mn; (repeat' split) <;> omega)))
 (try (have hji5g : ji5 ≤ 64 := by omega)); have hji5_ : (if 1000 < a1 then 1000 else a1) = ji5 := hji5
 obtain ⟨ji6, hji6⟩ : ∃ j_ : Int, (mx 0 (ji5)) = j_ := ⟨_, rfl⟩
 replace H : ((bourneref01_Scale.f k (ji4) (1000 - (ji6)) 1000).bind fun bt209 => ((bourneref01_Scale.f k (ji4) (1000 + (ji6)) 1000).bind fun bt212 => (if bt212.2.2 = true then (if bt212.2.1 > 0 then (some (bt209.1, mn (wrap64 (bt212.1 + 1)) 1125899906842624)) else (some (bt209.1, mn bt212.1 1125899906842624))) else (some (bt209.1, 1125899906842624))))) = some (r1, r2) := by first | (rw [hji6] at H; exact H) | (simp only [hji6] at H ⊢; exact H)
 have hji6_ : (if 0 < (ji5) then (ji5) else 0) = ji6 := hji6
 replace H := Option.bind_eq_some_iff.mp H
 obtain ⟨⟨t209, t210, t211⟩, A70, H⟩ := H
 dsimp only at H
 have A7 := Aside0.mk A70
 clear A70; replace H := Option.bind_eq_some_iff.mp H
 obtain ⟨⟨t212, t213, t214⟩, A80, H⟩ := H
 dsimp only at H
 have A8 := Aside0.mk A80
 clear A80; by_cases c9 : t214 = true
 ·
  subst c9; have H1 : (if t213 > 0 then (some (t209, mn (wrap64 (t212 + 1)) 1125899906842624)) else (some (t209, mn t212 1125899906842624))) = some (r1, r2) := by rw [if_pos rfl] at H; exact H
  clear H; have H := H1
  clear H1; by_cases c10 : t213 > 0
  ·
   rw [if_pos c10] at H; have c10b0 : decide (0 < t213) = true := decide_eq_true c10
   clear c10; obtain ⟨ji11, hji11⟩ : ∃ j_ : Int, (mn (wrap64 (t212 + 1)) 1125899906842624) = j_ := ⟨_, rfl⟩
   replace H : (some (t209, ji11)) = some (r1, r2) := by first | (rw [hji11] at H; exact H) | (simp only [hji11] at H ⊢; exact H)
   (try rw [hji11] at A7); (try rw [hji11] at A8); (try (have hji11h : ji11 ≤ 1125899906842624 := by (rw [← hji11]; unfold mn; (repeat' split) <;> omega)))
   (try (have hji11g : ji11 ≤ 64 := by omega)); have hji11_ : (if 1125899906842624 < (wrap64 (t212 + 1)) then 1125899906842624 else (wrap64 (t212 + 1))) = ji11 := hji11
   simp only [Option.some.injEq, Prod.mk.injEq] at H; obtain ⟨rfl, rfl⟩ := H
   go_enter Try.func41, Try.ntmps41
   go_wp2_with (first | ((with_reducible refine gate_dst (N := 4) rfl ?_); refine box_event ?hg (N := 4) ?hd (cs := #[.int .i64 0, .int .i64 0]) (t := 40) ?hr ?_; (case hd => rfl); (case hg => rfl); (case hr => first | (go_simp; done) | (go_simp; rfl)); intro gb208 hg w12 hbox hb; have n0_ := Aside0.mk (bP (by repeat (first | (with_reducible first | exact HB.out | apply bL | apply bW | apply b1) | exact HB.out)) hb); have n1_ := Aside0.mk (hbox); have n2_ := Aside0.mk ((by rw [hg]; exact (bZ (by repeat (first | (with_reducible first | exact HB.out | apply bL | apply bW | apply b1) | exact HB.out))) : w.heap.size ≤ gb208)); have n3_ := Aside0.mk ((by rw [hg]; exact (bZ (by repeat (first | (with_reducible first | exact HB.out | apply bL | apply bW | apply b1) | exact HB.out))) : w.heap.size ≤ gb208)); clear HB; have HB := n0_; have BK208 := n1_; have GW208 := n2_; have GE208 := n3_; clear n0_ n1_ n2_ n3_; clear hb hbox hg) | ((with_reducible refine gate_callee (f := 44) rfl ?_); refine goesL_ (some 21) rfl rfl Try.func44 (by kernel_rfl) rfl #[.int .i64 ji4, .int .i64 (1000 - (ji6)), .int .i64 1000] rfl (by (try simp only [List.map_toArray, List.map_cons, List.map_nil]); first | done | (simp only [hji4, hji6]; rfl) | rfl | (simp only [List.length_drop, List.length_take]; rfl)) ?_; (with_reducible refine (bourneref01_Scale.calls k ji4 (1000 - (ji6)) 1000 t209 t210 t211 _ A7.out).mono ?_); rintro e w' ⟨rfl, ⟨nd, rfl⟩⟩; refine ⟨_, rfl, ?_⟩; (try (rw [drewN_self w12]; generalize hq_ : World.drewN w12 _ = w12; have n0_ : Aside0 (w12.heap[gb208]? = some (.cells #[.int .i64 0, .int .i64 0] 40 (0, 0))) := ⟨by rw [← hq_]; exact (by (with_reducible repeat (first | refine bN ?_ _ | refine bD ?_ | refine bA ?_ _)); exact BK208.out)⟩; have n1_ : Aside0 (Below w.heap.size w w12) := ⟨by rw [← hq_]; exact (by repeat (first | (with_reducible first | exact HB.out | apply bL | apply bW | apply b1 | refine bS ?_ GE208.out) | exact HB.out))⟩; clear BK208 HB hq_; have BK208 := n0_; have HB := n1_; clear n0_ n1_))) | ((with_reducible refine gate_callee (f := 44) rfl ?_); refine goesL_ (some 29) rfl rfl Try.func44 (by kernel_rfl) rfl #[.int .i64 ji4, .int .i64 (1000 + (ji6)), .int .i64 1000] rfl (by (try simp only [List.map_toArray, List.map_cons, List.map_nil]); first | done | (simp only [hji4, hji6]; rfl) | rfl | (simp only [List.length_drop, List.length_take]; rfl)) ?_; (with_reducible refine (bourneref01_Scale.calls k ji4 (1000 + (ji6)) 1000 t212 t213 true _ A8.out).mono ?_); rintro e w' ⟨rfl, ⟨nd, rfl⟩⟩; refine ⟨_, rfl, ?_⟩; (try (rw [drewN_self w12]; generalize hq_ : World.drewN w12 _ = w12; have n0_ : Aside0 (w12.heap[gb208]? = some (.cells #[.int .i64 0, .int .i64 0] 40 (0, 0))) := ⟨by rw [← hq_]; exact (by (with_reducible repeat (first | refine bN ?_ _ | refine bD ?_ | refine bA ?_ _)); exact BK208.out)⟩; have n1_ : Aside0 (Below w.heap.size w w12) := ⟨by rw [← hq_]; exact (by repeat (first | (with_reducible first | exact HB.out | apply bL | apply bW | apply b1 | refine bS ?_ GE208.out) | exact HB.out))⟩; clear BK208 HB hq_; have BK208 := n0_; have HB := n1_; clear n0_ n1_)); have hcz13_0 : w12.cell? ⟨gb208, 0, none⟩ = some (.int .i64 0) := (bC BK208.out 0).trans rfl; have hcz13_1 : w12.cell? ⟨gb208, 1, none⟩ = some (.int .i64 0) := (bC BK208.out 1).trans rfl; have hfz13_0 := bF BK208.out 0; have hfz13_1 := bF BK208.out 1))
   refine bodyPost_ret (results_cell_row rfl _ _ gb208 40 #[.int .i64 t209, .int .i64 ji11] (0, 0) _ rfl (by (with_reducible repeat (first | refine bN ?_ _ | refine bD ?_ | refine bA ?_ _)); refine bU (cs := #[.int .i64 t209, .int .i64 0]) ?_ 1 _ rfl; (with_reducible repeat (first | refine bN ?_ _ | refine bD ?_ | refine bA ?_ _)); refine bU (cs := #[.int .i64 0, .int .i64 0]) ?_ 0 _ rfl; (with_reducible repeat (first | refine bN ?_ _ | refine bD ?_ | refine bA ?_ _)); exact BK208.out) Try.underlying40 rfl (by kernel_rfl)) rfl ?_
   exact ⟨by first | rfl | (simp [errW_none, errW_some] <;> rfl) | (simp only [← hji3, ← hji4, ← hji5, ← hji6, ← hji11]; first | rfl | (simp [errW_none, errW_some] <;> rfl)) | (simp [*, errW_none, errW_some] <;> rfl), by repeat (first | (with_reducible first | exact HB.out | apply bL | apply bW | apply b1 | refine bS ?_ GE208.out) | exact HB.out)⟩
  ·
   rw [if_neg c10] at H; have c10b0 : decide (0 < t213) = false := decide_eq_false c10
   clear c10; obtain ⟨ji14, hji14⟩ : ∃ j_ : Int, (mn t212 1125899906842624) = j_ := ⟨_, rfl⟩
   replace H : (some (t209, ji14)) = some (r1, r2) := by first | (rw [hji14] at H; exact H) | (simp only [hji14] at H ⊢; exact H)
   (try rw [hji14] at A7); (try rw [hji14] at A8); (try (have hji14h : ji14 ≤ 1125899906842624 := by (rw [← hji14]; unfold mn; (repeat' split) <;> omega)))
   (try (have hji14g : ji14 ≤ 64 := by omega)); have hji14_ : (if 1125899906842624 < t212 then 1125899906842624 else t212) = ji14 := hji14
   simp only [Option.some.injEq, Prod.mk.injEq] at H; obtain ⟨rfl, rfl⟩ := H
   go_enter Try.func41, Try.ntmps41
   go_wp2_with (first | ((with_reducible refine gate_dst (N := 4) rfl ?_); refine box_event ?hg (N := 4) ?hd (cs := #[.int .i64 0, .int .i64 0]) (t := 40) ?hr ?_; (case hd => rfl); (case hg => rfl); (case hr => first | (go_simp; done) | (go_simp; rfl)); intro gb208 hg w15 hbox hb; have n0_ := Aside0.mk (bP (by repeat (first | (with_reducible first | exact HB.out | apply bL | apply bW | apply b1) | exact HB.out)) hb); have n1_ := Aside0.mk (hbox); have n2_ := Aside0.mk ((by rw [hg]; exact (bZ (by repeat (first | (with_reducible first | exact HB.out | apply bL | apply bW | apply b1) | exact HB.out))) : w.heap.size ≤ gb208)); have n3_ := Aside0.mk ((by rw [hg]; exact (bZ (by repeat (first | (with_reducible first | exact HB.out | apply bL | apply bW | apply b1) | exact HB.out))) : w.heap.size ≤ gb208)); clear HB; have HB := n0_; have BK208 := n1_; have GW208 := n2_; have GE208 := n3_; clear n0_ n1_ n2_ n3_; clear hb hbox hg) | ((with_reducible refine gate_callee (f := 44) rfl ?_); refine goesL_ (some 21) rfl rfl Try.func44 (by kernel_rfl) rfl #[.int .i64 ji4, .int .i64 (1000 - (ji6)), .int .i64 1000] rfl (by (try simp only [List.map_toArray, List.map_cons, List.map_nil]); first | done | (simp only [hji4, hji6]; rfl) | rfl | (simp only [List.length_drop, List.length_take]; rfl)) ?_; (with_reducible refine (bourneref01_Scale.calls k ji4 (1000 - (ji6)) 1000 t209 t210 t211 _ A7.out).mono ?_); rintro e w' ⟨rfl, ⟨nd, rfl⟩⟩; refine ⟨_, rfl, ?_⟩; (try (rw [drewN_self w15]; generalize hq_ : World.drewN w15 _ = w15; have n0_ : Aside0 (w15.heap[gb208]? = some (.cells #[.int .i64 0, .int .i64 0] 40 (0, 0))) := ⟨by rw [← hq_]; exact (by (with_reducible repeat (first | refine bN ?_ _ | refine bD ?_ | refine bA ?_ _)); exact BK208.out)⟩; have n1_ : Aside0 (Below w.heap.size w w15) := ⟨by rw [← hq_]; exact (by repeat (first | (with_reducible first | exact HB.out | apply bL | apply bW | apply b1 | refine bS ?_ GE208.out) | exact HB.out))⟩; clear BK208 HB hq_; have BK208 := n0_; have HB := n1_; clear n0_ n1_))) | ((with_reducible refine gate_callee (f := 44) rfl ?_); refine goesL_ (some 29) rfl rfl Try.func44 (by kernel_rfl) rfl #[.int .i64 ji4, .int .i64 (1000 + (ji6)), .int .i64 1000] rfl (by (try simp only [List.map_toArray, List.map_cons, List.map_nil]); first | done | (simp only [hji4, hji6]; rfl) | rfl | (simp only [List.length_drop, List.length_take]; rfl)) ?_; (with_reducible refine (bourneref01_Scale.calls k ji4 (1000 + (ji6)) 1000 t212 t213 true _ A8.out).mono ?_); rintro e w' ⟨rfl, ⟨nd, rfl⟩⟩; refine ⟨_, rfl, ?_⟩; (try (rw [drewN_self w15]; generalize hq_ : World.drewN w15 _ = w15; have n0_ : Aside0 (w15.heap[gb208]? = some (.cells #[.int .i64 0, .int .i64 0] 40 (0, 0))) := ⟨by rw [← hq_]; exact (by (with_reducible repeat (first | refine bN ?_ _ | refine bD ?_ | refine bA ?_ _)); exact BK208.out)⟩; have n1_ : Aside0 (Below w.heap.size w w15) := ⟨by rw [← hq_]; exact (by repeat (first | (with_reducible first | exact HB.out | apply bL | apply bW | apply b1 | refine bS ?_ GE208.out) | exact HB.out))⟩; clear BK208 HB hq_; have BK208 := n0_; have HB := n1_; clear n0_ n1_)); have hcz16_0 : w15.cell? ⟨gb208, 0, none⟩ = some (.int .i64 0) := (bC BK208.out 0).trans rfl; have hcz16_1 : w15.cell? ⟨gb208, 1, none⟩ = some (.int .i64 0) := (bC BK208.out 1).trans rfl; have hfz16_0 := bF BK208.out 0; have hfz16_1 := bF BK208.out 1))
   refine bodyPost_ret (results_cell_row rfl _ _ gb208 40 #[.int .i64 t209, .int .i64 ji14] (0, 0) _ rfl (by (with_reducible repeat (first | refine bN ?_ _ | refine bD ?_ | refine bA ?_ _)); refine bU (cs := #[.int .i64 t209, .int .i64 0]) ?_ 1 _ rfl; (with_reducible repeat (first | refine bN ?_ _ | refine bD ?_ | refine bA ?_ _)); refine bU (cs := #[.int .i64 0, .int .i64 0]) ?_ 0 _ rfl; (with_reducible repeat (first | refine bN ?_ _ | refine bD ?_ | refine bA ?_ _)); exact BK208.out) Try.underlying40 rfl (by kernel_rfl)) rfl ?_
   exact ⟨by first | rfl | (simp [errW_none, errW_some] <;> rfl) | (simp only [← hji3, ← hji4, ← hji5, ← hji6, ← hji14]; first | rfl | (simp [errW_none, errW_some] <;> rfl)) | (simp [*, errW_none, errW_some] <;> rfl), by repeat (first | (with_reducible first | exact HB.out | apply bL | apply bW | apply b1 | refine bS ?_ GE208.out) | exact HB.out)⟩
 ·
  replace c9 := Bool.eq_false_iff.mpr c9
  subst c9; have H1 : (some (t209, 1125899906842624)) = some (r1, r2) := by rw [if_neg (show ¬ (false = true) by decide)] at H; exact H
  clear H; have H := H1
  clear H1; simp only [Option.some.injEq, Prod.mk.injEq] at H; obtain ⟨rfl, rfl⟩ := H
  go_enter Try.func41, Try.ntmps41
  go_wp2_with (first | ((with_reducible refine gate_dst (N := 4) rfl ?_); refine box_event ?hg (N := 4) ?hd (cs := #[.int .i64 0, .int .i64 0]) (t := 40) ?hr ?_; (case hd => rfl); (case hg => rfl); (case hr => first | (go_simp; done) | (go_simp; rfl)); intro gb208 hg w17 hbox hb; have n0_ := Aside0.mk (bP (by repeat (first | (with_reducible first | exact HB.out | apply bL | apply bW | apply b1) | exact HB.out)) hb); have n1_ := Aside0.mk (hbox); have n2_ := Aside0.mk ((by rw [hg]; exact (bZ (by repeat (first | (with_reducible first | exact HB.out | apply bL | apply bW | apply b1) | exact HB.out))) : w.heap.size ≤ gb208)); have n3_ := Aside0.mk ((by rw [hg]; exact (bZ (by repeat (first | (with_reducible first | exact HB.out | apply bL | apply bW | apply b1) | exact HB.out))) : w.heap.size ≤ gb208)); clear HB; have HB := n0_; have BK208 := n1_; have GW208 := n2_; have GE208 := n3_; clear n0_ n1_ n2_ n3_; clear hb hbox hg) | ((with_reducible refine gate_callee (f := 44) rfl ?_); refine goesL_ (some 21) rfl rfl Try.func44 (by kernel_rfl) rfl #[.int .i64 ji4, .int .i64 (1000 - (ji6)), .int .i64 1000] rfl (by (try simp only [List.map_toArray, List.map_cons, List.map_nil]); first | done | (simp only [hji4, hji6]; rfl) | rfl | (simp only [List.length_drop, List.length_take]; rfl)) ?_; (with_reducible refine (bourneref01_Scale.calls k ji4 (1000 - (ji6)) 1000 t209 t210 t211 _ A7.out).mono ?_); rintro e w' ⟨rfl, ⟨nd, rfl⟩⟩; refine ⟨_, rfl, ?_⟩; (try (rw [drewN_self w17]; generalize hq_ : World.drewN w17 _ = w17; have n0_ : Aside0 (w17.heap[gb208]? = some (.cells #[.int .i64 0, .int .i64 0] 40 (0, 0))) := ⟨by rw [← hq_]; exact (by (with_reducible repeat (first | refine bN ?_ _ | refine bD ?_ | refine bA ?_ _)); exact BK208.out)⟩; have n1_ : Aside0 (Below w.heap.size w w17) := ⟨by rw [← hq_]; exact (by repeat (first | (with_reducible first | exact HB.out | apply bL | apply bW | apply b1 | refine bS ?_ GE208.out) | exact HB.out))⟩; clear BK208 HB hq_; have BK208 := n0_; have HB := n1_; clear n0_ n1_))) | ((with_reducible refine gate_callee (f := 44) rfl ?_); refine goesL_ (some 29) rfl rfl Try.func44 (by kernel_rfl) rfl #[.int .i64 ji4, .int .i64 (1000 + (ji6)), .int .i64 1000] rfl (by (try simp only [List.map_toArray, List.map_cons, List.map_nil]); first | done | (simp only [hji4, hji6]; rfl) | rfl | (simp only [List.length_drop, List.length_take]; rfl)) ?_; (with_reducible refine (bourneref01_Scale.calls k ji4 (1000 + (ji6)) 1000 t212 t213 false _ A8.out).mono ?_); rintro e w' ⟨rfl, ⟨nd, rfl⟩⟩; refine ⟨_, rfl, ?_⟩; (try (rw [drewN_self w17]; generalize hq_ : World.drewN w17 _ = w17; have n0_ : Aside0 (w17.heap[gb208]? = some (.cells #[.int .i64 0, .int .i64 0] 40 (0, 0))) := ⟨by rw [← hq_]; exact (by (with_reducible repeat (first | refine bN ?_ _ | refine bD ?_ | refine bA ?_ _)); exact BK208.out)⟩; have n1_ : Aside0 (Below w.heap.size w w17) := ⟨by rw [← hq_]; exact (by repeat (first | (with_reducible first | exact HB.out | apply bL | apply bW | apply b1 | refine bS ?_ GE208.out) | exact HB.out))⟩; clear BK208 HB hq_; have BK208 := n0_; have HB := n1_; clear n0_ n1_)); have hcz18_0 : w17.cell? ⟨gb208, 0, none⟩ = some (.int .i64 0) := (bC BK208.out 0).trans rfl; have hcz18_1 : w17.cell? ⟨gb208, 1, none⟩ = some (.int .i64 0) := (bC BK208.out 1).trans rfl; have hfz18_0 := bF BK208.out 0; have hfz18_1 := bF BK208.out 1))
  refine bodyPost_ret (results_cell_row rfl _ _ gb208 40 #[.int .i64 t209, .int .i64 1125899906842624] (0, 0) _ rfl (by (with_reducible repeat (first | refine bN ?_ _ | refine bD ?_ | refine bA ?_ _)); refine bU (cs := #[.int .i64 t209, .int .i64 0]) ?_ 1 _ rfl; (with_reducible repeat (first | refine bN ?_ _ | refine bD ?_ | refine bA ?_ _)); refine bU (cs := #[.int .i64 0, .int .i64 0]) ?_ 0 _ rfl; (with_reducible repeat (first | refine bN ?_ _ | refine bD ?_ | refine bA ?_ _)); exact BK208.out) Try.underlying40 rfl (by kernel_rfl)) rfl ?_
  exact ⟨by first | rfl | (simp [errW_none, errW_some] <;> rfl) | (simp only [← hji3, ← hji4, ← hji5, ← hji6]; first | rfl | (simp [errW_none, errW_some] <;> rfl)) | (simp [*, errW_none, errW_some] <;> rfl), by repeat (first | (with_reducible first | exact HB.out | apply bL | apply bW | apply b1 | refine bS ?_ GE208.out) | exact HB.out)⟩
def bourneref09_Right.f (a0_0 : Int) (a0_1 : Int) : Option (Bool) := some (decide (a0_0 ≤ a0_1))
set_option maxHeartbeats 8000000 in
set_option maxRecDepth 100000 in
theorem bourneref09_Right.calls (a0_0 : Int) (a0_1 : Int) (r : Bool) (w : World) (h : bourneref09_Right.f a0_0 a0_1 = some r) :
  Calls Try.prog 42 #[.agg #[.int .i64 a0_0, .int .i64 a0_1]] w fun e w' => e = .returned (.bool r) ∧ Below w.heap.size w w' := by
 have hu40 := Try.underlying40
 have HB := Aside0.mk (Below.refl w.heap.size w)
 have H : (some (decide (a0_0 ≤ a0_1))) = some r := h
 clear h; obtain rfl := Option.some.inj H
 go_enter Try.func42, Try.ntmps42
 go_wp2_with (first | ((with_reducible refine gate_dst (N := 1) rfl ?_); refine box_event ?hg (N := 1) ?hd (cs := #[.int .i64 a0_0, .int .i64 a0_1]) (t := 40) ?hr ?_; (case hd => rfl); (case hg => rfl); (case hr => first | (go_simp; done) | (go_simp; rfl)); intro gb215 hg w2 hbox hb; have n0_ := Aside0.mk (bP (by repeat (first | (with_reducible first | exact HB.out | apply bL | apply bW | apply b1) | exact HB.out)) hb); have n1_ := Aside0.mk (hbox); have n2_ := Aside0.mk ((by rw [hg]; exact (bZ (by repeat (first | (with_reducible first | exact HB.out | apply bL | apply bW | apply b1) | exact HB.out))) : w.heap.size ≤ gb215)); have n3_ := Aside0.mk ((by rw [hg]; exact (bZ (by repeat (first | (with_reducible first | exact HB.out | apply bL | apply bW | apply b1) | exact HB.out))) : w.heap.size ≤ gb215)); clear HB; have HB := n0_; have BK215 := n1_; have GW215 := n2_; have GE215 := n3_; clear n0_ n1_ n2_ n3_; clear hb hbox hg; have hcz3_0 : w2.cell? ⟨gb215, 0, none⟩ = some (.int .i64 a0_0) := (bC BK215.out 0).trans rfl; have hcz3_1 : w2.cell? ⟨gb215, 1, none⟩ = some (.int .i64 a0_1) := (bC BK215.out 1).trans rfl; have hfz3_0 := bF BK215.out 0; have hfz3_1 := bF BK215.out 1))
 go_ret
 exact ⟨by first | rfl | (simp [errW_none, errW_some] <;> rfl) | (simp [*, errW_none, errW_some] <;> rfl), by repeat (first | (with_reducible first | exact HB.out | apply bL | apply bW | apply b1 | refine bS ?_ GE215.out) | exact HB.out)⟩
mutual
def bourneref09_Meet.j0 : Nat → Int → Int → Int → Int → Option (Int × Int × Bool)
 | 0, _, _, _, _ => none
 | k + 1, x218000, x218001, x220000, x220001 => if x218001 < x220001 then (bourneref09_Meet.j1 k x220000 x218001) else (bourneref09_Meet.j1 k x220000 x220001)
def bourneref09_Meet.j1 : Nat → Int → Int → Option (Int × Int × Bool)
 | 0, _, _ => none
 | k + 1, x220000, x220001 => if x220000 > x220001 then (some (0, 0, false)) else (some (x220000, x220001, true))
end
def bourneref09_Meet.f (k : Nat) (a0_0 : Int) (a0_1 : Int) (a1_0 : Int) (a1_1 : Int) : Option (Int × Int × Bool) := if a1_0 > a0_0 then (bourneref09_Meet.j0 k a1_0 a1_1 a1_0 a0_1) else (bourneref09_Meet.j0 k a1_0 a1_1 a0_0 a0_1)
theorem bourneref09_Meet.mono_l : ∀ k, (∀ y0 y1 y2 y3, LeO (bourneref09_Meet.j0 k y0 y1 y2 y3) (bourneref09_Meet.j0 (k + 1) y0 y1 y2 y3)) ∧ (∀ y0 y1, LeO (bourneref09_Meet.j1 k y0 y1) (bourneref09_Meet.j1 (k + 1) y0 y1))
 | 0 => ⟨fun _ _ _ _ r h => by simp [bourneref09_Meet.j0] at h, fun _ _ r h => by simp [bourneref09_Meet.j1] at h⟩
 | k + 1 => by
  obtain ⟨ih0, ih1⟩ := bourneref09_Meet.mono_l k
  refine ⟨?_, ?_⟩
  ·
   intro y0 y1 y2 y3; unfold bourneref09_Meet.j0
   repeat' first
   | (with_reducible exact ih0 _ _ _ _)
   | (with_reducible exact ih1 _ _)
   | (with_reducible exact LeO.refl _)
   | (with_reducible exact LeO.none _)
   | (with_reducible refine LeO.ite ?_ ?_)
   | (with_reducible refine LeO.bind ?_ (fun _ => ?_))
   | exact ih0 _ _ _ _
   | exact ih1 _ _
   | exact LeO.none _
   | refine LeO.ite ?_ ?_
   | refine LeO.bind ?_ (fun _ => ?_)
  ·
   intro y0 y1; unfold bourneref09_Meet.j1
   repeat' first
   | (with_reducible exact ih0 _ _ _ _)
   | (with_reducible exact ih1 _ _)
   | (with_reducible exact LeO.refl _)
   | (with_reducible exact LeO.none _)
   | (with_reducible refine LeO.ite ?_ ?_)
   | (with_reducible refine LeO.bind ?_ (fun _ => ?_))
   | exact ih0 _ _ _ _
   | exact ih1 _ _
   | exact LeO.none _
   | refine LeO.ite ?_ ?_
   | refine LeO.bind ?_ (fun _ => ?_)
theorem bourneref09_Meet.mono : ∀ a0 a1 a2 a3 k, LeO (bourneref09_Meet.f k a0 a1 a2 a3) (bourneref09_Meet.f (k + 1) a0 a1 a2 a3) := by
 intro a0 a1 a2 a3 k; obtain ⟨ih0, ih1⟩ := bourneref09_Meet.mono_l k
 unfold bourneref09_Meet.f
 repeat' first
   | (with_reducible exact ih0 _ _ _ _)
   | (with_reducible exact ih1 _ _)
   | (with_reducible exact LeO.refl _)
   | (with_reducible exact LeO.none _)
   | (with_reducible refine LeO.ite ?_ ?_)
   | (with_reducible refine LeO.bind ?_ (fun _ => ?_))
   | exact ih0 _ _ _ _
   | exact ih1 _ _
   | exact LeO.none _
   | refine LeO.ite ?_ ?_
   | refine LeO.bind ?_ (fun _ => ?_)
set_option maxHeartbeats 8000000 in
set_option maxRecDepth 100000 in
theorem bourneref09_Meet.calls (k : Nat) (a0_0 : Int) (a0_1 : Int) (a1_0 : Int) (a1_1 : Int) (r1 : Int) (r2 : Int) (r3 : Bool) (w : World) (h : bourneref09_Meet.f k a0_0 a0_1 a1_0 a1_1 = some (r1, r2, r3)) :
  Calls Try.prog 43 #[.agg #[.int .i64 a0_0, .int .i64 a0_1], .agg #[.int .i64 a1_0, .int .i64 a1_1]] w fun e w' => e = .returned (.tuple #[.agg #[.int .i64 r1, .int .i64 r2], .bool r3]) ∧ Below w.heap.size w w' := by
 have hu40 := Try.underlying40
 have HB := Aside0.mk (Below.refl w.heap.size w)
 have H : (if a1_0 > a0_0 then (bourneref09_Meet.j0 k a1_0 a1_1 a1_0 a0_1) else (bourneref09_Meet.j0 k a1_0 a1_1 a0_0 a0_1)) = some (r1, r2, r3) := h
 clear h; have HC3 := Aside0.mk H
 clear H; go_enter Try.func43, Try.ntmps43
 go_upto_if 12 with (first | ((with_reducible refine gate_dst (N := 2) rfl ?_); refine box_event ?hg (N := 2) ?hd (cs := #[.int .i64 a0_0, .int .i64 a0_1]) (t := 40) ?hr ?_; (case hd => rfl); (case hg => rfl); (case hr => first | (go_simp; done) | (go_simp; rfl)); intro gb216 hg w4 hbox hb; have n0_ := Aside0.mk (bP (by repeat (first | (with_reducible first | exact HB.out | apply bL | apply bW | apply b1) | exact HB.out)) hb); have n1_ := Aside0.mk (hbox); have n2_ := Aside0.mk ((by rw [hg]; exact (bZ (by repeat (first | (with_reducible first | exact HB.out | apply bL | apply bW | apply b1) | exact HB.out))) : w.heap.size ≤ gb216)); have n3_ := Aside0.mk ((by rw [hg]; exact (bZ (by repeat (first | (with_reducible first | exact HB.out | apply bL | apply bW | apply b1) | exact HB.out))) : w.heap.size ≤ gb216)); clear HB; have HB := n0_; have BK216 := n1_; have GW216 := n2_; have GE216 := n3_; clear n0_ n1_ n2_ n3_; clear hb hbox hg) | ((with_reducible refine gate_dst (N := 3) rfl ?_); refine box_event ?hg (N := 3) ?hd (cs := #[.int .i64 a1_0, .int .i64 a1_1]) (t := 40) ?hr ?_; (case hd => rfl); (case hg => rfl); (case hr => first | (go_simp; done) | (go_simp; rfl)); intro gb217 hg w5 hbox hb; have n0_ := Aside0.mk (bB (g := gb216) (o := .cells #[.int .i64 a0_0, .int .i64 a0_1] 40 (0, 0)) (by (with_reducible repeat (first | refine bN ?_ _ | refine bD ?_ | refine bA ?_ _)); exact BK216.out) hb); have n1_ := Aside0.mk (bP (by repeat (first | (with_reducible first | exact HB.out | apply bL | apply bW | apply b1 | refine bS ?_ GE216.out) | exact HB.out)) hb); have n2_ := Aside0.mk (hbox); have n3_ := Aside0.mk ((by rw [hg]; exact (bZ (by repeat (first | (with_reducible first | exact HB.out | apply bL | apply bW | apply b1 | refine bS ?_ GE216.out) | exact HB.out))) : w.heap.size ≤ gb217)); have n4_ := Aside0.mk ((by rw [hg]; exact (bZ (by repeat (first | (with_reducible first | exact HB.out | apply bL | apply bW | apply b1 | refine bS ?_ GE216.out) | exact HB.out))) : w.heap.size ≤ gb217)); have n5_ := Aside0.mk ((by rw [hg]; exact Nat.ne_of_lt (bT (g := gb216) (o := .cells #[.int .i64 a0_0, .int .i64 a0_1] 40 (0, 0)) (by (with_reducible repeat (first | refine bN ?_ _ | refine bD ?_ | refine bA ?_ _)); exact BK216.out)) : gb216 ≠ gb217)); have n6_ := Aside0.mk ((by rw [hg]; exact Nat.ne_of_gt (bT (g := gb216) (o := .cells #[.int .i64 a0_0, .int .i64 a0_1] 40 (0, 0)) (by (with_reducible repeat (first | refine bN ?_ _ | refine bD ?_ | refine bA ?_ _)); exact BK216.out)) : gb217 ≠ gb216)); clear BK216; clear HB; have BK216 := n0_; have HB := n1_; have BK217 := n2_; have GW217 := n3_; have GE217 := n4_; have NB216_217 := n5_; have NB217_216 := n6_; clear n0_ n1_ n2_ n3_ n4_ n5_ n6_; clear hb hbox hg) | ((with_reducible refine gate_dst (N := 4) rfl ?_); refine box_event ?hg (N := 4) ?hd (cs := #[.int .i64 0, .int .i64 0]) (t := 40) ?hr ?_; (case hd => rfl); (case hg => rfl); (case hr => first | (go_simp; done) | (go_simp; rfl)); intro gb218 hg w6 hbox hb; have n0_ := Aside0.mk (bB (g := gb216) (o := .cells #[.int .i64 a0_0, .int .i64 a0_1] 40 (0, 0)) (by (with_reducible repeat (first | refine bN ?_ _ | refine bD ?_ | refine bA ?_ _)); exact BK216.out) hb); have n1_ := Aside0.mk (bB (g := gb217) (o := .cells #[.int .i64 a1_0, .int .i64 a1_1] 40 (0, 0)) (by (with_reducible repeat (first | refine bN ?_ _ | refine bD ?_ | refine bA ?_ _)); exact BK217.out) hb); have n2_ := Aside0.mk (bP (by repeat (first | (with_reducible first | exact HB.out | apply bL | apply bW | apply b1 | refine bS ?_ GE216.out | refine bS ?_ GE217.out) | exact HB.out)) hb); have n3_ := Aside0.mk (hbox); have n4_ := Aside0.mk ((by rw [hg]; exact (bZ (by repeat (first | (with_reducible first | exact HB.out | apply bL | apply bW | apply b1 | refine bS ?_ GE216.out | refine bS ?_ GE217.out) | exact HB.out))) : w.heap.size ≤ gb218)); have n5_ := Aside0.mk ((by rw [hg]; exact (bZ (by repeat (first | (with_reducible first | exact HB.out | apply bL | apply bW | apply b1 | refine bS ?_ GE216.out | refine bS ?_ GE217.out) | exact HB.out))) : w.heap.size ≤ gb218)); have n6_ := Aside0.mk ((by rw [hg]; exact Nat.ne_of_lt (bT (g := gb216) (o := .cells #[.int .i64 a0_0, .int .i64 a0_1] 40 (0, 0)) (by (with_reducible repeat (first | refine bN ?_ _ | refine bD ?_ | refine bA ?_ _)); exact BK216.out)) : gb216 ≠ gb218)); have n7_ := Aside0.mk ((by rw [hg]; exact Nat.ne_of_gt (bT (g := gb216) (o := .cells #[.int .i64 a0_0, .int .i64 a0_1] 40 (0, 0)) (by (with_reducible repeat (first | refine bN ?_ _ | refine bD ?_ | refine bA ?_ _)); exact BK216.out)) : gb218 ≠ gb216)); have n8_ := Aside0.mk ((by rw [hg]; exact Nat.ne_of_lt (bT (g := gb217) (o := .cells #[.int .i64 a1_0, .int .i64 a1_1] 40 (0, 0)) (by (with_reducible repeat (first | refine bN ?_ _ | refine bD ?_ | refine bA ?_ _)); exact BK217.out)) : gb217 ≠ gb218)); have n9_ := Aside0.mk ((by rw [hg]; exact Nat.ne_of_gt (bT (g := gb217) (o := .cells #[.int .i64 a1_0, .int .i64 a1_1] 40 (0, 0)) (by (with_reducible repeat (first | refine bN ?_ _ | refine bD ?_ | refine bA ?_ _)); exact BK217.out)) : gb218 ≠ gb217)); clear BK216; clear BK217; clear HB; have BK216 := n0_; have BK217 := n1_; have HB := n2_; have BK218 := n3_; have GW218 := n4_; have GE218 := n5_; have NB216_218 := n6_; have NB218_216 := n7_; have NB217_218 := n8_; have NB218_217 := n9_; clear n0_ n1_ n2_ n3_ n4_ n5_ n6_ n7_ n8_ n9_; clear hb hbox hg; have hnb7 := NB216_217.out; have hnc7 := NB217_216.out; have hnb8 := NB216_218.out; have hnc8 := NB218_216.out; have hcz9_0 : w6.cell? ⟨gb216, 0, none⟩ = some (.int .i64 a0_0) := (bC BK216.out 0).trans rfl; have hcz9_1 : w6.cell? ⟨gb216, 1, none⟩ = some (.int .i64 a0_1) := (bC BK216.out 1).trans rfl; have hfz9_0 := bF BK216.out 0; have hfz9_1 := bF BK216.out 1) | ((with_reducible refine gate_dst (N := 6) rfl ?_); refine box_event ?hg (N := 6) ?hd (cs := #[.int .i64 0, .int .i64 0]) (t := 40) ?hr ?_; (case hd => rfl); (case hg => rfl); (case hr => first | (go_simp; done) | (go_simp; rfl)); intro gb219 hg w10 hbox hb; have n0_ := Aside0.mk (bB (g := gb216) (o := .cells #[.int .i64 a0_0, .int .i64 a0_1] 40 (0, 0)) (by (with_reducible repeat (first | refine bN ?_ _ | refine bD ?_ | refine bA ?_ _)); exact BK216.out) hb); have n1_ := Aside0.mk (bB (g := gb217) (o := .cells #[.int .i64 a1_0, .int .i64 a1_1] 40 (0, 0)) (by (with_reducible repeat (first | refine bN ?_ _ | refine bD ?_ | refine bA ?_ _)); exact BK217.out) hb); have n2_ := Aside0.mk (bB (g := gb218) (o := .cells #[.int .i64 0, .int .i64 0] 40 (0, 0)) (by (with_reducible repeat (first | refine bN ?_ _ | refine bD ?_ | refine bA ?_ _)); exact BK218.out) hb); have n3_ := Aside0.mk (bP (by repeat (first | (with_reducible first | exact HB.out | apply bL | apply bW | apply b1 | refine bS ?_ GE216.out | refine bS ?_ GE217.out | refine bS ?_ GE218.out) | exact HB.out)) hb); have n4_ := Aside0.mk (hbox); have n5_ := Aside0.mk ((by rw [hg]; exact (bZ (by repeat (first | (with_reducible first | exact HB.out | apply bL | apply bW | apply b1 | refine bS ?_ GE216.out | refine bS ?_ GE217.out | refine bS ?_ GE218.out) | exact HB.out))) : w.heap.size ≤ gb219)); have n6_ := Aside0.mk ((by rw [hg]; exact (bZ (by repeat (first | (with_reducible first | exact HB.out | apply bL | apply bW | apply b1 | refine bS ?_ GE216.out | refine bS ?_ GE217.out | refine bS ?_ GE218.out) | exact HB.out))) : w.heap.size ≤ gb219)); have n7_ := Aside0.mk ((by rw [hg]; exact Nat.ne_of_lt (bT (g := gb216) (o := .cells #[.int .i64 a0_0, .int .i64 a0_1] 40 (0, 0)) (by (with_reducible repeat (first | refine bN ?_ _ | refine bD ?_ | refine bA ?_ _)); exact BK216.out)) : gb216 ≠ gb219)); have n8_ := Aside0.mk ((by rw [hg]; exact Nat.ne_of_gt (bT (g := gb216) (o := .cells #[.int .i64 a0_0, .int .i64 a0_1] 40 (0, 0)) (by (with_reducible repeat (first | refine bN ?_ _ | refine bD ?_ | refine bA ?_ _)); exact BK216.out)) : gb219 ≠ gb216)); have n9_ := Aside0.mk ((by rw [hg]; exact Nat.ne_of_lt (bT (g := gb217) (o := .cells #[.int .i64 a1_0, .int .i64 a1_1] 40 (0, 0)) (by (with_reducible repeat (first | refine bN ?_ _ | refine bD ?_ | refine bA ?_ _)); exact BK217.out)) : gb217 ≠ gb219)); have n10_ := Aside0.mk ((by rw [hg]; exact Nat.ne_of_gt (bT (g := gb217) (o := .cells #[.int .i64 a1_0, .int .i64 a1_1] 40 (0, 0)) (by (with_reducible repeat (first | refine bN ?_ _ | refine bD ?_ | refine bA ?_ _)); exact BK217.out)) : gb219 ≠ gb217)); have n11_ := Aside0.mk ((by rw [hg]; exact Nat.ne_of_lt (bT (g := gb218) (o := .cells #[.int .i64 0, .int .i64 0] 40 (0, 0)) (by (with_reducible repeat (first | refine bN ?_ _ | refine bD ?_ | refine bA ?_ _)); exact BK218.out)) : gb218 ≠ gb219)); have n12_ := Aside0.mk ((by rw [hg]; exact Nat.ne_of_gt (bT (g := gb218) (o := .cells #[.int .i64 0, .int .i64 0] 40 (0, 0)) (by (with_reducible repeat (first | refine bN ?_ _ | refine bD ?_ | refine bA ?_ _)); exact BK218.out)) : gb219 ≠ gb218)); clear BK216; clear BK217; clear BK218; clear HB; have BK216 := n0_; have BK217 := n1_; have BK218 := n2_; have HB := n3_; have BK219 := n4_; have GW219 := n5_; have GE219 := n6_; have NB216_219 := n7_; have NB219_216 := n8_; have NB217_219 := n9_; have NB219_217 := n10_; have NB218_219 := n11_; have NB219_218 := n12_; clear n0_ n1_ n2_ n3_ n4_ n5_ n6_ n7_ n8_ n9_ n10_ n11_ n12_; clear hb hbox hg; have hnb11 := NB219_216.out; have hnc11 := NB216_219.out; have hnb12 := NB219_217.out; have hnc12 := NB217_219.out; have hnb13 := NB219_218.out; have hnc13 := NB218_219.out; have hcz14_0 : w10.cell? ⟨gb219, 0, none⟩ = some (.int .i64 0) := (bC BK219.out 0).trans rfl; have hcz14_1 : w10.cell? ⟨gb219, 1, none⟩ = some (.int .i64 0) := (bC BK219.out 1).trans rfl; have hfz14_0 := bF BK219.out 0; have hfz14_1 := bF BK219.out 1; have hnb15 := NB217_218.out; have hnc15 := NB218_217.out; have hcz16_0 : w10.cell? ⟨gb217, 0, none⟩ = some (.int .i64 a1_0) := (bC BK217.out 0).trans rfl; have hcz16_1 : w10.cell? ⟨gb217, 1, none⟩ = some (.int .i64 a1_1) := (bC BK217.out 1).trans rfl; have hfz16_0 := bF BK217.out 0; have hfz16_1 := bF BK217.out 1))
 (try simp only [Act.put, lA, lZ, lS]); go_cut [] (fun wc => ∃ (kq : Nat) (x220000_2 : Int), Aside0 (bourneref09_Meet.j0 kq a1_0 a1_1 x220000_2 a0_1 = some (r1, r2, r3)) ∧ Aside0 (kq ≤ k) ∧ Aside0 (wc.heap[gb216]? = some (.cells #[.int .i64 a0_0, .int .i64 a0_1] 40 (0, 0))) ∧ Aside0 (wc.heap[gb217]? = some (.cells #[.int .i64 a1_0, .int .i64 a1_1] 40 (0, 0))) ∧ Aside0 (wc.heap[gb218]? = some (.cells #[.int .i64 0, .int .i64 0] 40 (0, 0))) ∧ Aside0 (wc.heap[gb219]? = some (.cells #[.int .i64 x220000_2, .int .i64 a0_1] 40 (0, 0))) ∧ Aside0 (Below w.heap.size w wc))
 case first =>
  have H := HC3.out
  clear HC3; by_cases c17 : a1_0 > a0_0
  ·
   rw [if_pos c17] at H; have c17b0 : decide (a0_0 < a1_0) = true := decide_eq_true c17
   clear c17; (first | rw [c17b0] | (simp only [i64_w, i32_w]; rw [c17b0]) | skip)
   have H' := Aside0.mk H
   clear H; have hnb18 := NB217_216.out
   have hnc18 := NB216_217.out
   have hnb19 := NB217_218.out
   have hnc19 := NB218_217.out
   have hnb20 := NB217_219.out
   have hnc20 := NB219_217.out
   have hcz21_0 : w10.cell? ⟨gb217, 0, none⟩ = some (.int .i64 a1_0) := (bC BK217.out 0).trans rfl
   have hcz21_1 : w10.cell? ⟨gb217, 1, none⟩ = some (.int .i64 a1_1) := (bC BK217.out 1).trans rfl
   have hfz21_0 := bF BK217.out 0
   have hfz21_1 := bF BK217.out 1
   have hnb22 := NB219_216.out
   have hnc22 := NB216_219.out
   have hnb23 := NB219_218.out
   have hnc23 := NB218_219.out
   have hcz24_0 : w10.cell? ⟨gb219, 0, none⟩ = some (.int .i64 0) := (bC BK219.out 0).trans rfl
   have hcz24_1 : w10.cell? ⟨gb219, 1, none⟩ = some (.int .i64 0) := (bC BK219.out 1).trans rfl
   have hfz24_0 := bF BK219.out 0
   have hfz24_1 := bF BK219.out 1
   go_wp2
   go_meet
   case rel => exact ⟨_, (a1_0), H', ⟨by first | omega | exact Nat.le_refl _⟩, ⟨by (with_reducible repeat (first | refine bN ?_ _ | refine bD ?_ | refine bA ?_ _)); refine bR ?_ NB216_219.out _; (with_reducible repeat (first | refine bN ?_ _ | refine bD ?_ | refine bA ?_ _)); refine bR ?_ NB216_219.out _; (with_reducible repeat (first | refine bN ?_ _ | refine bD ?_ | refine bA ?_ _)); refine bR ?_ NB216_219.out _; (with_reducible repeat (first | refine bN ?_ _ | refine bD ?_ | refine bA ?_ _)); exact BK216.out⟩, ⟨by (with_reducible repeat (first | refine bN ?_ _ | refine bD ?_ | refine bA ?_ _)); refine bR ?_ NB217_219.out _; (with_reducible repeat (first | refine bN ?_ _ | refine bD ?_ | refine bA ?_ _)); refine bR ?_ NB217_219.out _; (with_reducible repeat (first | refine bN ?_ _ | refine bD ?_ | refine bA ?_ _)); refine bR ?_ NB217_219.out _; (with_reducible repeat (first | refine bN ?_ _ | refine bD ?_ | refine bA ?_ _)); exact BK217.out⟩, ⟨by (with_reducible repeat (first | refine bN ?_ _ | refine bD ?_ | refine bA ?_ _)); refine bR ?_ NB218_219.out _; (with_reducible repeat (first | refine bN ?_ _ | refine bD ?_ | refine bA ?_ _)); refine bR ?_ NB218_219.out _; (with_reducible repeat (first | refine bN ?_ _ | refine bD ?_ | refine bA ?_ _)); refine bR ?_ NB218_219.out _; (with_reducible repeat (first | refine bN ?_ _ | refine bD ?_ | refine bA ?_ _)); exact BK218.out⟩, ⟨by (with_reducible repeat (first | refine bN ?_ _ | refine bD ?_ | refine bA ?_ _)); refine bU (cs := #[.int .i64 a0_0, .int .i64 a0_1]) ?_ 0 _ rfl; (with_reducible repeat (first | refine bN ?_ _ | refine bD ?_ | refine bA ?_ _)); refine bU (cs := #[.int .i64 a0_0, .int .i64 0]) ?_ 1 _ rfl; (with_reducible repeat (first | refine bN ?_ _ | refine bD ?_ | refine bA ?_ _)); refine bU (cs := #[.int .i64 0, .int .i64 0]) ?_ 0 _ rfl; (with_reducible repeat (first | refine bN ?_ _ | refine bD ?_ | refine bA ?_ _)); exact BK219.out⟩, ⟨by repeat (first | (with_reducible first | exact HB.out | apply bL | apply bW | apply b1 | refine bS ?_ GE216.out | refine bS ?_ GE217.out | refine bS ?_ GE218.out | refine bS ?_ GE219.out) | exact HB.out)⟩⟩
  ·
   rw [if_neg c17] at H; have c17b0 : decide (a0_0 < a1_0) = false := decide_eq_false c17
   clear c17; (first | rw [c17b0] | (simp only [i64_w, i32_w]; rw [c17b0]) | skip)
   have H' := Aside0.mk H
   clear H; go_wp2
   go_meet
   case rel => exact ⟨_, (a0_0), H', ⟨by first | omega | exact Nat.le_refl _⟩, ⟨by (with_reducible repeat (first | refine bN ?_ _ | refine bD ?_ | refine bA ?_ _)); refine bR ?_ NB216_219.out _; (with_reducible repeat (first | refine bN ?_ _ | refine bD ?_ | refine bA ?_ _)); refine bR ?_ NB216_219.out _; (with_reducible repeat (first | refine bN ?_ _ | refine bD ?_ | refine bA ?_ _)); exact BK216.out⟩, ⟨by (with_reducible repeat (first | refine bN ?_ _ | refine bD ?_ | refine bA ?_ _)); refine bR ?_ NB217_219.out _; (with_reducible repeat (first | refine bN ?_ _ | refine bD ?_ | refine bA ?_ _)); refine bR ?_ NB217_219.out _; (with_reducible repeat (first | refine bN ?_ _ | refine bD ?_ | refine bA ?_ _)); exact BK217.out⟩, ⟨by (with_reducible repeat (first | refine bN ?_ _ | refine bD ?_ | refine bA ?_ _)); refine bR ?_ NB218_219.out _; (with_reducible repeat (first | refine bN ?_ _ | refine bD ?_ | refine bA ?_ _)); refine bR ?_ NB218_219.out _; (with_reducible repeat (first | refine bN ?_ _ | refine bD ?_ | refine bA ?_ _)); exact BK218.out⟩, ⟨by (with_reducible repeat (first | refine bN ?_ _ | refine bD ?_ | refine bA ?_ _)); refine bU (cs := #[.int .i64 a0_0, .int .i64 0]) ?_ 1 _ rfl; (with_reducible repeat (first | refine bN ?_ _ | refine bD ?_ | refine bA ?_ _)); refine bU (cs := #[.int .i64 0, .int .i64 0]) ?_ 0 _ rfl; (with_reducible repeat (first | refine bN ?_ _ | refine bD ?_ | refine bA ?_ _)); exact BK219.out⟩, ⟨by repeat (first | (with_reducible first | exact HB.out | apply bL | apply bW | apply b1 | refine bS ?_ GE216.out | refine bS ?_ GE217.out | refine bS ?_ GE218.out | refine bS ?_ GE219.out) | exact HB.out)⟩⟩
 case rest =>
  clear HC3; try clear c1
  try clear c2
  try clear p2
  try clear c4
  try clear c7
  try clear c8
  try clear c11
  try clear c12
  try clear c13
  try clear c15
  try clear c17
  try clear c17b0
  try clear c18
  try clear c19
  try clear c20
  try clear c22
  try clear c23
  try clear hcz14_0
  try clear hcz14_1
  try clear hcz16_0
  try clear hcz16_1
  try clear hcz21_0
  try clear hcz21_1
  try clear hcz24_0
  try clear hcz24_1
  try clear hcz9_0
  try clear hcz9_1
  try clear hfz14_0
  try clear hfz14_1
  try clear hfz16_0
  try clear hfz16_1
  try clear hfz21_0
  try clear hfz21_1
  try clear hfz24_0
  try clear hfz24_1
  try clear hfz9_0
  try clear hfz9_1
  obtain ⟨kq, x220000_2, HA, HJ2, BK216, BK217, BK218, BK219, HB⟩ := hcut
  cases kq with
  | zero => exact absurd HA.out (by simp [bourneref09_Meet.j0])
  | succ kj2 =>
   have H := HA.out
   clear HA; simp only [bourneref09_Meet.j0] at H; have HC25 := Aside0.mk H
   clear H; have hnb26 := NB217_216.out
   have hnc26 := NB216_217.out
   have hnb27 := NB217_218.out
   have hnc27 := NB218_217.out
   have hnb28 := NB217_219.out
   have hnc28 := NB219_217.out
   have hcz29_0 : wc.cell? ⟨gb217, 0, none⟩ = some (.int .i64 a1_0) := (bC BK217.out 0).trans rfl
   have hcz29_1 : wc.cell? ⟨gb217, 1, none⟩ = some (.int .i64 a1_1) := (bC BK217.out 1).trans rfl
   have hfz29_0 := bF BK217.out 0
   have hfz29_1 := bF BK217.out 1
   have hnb30 := NB219_216.out
   have hnc30 := NB216_219.out
   have hnb31 := NB219_218.out
   have hnc31 := NB218_219.out
   have hcz32_0 : wc.cell? ⟨gb219, 0, none⟩ = some (.int .i64 x220000_2) := (bC BK219.out 0).trans rfl
   have hcz32_1 : wc.cell? ⟨gb219, 1, none⟩ = some (.int .i64 a0_1) := (bC BK219.out 1).trans rfl
   have hfz32_0 := bF BK219.out 0
   have hfz32_1 := bF BK219.out 1
   go_upto_if 20 with (fail)
   go_cut [] (fun wc => ∃ (kq : Nat) (x220001_24 : Int), Aside0 (bourneref09_Meet.j1 kq x220000_2 x220001_24 = some (r1, r2, r3)) ∧ Aside0 (kq ≤ kj2) ∧ Aside0 (wc.heap[gb216]? = some (.cells #[.int .i64 a0_0, .int .i64 a0_1] 40 (0, 0))) ∧ Aside0 (wc.heap[gb217]? = some (.cells #[.int .i64 a1_0, .int .i64 a1_1] 40 (0, 0))) ∧ Aside0 (wc.heap[gb218]? = some (.cells #[.int .i64 0, .int .i64 0] 40 (0, 0))) ∧ Aside0 (wc.heap[gb219]? = some (.cells #[.int .i64 x220000_2, .int .i64 x220001_24] 40 (0, 0))) ∧ Aside0 (Below w.heap.size w wc))
   case first =>
    have H := HC25.out
    clear HC25; by_cases c33 : a1_1 < a0_1
    ·
     rw [if_pos c33] at H; have c33b0 : decide (a1_1 < a0_1) = true := decide_eq_true c33
     clear c33; (first | rw [c33b0] | (simp only [i64_w, i32_w]; rw [c33b0]) | skip)
     have H' := Aside0.mk H
     clear H; have hnb34 := NB217_216.out
     have hnc34 := NB216_217.out
     have hnb35 := NB217_218.out
     have hnc35 := NB218_217.out
     have hnb36 := NB217_219.out
     have hnc36 := NB219_217.out
     have hcz37_0 : wc.cell? ⟨gb217, 0, none⟩ = some (.int .i64 a1_0) := (bC BK217.out 0).trans rfl
     have hcz37_1 : wc.cell? ⟨gb217, 1, none⟩ = some (.int .i64 a1_1) := (bC BK217.out 1).trans rfl
     have hfz37_0 := bF BK217.out 0
     have hfz37_1 := bF BK217.out 1
     have hnb38 := NB219_216.out
     have hnc38 := NB216_219.out
     have hnb39 := NB219_218.out
     have hnc39 := NB218_219.out
     have hcz40_0 : wc.cell? ⟨gb219, 0, none⟩ = some (.int .i64 x220000_2) := (bC BK219.out 0).trans rfl
     have hcz40_1 : wc.cell? ⟨gb219, 1, none⟩ = some (.int .i64 a0_1) := (bC BK219.out 1).trans rfl
     have hfz40_0 := bF BK219.out 0
     have hfz40_1 := bF BK219.out 1
     go_wp2
     go_meet
     case rel => exact ⟨_, (a1_1), H', ⟨by have := HJ2.out; first | omega | exact Nat.le_refl _⟩, ⟨by (with_reducible repeat (first | refine bN ?_ _ | refine bD ?_ | refine bA ?_ _)); refine bR ?_ NB216_219.out _; (with_reducible repeat (first | refine bN ?_ _ | refine bD ?_ | refine bA ?_ _)); exact BK216.out⟩, ⟨by (with_reducible repeat (first | refine bN ?_ _ | refine bD ?_ | refine bA ?_ _)); refine bR ?_ NB217_219.out _; (with_reducible repeat (first | refine bN ?_ _ | refine bD ?_ | refine bA ?_ _)); exact BK217.out⟩, ⟨by (with_reducible repeat (first | refine bN ?_ _ | refine bD ?_ | refine bA ?_ _)); refine bR ?_ NB218_219.out _; (with_reducible repeat (first | refine bN ?_ _ | refine bD ?_ | refine bA ?_ _)); exact BK218.out⟩, ⟨by (with_reducible repeat (first | refine bN ?_ _ | refine bD ?_ | refine bA ?_ _)); refine bU (cs := #[.int .i64 x220000_2, .int .i64 a0_1]) ?_ 1 _ rfl; (with_reducible repeat (first | refine bN ?_ _ | refine bD ?_ | refine bA ?_ _)); exact BK219.out⟩, ⟨by repeat (first | (with_reducible first | exact HB.out | apply bL | apply bW | apply b1 | refine bS ?_ GE216.out | refine bS ?_ GE217.out | refine bS ?_ GE218.out | refine bS ?_ GE219.out) | exact HB.out)⟩⟩
    ·
     rw [if_neg c33] at H; have c33b0 : decide (a1_1 < a0_1) = false := decide_eq_false c33
     clear c33; (first | rw [c33b0] | (simp only [i64_w, i32_w]; rw [c33b0]) | skip)
     have H' := Aside0.mk H
     clear H; go_wp2
     go_meet
     case rel => exact ⟨_, (a0_1), H', ⟨by have := HJ2.out; first | omega | exact Nat.le_refl _⟩, ⟨by (with_reducible repeat (first | refine bN ?_ _ | refine bD ?_ | refine bA ?_ _)); exact BK216.out⟩, ⟨by (with_reducible repeat (first | refine bN ?_ _ | refine bD ?_ | refine bA ?_ _)); exact BK217.out⟩, ⟨by (with_reducible repeat (first | refine bN ?_ _ | refine bD ?_ | refine bA ?_ _)); exact BK218.out⟩, ⟨by (with_reducible repeat (first | refine bN ?_ _ | refine bD ?_ | refine bA ?_ _)); exact BK219.out⟩, ⟨by repeat (first | (with_reducible first | exact HB.out | apply bL | apply bW | apply b1 | refine bS ?_ GE216.out | refine bS ?_ GE217.out | refine bS ?_ GE218.out | refine bS ?_ GE219.out) | exact HB.out)⟩⟩
   case rest =>
    clear HC25; try clear c1
    try clear c2
    try clear p2
    try clear c3
    try clear c4
    try clear c7
    try clear c8
    try clear c11
    try clear c12
    try clear c13
    try clear c15
    try clear c17
    try clear c17b0
    try clear c18
    try clear c19
    try clear c20
    try clear c22
    try clear c23
    try clear c26
    try clear c27
    try clear c28
    try clear c30
    try clear c31
    try clear c33
    try clear c33b0
    try clear c34
    try clear c35
    try clear c36
    try clear c38
    try clear c39
    try clear hcz14_0
    try clear hcz14_1
    try clear hcz16_0
    try clear hcz16_1
    try clear hcz21_0
    try clear hcz21_1
    try clear hcz24_0
    try clear hcz24_1
    try clear hcz29_0
    try clear hcz29_1
    try clear hcz32_0
    try clear hcz32_1
    try clear hcz37_0
    try clear hcz37_1
    try clear hcz40_0
    try clear hcz40_1
    try clear hcz9_0
    try clear hcz9_1
    try clear hfz14_0
    try clear hfz14_1
    try clear hfz16_0
    try clear hfz16_1
    try clear hfz21_0
    try clear hfz21_1
    try clear hfz24_0
    try clear hfz24_1
    try clear hfz29_0
    try clear hfz29_1
    try clear hfz32_0
    try clear hfz32_1
    try clear hfz37_0
    try clear hfz37_1
    try clear hfz40_0
    try clear hfz40_1
    try clear hfz9_0
    try clear hfz9_1
    try clear p2
    obtain ⟨kq, x220001_24, HA, HJ24, BK216, BK217, BK218, BK219, HB⟩ := hcut
    cases kq with
    | zero => exact absurd HA.out (by simp [bourneref09_Meet.j1])
    | succ kj24 =>
     have H := HA.out
     clear HA; simp only [bourneref09_Meet.j1] at H; by_cases c41 : x220000_2 > x220001_24
     ·
      rw [if_pos c41] at H; have c41b0 : decide (x220001_24 < x220000_2) = true := decide_eq_true c41
      clear c41; simp only [Option.some.injEq, Prod.mk.injEq] at H; obtain ⟨rfl, rfl, rfl⟩ := H
      have hnb42 := NB219_216.out
      have hnc42 := NB216_219.out
      have hnb43 := NB219_217.out
      have hnc43 := NB217_219.out
      have hnb44 := NB219_218.out
      have hnc44 := NB218_219.out
      have hcz45_0 : wc.cell? ⟨gb219, 0, none⟩ = some (.int .i64 x220000_2) := (bC BK219.out 0).trans rfl
      have hcz45_1 : wc.cell? ⟨gb219, 1, none⟩ = some (.int .i64 x220001_24) := (bC BK219.out 1).trans rfl
      have hfz45_0 := bF BK219.out 0
      have hfz45_1 := bF BK219.out 1
      have hnb46 := NB218_216.out
      have hnc46 := NB216_218.out
      have hnb47 := NB218_217.out
      have hnc47 := NB217_218.out
      have hcz48_0 : wc.cell? ⟨gb218, 0, none⟩ = some (.int .i64 0) := (bC BK218.out 0).trans rfl
      have hcz48_1 : wc.cell? ⟨gb218, 1, none⟩ = some (.int .i64 0) := (bC BK218.out 1).trans rfl
      have hfz48_0 := bF BK218.out 0
      have hfz48_1 := bF BK218.out 1
      go_wp2
      refine bodyPost_ret (results_ct rfl _ _ gb218 40 #[.int .i64 0, .int .i64 0] (0, 0) _ rfl (by (with_reducible repeat (first | refine bN ?_ _ | refine bD ?_ | refine bA ?_ _)); refine bU (cs := #[.int .i64 0, .int .i64 0]) ?_ 1 _ rfl; (with_reducible repeat (first | refine bN ?_ _ | refine bD ?_ | refine bA ?_ _)); refine bU (cs := #[.int .i64 0, .int .i64 0]) ?_ 0 _ rfl; (with_reducible repeat (first | refine bN ?_ _ | refine bD ?_ | refine bA ?_ _)); exact BK218.out) Try.underlying40 rfl (by kernel_rfl)) rfl ?_
      exact ⟨by first | rfl | (simp [errW_none, errW_some] <;> rfl) | (simp [*, errW_none, errW_some] <;> rfl), by repeat (first | (with_reducible first | exact HB.out | apply bL | apply bW | apply b1 | refine bS ?_ GE216.out | refine bS ?_ GE217.out | refine bS ?_ GE218.out | refine bS ?_ GE219.out) | exact HB.out)⟩
     ·
      rw [if_neg c41] at H; have c41b0 : decide (x220001_24 < x220000_2) = false := decide_eq_false c41
      clear c41; simp only [Option.some.injEq, Prod.mk.injEq] at H; obtain ⟨rfl, rfl, rfl⟩ := H
      have hnb49 := NB219_216.out
      have hnc49 := NB216_219.out
      have hnb50 := NB219_217.out
      have hnc50 := NB217_219.out
      have hnb51 := NB219_218.out
      have hnc51 := NB218_219.out
      have hcz52_0 : wc.cell? ⟨gb219, 0, none⟩ = some (.int .i64 x220000_2) := (bC BK219.out 0).trans rfl
      have hcz52_1 : wc.cell? ⟨gb219, 1, none⟩ = some (.int .i64 x220001_24) := (bC BK219.out 1).trans rfl
      have hfz52_0 := bF BK219.out 0
      have hfz52_1 := bF BK219.out 1
      have hnb53 := NB218_216.out
      have hnc53 := NB216_218.out
      have hnb54 := NB218_217.out
      have hnc54 := NB217_218.out
      have hcz55_0 : wc.cell? ⟨gb218, 0, none⟩ = some (.int .i64 0) := (bC BK218.out 0).trans rfl
      have hcz55_1 : wc.cell? ⟨gb218, 1, none⟩ = some (.int .i64 0) := (bC BK218.out 1).trans rfl
      have hfz55_0 := bF BK218.out 0
      have hfz55_1 := bF BK218.out 1
      go_wp2
      refine bodyPost_ret (results_ct rfl _ _ gb218 40 #[.int .i64 x220000_2, .int .i64 x220001_24] (0, 0) _ rfl (by (with_reducible repeat (first | refine bN ?_ _ | refine bD ?_ | refine bA ?_ _)); refine bU (cs := #[.int .i64 x220000_2, .int .i64 0]) ?_ 1 _ rfl; (with_reducible repeat (first | refine bN ?_ _ | refine bD ?_ | refine bA ?_ _)); refine bU (cs := #[.int .i64 0, .int .i64 0]) ?_ 0 _ rfl; (with_reducible repeat (first | refine bN ?_ _ | refine bD ?_ | refine bA ?_ _)); exact BK218.out) Try.underlying40 rfl (by kernel_rfl)) rfl ?_
      exact ⟨by first | rfl | (simp [errW_none, errW_some] <;> rfl) | (simp [*, errW_none, errW_some] <;> rfl), by repeat (first | (with_reducible first | exact HB.out | apply bL | apply bW | apply b1 | refine bS ?_ GE216.out | refine bS ?_ GE217.out | refine bS ?_ GE218.out | refine bS ?_ GE219.out) | exact HB.out)⟩
end Go.Proofs.Ytpklgbnihgljmaa.Fn
