-- written by this session's program myprint.py out of the translation; Lean checks it
import Derived.Test.YtpklgbnihgljmaaFn0
import Derived.Test.YtpklgbnihgljmaaFn1
namespace Go.Proofs.Ytpklgbnihgljmaa.Fn
open Go.RowKit Go.Proofs.YtpklgbnihgljmaaW.PrintWords Go.Proofs.YtpklgbnihgljmaaW.PrintLast Go.Proofs.YtpklgbnihgljmaaW.PrintMore
open World renaming block_lt_of_cell? → wL
open Bool renaming true → T, false → F
open List renaming setIfInBounds_toArray → lA, set_cons_zero → lZ, set_cons_succ → lS
open Go.Proofs.YtpklgbnihgljmaaW.PrintWords renaming blk_drewN → bN, blk_drew → bD, blk_alloc → bA, below_set → bS, blk_cell → bC, blk_below → bB, blk_frozen → bF, pw_below_drewN → bW, below_drew1 → b1, below_alloc → bL, below_step → bP, below_size → bZ, blk_lt → bT
attribute [local go_sem] max2_int min2_int max_two min_two max_three min_three max_four min_four
set_option linter.unusedVariables false
set_option linter.unusedSimpArgs false
attribute [local go_sem high] eqA40
mutual
def bournelaw26_few.j0 : Nat → Bool → ByteArray → List ByteArray → Int → List (S56) → List (S104) → List (S106) → List (S67) → List (S108) → List (S110) → List Int → Int → Option (Bool)
 | 0, _, _, _, _, _, _, _, _, _, _, _, _ => none
 | k + 1, x21, x201000, x201001, x201002, x201003, x201004, x201005, x201006, x201007, x201008, x201009, x201010 => if x21 = true then (some false) else (bournelaw26_few.l0 k 0 x201000 x201001 x201002 x201003 x201004 x201005 x201006 x201007 x201008 x201009 x201010)
def bournelaw26_few.l0 : Nat → Int → ByteArray → List ByteArray → Int → List (S56) → List (S104) → List (S106) → List (S67) → List (S108) → List (S110) → List Int → Int → Option (Bool)
 | 0, _, _, _, _, _, _, _, _, _, _, _, _ => none
 | k + 1, x7, x201000, x201001, x201002, x201003, x201004, x201005, x201006, x201007, x201008, x201009, x201010 => if x7 < (x201003.length : Int) then (if 0 ≤ x7 then (if (((rd_T56 x201003 x7).f11).length : Int) > 70 then (some false) else (bournelaw26_few.l0 k (wrap64 (x7 + 1)) x201000 x201001 x201002 x201003 x201004 x201005 x201006 x201007 x201008 x201009 x201010)) else (none)) else (some true)
end
def bournelaw26_few.f (k : Nat) (a0_0 : ByteArray) (l0_1 : List ByteArray) (a0_2 : Int) (l0_3 : List (S56)) (l0_4 : List (S104)) (l0_5 : List (S106)) (l0_6 : List (S67)) (l0_7 : List (S108)) (l0_8 : List (S110)) (l0_9 : List Int) (a0_10 : Int) (l1 : List (S50)) (l2 : List (S40)) : Option (Bool) := if (l0_3.length : Int) > 70 then (bournelaw26_few.j0 k true a0_0 l0_1 a0_2 l0_3 l0_4 l0_5 l0_6 l0_7 l0_8 l0_9 a0_10) else (if (l1.length : Int) > 60 then (bournelaw26_few.j0 k true a0_0 l0_1 a0_2 l0_3 l0_4 l0_5 l0_6 l0_7 l0_8 l0_9 a0_10) else (bournelaw26_few.j0 k (decide ((l2.length : Int) > 100)) a0_0 l0_1 a0_2 l0_3 l0_4 l0_5 l0_6 l0_7 l0_8 l0_9 a0_10))
theorem bournelaw26_few.mono_l : ∀ k, (∀ y0 y1 y2 y3 y4 y5 y6 y7 y8 y9 y10 y11, LeO (bournelaw26_few.j0 k y0 y1 y2 y3 y4 y5 y6 y7 y8 y9 y10 y11) (bournelaw26_few.j0 (k + 1) y0 y1 y2 y3 y4 y5 y6 y7 y8 y9 y10 y11)) ∧ (∀ y0 y1 y2 y3 y4 y5 y6 y7 y8 y9 y10 y11, LeO (bournelaw26_few.l0 k y0 y1 y2 y3 y4 y5 y6 y7 y8 y9 y10 y11) (bournelaw26_few.l0 (k + 1) y0 y1 y2 y3 y4 y5 y6 y7 y8 y9 y10 y11))
 | 0 => ⟨fun _ _ _ _ _ _ _ _ _ _ _ _ r h => by simp [bournelaw26_few.j0] at h, fun _ _ _ _ _ _ _ _ _ _ _ _ r h => by simp [bournelaw26_few.l0] at h⟩
 | k + 1 => by
  obtain ⟨ih0, ih1⟩ := bournelaw26_few.mono_l k
  refine ⟨?_, ?_⟩
  ·
   intro y0 y1 y2 y3 y4 y5 y6 y7 y8 y9 y10 y11; unfold bournelaw26_few.j0
   repeat' first
   | (with_reducible exact ih0 _ _ _ _ _ _ _ _ _ _ _ _)
   | (with_reducible exact ih1 _ _ _ _ _ _ _ _ _ _ _ _)
   | (with_reducible exact LeO.refl _)
   | (with_reducible exact LeO.none _)
   | (with_reducible refine LeO.ite ?_ ?_)
   | (with_reducible refine LeO.bind ?_ (fun _ => ?_))
   | exact ih0 _ _ _ _ _ _ _ _ _ _ _ _
   | exact ih1 _ _ _ _ _ _ _ _ _ _ _ _
   | exact LeO.none _
   | refine LeO.ite ?_ ?_
   | refine LeO.bind ?_ (fun _ => ?_)
  ·
   intro y0 y1 y2 y3 y4 y5 y6 y7 y8 y9 y10 y11; unfold bournelaw26_few.l0
   repeat' first
   | (with_reducible exact ih0 _ _ _ _ _ _ _ _ _ _ _ _)
   | (with_reducible exact ih1 _ _ _ _ _ _ _ _ _ _ _ _)
   | (with_reducible exact LeO.refl _)
   | (with_reducible exact LeO.none _)
   | (with_reducible refine LeO.ite ?_ ?_)
   | (with_reducible refine LeO.bind ?_ (fun _ => ?_))
   | exact ih0 _ _ _ _ _ _ _ _ _ _ _ _
   | exact ih1 _ _ _ _ _ _ _ _ _ _ _ _
   | exact LeO.none _
   | refine LeO.ite ?_ ?_
   | refine LeO.bind ?_ (fun _ => ?_)
theorem bournelaw26_few.mono : ∀ a0 a1 a2 a3 a4 a5 a6 a7 a8 a9 a10 a11 a12 k, LeO (bournelaw26_few.f k a0 a1 a2 a3 a4 a5 a6 a7 a8 a9 a10 a11 a12) (bournelaw26_few.f (k + 1) a0 a1 a2 a3 a4 a5 a6 a7 a8 a9 a10 a11 a12) := by
 intro a0 a1 a2 a3 a4 a5 a6 a7 a8 a9 a10 a11 a12 k; obtain ⟨ih0, ih1⟩ := bournelaw26_few.mono_l k
 unfold bournelaw26_few.f
 repeat' first
   | (with_reducible exact ih0 _ _ _ _ _ _ _ _ _ _ _ _)
   | (with_reducible exact ih1 _ _ _ _ _ _ _ _ _ _ _ _)
   | (with_reducible exact LeO.refl _)
   | (with_reducible exact LeO.none _)
   | (with_reducible refine LeO.ite ?_ ?_)
   | (with_reducible refine LeO.bind ?_ (fun _ => ?_))
   | exact ih0 _ _ _ _ _ _ _ _ _ _ _ _
   | exact ih1 _ _ _ _ _ _ _ _ _ _ _ _
   | exact LeO.none _
   | refine LeO.ite ?_ ?_
   | refine LeO.bind ?_ (fun _ => ?_)
set_option maxHeartbeats 8000000 in
set_option maxRecDepth 100000 in
theorem bournelaw26_few.calls (k : Nat) (a0_0 : ByteArray) (A0_1 : Option Addr) (c0_1 : Nat) (l0_1 : List ByteArray) (a0_2 : Int) (A0_3 : Option Addr) (c0_3 : Nat) (l0_3 : List (S56)) (A0_4 : Option Addr) (c0_4 : Nat) (l0_4 : List (S104)) (A0_5 : Option Addr) (c0_5 : Nat) (l0_5 : List (S106)) (A0_6 : Option Addr) (c0_6 : Nat) (l0_6 : List (S67)) (A0_7 : Option Addr) (c0_7 : Nat) (l0_7 : List (S108)) (A0_8 : Option Addr) (c0_8 : Nat) (l0_8 : List (S110)) (A0_9 : Option Addr) (c0_9 : Nat) (l0_9 : List Int) (a0_10 : Int) (A1 : Option Addr) (c1 : Nat) (l1 : List (S50)) (A2 : Option Addr) (c2 : Nat) (l2 : List (S40)) (r : Bool) (w : World) (hr0_1 : Kd.C Kd.string w A0_1 l0_1.length l0_1) (hc0_1 : l0_1.length ≤ c0_1) (hr0_3 : Kd.C k56 w A0_3 l0_3.length l0_3) (hc0_3 : l0_3.length ≤ c0_3) (hr0_4 : Kd.C k104 w A0_4 l0_4.length l0_4) (hc0_4 : l0_4.length ≤ c0_4) (hr0_5 : Kd.C k106 w A0_5 l0_5.length l0_5) (hc0_5 : l0_5.length ≤ c0_5) (hr0_6 : Kd.C k67 w A0_6 l0_6.length l0_6) (hc0_6 : l0_6.length ≤ c0_6) (hr0_7 : Kd.C k108 w A0_7 l0_7.length l0_7) (hc0_7 : l0_7.length ≤ c0_7) (hr0_8 : Kd.C k110 w A0_8 l0_8.length l0_8) (hc0_8 : l0_8.length ≤ c0_8) (hr0_9 : Kd.C (Kd.int .i64) w A0_9 l0_9.length l0_9) (hc0_9 : l0_9.length ≤ c0_9) (hr1 : Kd.C k50 w A1 l1.length l1) (hc1 : l1.length ≤ c1) (hr2 : Kd.C k40 w A2 l2.length l2) (hc2 : l2.length ≤ c2) (h : bournelaw26_few.f k a0_0 l0_1 a0_2 l0_3 l0_4 l0_5 l0_6 l0_7 l0_8 l0_9 a0_10 l1 l2 = some r) :
  Calls Try.prog 9 #[.agg #[.string a0_0, .slice A0_1 l0_1.length c0_1, .int .i64 a0_2, .slice A0_3 l0_3.length c0_3, .slice A0_4 l0_4.length c0_4, .slice A0_5 l0_5.length c0_5, .slice A0_6 l0_6.length c0_6, .slice A0_7 l0_7.length c0_7, .slice A0_8 l0_8.length c0_8, .slice A0_9 l0_9.length c0_9, .int .i64 a0_10], .slice A1 l1.length c1, .slice A2 l2.length c2] w fun e w' => e = .returned (.bool r) ∧ Below w.heap.size w w' := by
 have hu31 := Try.underlying31
 have HR0_1 := Aside0.mk hr0_1
 have HC0_1 := Aside0.mk hc0_1
 clear hr0_1 hc0_1; have HR0_3 := Aside0.mk hr0_3
 have HC0_3 := Aside0.mk hc0_3
 clear hr0_3 hc0_3; have HR0_4 := Aside0.mk hr0_4
 have HC0_4 := Aside0.mk hc0_4
 clear hr0_4 hc0_4; have HR0_5 := Aside0.mk hr0_5
 have HC0_5 := Aside0.mk hc0_5
 clear hr0_5 hc0_5; have HR0_6 := Aside0.mk hr0_6
 have HC0_6 := Aside0.mk hc0_6
 clear hr0_6 hc0_6; have HR0_7 := Aside0.mk hr0_7
 have HC0_7 := Aside0.mk hc0_7
 clear hr0_7 hc0_7; have HR0_8 := Aside0.mk hr0_8
 have HC0_8 := Aside0.mk hc0_8
 clear hr0_8 hc0_8; have HR0_9 := Aside0.mk hr0_9
 have HC0_9 := Aside0.mk hc0_9
 clear hr0_9 hc0_9; have HR1 := Aside0.mk hr1
 have HC1 := Aside0.mk hc1
 clear hr1 hc1; have HR2 := Aside0.mk hr2
 have HC2 := Aside0.mk hc2
 clear hr2 hc2; have HB := Aside0.mk (Below.refl w.heap.size w)
 have H : (if (l0_3.length : Int) > 70 then (bournelaw26_few.j0 k true a0_0 l0_1 a0_2 l0_3 l0_4 l0_5 l0_6 l0_7 l0_8 l0_9 a0_10) else (if (l1.length : Int) > 60 then (bournelaw26_few.j0 k true a0_0 l0_1 a0_2 l0_3 l0_4 l0_5 l0_6 l0_7 l0_8 l0_9 a0_10) else (bournelaw26_few.j0 k (decide ((l2.length : Int) > 100)) a0_0 l0_1 a0_2 l0_3 l0_4 l0_5 l0_6 l0_7 l0_8 l0_9 a0_10))) = some r := h
 clear h; have HC4 := Aside0.mk H
 clear H; go_enter Try.func9, Try.ntmps9
 go_upto_region 1 with (first | ((with_reducible refine gate_dst (N := 3) rfl ?_); (try (refine gate_guard (by rfl) ?_; dsimp only)); refine box_event ?hg (N := 3) ?hd (cs := #[.string a0_0, .slice A0_1 l0_1.length c0_1, .int .i64 a0_2, .slice A0_3 l0_3.length c0_3, .slice A0_4 l0_4.length c0_4, .slice A0_5 l0_5.length c0_5, .slice A0_6 l0_6.length c0_6, .slice A0_7 l0_7.length c0_7, .slice A0_8 l0_8.length c0_8, .slice A0_9 l0_9.length c0_9, .int .i64 a0_10]) (t := 31) ?hr ?_; (case hd => rfl); (case hg => rfl); (case hr => first | (go_simp; done) | (go_simp; rfl)); intro gb200 hg w5 hbox hb; have n0_ := Aside0.mk (bP (by repeat (first | (with_reducible first | exact HB.out | apply bL | apply bW | apply b1) | exact HB.out)) hb); have n1_ := Aside0.mk (hbox); have n2_ := Aside0.mk ((by rw [hg]; exact (bZ (by repeat (first | (with_reducible first | exact HB.out | apply bL | apply bW | apply b1) | exact HB.out))) : w.heap.size ≤ gb200)); have n3_ := Aside0.mk ((by rw [hg]; exact (bZ (by repeat (first | (with_reducible first | exact HB.out | apply bL | apply bW | apply b1) | exact HB.out))) : w.heap.size ≤ gb200)); clear HB; have HB := n0_; have BK200 := n1_; have GW200 := n2_; have GE200 := n3_; clear n0_ n1_ n2_ n3_; clear hb hbox hg))
 (try simp only [Act.put, lA, lZ, lS]); go_cut [21] (fun v21 wc => ∃ (kq : Nat) (x21_3 : Bool), v21 = .bool x21_3 ∧ Aside0 (bournelaw26_few.j0 kq x21_3 a0_0 l0_1 a0_2 l0_3 l0_4 l0_5 l0_6 l0_7 l0_8 l0_9 a0_10 = some r) ∧ Aside0 (kq ≤ k) ∧ Aside0 (wc.heap[gb200]? = some (.cells #[.string a0_0, (.slice A0_1 l0_1.length c0_1), .int .i64 a0_2, (.slice A0_3 l0_3.length c0_3), (.slice A0_4 l0_4.length c0_4), (.slice A0_5 l0_5.length c0_5), (.slice A0_6 l0_6.length c0_6), (.slice A0_7 l0_7.length c0_7), (.slice A0_8 l0_8.length c0_8), (.slice A0_9 l0_9.length c0_9), .int .i64 a0_10] 31 (0, 0))) ∧ Aside0 (Below w.heap.size w wc))
 case first =>
  have H := HC4.out
  clear HC4; by_cases c6 : (l0_3.length : Int) > 70
  ·
   rw [if_pos c6] at H; have c6b0 : decide (70 < (l0_3.length : Int)) = true := decide_eq_true c6
   have c6b1 : decide (70 < l0_3.length) = true := decide_eq_true (by omega)
   clear c6; (first | rw [c6b0] | (simp only [i64_w, i32_w]; rw [c6b0]) | skip)
   have H' := Aside0.mk H
   clear H; have hcz7_0 : w5.cell? ⟨gb200, 0, none⟩ = some (.string a0_0) := (bC BK200.out 0).trans rfl
   have hcz7_1 : w5.cell? ⟨gb200, 1, none⟩ = some (.slice A0_1 l0_1.length c0_1) := (bC BK200.out 1).trans rfl
   have hcz7_2 : w5.cell? ⟨gb200, 2, none⟩ = some (.int .i64 a0_2) := (bC BK200.out 2).trans rfl
   have hcz7_3 : w5.cell? ⟨gb200, 3, none⟩ = some (.slice A0_3 l0_3.length c0_3) := (bC BK200.out 3).trans rfl
   have hcz7_4 : w5.cell? ⟨gb200, 4, none⟩ = some (.slice A0_4 l0_4.length c0_4) := (bC BK200.out 4).trans rfl
   have hcz7_5 : w5.cell? ⟨gb200, 5, none⟩ = some (.slice A0_5 l0_5.length c0_5) := (bC BK200.out 5).trans rfl
   have hcz7_6 : w5.cell? ⟨gb200, 6, none⟩ = some (.slice A0_6 l0_6.length c0_6) := (bC BK200.out 6).trans rfl
   have hcz7_7 : w5.cell? ⟨gb200, 7, none⟩ = some (.slice A0_7 l0_7.length c0_7) := (bC BK200.out 7).trans rfl
   have hcz7_8 : w5.cell? ⟨gb200, 8, none⟩ = some (.slice A0_8 l0_8.length c0_8) := (bC BK200.out 8).trans rfl
   have hcz7_9 : w5.cell? ⟨gb200, 9, none⟩ = some (.slice A0_9 l0_9.length c0_9) := (bC BK200.out 9).trans rfl
   have hcz7_10 : w5.cell? ⟨gb200, 10, none⟩ = some (.int .i64 a0_10) := (bC BK200.out 10).trans rfl
   have hfz7_0 := bF BK200.out 0
   have hfz7_1 := bF BK200.out 1
   have hfz7_2 := bF BK200.out 2
   have hfz7_3 := bF BK200.out 3
   have hfz7_4 := bF BK200.out 4
   have hfz7_5 := bF BK200.out 5
   have hfz7_6 := bF BK200.out 6
   have hfz7_7 := bF BK200.out 7
   have hfz7_8 := bF BK200.out 8
   have hfz7_9 := bF BK200.out 9
   have hfz7_10 := bF BK200.out 10
   go_wp2
   go_meet
   case rel => exact ⟨_, (true), (by first | rfl | (simp; done) | (simp [*]; done)), H', ⟨by first | omega | exact Nat.le_refl _⟩, ⟨by (with_reducible repeat (first | refine bN ?_ _ | refine bD ?_ | refine bA ?_ _)); exact BK200.out⟩, ⟨by repeat (first | (with_reducible first | exact HB.out | apply bL | apply bW | apply b1 | refine bS ?_ GE200.out) | exact HB.out)⟩⟩
  ·
   rw [if_neg c6] at H; have c6b0 : decide (70 < (l0_3.length : Int)) = false := decide_eq_false c6
   have c6b1 : decide (70 < l0_3.length) = false := decide_eq_false (by omega)
   clear c6; (first | rw [c6b0] | (simp only [i64_w, i32_w]; rw [c6b0]) | skip)
   by_cases c8 : (l1.length : Int) > 60
   ·
    rw [if_pos c8] at H; have c8b0 : decide (60 < (l1.length : Int)) = true := decide_eq_true c8
    have c8b1 : decide (60 < l1.length) = true := decide_eq_true (by omega)
    clear c8; have H' := Aside0.mk H
    clear H; have hcz9_0 : w5.cell? ⟨gb200, 0, none⟩ = some (.string a0_0) := (bC BK200.out 0).trans rfl
    have hcz9_1 : w5.cell? ⟨gb200, 1, none⟩ = some (.slice A0_1 l0_1.length c0_1) := (bC BK200.out 1).trans rfl
    have hcz9_2 : w5.cell? ⟨gb200, 2, none⟩ = some (.int .i64 a0_2) := (bC BK200.out 2).trans rfl
    have hcz9_3 : w5.cell? ⟨gb200, 3, none⟩ = some (.slice A0_3 l0_3.length c0_3) := (bC BK200.out 3).trans rfl
    have hcz9_4 : w5.cell? ⟨gb200, 4, none⟩ = some (.slice A0_4 l0_4.length c0_4) := (bC BK200.out 4).trans rfl
    have hcz9_5 : w5.cell? ⟨gb200, 5, none⟩ = some (.slice A0_5 l0_5.length c0_5) := (bC BK200.out 5).trans rfl
    have hcz9_6 : w5.cell? ⟨gb200, 6, none⟩ = some (.slice A0_6 l0_6.length c0_6) := (bC BK200.out 6).trans rfl
    have hcz9_7 : w5.cell? ⟨gb200, 7, none⟩ = some (.slice A0_7 l0_7.length c0_7) := (bC BK200.out 7).trans rfl
    have hcz9_8 : w5.cell? ⟨gb200, 8, none⟩ = some (.slice A0_8 l0_8.length c0_8) := (bC BK200.out 8).trans rfl
    have hcz9_9 : w5.cell? ⟨gb200, 9, none⟩ = some (.slice A0_9 l0_9.length c0_9) := (bC BK200.out 9).trans rfl
    have hcz9_10 : w5.cell? ⟨gb200, 10, none⟩ = some (.int .i64 a0_10) := (bC BK200.out 10).trans rfl
    have hfz9_0 := bF BK200.out 0
    have hfz9_1 := bF BK200.out 1
    have hfz9_2 := bF BK200.out 2
    have hfz9_3 := bF BK200.out 3
    have hfz9_4 := bF BK200.out 4
    have hfz9_5 := bF BK200.out 5
    have hfz9_6 := bF BK200.out 6
    have hfz9_7 := bF BK200.out 7
    have hfz9_8 := bF BK200.out 8
    have hfz9_9 := bF BK200.out 9
    have hfz9_10 := bF BK200.out 10
    go_wp2
    go_meet
    case rel => exact ⟨_, (true), (by first | rfl | (simp; done) | (simp [*]; done)), H', ⟨by first | omega | exact Nat.le_refl _⟩, ⟨by (with_reducible repeat (first | refine bN ?_ _ | refine bD ?_ | refine bA ?_ _)); exact BK200.out⟩, ⟨by repeat (first | (with_reducible first | exact HB.out | apply bL | apply bW | apply b1 | refine bS ?_ GE200.out) | exact HB.out)⟩⟩
   ·
    rw [if_neg c8] at H; have c8b0 : decide (60 < (l1.length : Int)) = false := decide_eq_false c8
    have c8b1 : decide (60 < l1.length) = false := decide_eq_false (by omega)
    clear c8; have H' := Aside0.mk H
    clear H; have hcz10_0 : w5.cell? ⟨gb200, 0, none⟩ = some (.string a0_0) := (bC BK200.out 0).trans rfl
    have hcz10_1 : w5.cell? ⟨gb200, 1, none⟩ = some (.slice A0_1 l0_1.length c0_1) := (bC BK200.out 1).trans rfl
    have hcz10_2 : w5.cell? ⟨gb200, 2, none⟩ = some (.int .i64 a0_2) := (bC BK200.out 2).trans rfl
    have hcz10_3 : w5.cell? ⟨gb200, 3, none⟩ = some (.slice A0_3 l0_3.length c0_3) := (bC BK200.out 3).trans rfl
    have hcz10_4 : w5.cell? ⟨gb200, 4, none⟩ = some (.slice A0_4 l0_4.length c0_4) := (bC BK200.out 4).trans rfl
    have hcz10_5 : w5.cell? ⟨gb200, 5, none⟩ = some (.slice A0_5 l0_5.length c0_5) := (bC BK200.out 5).trans rfl
    have hcz10_6 : w5.cell? ⟨gb200, 6, none⟩ = some (.slice A0_6 l0_6.length c0_6) := (bC BK200.out 6).trans rfl
    have hcz10_7 : w5.cell? ⟨gb200, 7, none⟩ = some (.slice A0_7 l0_7.length c0_7) := (bC BK200.out 7).trans rfl
    have hcz10_8 : w5.cell? ⟨gb200, 8, none⟩ = some (.slice A0_8 l0_8.length c0_8) := (bC BK200.out 8).trans rfl
    have hcz10_9 : w5.cell? ⟨gb200, 9, none⟩ = some (.slice A0_9 l0_9.length c0_9) := (bC BK200.out 9).trans rfl
    have hcz10_10 : w5.cell? ⟨gb200, 10, none⟩ = some (.int .i64 a0_10) := (bC BK200.out 10).trans rfl
    have hfz10_0 := bF BK200.out 0
    have hfz10_1 := bF BK200.out 1
    have hfz10_2 := bF BK200.out 2
    have hfz10_3 := bF BK200.out 3
    have hfz10_4 := bF BK200.out 4
    have hfz10_5 := bF BK200.out 5
    have hfz10_6 := bF BK200.out 6
    have hfz10_7 := bF BK200.out 7
    have hfz10_8 := bF BK200.out 8
    have hfz10_9 := bF BK200.out 9
    have hfz10_10 := bF BK200.out 10
    go_wp2
    go_meet
    case rel => exact ⟨_, (decide ((l2.length : Int) > 100)), (by first | rfl | (simp; done) | (simp [*]; done)), H', ⟨by first | omega | exact Nat.le_refl _⟩, ⟨by (with_reducible repeat (first | refine bN ?_ _ | refine bD ?_ | refine bA ?_ _)); exact BK200.out⟩, ⟨by repeat (first | (with_reducible first | exact HB.out | apply bL | apply bW | apply b1 | refine bS ?_ GE200.out) | exact HB.out)⟩⟩
 case rest =>
  clear HC4; try clear c1
  try clear c2
  try clear p2
  try clear c6
  try clear c6b0
  try clear c6b1
  try clear c8
  try clear c8b0
  try clear c8b1
  try clear c9
  try clear hcz10_0
  try clear hcz10_1
  try clear hcz10_10
  try clear hcz10_2
  try clear hcz10_3
  try clear hcz10_4
  try clear hcz10_5
  try clear hcz10_6
  try clear hcz10_7
  try clear hcz10_8
  try clear hcz10_9
  try clear hcz7_0
  try clear hcz7_1
  try clear hcz7_10
  try clear hcz7_2
  try clear hcz7_3
  try clear hcz7_4
  try clear hcz7_5
  try clear hcz7_6
  try clear hcz7_7
  try clear hcz7_8
  try clear hcz7_9
  try clear hcz9_0
  try clear hcz9_1
  try clear hcz9_10
  try clear hcz9_2
  try clear hcz9_3
  try clear hcz9_4
  try clear hcz9_5
  try clear hcz9_6
  try clear hcz9_7
  try clear hcz9_8
  try clear hcz9_9
  try clear hfz10_0
  try clear hfz10_1
  try clear hfz10_10
  try clear hfz10_2
  try clear hfz10_3
  try clear hfz10_4
  try clear hfz10_5
  try clear hfz10_6
  try clear hfz10_7
  try clear hfz10_8
  try clear hfz10_9
  try clear hfz7_0
  try clear hfz7_1
  try clear hfz7_10
  try clear hfz7_2
  try clear hfz7_3
  try clear hfz7_4
  try clear hfz7_5
  try clear hfz7_6
  try clear hfz7_7
  try clear hfz7_8
  try clear hfz7_9
  try clear hfz9_0
  try clear hfz9_1
  try clear hfz9_10
  try clear hfz9_2
  try clear hfz9_3
  try clear hfz9_4
  try clear hfz9_5
  try clear hfz9_6
  try clear hfz9_7
  try clear hfz9_8
  try clear hfz9_9
  obtain ⟨kq, x21_3, rfl, HA, HJ3, BK200, HB⟩ := hcut
  cases kq with
  | zero => exact absurd HA.out (by simp [bournelaw26_few.j0])
  | succ kj3 =>
   have H := HA.out
   clear HA; simp only [bournelaw26_few.j0] at H; by_cases c11 : x21_3 = true
   ·
    subst c11; have H1 : (some false) = some r := by rw [if_pos rfl] at H; exact H
    clear H; have H := H1
    clear H1; obtain rfl := Option.some.inj H
    go_wp2
    go_ret
    exact ⟨by first | rfl | (simp [errW_none, errW_some] <;> rfl) | (simp [*, errW_none, errW_some] <;> rfl), by repeat (first | (with_reducible first | exact HB.out | apply bL | apply bW | apply b1 | refine bS ?_ GE200.out) | exact HB.out)⟩
   ·
    replace c11 := Bool.eq_false_iff.mpr c11
    subst c11; have H1 : (bournelaw26_few.l0 kj3 0 a0_0 l0_1 a0_2 l0_3 l0_4 l0_5 l0_6 l0_7 l0_8 l0_9 a0_10) = some r := by rw [if_neg (show ¬ (false = true) by decide)] at H; exact H
    clear H; have H := H1
    clear H1; have H' := Aside0.mk H
    clear H; go_wp2
    go_loopg [7] kj3 (fun kq v7 w' => ∃ (x7_2 : Int), v7 = .int .i64 x7_2 ∧ Aside0 (bournelaw26_few.l0 kq x7_2 a0_0 l0_1 a0_2 l0_3 l0_4 l0_5 l0_6 l0_7 l0_8 l0_9 a0_10 = some r) ∧ Aside0 (kq ≤ kj3) ∧ Aside0 (w'.heap[gb200]? = some (.cells #[.string a0_0, (.slice A0_1 l0_1.length c0_1), .int .i64 a0_2, (.slice A0_3 l0_3.length c0_3), (.slice A0_4 l0_4.length c0_4), (.slice A0_5 l0_5.length c0_5), (.slice A0_6 l0_6.length c0_6), (.slice A0_7 l0_7.length c0_7), (.slice A0_8 l0_8.length c0_8), (.slice A0_9 l0_9.length c0_9), .int .i64 a0_10] 31 (0, 0))) ∧ Aside0 (Below w.heap.size w w'))
    case atStart => exact ⟨(0), (by first | rfl | (simp; done) | (simp [*]; done)), H', ⟨Nat.le_refl _⟩, ⟨by (with_reducible repeat (first | refine bN ?_ _ | refine bD ?_ | refine bA ?_ _)); exact BK200.out⟩, ⟨by repeat (first | (with_reducible first | exact HB.out | apply bL | apply bW | apply b1 | refine bS ?_ GE200.out) | exact HB.out)⟩⟩
    case round =>
     clear H'; try clear c1
     try clear c2
     try clear p2
     try clear c6
     try clear c6b0
     try clear c6b1
     try clear c8
     try clear c8b0
     try clear c8b1
     try clear c9
     try clear c11
     try clear hcz10_0
     try clear hcz10_1
     try clear hcz10_10
     try clear hcz10_2
     try clear hcz10_3
     try clear hcz10_4
     try clear hcz10_5
     try clear hcz10_6
     try clear hcz10_7
     try clear hcz10_8
     try clear hcz10_9
     try clear hcz7_0
     try clear hcz7_1
     try clear hcz7_10
     try clear hcz7_2
     try clear hcz7_3
     try clear hcz7_4
     try clear hcz7_5
     try clear hcz7_6
     try clear hcz7_7
     try clear hcz7_8
     try clear hcz7_9
     try clear hcz9_0
     try clear hcz9_1
     try clear hcz9_10
     try clear hcz9_2
     try clear hcz9_3
     try clear hcz9_4
     try clear hcz9_5
     try clear hcz9_6
     try clear hcz9_7
     try clear hcz9_8
     try clear hcz9_9
     try clear hfz10_0
     try clear hfz10_1
     try clear hfz10_10
     try clear hfz10_2
     try clear hfz10_3
     try clear hfz10_4
     try clear hfz10_5
     try clear hfz10_6
     try clear hfz10_7
     try clear hfz10_8
     try clear hfz10_9
     try clear hfz7_0
     try clear hfz7_1
     try clear hfz7_10
     try clear hfz7_2
     try clear hfz7_3
     try clear hfz7_4
     try clear hfz7_5
     try clear hfz7_6
     try clear hfz7_7
     try clear hfz7_8
     try clear hfz7_9
     try clear hfz9_0
     try clear hfz9_1
     try clear hfz9_10
     try clear hfz9_2
     try clear hfz9_3
     try clear hfz9_4
     try clear hfz9_5
     try clear hfz9_6
     try clear hfz9_7
     try clear hfz9_8
     try clear hfz9_9
     try clear p2
     obtain ⟨x7_2, rfl, HA, HK2, BK200, HB⟩ := hrel
     cases gk with
     | zero => exact absurd HA.out (by simp [bournelaw26_few.l0])
     | succ k2 =>
      have H := HA.out
      clear HA; simp only [bournelaw26_few.l0] at H; by_cases c12 : x7_2 < (l0_3.length : Int)
      ·
       rw [if_pos c12] at H; have c12b0 : decide (x7_2 < (l0_3.length : Int)) = true := decide_eq_true c12
       clear c12; by_cases c13 : 0 ≤ x7_2
       ·
        rw [if_pos c13] at H; have c13b0 : decide (0 ≤ x7_2) = true := decide_eq_true c13
        clear c13; by_cases c14 : (((rd_T56 l0_3 x7_2).f11).length : Int) > 70
        ·
         rw [if_pos c14] at H; have c14b0 : decide (70 < (((rd_T56 l0_3 x7_2).f11).length : Int)) = true := decide_eq_true c14
         have c14b1 : decide (70 < ((rd_T56 l0_3 x7_2).f11).length) = true := decide_eq_true (by omega)
         clear c14; obtain rfl := Option.some.inj H
         have hcz15_0 : wr.cell? ⟨gb200, 0, none⟩ = some (.string a0_0) := (bC BK200.out 0).trans rfl
         have hcz15_1 : wr.cell? ⟨gb200, 1, none⟩ = some (.slice A0_1 l0_1.length c0_1) := (bC BK200.out 1).trans rfl
         have hcz15_2 : wr.cell? ⟨gb200, 2, none⟩ = some (.int .i64 a0_2) := (bC BK200.out 2).trans rfl
         have hcz15_3 : wr.cell? ⟨gb200, 3, none⟩ = some (.slice A0_3 l0_3.length c0_3) := (bC BK200.out 3).trans rfl
         have hcz15_4 : wr.cell? ⟨gb200, 4, none⟩ = some (.slice A0_4 l0_4.length c0_4) := (bC BK200.out 4).trans rfl
         have hcz15_5 : wr.cell? ⟨gb200, 5, none⟩ = some (.slice A0_5 l0_5.length c0_5) := (bC BK200.out 5).trans rfl
         have hcz15_6 : wr.cell? ⟨gb200, 6, none⟩ = some (.slice A0_6 l0_6.length c0_6) := (bC BK200.out 6).trans rfl
         have hcz15_7 : wr.cell? ⟨gb200, 7, none⟩ = some (.slice A0_7 l0_7.length c0_7) := (bC BK200.out 7).trans rfl
         have hcz15_8 : wr.cell? ⟨gb200, 8, none⟩ = some (.slice A0_8 l0_8.length c0_8) := (bC BK200.out 8).trans rfl
         have hcz15_9 : wr.cell? ⟨gb200, 9, none⟩ = some (.slice A0_9 l0_9.length c0_9) := (bC BK200.out 9).trans rfl
         have hcz15_10 : wr.cell? ⟨gb200, 10, none⟩ = some (.int .i64 a0_10) := (bC BK200.out 10).trans rfl
         have hfz15_0 := bF BK200.out 0
         have hfz15_1 := bF BK200.out 1
         have hfz15_2 := bF BK200.out 2
         have hfz15_3 := bF BK200.out 3
         have hfz15_4 := bF BK200.out 4
         have hfz15_5 := bF BK200.out 5
         have hfz15_6 := bF BK200.out 6
         have hfz15_7 := bF BK200.out 7
         have hfz15_8 := bF BK200.out 8
         have hfz15_9 := bF BK200.out 9
         have hfz15_10 := bF BK200.out 10
         have p201 : 0 ≤ (x7_2 : Int) := of_decide_eq_true (by first | (with_reducible assumption) | assumption)
         have q201 : x7_2 < (l0_3.length : Int) := of_decide_eq_true (by first | (with_reducible assumption) | assumption)
         obtain ⟨ad201, A201_4, c201_4, A201_5, c201_5, A201_11, c201_11, e201, hx201_0, hx201_1, hx201_2, hx201_3, hx201_4, hx201_5, hx201_6, hx201_7, hx201_8, hx201_9, hx201_10, hx201_11, hl201_4, hi201_4, hl201_5, hi201_5, hl201_11, hi201_11⟩ := at_T56 HR0_3.out x7_2 p201 q201
         cases e201
         replace hx201_0 := (HB.out.cell (wL w _ hx201_0)).trans hx201_0
         replace hx201_1 := (HB.out.cell (wL w _ hx201_1)).trans hx201_1
         replace hx201_2 := (HB.out.cell (wL w _ hx201_2)).trans hx201_2
         replace hx201_3 := (HB.out.cell (wL w _ hx201_3)).trans hx201_3
         replace hx201_4 := (HB.out.cell (wL w _ hx201_4)).trans hx201_4
         replace hx201_5 := (HB.out.cell (wL w _ hx201_5)).trans hx201_5
         replace hx201_6 := (HB.out.cell (wL w _ hx201_6)).trans hx201_6
         replace hx201_7 := (HB.out.cell (wL w _ hx201_7)).trans hx201_7
         replace hx201_8 := (HB.out.cell (wL w _ hx201_8)).trans hx201_8
         replace hx201_9 := (HB.out.cell (wL w _ hx201_9)).trans hx201_9
         replace hx201_10 := (HB.out.cell (wL w _ hx201_10)).trans hx201_10
         replace hx201_11 := (HB.out.cell (wL w _ hx201_11)).trans hx201_11
         have HR201_4 := Aside0.mk hi201_4
         have HC201_4 := Aside0.mk hl201_4
         clear hi201_4 hl201_4; have HR201_5 := Aside0.mk hi201_5
         have HC201_5 := Aside0.mk hl201_5
         clear hi201_5 hl201_5; have HR201_11 := Aside0.mk hi201_11
         have HC201_11 := Aside0.mk hl201_11
         clear hi201_11 hl201_11; replace p201 := eq_true p201
         replace q201 := eq_true q201
         go_wp2
         go_ret
         exact ⟨by first | rfl | (simp [errW_none, errW_some] <;> rfl) | (simp [*, errW_none, errW_some] <;> rfl), by repeat (first | (with_reducible first | exact HB.out | apply bL | apply bW | apply b1 | refine bS ?_ GE200.out) | exact HB.out)⟩
        ·
         rw [if_neg c14] at H; have c14b0 : decide (70 < (((rd_T56 l0_3 x7_2).f11).length : Int)) = false := decide_eq_false c14
         have c14b1 : decide (70 < ((rd_T56 l0_3 x7_2).f11).length) = false := decide_eq_false (by omega)
         clear c14; have H' := Aside0.mk H
         clear H; have hcz16_0 : wr.cell? ⟨gb200, 0, none⟩ = some (.string a0_0) := (bC BK200.out 0).trans rfl
         have hcz16_1 : wr.cell? ⟨gb200, 1, none⟩ = some (.slice A0_1 l0_1.length c0_1) := (bC BK200.out 1).trans rfl
         have hcz16_2 : wr.cell? ⟨gb200, 2, none⟩ = some (.int .i64 a0_2) := (bC BK200.out 2).trans rfl
         have hcz16_3 : wr.cell? ⟨gb200, 3, none⟩ = some (.slice A0_3 l0_3.length c0_3) := (bC BK200.out 3).trans rfl
         have hcz16_4 : wr.cell? ⟨gb200, 4, none⟩ = some (.slice A0_4 l0_4.length c0_4) := (bC BK200.out 4).trans rfl
         have hcz16_5 : wr.cell? ⟨gb200, 5, none⟩ = some (.slice A0_5 l0_5.length c0_5) := (bC BK200.out 5).trans rfl
         have hcz16_6 : wr.cell? ⟨gb200, 6, none⟩ = some (.slice A0_6 l0_6.length c0_6) := (bC BK200.out 6).trans rfl
         have hcz16_7 : wr.cell? ⟨gb200, 7, none⟩ = some (.slice A0_7 l0_7.length c0_7) := (bC BK200.out 7).trans rfl
         have hcz16_8 : wr.cell? ⟨gb200, 8, none⟩ = some (.slice A0_8 l0_8.length c0_8) := (bC BK200.out 8).trans rfl
         have hcz16_9 : wr.cell? ⟨gb200, 9, none⟩ = some (.slice A0_9 l0_9.length c0_9) := (bC BK200.out 9).trans rfl
         have hcz16_10 : wr.cell? ⟨gb200, 10, none⟩ = some (.int .i64 a0_10) := (bC BK200.out 10).trans rfl
         have hfz16_0 := bF BK200.out 0
         have hfz16_1 := bF BK200.out 1
         have hfz16_2 := bF BK200.out 2
         have hfz16_3 := bF BK200.out 3
         have hfz16_4 := bF BK200.out 4
         have hfz16_5 := bF BK200.out 5
         have hfz16_6 := bF BK200.out 6
         have hfz16_7 := bF BK200.out 7
         have hfz16_8 := bF BK200.out 8
         have hfz16_9 := bF BK200.out 9
         have hfz16_10 := bF BK200.out 10
         have p201 : 0 ≤ (x7_2 : Int) := of_decide_eq_true (by first | (with_reducible assumption) | assumption)
         have q201 : x7_2 < (l0_3.length : Int) := of_decide_eq_true (by first | (with_reducible assumption) | assumption)
         obtain ⟨ad201, A201_4, c201_4, A201_5, c201_5, A201_11, c201_11, e201, hx201_0, hx201_1, hx201_2, hx201_3, hx201_4, hx201_5, hx201_6, hx201_7, hx201_8, hx201_9, hx201_10, hx201_11, hl201_4, hi201_4, hl201_5, hi201_5, hl201_11, hi201_11⟩ := at_T56 HR0_3.out x7_2 p201 q201
         cases e201
         replace hx201_0 := (HB.out.cell (wL w _ hx201_0)).trans hx201_0
         replace hx201_1 := (HB.out.cell (wL w _ hx201_1)).trans hx201_1
         replace hx201_2 := (HB.out.cell (wL w _ hx201_2)).trans hx201_2
         replace hx201_3 := (HB.out.cell (wL w _ hx201_3)).trans hx201_3
         replace hx201_4 := (HB.out.cell (wL w _ hx201_4)).trans hx201_4
         replace hx201_5 := (HB.out.cell (wL w _ hx201_5)).trans hx201_5
         replace hx201_6 := (HB.out.cell (wL w _ hx201_6)).trans hx201_6
         replace hx201_7 := (HB.out.cell (wL w _ hx201_7)).trans hx201_7
         replace hx201_8 := (HB.out.cell (wL w _ hx201_8)).trans hx201_8
         replace hx201_9 := (HB.out.cell (wL w _ hx201_9)).trans hx201_9
         replace hx201_10 := (HB.out.cell (wL w _ hx201_10)).trans hx201_10
         replace hx201_11 := (HB.out.cell (wL w _ hx201_11)).trans hx201_11
         have HR201_4 := Aside0.mk hi201_4
         have HC201_4 := Aside0.mk hl201_4
         clear hi201_4 hl201_4; have HR201_5 := Aside0.mk hi201_5
         have HC201_5 := Aside0.mk hl201_5
         clear hi201_5 hl201_5; have HR201_11 := Aside0.mk hi201_11
         have HC201_11 := Aside0.mk hl201_11
         clear hi201_11 hl201_11; replace p201 := eq_true p201
         replace q201 := eq_true q201
         go_wp2
         go_roundg k2
         case measure => have := HJ3.out; have := HK2.out; omega
         case rel => exact ⟨(wrap64 (x7_2 + 1)), (by first | rfl | (simp; done) | (simp [*]; done)), H', ⟨by have := HJ3.out; have := HK2.out; omega⟩, ⟨by (with_reducible repeat (first | refine bN ?_ _ | refine bD ?_ | refine bA ?_ _)); exact BK200.out⟩, ⟨by repeat (first | (with_reducible first | exact HB.out | apply bL | apply bW | apply b1 | refine bS ?_ GE200.out) | exact HB.out)⟩⟩
       ·
        rw [if_neg c13] at H; exact absurd H (by simp)
      ·
       rw [if_neg c12] at H; have c12b0 : decide (x7_2 < (l0_3.length : Int)) = false := decide_eq_false c12
       clear c12; obtain rfl := Option.some.inj H
       have hcz17_0 : wr.cell? ⟨gb200, 0, none⟩ = some (.string a0_0) := (bC BK200.out 0).trans rfl
       have hcz17_1 : wr.cell? ⟨gb200, 1, none⟩ = some (.slice A0_1 l0_1.length c0_1) := (bC BK200.out 1).trans rfl
       have hcz17_2 : wr.cell? ⟨gb200, 2, none⟩ = some (.int .i64 a0_2) := (bC BK200.out 2).trans rfl
       have hcz17_3 : wr.cell? ⟨gb200, 3, none⟩ = some (.slice A0_3 l0_3.length c0_3) := (bC BK200.out 3).trans rfl
       have hcz17_4 : wr.cell? ⟨gb200, 4, none⟩ = some (.slice A0_4 l0_4.length c0_4) := (bC BK200.out 4).trans rfl
       have hcz17_5 : wr.cell? ⟨gb200, 5, none⟩ = some (.slice A0_5 l0_5.length c0_5) := (bC BK200.out 5).trans rfl
       have hcz17_6 : wr.cell? ⟨gb200, 6, none⟩ = some (.slice A0_6 l0_6.length c0_6) := (bC BK200.out 6).trans rfl
       have hcz17_7 : wr.cell? ⟨gb200, 7, none⟩ = some (.slice A0_7 l0_7.length c0_7) := (bC BK200.out 7).trans rfl
       have hcz17_8 : wr.cell? ⟨gb200, 8, none⟩ = some (.slice A0_8 l0_8.length c0_8) := (bC BK200.out 8).trans rfl
       have hcz17_9 : wr.cell? ⟨gb200, 9, none⟩ = some (.slice A0_9 l0_9.length c0_9) := (bC BK200.out 9).trans rfl
       have hcz17_10 : wr.cell? ⟨gb200, 10, none⟩ = some (.int .i64 a0_10) := (bC BK200.out 10).trans rfl
       have hfz17_0 := bF BK200.out 0
       have hfz17_1 := bF BK200.out 1
       have hfz17_2 := bF BK200.out 2
       have hfz17_3 := bF BK200.out 3
       have hfz17_4 := bF BK200.out 4
       have hfz17_5 := bF BK200.out 5
       have hfz17_6 := bF BK200.out 6
       have hfz17_7 := bF BK200.out 7
       have hfz17_8 := bF BK200.out 8
       have hfz17_9 := bF BK200.out 9
       have hfz17_10 := bF BK200.out 10
       go_wp2
       go_ret
       exact ⟨by first | rfl | (simp [errW_none, errW_some] <;> rfl) | (simp [*, errW_none, errW_some] <;> rfl), by repeat (first | (with_reducible first | exact HB.out | apply bL | apply bW | apply b1 | refine bS ?_ GE200.out) | exact HB.out)⟩
def bourneref09_SameAll.l0 : Nat → List (S40) → List (S40) → Int → Option (Bool)
 | 0, _, _, _ => none
 | k + 1, x0, x1, x5 => if x5 < (x0.length : Int) then (if 0 ≤ x5 then (if x5 < (x1.length : Int) then (if (!(((rd_T40 x0 x5).f0) == ((rd_T40 x1 x5).f0)) || (!(((rd_T40 x0 x5).f1) == ((rd_T40 x1 x5).f1)))) = true then (some false) else (bourneref09_SameAll.l0 k x0 x1 (wrap64 (x5 + 1)))) else (none)) else (none)) else (some true)
def bourneref09_SameAll.f (k : Nat) (l0 : List (S40)) (l1 : List (S40)) : Option (Bool) := if (l0.length : Int) = (l1.length : Int) then (bourneref09_SameAll.l0 k l0 l1 0) else (some false)
theorem bourneref09_SameAll.mono_l : ∀ k, (∀ y0 y1 y2, LeO (bourneref09_SameAll.l0 k y0 y1 y2) (bourneref09_SameAll.l0 (k + 1) y0 y1 y2))
 | 0 => fun _ _ _ r h => by simp [bourneref09_SameAll.l0] at h
 | k + 1 => by
  have ih0 := bourneref09_SameAll.mono_l k
  ·
   intro y0 y1 y2; unfold bourneref09_SameAll.l0
   repeat' first
   | (with_reducible exact ih0 _ _ _)
   | (with_reducible exact LeO.refl _)
   | (with_reducible exact LeO.none _)
   | (with_reducible refine LeO.ite ?_ ?_)
   | (with_reducible refine LeO.bind ?_ (fun _ => ?_))
   | exact ih0 _ _ _
   | exact LeO.none _
   | refine LeO.ite ?_ ?_
   | refine LeO.bind ?_ (fun _ => ?_)
theorem bourneref09_SameAll.mono : ∀ a0 a1 k, LeO (bourneref09_SameAll.f k a0 a1) (bourneref09_SameAll.f (k + 1) a0 a1) := by
 intro a0 a1 k; have ih0 := bourneref09_SameAll.mono_l k
 unfold bourneref09_SameAll.f
 repeat' first
   | (with_reducible exact ih0 _ _ _)
   | (with_reducible exact LeO.refl _)
   | (with_reducible exact LeO.none _)
   | (with_reducible refine LeO.ite ?_ ?_)
   | (with_reducible refine LeO.bind ?_ (fun _ => ?_))
   | exact ih0 _ _ _
   | exact LeO.none _
   | refine LeO.ite ?_ ?_
   | refine LeO.bind ?_ (fun _ => ?_)
set_option maxHeartbeats 8000000 in
set_option maxRecDepth 100000 in
theorem bourneref09_SameAll.calls (k : Nat) (A0 : Option Addr) (c0 : Nat) (l0 : List (S40)) (A1 : Option Addr) (c1 : Nat) (l1 : List (S40)) (r : Bool) (w : World) (hr0 : Kd.C k40 w A0 l0.length l0) (hc0 : l0.length ≤ c0) (hr1 : Kd.C k40 w A1 l1.length l1) (hc1 : l1.length ≤ c1) (h : bourneref09_SameAll.f k l0 l1 = some r) :
  Calls Try.prog 10 #[.slice A0 l0.length c0, .slice A1 l1.length c1] w fun e w' => e = .returned (.bool r) ∧ Drawn0 w w' := by
 have hu40 := Try.underlying40
 have HR0 := Aside0.mk hr0
 have HC0 := Aside0.mk hc0
 clear hr0 hc0; have HR1 := Aside0.mk hr1
 have HC1 := Aside0.mk hc1
 clear hr1 hc1; have H : (if (l0.length : Int) = (l1.length : Int) then (bourneref09_SameAll.l0 k l0 l1 0) else (some false)) = some r := h
 clear h; by_cases c3 : (l0.length : Int) = (l1.length : Int)
 ·
  rw [if_pos c3] at H; have c3b0 : ((l0.length : Int) == (l1.length : Int)) = true := beq_iff_eq.mpr c3
  have c3b1 : ((l0.length : Int) != (l1.length : Int)) = false := bne_eq_false_iff_eq.mpr c3
  have c3b2 : (l0.length == l1.length) = true := by first | simpa using c3 | (simp at c3 ⊢; omega)
  clear c3; have H' := Aside0.mk H
  clear H; go_enter Try.func10, Try.ntmps10
  go_wp2
  repeat (go_quiet (fail); try go_wp2)
  go_loopg [5] k (fun kq v5 w' => ∃ (x5_1 : Int), v5 = .int .i64 x5_1 ∧ Aside0 (bourneref09_SameAll.l0 kq l0 l1 x5_1 = some r) ∧ Aside0 (kq ≤ k) ∧ Drawn0 w w')
  case atStart => exact ⟨(0), (by first | rfl | (simp; done) | (simp [*]; done)), H', ⟨Nat.le_refl _⟩, by repeat (first | exact Drawn0.refl _ | apply Drawn0.step)⟩
  case round =>
   clear H'; try clear c1
   try clear p2
   try clear c3
   try clear c3b0
   try clear c3b1
   try clear c3b2
   obtain ⟨x5_1, rfl, HA, HK1, ⟨m1, rfl⟩⟩ := hrel
   cases gk with
   | zero => exact absurd HA.out (by simp [bourneref09_SameAll.l0])
   | succ k1 =>
    have H := HA.out
    clear HA; simp only [bourneref09_SameAll.l0] at H; by_cases c4 : x5_1 < (l0.length : Int)
    ·
     rw [if_pos c4] at H; have c4b0 : decide (x5_1 < (l0.length : Int)) = true := decide_eq_true c4
     clear c4; by_cases c5 : 0 ≤ x5_1
     ·
      rw [if_pos c5] at H; have c5b0 : decide (0 ≤ x5_1) = true := decide_eq_true c5
      clear c5; by_cases c6 : x5_1 < (l1.length : Int)
      ·
       rw [if_pos c6] at H; have c6b0 : decide (x5_1 < (l1.length : Int)) = true := decide_eq_true c6
       clear c6; by_cases c7 : (!(((rd_T40 l0 x5_1).f0) == ((rd_T40 l1 x5_1).f0)) || (!(((rd_T40 l0 x5_1).f1) == ((rd_T40 l1 x5_1).f1)))) = true
       ·
        rw [if_pos c7] at H; have c7b0 : (!(((rd_T40 l0 x5_1).f0) == ((rd_T40 l1 x5_1).f0)) || (!(((rd_T40 l0 x5_1).f1) == ((rd_T40 l1 x5_1).f1)))) = true := c7
        clear c7; obtain rfl := Option.some.inj H
        have p202 : 0 ≤ (x5_1 : Int) := of_decide_eq_true (by first | (with_reducible assumption) | assumption)
        have q202 : x5_1 < (l0.length : Int) := of_decide_eq_true (by first | (with_reducible assumption) | assumption)
        obtain ⟨ad202, e202, hx202_0, hx202_1⟩ := at_T40 HR0.out x5_1 p202 q202
        cases e202
        replace p202 := eq_true p202
        replace q202 := eq_true q202
        have p203 : 0 ≤ (x5_1 : Int) := of_decide_eq_true (by first | (with_reducible assumption) | assumption)
        have q203 : x5_1 < (l1.length : Int) := of_decide_eq_true (by first | (with_reducible assumption) | assumption)
        obtain ⟨ad203, e203, hx203_0, hx203_1⟩ := at_T40 HR1.out x5_1 p203 q203
        cases e203
        replace p203 := eq_true p203
        replace q203 := eq_true q203
        go_wp2
        repeat (go_quiet (fail); try go_wp2)
        go_ret
        exact ⟨by first | rfl | (simp; done) | (simp [*]; done), by repeat (first | exact Drawn0.refl _ | apply Drawn0.step)⟩
       ·
        rw [if_neg c7] at H; have c7b0 : (!(((rd_T40 l0 x5_1).f0) == ((rd_T40 l1 x5_1).f0)) || (!(((rd_T40 l0 x5_1).f1) == ((rd_T40 l1 x5_1).f1)))) = false := by simpa using c7
        clear c7; have H' := Aside0.mk H
        clear H; have p202 : 0 ≤ (x5_1 : Int) := of_decide_eq_true (by first | (with_reducible assumption) | assumption)
        have q202 : x5_1 < (l0.length : Int) := of_decide_eq_true (by first | (with_reducible assumption) | assumption)
        obtain ⟨ad202, e202, hx202_0, hx202_1⟩ := at_T40 HR0.out x5_1 p202 q202
        cases e202
        replace p202 := eq_true p202
        replace q202 := eq_true q202
        have p203 : 0 ≤ (x5_1 : Int) := of_decide_eq_true (by first | (with_reducible assumption) | assumption)
        have q203 : x5_1 < (l1.length : Int) := of_decide_eq_true (by first | (with_reducible assumption) | assumption)
        obtain ⟨ad203, e203, hx203_0, hx203_1⟩ := at_T40 HR1.out x5_1 p203 q203
        cases e203
        replace p203 := eq_true p203
        replace q203 := eq_true q203
        go_wp2
        repeat (go_quiet (fail); try go_wp2)
        go_roundg k1
        case measure => have := HK1.out; omega
        case rel => exact ⟨(wrap64 (x5_1 + 1)), (by first | rfl | (simp; done) | (simp [*]; done)), H', ⟨by have := HK1.out; omega⟩, by repeat (first | exact Drawn0.refl _ | apply Drawn0.step)⟩
      ·
       rw [if_neg c6] at H; exact absurd H (by simp)
     ·
      rw [if_neg c5] at H; exact absurd H (by simp)
    ·
     rw [if_neg c4] at H; have c4b0 : decide (x5_1 < (l0.length : Int)) = false := decide_eq_false c4
     clear c4; obtain rfl := Option.some.inj H
     go_wp2
     repeat (go_quiet (fail); try go_wp2)
     go_ret
     exact ⟨by first | rfl | (simp; done) | (simp [*]; done), by repeat (first | exact Drawn0.refl _ | apply Drawn0.step)⟩
 ·
  rw [if_neg c3] at H; have c3b0 : ((l0.length : Int) == (l1.length : Int)) = false := beq_eq_false_iff_ne.mpr c3
  have c3b1 : ((l0.length : Int) != (l1.length : Int)) = true := bne_iff_ne.mpr c3
  have c3b2 : (l0.length == l1.length) = false := by first | simpa using c3 | (simp at c3 ⊢; omega)
  obtain rfl := Option.some.inj H
  go_enter Try.func10, Try.ntmps10
  go_wp2
  repeat (go_quiet (fail); try go_wp2)
  go_ret
  exact ⟨by first | rfl | (simp; done) | (simp [*]; done), by repeat (first | exact Drawn0.refl _ | apply Drawn0.step)⟩
def bourneref26_Of.f (a0_0 : ByteArray) (l0_1 : List ByteArray) (a0_2 : Int) (l0_3 : List (S56)) (l0_4 : List (S104)) (l0_5 : List (S106)) (l0_6 : List (S67)) (l0_7 : List (S108)) (l0_8 : List (S110)) (l0_9 : List Int) (a0_10 : Int) (a1_0 : Int) (a1_1 : Int) (a1_2 : Int) (a1_3 : Int) (a2 : Int) : Option (Bool) := if a1_0 < 0 then (some false) else (if a1_0 ≥ (l0_6.length : Int) then (some false) else (if 0 ≤ a1_0 then (if a1_0 < (l0_6.length : Int) then (if ((rd_T67 l0_6 a1_0).f1) = 1 then (some (((rd_T67 l0_6 a1_0).f2) == a2)) else (some false)) else (none)) else (none)))
set_option maxHeartbeats 8000000 in
set_option maxRecDepth 100000 in
theorem bourneref26_Of.calls (a0_0 : ByteArray) (A0_1 : Option Addr) (c0_1 : Nat) (l0_1 : List ByteArray) (a0_2 : Int) (A0_3 : Option Addr) (c0_3 : Nat) (l0_3 : List (S56)) (A0_4 : Option Addr) (c0_4 : Nat) (l0_4 : List (S104)) (A0_5 : Option Addr) (c0_5 : Nat) (l0_5 : List (S106)) (A0_6 : Option Addr) (c0_6 : Nat) (l0_6 : List (S67)) (A0_7 : Option Addr) (c0_7 : Nat) (l0_7 : List (S108)) (A0_8 : Option Addr) (c0_8 : Nat) (l0_8 : List (S110)) (A0_9 : Option Addr) (c0_9 : Nat) (l0_9 : List Int) (a0_10 : Int) (a1_0 : Int) (a1_1 : Int) (a1_2 : Int) (a1_3 : Int) (a2 : Int) (r : Bool) (w : World) (hr0_1 : Kd.C Kd.string w A0_1 l0_1.length l0_1) (hc0_1 : l0_1.length ≤ c0_1) (hr0_3 : Kd.C k56 w A0_3 l0_3.length l0_3) (hc0_3 : l0_3.length ≤ c0_3) (hr0_4 : Kd.C k104 w A0_4 l0_4.length l0_4) (hc0_4 : l0_4.length ≤ c0_4) (hr0_5 : Kd.C k106 w A0_5 l0_5.length l0_5) (hc0_5 : l0_5.length ≤ c0_5) (hr0_6 : Kd.C k67 w A0_6 l0_6.length l0_6) (hc0_6 : l0_6.length ≤ c0_6) (hr0_7 : Kd.C k108 w A0_7 l0_7.length l0_7) (hc0_7 : l0_7.length ≤ c0_7) (hr0_8 : Kd.C k110 w A0_8 l0_8.length l0_8) (hc0_8 : l0_8.length ≤ c0_8) (hr0_9 : Kd.C (Kd.int .i64) w A0_9 l0_9.length l0_9) (hc0_9 : l0_9.length ≤ c0_9) (h : bourneref26_Of.f a0_0 l0_1 a0_2 l0_3 l0_4 l0_5 l0_6 l0_7 l0_8 l0_9 a0_10 a1_0 a1_1 a1_2 a1_3 a2 = some r) :
  Calls Try.prog 21 #[.agg #[.string a0_0, .slice A0_1 l0_1.length c0_1, .int .i64 a0_2, .slice A0_3 l0_3.length c0_3, .slice A0_4 l0_4.length c0_4, .slice A0_5 l0_5.length c0_5, .slice A0_6 l0_6.length c0_6, .slice A0_7 l0_7.length c0_7, .slice A0_8 l0_8.length c0_8, .slice A0_9 l0_9.length c0_9, .int .i64 a0_10], .agg #[.int .i64 a1_0, .int .i64 a1_1, .int .i64 a1_2, .int .i64 a1_3], .int .i64 a2] w fun e w' => e = .returned (.bool r) ∧ Below w.heap.size w w' := by
 have hu31 := Try.underlying31
 have hu50 := Try.underlying50
 have HR0_1 := Aside0.mk hr0_1
 have HC0_1 := Aside0.mk hc0_1
 clear hr0_1 hc0_1; have HR0_3 := Aside0.mk hr0_3
 have HC0_3 := Aside0.mk hc0_3
 clear hr0_3 hc0_3; have HR0_4 := Aside0.mk hr0_4
 have HC0_4 := Aside0.mk hc0_4
 clear hr0_4 hc0_4; have HR0_5 := Aside0.mk hr0_5
 have HC0_5 := Aside0.mk hc0_5
 clear hr0_5 hc0_5; have HR0_6 := Aside0.mk hr0_6
 have HC0_6 := Aside0.mk hc0_6
 clear hr0_6 hc0_6; have HR0_7 := Aside0.mk hr0_7
 have HC0_7 := Aside0.mk hc0_7
 clear hr0_7 hc0_7; have HR0_8 := Aside0.mk hr0_8
 have HC0_8 := Aside0.mk hc0_8
 clear hr0_8 hc0_8; have HR0_9 := Aside0.mk hr0_9
 have HC0_9 := Aside0.mk hc0_9
 clear hr0_9 hc0_9; have HB := Aside0.mk (Below.refl w.heap.size w)
 have H : (if a1_0 < 0 then (some false) else (if a1_0 ≥ (l0_6.length : Int) then (some false) else (if 0 ≤ a1_0 then (if a1_0 < (l0_6.length : Int) then (if ((rd_T67 l0_6 a1_0).f1) = 1 then (some (((rd_T67 l0_6 a1_0).f2) == a2)) else (some false)) else (none)) else (none)))) = some r := h
 clear h; by_cases c4 : a1_0 < 0
 ·
  rw [if_pos c4] at H; have c4b0 : decide (a1_0 < 0) = true := decide_eq_true c4
  clear c4; obtain rfl := Option.some.inj H
  go_enter Try.func21, Try.ntmps21
  go_wp2_with (first | ((with_reducible refine gate_dst (N := 3) rfl ?_); (try (refine gate_guard (by rfl) ?_; dsimp only)); refine box_event ?hg (N := 3) ?hd (cs := #[.string a0_0, .slice A0_1 l0_1.length c0_1, .int .i64 a0_2, .slice A0_3 l0_3.length c0_3, .slice A0_4 l0_4.length c0_4, .slice A0_5 l0_5.length c0_5, .slice A0_6 l0_6.length c0_6, .slice A0_7 l0_7.length c0_7, .slice A0_8 l0_8.length c0_8, .slice A0_9 l0_9.length c0_9, .int .i64 a0_10]) (t := 31) ?hr ?_; (case hd => rfl); (case hg => rfl); (case hr => first | (go_simp; done) | (go_simp; rfl)); intro gb204 hg w5 hbox hb; have n0_ := Aside0.mk (bP (by repeat (first | (with_reducible first | exact HB.out | apply bL | apply bW | apply b1) | exact HB.out)) hb); have n1_ := Aside0.mk (hbox); have n2_ := Aside0.mk ((by rw [hg]; exact (bZ (by repeat (first | (with_reducible first | exact HB.out | apply bL | apply bW | apply b1) | exact HB.out))) : w.heap.size ≤ gb204)); have n3_ := Aside0.mk ((by rw [hg]; exact (bZ (by repeat (first | (with_reducible first | exact HB.out | apply bL | apply bW | apply b1) | exact HB.out))) : w.heap.size ≤ gb204)); clear HB; have HB := n0_; have BK204 := n1_; have GW204 := n2_; have GE204 := n3_; clear n0_ n1_ n2_ n3_; clear hb hbox hg) | ((with_reducible refine gate_dst (N := 4) rfl ?_); (try (refine gate_guard (by rfl) ?_; dsimp only)); refine box_event ?hg (N := 4) ?hd (cs := #[.int .i64 a1_0, .int .i64 a1_1, .int .i64 a1_2, .int .i64 a1_3]) (t := 50) ?hr ?_; (case hd => rfl); (case hg => rfl); (case hr => first | (go_simp; done) | (go_simp; rfl)); intro gb205 hg w6 hbox hb; have n0_ := Aside0.mk (bB (g := gb204) (o := .cells #[.string a0_0, .slice A0_1 l0_1.length c0_1, .int .i64 a0_2, .slice A0_3 l0_3.length c0_3, .slice A0_4 l0_4.length c0_4, .slice A0_5 l0_5.length c0_5, .slice A0_6 l0_6.length c0_6, .slice A0_7 l0_7.length c0_7, .slice A0_8 l0_8.length c0_8, .slice A0_9 l0_9.length c0_9, .int .i64 a0_10] 31 (0, 0)) (by (with_reducible repeat (first | refine bN ?_ _ | refine bD ?_ | refine bA ?_ _)); exact BK204.out) hb); have n1_ := Aside0.mk (bP (by repeat (first | (with_reducible first | exact HB.out | apply bL | apply bW | apply b1 | refine bS ?_ GE204.out) | exact HB.out)) hb); have n2_ := Aside0.mk (hbox); have n3_ := Aside0.mk ((by rw [hg]; exact (bZ (by repeat (first | (with_reducible first | exact HB.out | apply bL | apply bW | apply b1 | refine bS ?_ GE204.out) | exact HB.out))) : w.heap.size ≤ gb205)); have n4_ := Aside0.mk ((by rw [hg]; exact (bZ (by repeat (first | (with_reducible first | exact HB.out | apply bL | apply bW | apply b1 | refine bS ?_ GE204.out) | exact HB.out))) : w.heap.size ≤ gb205)); have n5_ := Aside0.mk ((by rw [hg]; exact Nat.ne_of_lt (bT (g := gb204) (o := .cells #[.string a0_0, .slice A0_1 l0_1.length c0_1, .int .i64 a0_2, .slice A0_3 l0_3.length c0_3, .slice A0_4 l0_4.length c0_4, .slice A0_5 l0_5.length c0_5, .slice A0_6 l0_6.length c0_6, .slice A0_7 l0_7.length c0_7, .slice A0_8 l0_8.length c0_8, .slice A0_9 l0_9.length c0_9, .int .i64 a0_10] 31 (0, 0)) (by (with_reducible repeat (first | refine bN ?_ _ | refine bD ?_ | refine bA ?_ _)); exact BK204.out)) : gb204 ≠ gb205)); have n6_ := Aside0.mk ((by rw [hg]; exact Nat.ne_of_gt (bT (g := gb204) (o := .cells #[.string a0_0, .slice A0_1 l0_1.length c0_1, .int .i64 a0_2, .slice A0_3 l0_3.length c0_3, .slice A0_4 l0_4.length c0_4, .slice A0_5 l0_5.length c0_5, .slice A0_6 l0_6.length c0_6, .slice A0_7 l0_7.length c0_7, .slice A0_8 l0_8.length c0_8, .slice A0_9 l0_9.length c0_9, .int .i64 a0_10] 31 (0, 0)) (by (with_reducible repeat (first | refine bN ?_ _ | refine bD ?_ | refine bA ?_ _)); exact BK204.out)) : gb205 ≠ gb204)); clear BK204; clear HB; have BK204 := n0_; have HB := n1_; have BK205 := n2_; have GW205 := n3_; have GE205 := n4_; have NB204_205 := n5_; have NB205_204 := n6_; clear n0_ n1_ n2_ n3_ n4_ n5_ n6_; clear hb hbox hg; have hnb7 := NB205_204.out; have hnc7 := NB204_205.out; have hcz8_0 : w6.cell? ⟨gb205, 0, none⟩ = some (.int .i64 a1_0) := (bC BK205.out 0).trans rfl; have hcz8_1 : w6.cell? ⟨gb205, 1, none⟩ = some (.int .i64 a1_1) := (bC BK205.out 1).trans rfl; have hcz8_2 : w6.cell? ⟨gb205, 2, none⟩ = some (.int .i64 a1_2) := (bC BK205.out 2).trans rfl; have hcz8_3 : w6.cell? ⟨gb205, 3, none⟩ = some (.int .i64 a1_3) := (bC BK205.out 3).trans rfl; have hfz8_0 := bF BK205.out 0; have hfz8_1 := bF BK205.out 1; have hfz8_2 := bF BK205.out 2; have hfz8_3 := bF BK205.out 3))
  go_ret
  exact ⟨by first | rfl | (simp [errW_none, errW_some] <;> rfl) | (simp [*, errW_none, errW_some] <;> rfl), by repeat (first | (with_reducible first | exact HB.out | apply bL | apply bW | apply b1 | refine bS ?_ GE204.out | refine bS ?_ GE205.out) | exact HB.out)⟩
 ·
  rw [if_neg c4] at H; have c4b0 : decide (a1_0 < 0) = false := decide_eq_false c4
  clear c4; by_cases c9 : a1_0 ≥ (l0_6.length : Int)
  ·
   rw [if_pos c9] at H; have c9b0 : decide ((l0_6.length : Int) ≤ a1_0) = true := decide_eq_true c9
   clear c9; obtain rfl := Option.some.inj H
   go_enter Try.func21, Try.ntmps21
   go_wp2_with (first | ((with_reducible refine gate_dst (N := 3) rfl ?_); (try (refine gate_guard (by rfl) ?_; dsimp only)); refine box_event ?hg (N := 3) ?hd (cs := #[.string a0_0, .slice A0_1 l0_1.length c0_1, .int .i64 a0_2, .slice A0_3 l0_3.length c0_3, .slice A0_4 l0_4.length c0_4, .slice A0_5 l0_5.length c0_5, .slice A0_6 l0_6.length c0_6, .slice A0_7 l0_7.length c0_7, .slice A0_8 l0_8.length c0_8, .slice A0_9 l0_9.length c0_9, .int .i64 a0_10]) (t := 31) ?hr ?_; (case hd => rfl); (case hg => rfl); (case hr => first | (go_simp; done) | (go_simp; rfl)); intro gb204 hg w10 hbox hb; have n0_ := Aside0.mk (bP (by repeat (first | (with_reducible first | exact HB.out | apply bL | apply bW | apply b1) | exact HB.out)) hb); have n1_ := Aside0.mk (hbox); have n2_ := Aside0.mk ((by rw [hg]; exact (bZ (by repeat (first | (with_reducible first | exact HB.out | apply bL | apply bW | apply b1) | exact HB.out))) : w.heap.size ≤ gb204)); have n3_ := Aside0.mk ((by rw [hg]; exact (bZ (by repeat (first | (with_reducible first | exact HB.out | apply bL | apply bW | apply b1) | exact HB.out))) : w.heap.size ≤ gb204)); clear HB; have HB := n0_; have BK204 := n1_; have GW204 := n2_; have GE204 := n3_; clear n0_ n1_ n2_ n3_; clear hb hbox hg) | ((with_reducible refine gate_dst (N := 4) rfl ?_); (try (refine gate_guard (by rfl) ?_; dsimp only)); refine box_event ?hg (N := 4) ?hd (cs := #[.int .i64 a1_0, .int .i64 a1_1, .int .i64 a1_2, .int .i64 a1_3]) (t := 50) ?hr ?_; (case hd => rfl); (case hg => rfl); (case hr => first | (go_simp; done) | (go_simp; rfl)); intro gb205 hg w11 hbox hb; have n0_ := Aside0.mk (bB (g := gb204) (o := .cells #[.string a0_0, .slice A0_1 l0_1.length c0_1, .int .i64 a0_2, .slice A0_3 l0_3.length c0_3, .slice A0_4 l0_4.length c0_4, .slice A0_5 l0_5.length c0_5, .slice A0_6 l0_6.length c0_6, .slice A0_7 l0_7.length c0_7, .slice A0_8 l0_8.length c0_8, .slice A0_9 l0_9.length c0_9, .int .i64 a0_10] 31 (0, 0)) (by (with_reducible repeat (first | refine bN ?_ _ | refine bD ?_ | refine bA ?_ _)); exact BK204.out) hb); have n1_ := Aside0.mk (bP (by repeat (first | (with_reducible first | exact HB.out | apply bL | apply bW | apply b1 | refine bS ?_ GE204.out) | exact HB.out)) hb); have n2_ := Aside0.mk (hbox); have n3_ := Aside0.mk ((by rw [hg]; exact (bZ (by repeat (first | (with_reducible first | exact HB.out | apply bL | apply bW | apply b1 | refine bS ?_ GE204.out) | exact HB.out))) : w.heap.size ≤ gb205)); have n4_ := Aside0.mk ((by rw [hg]; exact (bZ (by repeat (first | (with_reducible first | exact HB.out | apply bL | apply bW | apply b1 | refine bS ?_ GE204.out) | exact HB.out))) : w.heap.size ≤ gb205)); have n5_ := Aside0.mk ((by rw [hg]; exact Nat.ne_of_lt (bT (g := gb204) (o := .cells #[.string a0_0, .slice A0_1 l0_1.length c0_1, .int .i64 a0_2, .slice A0_3 l0_3.length c0_3, .slice A0_4 l0_4.length c0_4, .slice A0_5 l0_5.length c0_5, .slice A0_6 l0_6.length c0_6, .slice A0_7 l0_7.length c0_7, .slice A0_8 l0_8.length c0_8, .slice A0_9 l0_9.length c0_9, .int .i64 a0_10] 31 (0, 0)) (by (with_reducible repeat (first | refine bN ?_ _ | refine bD ?_ | refine bA ?_ _)); exact BK204.out)) : gb204 ≠ gb205)); have n6_ := Aside0.mk ((by rw [hg]; exact Nat.ne_of_gt (bT (g := gb204) (o := .cells #[.string a0_0, .slice A0_1 l0_1.length c0_1, .int .i64 a0_2, .slice A0_3 l0_3.length c0_3, .slice A0_4 l0_4.length c0_4, .slice A0_5 l0_5.length c0_5, .slice A0_6 l0_6.length c0_6, .slice A0_7 l0_7.length c0_7, .slice A0_8 l0_8.length c0_8, .slice A0_9 l0_9.length c0_9, .int .i64 a0_10] 31 (0, 0)) (by (with_reducible repeat (first | refine bN ?_ _ | refine bD ?_ | refine bA ?_ _)); exact BK204.out)) : gb205 ≠ gb204)); clear BK204; clear HB; have BK204 := n0_; have HB := n1_; have BK205 := n2_; have GW205 := n3_; have GE205 := n4_; have NB204_205 := n5_; have NB205_204 := n6_; clear n0_ n1_ n2_ n3_ n4_ n5_ n6_; clear hb hbox hg; have hnb12 := NB205_204.out; have hnc12 := NB204_205.out; have hcz13_0 : w11.cell? ⟨gb205, 0, none⟩ = some (.int .i64 a1_0) := (bC BK205.out 0).trans rfl; have hcz13_1 : w11.cell? ⟨gb205, 1, none⟩ = some (.int .i64 a1_1) := (bC BK205.out 1).trans rfl; have hcz13_2 : w11.cell? ⟨gb205, 2, none⟩ = some (.int .i64 a1_2) := (bC BK205.out 2).trans rfl; have hcz13_3 : w11.cell? ⟨gb205, 3, none⟩ = some (.int .i64 a1_3) := (bC BK205.out 3).trans rfl; have hfz13_0 := bF BK205.out 0; have hfz13_1 := bF BK205.out 1; have hfz13_2 := bF BK205.out 2; have hfz13_3 := bF BK205.out 3; have hcz14_0 : w11.cell? ⟨gb204, 0, none⟩ = some (.string a0_0) := (bC BK204.out 0).trans rfl; have hcz14_1 : w11.cell? ⟨gb204, 1, none⟩ = some (.slice A0_1 l0_1.length c0_1) := (bC BK204.out 1).trans rfl; have hcz14_2 : w11.cell? ⟨gb204, 2, none⟩ = some (.int .i64 a0_2) := (bC BK204.out 2).trans rfl; have hcz14_3 : w11.cell? ⟨gb204, 3, none⟩ = some (.slice A0_3 l0_3.length c0_3) := (bC BK204.out 3).trans rfl; have hcz14_4 : w11.cell? ⟨gb204, 4, none⟩ = some (.slice A0_4 l0_4.length c0_4) := (bC BK204.out 4).trans rfl; have hcz14_5 : w11.cell? ⟨gb204, 5, none⟩ = some (.slice A0_5 l0_5.length c0_5) := (bC BK204.out 5).trans rfl; have hcz14_6 : w11.cell? ⟨gb204, 6, none⟩ = some (.slice A0_6 l0_6.length c0_6) := (bC BK204.out 6).trans rfl; have hcz14_7 : w11.cell? ⟨gb204, 7, none⟩ = some (.slice A0_7 l0_7.length c0_7) := (bC BK204.out 7).trans rfl; have hcz14_8 : w11.cell? ⟨gb204, 8, none⟩ = some (.slice A0_8 l0_8.length c0_8) := (bC BK204.out 8).trans rfl; have hcz14_9 : w11.cell? ⟨gb204, 9, none⟩ = some (.slice A0_9 l0_9.length c0_9) := (bC BK204.out 9).trans rfl; have hcz14_10 : w11.cell? ⟨gb204, 10, none⟩ = some (.int .i64 a0_10) := (bC BK204.out 10).trans rfl; have hfz14_0 := bF BK204.out 0; have hfz14_1 := bF BK204.out 1; have hfz14_2 := bF BK204.out 2; have hfz14_3 := bF BK204.out 3; have hfz14_4 := bF BK204.out 4; have hfz14_5 := bF BK204.out 5; have hfz14_6 := bF BK204.out 6; have hfz14_7 := bF BK204.out 7; have hfz14_8 := bF BK204.out 8; have hfz14_9 := bF BK204.out 9; have hfz14_10 := bF BK204.out 10))
   go_ret
   exact ⟨by first | rfl | (simp [errW_none, errW_some] <;> rfl) | (simp [*, errW_none, errW_some] <;> rfl), by repeat (first | (with_reducible first | exact HB.out | apply bL | apply bW | apply b1 | refine bS ?_ GE204.out | refine bS ?_ GE205.out) | exact HB.out)⟩
  ·
   rw [if_neg c9] at H; have c9b0 : decide ((l0_6.length : Int) ≤ a1_0) = false := decide_eq_false c9
   clear c9; by_cases c15 : 0 ≤ a1_0
   ·
    rw [if_pos c15] at H; have c15b0 : decide (0 ≤ a1_0) = true := decide_eq_true c15
    clear c15; by_cases c16 : a1_0 < (l0_6.length : Int)
    ·
     rw [if_pos c16] at H; have c16b0 : decide (a1_0 < (l0_6.length : Int)) = true := decide_eq_true c16
     clear c16; by_cases c17 : ((rd_T67 l0_6 a1_0).f1) = 1
     ·
      rw [if_pos c17] at H; have c17b0 : (((rd_T67 l0_6 a1_0).f1) == 1) = true := beq_iff_eq.mpr c17
      have c17b1 : (((rd_T67 l0_6 a1_0).f1) != 1) = false := bne_eq_false_iff_eq.mpr c17
      clear c17; obtain rfl := Option.some.inj H
      go_enter Try.func21, Try.ntmps21
      go_wp2_with (first | ((with_reducible refine gate_dst (N := 3) rfl ?_); (try (refine gate_guard (by rfl) ?_; dsimp only)); refine box_event ?hg (N := 3) ?hd (cs := #[.string a0_0, .slice A0_1 l0_1.length c0_1, .int .i64 a0_2, .slice A0_3 l0_3.length c0_3, .slice A0_4 l0_4.length c0_4, .slice A0_5 l0_5.length c0_5, .slice A0_6 l0_6.length c0_6, .slice A0_7 l0_7.length c0_7, .slice A0_8 l0_8.length c0_8, .slice A0_9 l0_9.length c0_9, .int .i64 a0_10]) (t := 31) ?hr ?_; (case hd => rfl); (case hg => rfl); (case hr => first | (go_simp; done) | (go_simp; rfl)); intro gb204 hg w18 hbox hb; have n0_ := Aside0.mk (bP (by repeat (first | (with_reducible first | exact HB.out | apply bL | apply bW | apply b1) | exact HB.out)) hb); have n1_ := Aside0.mk (hbox); have n2_ := Aside0.mk ((by rw [hg]; exact (bZ (by repeat (first | (with_reducible first | exact HB.out | apply bL | apply bW | apply b1) | exact HB.out))) : w.heap.size ≤ gb204)); have n3_ := Aside0.mk ((by rw [hg]; exact (bZ (by repeat (first | (with_reducible first | exact HB.out | apply bL | apply bW | apply b1) | exact HB.out))) : w.heap.size ≤ gb204)); clear HB; have HB := n0_; have BK204 := n1_; have GW204 := n2_; have GE204 := n3_; clear n0_ n1_ n2_ n3_; clear hb hbox hg) | ((with_reducible refine gate_dst (N := 4) rfl ?_); (try (refine gate_guard (by rfl) ?_; dsimp only)); refine box_event ?hg (N := 4) ?hd (cs := #[.int .i64 a1_0, .int .i64 a1_1, .int .i64 a1_2, .int .i64 a1_3]) (t := 50) ?hr ?_; (case hd => rfl); (case hg => rfl); (case hr => first | (go_simp; done) | (go_simp; rfl)); intro gb205 hg w19 hbox hb; have n0_ := Aside0.mk (bB (g := gb204) (o := .cells #[.string a0_0, .slice A0_1 l0_1.length c0_1, .int .i64 a0_2, .slice A0_3 l0_3.length c0_3, .slice A0_4 l0_4.length c0_4, .slice A0_5 l0_5.length c0_5, .slice A0_6 l0_6.length c0_6, .slice A0_7 l0_7.length c0_7, .slice A0_8 l0_8.length c0_8, .slice A0_9 l0_9.length c0_9, .int .i64 a0_10] 31 (0, 0)) (by (with_reducible repeat (first | refine bN ?_ _ | refine bD ?_ | refine bA ?_ _)); exact BK204.out) hb); have n1_ := Aside0.mk (bP (by repeat (first | (with_reducible first | exact HB.out | apply bL | apply bW | apply b1 | refine bS ?_ GE204.out) | exact HB.out)) hb); have n2_ := Aside0.mk (hbox); have n3_ := Aside0.mk ((by rw [hg]; exact (bZ (by repeat (first | (with_reducible first | exact HB.out | apply bL | apply bW | apply b1 | refine bS ?_ GE204.out) | exact HB.out))) : w.heap.size ≤ gb205)); have n4_ := Aside0.mk ((by rw [hg]; exact (bZ (by repeat (first | (with_reducible first | exact HB.out | apply bL | apply bW | apply b1 | refine bS ?_ GE204.out) | exact HB.out))) : w.heap.size ≤ gb205)); have n5_ := Aside0.mk ((by rw [hg]; exact Nat.ne_of_lt (bT (g := gb204) (o := .cells #[.string a0_0, .slice A0_1 l0_1.length c0_1, .int .i64 a0_2, .slice A0_3 l0_3.length c0_3, .slice A0_4 l0_4.length c0_4, .slice A0_5 l0_5.length c0_5, .slice A0_6 l0_6.length c0_6, .slice A0_7 l0_7.length c0_7, .slice A0_8 l0_8.length c0_8, .slice A0_9 l0_9.length c0_9, .int .i64 a0_10] 31 (0, 0)) (by (with_reducible repeat (first | refine bN ?_ _ | refine bD ?_ | refine bA ?_ _)); exact BK204.out)) : gb204 ≠ gb205)); have n6_ := Aside0.mk ((by rw [hg]; exact Nat.ne_of_gt (bT (g := gb204) (o := .cells #[.string a0_0, .slice A0_1 l0_1.length c0_1, .int .i64 a0_2, .slice A0_3 l0_3.length c0_3, .slice A0_4 l0_4.length c0_4, .slice A0_5 l0_5.length c0_5, .slice A0_6 l0_6.length c0_6, .slice A0_7 l0_7.length c0_7, .slice A0_8 l0_8.length c0_8, .slice A0_9 l0_9.length c0_9, .int .i64 a0_10] 31 (0, 0)) (by (with_reducible repeat (first | refine bN ?_ _ | refine bD ?_ | refine bA ?_ _)); exact BK204.out)) : gb205 ≠ gb204)); clear BK204; clear HB; have BK204 := n0_; have HB := n1_; have BK205 := n2_; have GW205 := n3_; have GE205 := n4_; have NB204_205 := n5_; have NB205_204 := n6_; clear n0_ n1_ n2_ n3_ n4_ n5_ n6_; clear hb hbox hg; have hnb20 := NB205_204.out; have hnc20 := NB204_205.out; have hcz21_0 : w19.cell? ⟨gb205, 0, none⟩ = some (.int .i64 a1_0) := (bC BK205.out 0).trans rfl; have hcz21_1 : w19.cell? ⟨gb205, 1, none⟩ = some (.int .i64 a1_1) := (bC BK205.out 1).trans rfl; have hcz21_2 : w19.cell? ⟨gb205, 2, none⟩ = some (.int .i64 a1_2) := (bC BK205.out 2).trans rfl; have hcz21_3 : w19.cell? ⟨gb205, 3, none⟩ = some (.int .i64 a1_3) := (bC BK205.out 3).trans rfl; have hfz21_0 := bF BK205.out 0; have hfz21_1 := bF BK205.out 1; have hfz21_2 := bF BK205.out 2; have hfz21_3 := bF BK205.out 3; have hcz22_0 : w19.cell? ⟨gb204, 0, none⟩ = some (.string a0_0) := (bC BK204.out 0).trans rfl; have hcz22_1 : w19.cell? ⟨gb204, 1, none⟩ = some (.slice A0_1 l0_1.length c0_1) := (bC BK204.out 1).trans rfl; have hcz22_2 : w19.cell? ⟨gb204, 2, none⟩ = some (.int .i64 a0_2) := (bC BK204.out 2).trans rfl; have hcz22_3 : w19.cell? ⟨gb204, 3, none⟩ = some (.slice A0_3 l0_3.length c0_3) := (bC BK204.out 3).trans rfl; have hcz22_4 : w19.cell? ⟨gb204, 4, none⟩ = some (.slice A0_4 l0_4.length c0_4) := (bC BK204.out 4).trans rfl; have hcz22_5 : w19.cell? ⟨gb204, 5, none⟩ = some (.slice A0_5 l0_5.length c0_5) := (bC BK204.out 5).trans rfl; have hcz22_6 : w19.cell? ⟨gb204, 6, none⟩ = some (.slice A0_6 l0_6.length c0_6) := (bC BK204.out 6).trans rfl; have hcz22_7 : w19.cell? ⟨gb204, 7, none⟩ = some (.slice A0_7 l0_7.length c0_7) := (bC BK204.out 7).trans rfl; have hcz22_8 : w19.cell? ⟨gb204, 8, none⟩ = some (.slice A0_8 l0_8.length c0_8) := (bC BK204.out 8).trans rfl; have hcz22_9 : w19.cell? ⟨gb204, 9, none⟩ = some (.slice A0_9 l0_9.length c0_9) := (bC BK204.out 9).trans rfl; have hcz22_10 : w19.cell? ⟨gb204, 10, none⟩ = some (.int .i64 a0_10) := (bC BK204.out 10).trans rfl; have hfz22_0 := bF BK204.out 0; have hfz22_1 := bF BK204.out 1; have hfz22_2 := bF BK204.out 2; have hfz22_3 := bF BK204.out 3; have hfz22_4 := bF BK204.out 4; have hfz22_5 := bF BK204.out 5; have hfz22_6 := bF BK204.out 6; have hfz22_7 := bF BK204.out 7; have hfz22_8 := bF BK204.out 8; have hfz22_9 := bF BK204.out 9; have hfz22_10 := bF BK204.out 10; have p206 : 0 ≤ (a1_0 : Int) := of_decide_eq_true (by first | (with_reducible assumption) | assumption); have q206 : a1_0 < (l0_6.length : Int) := of_decide_eq_true (by first | (with_reducible assumption) | assumption); obtain ⟨ad206, e206, hx206_0, hx206_1, hx206_2, hx206_3, hx206_4⟩ := at_T67 HR0_6.out a1_0 p206 q206; cases e206; replace hx206_0 := (HB.out.cell (wL w _ hx206_0)).trans hx206_0; replace hx206_1 := (HB.out.cell (wL w _ hx206_1)).trans hx206_1; replace hx206_2 := (HB.out.cell (wL w _ hx206_2)).trans hx206_2; replace hx206_3 := (HB.out.cell (wL w _ hx206_3)).trans hx206_3; replace hx206_4 := (HB.out.cell (wL w _ hx206_4)).trans hx206_4; replace p206 := eq_true p206; replace q206 := eq_true q206; have p207 : 0 ≤ (a1_0 : Int) := of_decide_eq_true (by first | (with_reducible assumption) | assumption); have q207 : a1_0 < (l0_6.length : Int) := of_decide_eq_true (by first | (with_reducible assumption) | assumption); obtain ⟨ad207, e207, hx207_0, hx207_1, hx207_2, hx207_3, hx207_4⟩ := at_T67 HR0_6.out a1_0 p207 q207; obtain rfl : ad206 = ad207 := (by injection e207); replace hx207_0 := (HB.out.cell (wL w _ hx207_0)).trans hx207_0; replace hx207_1 := (HB.out.cell (wL w _ hx207_1)).trans hx207_1; replace hx207_2 := (HB.out.cell (wL w _ hx207_2)).trans hx207_2; replace hx207_3 := (HB.out.cell (wL w _ hx207_3)).trans hx207_3; replace hx207_4 := (HB.out.cell (wL w _ hx207_4)).trans hx207_4; replace p207 := eq_true p207; replace q207 := eq_true q207))
      go_ret
      exact ⟨by first | rfl | (simp [errW_none, errW_some] <;> rfl) | (simp [*, errW_none, errW_some] <;> rfl), by repeat (first | (with_reducible first | exact HB.out | apply bL | apply bW | apply b1 | refine bS ?_ GE204.out | refine bS ?_ GE205.out) | exact HB.out)⟩
     ·
      rw [if_neg c17] at H; have c17b0 : (((rd_T67 l0_6 a1_0).f1) == 1) = false := beq_eq_false_iff_ne.mpr c17
      have c17b1 : (((rd_T67 l0_6 a1_0).f1) != 1) = true := bne_iff_ne.mpr c17
      obtain rfl := Option.some.inj H
      go_enter Try.func21, Try.ntmps21
      go_wp2_with (first | ((with_reducible refine gate_dst (N := 3) rfl ?_); (try (refine gate_guard (by rfl) ?_; dsimp only)); refine box_event ?hg (N := 3) ?hd (cs := #[.string a0_0, .slice A0_1 l0_1.length c0_1, .int .i64 a0_2, .slice A0_3 l0_3.length c0_3, .slice A0_4 l0_4.length c0_4, .slice A0_5 l0_5.length c0_5, .slice A0_6 l0_6.length c0_6, .slice A0_7 l0_7.length c0_7, .slice A0_8 l0_8.length c0_8, .slice A0_9 l0_9.length c0_9, .int .i64 a0_10]) (t := 31) ?hr ?_; (case hd => rfl); (case hg => rfl); (case hr => first | (go_simp; done) | (go_simp; rfl)); intro gb204 hg w23 hbox hb; have n0_ := Aside0.mk (bP (by repeat (first | (with_reducible first | exact HB.out | apply bL | apply bW | apply b1) | exact HB.out)) hb); have n1_ := Aside0.mk (hbox); have n2_ := Aside0.mk ((by rw [hg]; exact (bZ (by repeat (first | (with_reducible first | exact HB.out | apply bL | apply bW | apply b1) | exact HB.out))) : w.heap.size ≤ gb204)); have n3_ := Aside0.mk ((by rw [hg]; exact (bZ (by repeat (first | (with_reducible first | exact HB.out | apply bL | apply bW | apply b1) | exact HB.out))) : w.heap.size ≤ gb204)); clear HB; have HB := n0_; have BK204 := n1_; have GW204 := n2_; have GE204 := n3_; clear n0_ n1_ n2_ n3_; clear hb hbox hg) | ((with_reducible refine gate_dst (N := 4) rfl ?_); (try (refine gate_guard (by rfl) ?_; dsimp only)); refine box_event ?hg (N := 4) ?hd (cs := #[.int .i64 a1_0, .int .i64 a1_1, .int .i64 a1_2, .int .i64 a1_3]) (t := 50) ?hr ?_; (case hd => rfl); (case hg => rfl); (case hr => first | (go_simp; done) | (go_simp; rfl)); intro gb205 hg w24 hbox hb; have n0_ := Aside0.mk (bB (g := gb204) (o := .cells #[.string a0_0, .slice A0_1 l0_1.length c0_1, .int .i64 a0_2, .slice A0_3 l0_3.length c0_3, .slice A0_4 l0_4.length c0_4, .slice A0_5 l0_5.length c0_5, .slice A0_6 l0_6.length c0_6, .slice A0_7 l0_7.length c0_7, .slice A0_8 l0_8.length c0_8, .slice A0_9 l0_9.length c0_9, .int .i64 a0_10] 31 (0, 0)) (by (with_reducible repeat (first | refine bN ?_ _ | refine bD ?_ | refine bA ?_ _)); exact BK204.out) hb); have n1_ := Aside0.mk (bP (by repeat (first | (with_reducible first | exact HB.out | apply bL | apply bW | apply b1 | refine bS ?_ GE204.out) | exact HB.out)) hb); have n2_ := Aside0.mk (hbox); have n3_ := Aside0.mk ((by rw [hg]; exact (bZ (by repeat (first | (with_reducible first | exact HB.out | apply bL | apply bW | apply b1 | refine bS ?_ GE204.out) | exact HB.out))) : w.heap.size ≤ gb205)); have n4_ := Aside0.mk ((by rw [hg]; exact (bZ (by repeat (first | (with_reducible first | exact HB.out | apply bL | apply bW | apply b1 | refine bS ?_ GE204.out) | exact HB.out))) : w.heap.size ≤ gb205)); have n5_ := Aside0.mk ((by rw [hg]; exact Nat.ne_of_lt (bT (g := gb204) (o := .cells #[.string a0_0, .slice A0_1 l0_1.length c0_1, .int .i64 a0_2, .slice A0_3 l0_3.length c0_3, .slice A0_4 l0_4.length c0_4, .slice A0_5 l0_5.length c0_5, .slice A0_6 l0_6.length c0_6, .slice A0_7 l0_7.length c0_7, .slice A0_8 l0_8.length c0_8, .slice A0_9 l0_9.length c0_9, .int .i64 a0_10] 31 (0, 0)) (by (with_reducible repeat (first | refine bN ?_ _ | refine bD ?_ | refine bA ?_ _)); exact BK204.out)) : gb204 ≠ gb205)); have n6_ := Aside0.mk ((by rw [hg]; exact Nat.ne_of_gt (bT (g := gb204) (o := .cells #[.string a0_0, .slice A0_1 l0_1.length c0_1, .int .i64 a0_2, .slice A0_3 l0_3.length c0_3, .slice A0_4 l0_4.length c0_4, .slice A0_5 l0_5.length c0_5, .slice A0_6 l0_6.length c0_6, .slice A0_7 l0_7.length c0_7, .slice A0_8 l0_8.length c0_8, .slice A0_9 l0_9.length c0_9, .int .i64 a0_10] 31 (0, 0)) (by (with_reducible repeat (first | refine bN ?_ _ | refine bD ?_ | refine bA ?_ _)); exact BK204.out)) : gb205 ≠ gb204)); clear BK204; clear HB; have BK204 := n0_; have HB := n1_; have BK205 := n2_; have GW205 := n3_; have GE205 := n4_; have NB204_205 := n5_; have NB205_204 := n6_; clear n0_ n1_ n2_ n3_ n4_ n5_ n6_; clear hb hbox hg; have hnb25 := NB205_204.out; have hnc25 := NB204_205.out; have hcz26_0 : w24.cell? ⟨gb205, 0, none⟩ = some (.int .i64 a1_0) := (bC BK205.out 0).trans rfl; have hcz26_1 : w24.cell? ⟨gb205, 1, none⟩ = some (.int .i64 a1_1) := (bC BK205.out 1).trans rfl; have hcz26_2 : w24.cell? ⟨gb205, 2, none⟩ = some (.int .i64 a1_2) := (bC BK205.out 2).trans rfl; have hcz26_3 : w24.cell? ⟨gb205, 3, none⟩ = some (.int .i64 a1_3) := (bC BK205.out 3).trans rfl; have hfz26_0 := bF BK205.out 0; have hfz26_1 := bF BK205.out 1; have hfz26_2 := bF BK205.out 2; have hfz26_3 := bF BK205.out 3; have hcz27_0 : w24.cell? ⟨gb204, 0, none⟩ = some (.string a0_0) := (bC BK204.out 0).trans rfl; have hcz27_1 : w24.cell? ⟨gb204, 1, none⟩ = some (.slice A0_1 l0_1.length c0_1) := (bC BK204.out 1).trans rfl; have hcz27_2 : w24.cell? ⟨gb204, 2, none⟩ = some (.int .i64 a0_2) := (bC BK204.out 2).trans rfl; have hcz27_3 : w24.cell? ⟨gb204, 3, none⟩ = some (.slice A0_3 l0_3.length c0_3) := (bC BK204.out 3).trans rfl; have hcz27_4 : w24.cell? ⟨gb204, 4, none⟩ = some (.slice A0_4 l0_4.length c0_4) := (bC BK204.out 4).trans rfl; have hcz27_5 : w24.cell? ⟨gb204, 5, none⟩ = some (.slice A0_5 l0_5.length c0_5) := (bC BK204.out 5).trans rfl; have hcz27_6 : w24.cell? ⟨gb204, 6, none⟩ = some (.slice A0_6 l0_6.length c0_6) := (bC BK204.out 6).trans rfl; have hcz27_7 : w24.cell? ⟨gb204, 7, none⟩ = some (.slice A0_7 l0_7.length c0_7) := (bC BK204.out 7).trans rfl; have hcz27_8 : w24.cell? ⟨gb204, 8, none⟩ = some (.slice A0_8 l0_8.length c0_8) := (bC BK204.out 8).trans rfl; have hcz27_9 : w24.cell? ⟨gb204, 9, none⟩ = some (.slice A0_9 l0_9.length c0_9) := (bC BK204.out 9).trans rfl; have hcz27_10 : w24.cell? ⟨gb204, 10, none⟩ = some (.int .i64 a0_10) := (bC BK204.out 10).trans rfl; have hfz27_0 := bF BK204.out 0; have hfz27_1 := bF BK204.out 1; have hfz27_2 := bF BK204.out 2; have hfz27_3 := bF BK204.out 3; have hfz27_4 := bF BK204.out 4; have hfz27_5 := bF BK204.out 5; have hfz27_6 := bF BK204.out 6; have hfz27_7 := bF BK204.out 7; have hfz27_8 := bF BK204.out 8; have hfz27_9 := bF BK204.out 9; have hfz27_10 := bF BK204.out 10; have p206 : 0 ≤ (a1_0 : Int) := of_decide_eq_true (by first | (with_reducible assumption) | assumption); have q206 : a1_0 < (l0_6.length : Int) := of_decide_eq_true (by first | (with_reducible assumption) | assumption); obtain ⟨ad206, e206, hx206_0, hx206_1, hx206_2, hx206_3, hx206_4⟩ := at_T67 HR0_6.out a1_0 p206 q206; cases e206; replace hx206_0 := (HB.out.cell (wL w _ hx206_0)).trans hx206_0; replace hx206_1 := (HB.out.cell (wL w _ hx206_1)).trans hx206_1; replace hx206_2 := (HB.out.cell (wL w _ hx206_2)).trans hx206_2; replace hx206_3 := (HB.out.cell (wL w _ hx206_3)).trans hx206_3; replace hx206_4 := (HB.out.cell (wL w _ hx206_4)).trans hx206_4; replace p206 := eq_true p206; replace q206 := eq_true q206))
      go_ret
      exact ⟨by first | rfl | (simp [errW_none, errW_some] <;> rfl) | (simp [*, errW_none, errW_some] <;> rfl), by repeat (first | (with_reducible first | exact HB.out | apply bL | apply bW | apply b1 | refine bS ?_ GE204.out | refine bS ?_ GE205.out) | exact HB.out)⟩
    ·
     rw [if_neg c16] at H; exact absurd H (by simp)
   ·
    rw [if_neg c15] at H; exact absurd H (by simp)
end Go.Proofs.Ytpklgbnihgljmaa.Fn
