-- written by this session's program myprint.py out of the translation; Lean checks it
import Derived.Test.YtmkekbehipaopaaFn0
import Derived.Test.YtmkekbehipaopaaFn9
import Derived.Test.YtmkekbehipaopaaFn10
namespace Go.Proofs.Ytmkekbehipaopaa.Fn
open Go.RowKit Go.Proofs.YtmkekbehipaopaaW.PrintWords Go.Proofs.YtmkekbehipaopaaW.PrintLast Go.Proofs.YtmkekbehipaopaaW.PrintMore
open World renaming block_lt_of_cell? → wL
open Bool renaming true → T, false → F
open List renaming setIfInBounds_toArray → lA, set_cons_zero → lZ, set_cons_succ → lS
open Go.Proofs.YtmkekbehipaopaaW.PrintWords renaming pw_below_drewN → bW, below_drew1 → b1, below_alloc → bL, below_step → bP
attribute [local go_sem] max2_int min2_int max_two min_two max_three min_three max_four min_four
set_option linter.unusedVariables false
set_option linter.unusedSimpArgs false
def bourneref10_value.l0 : Nat → List (S37) → Int → Int → Option (Int × Bool)
 | 0, _, _, _ => none
 | k + 1, x0, x1, x6 => if x6 < (x0.length : Int) then (if 0 ≤ x6 then (if x1 ≤ ((rd_T37 x0 x6).f0) then (if 0 ≤ (wrap64 (x6 - 1)) then (if (wrap64 (x6 - 1)) < (x0.length : Int) then ((bourneref01_Scale.f k (wrap64 (x1 - ((rd_T37 x0 (wrap64 (x6 - 1))).f0))) (wrap64 (((rd_T37 x0 x6).f1) - ((rd_T37 x0 (wrap64 (x6 - 1))).f1))) (wrap64 (((rd_T37 x0 x6).f0) - ((rd_T37 x0 (wrap64 (x6 - 1))).f0)))).bind fun bt209 => (some (wrap64 (((rd_T37 x0 (wrap64 (x6 - 1))).f1) + bt209.1), decide (bt209.2.1 > 0)))) else (none)) else (none)) else (bourneref10_value.l0 k x0 x1 (wrap64 (x6 + 1)))) else (none)) else (if 0 ≤ (wrap64 ((x0.length : Int) - 1)) then (if (wrap64 ((x0.length : Int) - 1)) < (x0.length : Int) then (some ((rd_T37 x0 (wrap64 ((x0.length : Int) - 1))).f1, false)) else (none)) else (none))
def bourneref10_value.f (k : Nat) (l0 : List (S37)) (a1 : Int) : Option (Int × Bool) := if 0 < (l0.length : Int) then (if a1 ≤ ((rd_T37 l0 0).f0) then (some ((rd_T37 l0 0).f1, false)) else (bourneref10_value.l0 k l0 a1 1)) else (none)
theorem bourneref10_value.mono_l : ∀ k, (∀ y0 y1 y2, LeO (bourneref10_value.l0 k y0 y1 y2) (bourneref10_value.l0 (k + 1) y0 y1 y2))
 | 0 => fun _ _ _ r h => by simp [bourneref10_value.l0] at h
 | k + 1 => by
  have ih0 := bourneref10_value.mono_l k
  ·
   intro y0 y1 y2; unfold bourneref10_value.l0
   repeat' first
   | (with_reducible exact ih0 _ _ _)
   | (with_reducible exact bourneref01_Scale.mono _ _ _ _)
   | (with_reducible exact LeO.refl _)
   | (with_reducible exact LeO.none _)
   | (with_reducible refine LeO.ite ?_ ?_)
   | (with_reducible refine LeO.bind ?_ (fun _ => ?_))
   | exact ih0 _ _ _
   | exact bourneref01_Scale.mono _ _ _ _
   | exact LeO.none _
   | refine LeO.ite ?_ ?_
   | refine LeO.bind ?_ (fun _ => ?_)
theorem bourneref10_value.mono : ∀ a0 a1 k, LeO (bourneref10_value.f k a0 a1) (bourneref10_value.f (k + 1) a0 a1) := by
 intro a0 a1 k; have ih0 := bourneref10_value.mono_l k
 unfold bourneref10_value.f
 repeat' first
   | (with_reducible exact ih0 _ _ _)
   | (with_reducible exact bourneref01_Scale.mono _ _ _ _)
   | (with_reducible exact LeO.refl _)
   | (with_reducible exact LeO.none _)
   | (with_reducible refine LeO.ite ?_ ?_)
   | (with_reducible refine LeO.bind ?_ (fun _ => ?_))
   | exact ih0 _ _ _
   | exact bourneref01_Scale.mono _ _ _ _
   | exact LeO.none _
   | refine LeO.ite ?_ ?_
   | refine LeO.bind ?_ (fun _ => ?_)
def bourneref10_value.T7 : Bool × List (List Nat × List Nat) := (true, [([], []), ([], []), ([], []), ([2], [2]), ([1, 3], [1, 3]), ([4], [4]), ([5], [5]), ([0, 6], [0, 6]), ([], []), ([], []), ([8, 9], [8, 9]), ([10], [10]), ([11], [11]), ([], []), ([], []), ([14], [14]), ([13, 15], [13, 15]), ([16], [16]), ([17], [17]), ([12, 18], [12, 18]), ([], []), ([], []), ([20, 21], [20, 21]), ([22], [22]), ([23], [23]), ([], []), ([], []), ([26], [26]), ([25, 27], [25, 27]), ([28], [28]), ([29], [29]), ([24, 30], [24, 30]), ([7, 19, 31], [7, 19, 31]), ([32], [32]), ([33], [33]), ([33], [33]), ([33], [33]), ([34, 32, 0, 1, 2, 3, 4, 5, 6, 7, 8, 9, 10, 11, 12, 13, 14, 15, 16, 17, 18, 19, 20, 21, 22, 23, 24, 25, 26, 27, 28, 29, 30, 31, 32, 33, 34], [34]), ([35, 37, 0, 1, 2, 3, 4, 5, 6, 7, 8, 9, 10, 11, 12, 13, 14, 15, 16, 17, 18, 19, 20, 21, 22, 23, 24, 25, 26, 27, 28, 29, 30, 31, 32, 33, 34, 35, 37], [35]), ([36, 38, 0, 1, 2, 3, 4, 5, 6, 7, 8, 9, 10, 11, 12, 13, 14, 15, 16, 17, 18, 19, 20, 21, 22, 23, 24, 25, 26, 27, 28, 29, 30, 31, 32, 33, 34, 35, 36, 37, 38], [36])])
def bourneref10_value.B7 : List Nat := [0, 0, 0, 4, 14, 30, 62, 127, 0, 0, 768, 1792, 3840, 0, 0, 16384, 57344, 122880, 253952, 524032, 0, 0, 3145728, 7340032, 15728640, 0, 0, 67108864, 234881024, 503316480, 1040187392, 2146435072, 4294967295, 8589934591, 17179869183, 17179869183, 17179869183, 34359738367, 206158430207, 549755813887]
theorem bourneref10_value.tab7 : rtab .any (opsOf Try.f26 7) = bourneref10_value.T7 := by kernel_rfl
theorem bourneref10_value.bits7 : waitsOk bourneref10_value.T7.2 bourneref10_value.B7 = true := by kernel_rfl
set_option maxHeartbeats 8000000 in
set_option maxRecDepth 100000 in
theorem bourneref10_value.calls (k : Nat) (A0 : Option Addr) (c0 : Nat) (l0 : List (S37)) (a1 : Int) (r1 : Int) (r2 : Bool) (w : World) (hr0 : Kd.C k37 w A0 l0.length l0) (hc0 : l0.length ≤ c0) (h : bourneref10_value.f k l0 a1 = some (r1, r2)) :
  Calls Try.prog 26 #[.slice A0 l0.length c0, .int .i64 a1] w fun e w' => e = .returned (.tuple #[.int .i64 r1, .bool r2]) ∧ Below w.heap.size w w' := by
 have HR0 := Aside0.mk hr0
 have HC0 := Aside0.mk hc0
 clear hr0 hc0; have HB := Aside0.mk (Below.refl w.heap.size w)
 have H : (if 0 < (l0.length : Int) then (if a1 ≤ ((rd_T37 l0 0).f0) then (some ((rd_T37 l0 0).f1, false)) else (bourneref10_value.l0 k l0 a1 1)) else (none)) = some (r1, r2) := h
 clear h; by_cases c3 : 0 < (l0.length : Int)
 ·
  rw [if_pos c3] at H; have c3b0 : decide (0 < (l0.length : Int)) = true := decide_eq_true c3
  have c3b1 : decide (0 < l0.length) = true := decide_eq_true (by omega)
  clear c3; by_cases c4 : a1 ≤ ((rd_T37 l0 0).f0)
  ·
   rw [if_pos c4] at H; have c4b0 : decide (a1 ≤ ((rd_T37 l0 0).f0)) = true := decide_eq_true c4
   clear c4; simp only [Option.some.injEq, Prod.mk.injEq] at H; obtain ⟨rfl, rfl⟩ := H
   have p200 : 0 ≤ (0 : Int) := (by omega)
   have q200 : 0 < (l0.length : Int) := of_decide_eq_true (by first | (with_reducible assumption) | assumption)
   obtain ⟨ad200, e200, hx200_0, hx200_1⟩ := at_T37 HR0.out 0 p200 q200
   cases e200
   have qi200 : (0 < l0.length) = True := eq_true (by omega)
   (try rw [show ((0 : Int)).toNat = 0 from rfl] at hx200_0)
   (try rw [show 0 * 2 = 0 from rfl] at hx200_0); (try rw [Addr.add_zero'] at hx200_0); (try rw [show ((0 : Int)).toNat = 0 from rfl] at hx200_1)
   (try rw [show 0 * 2 = 0 from rfl] at hx200_1); (try rw [Addr.add_zero'] at hx200_1); replace p200 := eq_true p200
   replace q200 := eq_true q200
   have p201 : 0 ≤ (0 : Int) := (by omega)
   have q201 : 0 < (l0.length : Int) := of_decide_eq_true (by first | (with_reducible assumption) | assumption)
   obtain ⟨ad201, e201, hx201_0, hx201_1⟩ := at_T37 HR0.out 0 p201 q201
   obtain rfl : ad200 = ad201 := (by injection e201)
   have qi201 : (0 < l0.length) = True := eq_true (by omega)
   (try rw [show ((0 : Int)).toNat = 0 from rfl] at hx201_0)
   (try rw [show 0 * 2 = 0 from rfl] at hx201_0); (try rw [Addr.add_zero'] at hx201_0); (try rw [show ((0 : Int)).toNat = 0 from rfl] at hx201_1)
   (try rw [show 0 * 2 = 0 from rfl] at hx201_1); (try rw [Addr.add_zero'] at hx201_1); replace p201 := eq_true p201
   replace q201 := eq_true q201
   go_enter Try.func26, Try.ntmps26
   (try simp only [List.append_eq, List.cons_append, List.nil_append]); go_wp2
   go_ret2
   exact ⟨by first | rfl | (simp [errW_none, errW_some] <;> rfl) | (simp [*, errW_none, errW_some] <;> rfl), by repeat (first | (with_reducible first | exact HB.out | apply bL | apply bW | apply b1) | exact HB.out)⟩
  ·
   rw [if_neg c4] at H; have c4b0 : decide (a1 ≤ ((rd_T37 l0 0).f0)) = false := decide_eq_false c4
   clear c4; have H' := Aside0.mk H
   clear H; have p200 : 0 ≤ (0 : Int) := (by omega)
   have q200 : 0 < (l0.length : Int) := of_decide_eq_true (by first | (with_reducible assumption) | assumption)
   obtain ⟨ad200, e200, hx200_0, hx200_1⟩ := at_T37 HR0.out 0 p200 q200
   cases e200
   have qi200 : (0 < l0.length) = True := eq_true (by omega)
   (try rw [show ((0 : Int)).toNat = 0 from rfl] at hx200_0)
   (try rw [show 0 * 2 = 0 from rfl] at hx200_0); (try rw [Addr.add_zero'] at hx200_0); (try rw [show ((0 : Int)).toNat = 0 from rfl] at hx200_1)
   (try rw [show 0 * 2 = 0 from rfl] at hx200_1); (try rw [Addr.add_zero'] at hx200_1); replace p200 := eq_true p200
   replace q200 := eq_true q200
   go_enter Try.func26, Try.ntmps26
   (try simp only [List.append_eq, List.cons_append, List.nil_append]); go_wp2
   go_loopg [6] k (fun kq v6 w' => ∃ (x6_1 : Int), v6 = .int .i64 x6_1 ∧ Aside0 (bourneref10_value.l0 kq l0 a1 x6_1 = some (r1, r2)) ∧ Aside0 (kq ≤ k) ∧ Aside0 (Below w.heap.size w w'))
   case atStart => exact ⟨(1), (by first | rfl | (simp; done) | (simp [*]; done)), H', ⟨Nat.le_refl _⟩, ⟨by repeat (first | (with_reducible first | exact HB.out | apply bL | apply bW | apply b1) | exact HB.out)⟩⟩
   case round =>
    clear H'; try clear c2
    try clear p2
    try clear q2
    try clear hx2
    try clear qi2
    try clear c3
    try clear c3b0
    try clear c3b1
    try clear c4
    try clear c4b0
    try clear hx200_0
    try clear hx200_1
    try clear hx201_0
    try clear hx201_1
    try clear p200
    try clear p201
    try clear q200
    try clear q201
    obtain ⟨x6_1, rfl, HA, HK1, HB⟩ := hrel
    cases gk with
    | zero => exact absurd HA.out (by simp [bourneref10_value.l0])
    | succ k1 =>
     have H := HA.out
     clear HA; simp only [bourneref10_value.l0] at H; by_cases c5 : x6_1 < (l0.length : Int)
     ·
      rw [if_pos c5] at H; have c5b0 : decide (x6_1 < (l0.length : Int)) = true := decide_eq_true c5
      clear c5; by_cases c6 : 0 ≤ x6_1
      ·
       rw [if_pos c6] at H; have c6b0 : decide (0 ≤ x6_1) = true := decide_eq_true c6
       clear c6; by_cases c7 : a1 ≤ ((rd_T37 l0 x6_1).f0)
       ·
        rw [if_pos c7] at H; have c7b0 : decide (a1 ≤ ((rd_T37 l0 x6_1).f0)) = true := decide_eq_true c7
        clear c7; obtain ⟨ji8, hji8⟩ : ∃ j_ : Int, (wrap64 (x6_1 - 1)) = j_ := ⟨_, rfl⟩
        replace H : (if 0 ≤ (ji8) then (if (ji8) < (l0.length : Int) then ((bourneref01_Scale.f k1 (wrap64 (a1 - ((rd_T37 l0 (ji8)).f0))) (wrap64 (((rd_T37 l0 x6_1).f1) - ((rd_T37 l0 (ji8)).f1))) (wrap64 (((rd_T37 l0 x6_1).f0) - ((rd_T37 l0 (ji8)).f0)))).bind fun bt209 => (some (wrap64 (((rd_T37 l0 (ji8)).f1) + bt209.1), decide (bt209.2.1 > 0)))) else (none)) else (none)) = some (r1, r2) := by first | (rw [hji8] at H; exact H) | (simp only [hji8] at H ⊢; exact H)
        have hji8w : (IntKind.i64.wrap (x6_1 - 1)) = ji8 := (i64_w _).trans hji8
        by_cases c9 : 0 ≤ (ji8)
        ·
         rw [if_pos c9] at H; have c9b0 : decide (0 ≤ (ji8)) = true := decide_eq_true c9
         clear c9; by_cases c10 : (ji8) < (l0.length : Int)
         ·
          rw [if_pos c10] at H; have c10b0 : decide ((ji8) < (l0.length : Int)) = true := decide_eq_true c10
          clear c10; replace H := Option.bind_eq_some_iff.mp H
          obtain ⟨⟨t209, t210, t211⟩, A110, H⟩ := H
          dsimp only at H
          have A11 := Aside0.mk A110
          clear A110; simp only [Option.some.injEq, Prod.mk.injEq] at H; obtain ⟨rfl, rfl⟩ := H
          have p203 : 0 ≤ (x6_1 : Int) := of_decide_eq_true (by first | (with_reducible assumption) | assumption)
          have q203 : x6_1 < (l0.length : Int) := of_decide_eq_true (by first | (with_reducible assumption) | assumption)
          obtain ⟨ad203, e203, hx203_0, hx203_1⟩ := at_T37 HR0.out x6_1 p203 q203
          obtain rfl : ad200 = ad203 := (by injection e203)
          replace hx203_0 := (HB.out.cell (wL w _ hx203_0)).trans hx203_0
          replace hx203_1 := (HB.out.cell (wL w _ hx203_1)).trans hx203_1
          replace p203 := eq_true p203
          replace q203 := eq_true q203
          try go_wp2
          have n0_ := Aside0.mk (b1 HB.out)
          clear HB; have HB := n0_
          clear n0_; have p204 : 0 ≤ ((ji8) : Int) := of_decide_eq_true (by first | (with_reducible assumption) | assumption)
          have q204 : (ji8) < (l0.length : Int) := of_decide_eq_true (by first | (with_reducible assumption) | assumption)
          obtain ⟨ad204, e204, hx204_0, hx204_1⟩ := at_T37 HR0.out (ji8) p204 q204
          have hw204_1 := hx204_1
          have hw204_0 := hx204_0
          obtain rfl : ad200 = ad204 := (by injection e204)
          replace hx204_0 := (HB.out.cell (wL w _ hx204_0)).trans hx204_0
          replace hx204_1 := (HB.out.cell (wL w _ hx204_1)).trans hx204_1
          replace p204 := eq_true p204
          replace q204 := eq_true q204
          have p205 : 0 ≤ (x6_1 : Int) := of_decide_eq_true (by first | (with_reducible assumption) | assumption)
          have q205 : x6_1 < (l0.length : Int) := of_decide_eq_true (by first | (with_reducible assumption) | assumption)
          obtain ⟨ad205, e205, hx205_0, hx205_1⟩ := at_T37 HR0.out x6_1 p205 q205
          have hw205_1 := hx205_1
          have hw205_0 := hx205_0
          obtain rfl : ad200 = ad205 := (by injection e205)
          replace hx205_0 := (HB.out.cell (wL w _ hx205_0)).trans hx205_0
          replace hx205_1 := (HB.out.cell (wL w _ hx205_1)).trans hx205_1
          replace p205 := eq_true p205
          replace q205 := eq_true q205
          have p206 : 0 ≤ ((ji8) : Int) := of_decide_eq_true (by first | (with_reducible assumption) | assumption)
          have q206 : (ji8) < (l0.length : Int) := of_decide_eq_true (by first | (with_reducible assumption) | assumption)
          obtain ⟨ad206, e206, hx206_0, hx206_1⟩ := at_T37 HR0.out (ji8) p206 q206
          have hw206_1 := hx206_1
          have hw206_0 := hx206_0
          obtain rfl : ad200 = ad206 := (by injection e206)
          replace hx206_0 := (HB.out.cell (wL w _ hx206_0)).trans hx206_0
          replace hx206_1 := (HB.out.cell (wL w _ hx206_1)).trans hx206_1
          replace p206 := eq_true p206
          replace q206 := eq_true q206
          have p207 : 0 ≤ (x6_1 : Int) := of_decide_eq_true (by first | (with_reducible assumption) | assumption)
          have q207 : x6_1 < (l0.length : Int) := of_decide_eq_true (by first | (with_reducible assumption) | assumption)
          obtain ⟨ad207, e207, hx207_0, hx207_1⟩ := at_T37 HR0.out x6_1 p207 q207
          have hw207_1 := hx207_1
          have hw207_0 := hx207_0
          obtain rfl : ad200 = ad207 := (by injection e207)
          replace hx207_0 := (HB.out.cell (wL w _ hx207_0)).trans hx207_0
          replace hx207_1 := (HB.out.cell (wL w _ hx207_1)).trans hx207_1
          replace p207 := eq_true p207
          replace q207 := eq_true q207
          have p208 : 0 ≤ ((ji8) : Int) := of_decide_eq_true (by first | (with_reducible assumption) | assumption)
          have q208 : (ji8) < (l0.length : Int) := of_decide_eq_true (by first | (with_reducible assumption) | assumption)
          obtain ⟨ad208, e208, hx208_0, hx208_1⟩ := at_T37 HR0.out (ji8) p208 q208
          have hw208_1 := hx208_1
          have hw208_0 := hx208_0
          obtain rfl : ad200 = ad208 := (by injection e208)
          replace hx208_0 := (HB.out.cell (wL w _ hx208_0)).trans hx208_0
          replace hx208_1 := (HB.out.cell (wL w _ hx208_1)).trans hx208_1
          replace p208 := eq_true p208
          replace q208 := eq_true q208
          refine start_ (n := 40) (S := fun w' => w'.cell? (ad200.add (((ji8)).toNat * 2)) = some (.int .i64 ((rd_T37 l0 (ji8)).f0)) ∧ w'.cell? ⟨(ad200.add (((ji8)).toNat * 2)).block, (ad200.add (((ji8)).toNat * 2)).off + 1, none⟩ = some (.int .i64 ((rd_T37 l0 (ji8)).f1)) ∧ w'.cell? (ad200.add ((x6_1).toNat * 2)) = some (.int .i64 ((rd_T37 l0 x6_1).f0)) ∧ w'.cell? ⟨(ad200.add ((x6_1).toNat * 2)).block, (ad200.add ((x6_1).toNat * 2)).off + 1, none⟩ = some (.int .i64 ((rd_T37 l0 x6_1).f1)) ∧ w'.cell? (ad200.add (((ji8)).toNat * 2)) = some (.int .i64 ((rd_T37 l0 (ji8)).f0)) ∧ w'.cell? ⟨(ad200.add (((ji8)).toNat * 2)).block, (ad200.add (((ji8)).toNat * 2)).off + 1, none⟩ = some (.int .i64 ((rd_T37 l0 (ji8)).f1)) ∧ w'.cell? (ad200.add ((x6_1).toNat * 2)) = some (.int .i64 ((rd_T37 l0 x6_1).f0)) ∧ w'.cell? ⟨(ad200.add ((x6_1).toNat * 2)).block, (ad200.add ((x6_1).toNat * 2)).off + 1, none⟩ = some (.int .i64 ((rd_T37 l0 x6_1).f1)) ∧ w'.cell? (ad200.add (((ji8)).toNat * 2)) = some (.int .i64 ((rd_T37 l0 (ji8)).f0)) ∧ w'.cell? ⟨(ad200.add (((ji8)).toNat * 2)).block, (ad200.add (((ji8)).toNat * 2)).off + 1, none⟩ = some (.int .i64 ((rd_T37 l0 (ji8)).f1))) (ds := []) #[F,F,F,F,F,F,F,F,F,F,F,F,F,F,F,F,F,F,F,F,F,F,F,F,F,F,F,F,F,F,F,F,F,F,F,F,F,F,F,F] (by kernel_rfl) rfl rfl ⟨((HB.out.cell (wL w _ hw204_0)).trans hw204_0), ((HB.out.cell (wL w _ hw204_1)).trans hw204_1), ((HB.out.cell (wL w _ hw205_0)).trans hw205_0), ((HB.out.cell (wL w _ hw205_1)).trans hw205_1), ((HB.out.cell (wL w _ hw206_0)).trans hw206_0), ((HB.out.cell (wL w _ hw206_1)).trans hw206_1), ((HB.out.cell (wL w _ hw207_0)).trans hw207_0), ((HB.out.cell (wL w _ hw207_1)).trans hw207_1), ((HB.out.cell (wL w _ hw208_0)).trans hw208_0), ((HB.out.cell (wL w _ hw208_1)).trans hw208_1)⟩ (fun hHeld => ?_); refine with_tabW bourneref10_value.tab7 bourneref10_value.bits7 (fun HT_ HW_ => ?_)
          generalize wr.drew = w12 at HB hx204_0 hx204_1 hx205_0 hx205_1 hx206_0 hx206_1 hx207_0 hx207_1 hx208_0 hx208_1 hHeld ⊢
          refine pure_ (i := 0) (N := some 34) (v := ?_) (a' := ?_) #[T,F,F,F,F,F,F,F,F,F,F,F,F,F,F,F,F,F,F,F,F,F,F,F,F,F,F,F,F,F,F,F,F,F,F,F,F,F,F,F] rfl rfl (any_of HT_.out (by kernel_rfl)) (fun _ _ _ h => h) (Or.inl ⟨by rfl, ?_⟩) ?_ ?_
          rotate_left
          ·
           intro w'; go_simp; with_reducible rfl
          rotate_left
          ·
           simp only [Act.put, lA, lZ, lS, i64_w, i32_w]; rfl
          refine pure_ (i := 1) (N := some 35) (v := ?_) (a' := ?_) #[T,T,F,F,F,F,F,F,F,F,F,F,F,F,F,F,F,F,F,F,F,F,F,F,F,F,F,F,F,F,F,F,F,F,F,F,F,F,F,F] rfl rfl (any_of HT_.out (by kernel_rfl)) (fun _ _ _ h => h) (Or.inl ⟨by rfl, ?_⟩) ?_ ?_
          rotate_left
          ·
           intro w'; go_simp; with_reducible rfl
          rotate_left
          ·
           simp only [Act.put, lA, lZ, lS, i64_w, i32_w]; rfl
          refine pure_ (i := 2) (N := some 36) (v := ?_) (a' := ?_) #[T,T,T,F,F,F,F,F,F,F,F,F,F,F,F,F,F,F,F,F,F,F,F,F,F,F,F,F,F,F,F,F,F,F,F,F,F,F,F,F] rfl rfl (any_of HT_.out (by kernel_rfl)) (fun _ _ _ h => h) (Or.inl ⟨by rfl, ?_⟩) ?_ ?_
          rotate_left
          ·
           intro w'; go_simp; with_reducible rfl
          rotate_left
          ·
           simp only [Act.put, lA, lZ, lS, i64_w, i32_w]; rfl
          refine pure_ (i := 3) (N := some 37) (v := ?_) (a' := ?_) #[T,T,T,T,F,F,F,F,F,F,F,F,F,F,F,F,F,F,F,F,F,F,F,F,F,F,F,F,F,F,F,F,F,F,F,F,F,F,F,F] rfl rfl (any_of HT_.out (by kernel_rfl)) (fun _ _ _ h => h) (Or.inl ⟨by rfl, ?_⟩) ?_ ?_
          rotate_left
          ·
           intro w'; go_simp; with_reducible rfl
          rotate_left
          ·
           simp only [Act.put, lA, lZ, lS, i64_w, i32_w]; rfl
          refine pure_ (i := 4) (N := some 38) (v := ?_) (a' := ?_) #[T,T,T,T,T,F,F,F,F,F,F,F,F,F,F,F,F,F,F,F,F,F,F,F,F,F,F,F,F,F,F,F,F,F,F,F,F,F,F,F] rfl rfl (any_of HT_.out (by kernel_rfl)) (fun _ _ _ h => h) (Or.inl ⟨by rfl, ?_⟩) ?_ ?_
          rotate_left
          ·
           intro w'; go_simp; with_reducible rfl
          rotate_left
          ·
           simp only [Act.put, lA, lZ, lS, i64_w, i32_w]; rfl
          refine pure_ (i := 5) (N := some 39) (v := ?_) (a' := ?_) #[T,T,T,T,T,T,F,F,F,F,F,F,F,F,F,F,F,F,F,F,F,F,F,F,F,F,F,F,F,F,F,F,F,F,F,F,F,F,F,F] rfl rfl (any_of HT_.out (by kernel_rfl)) (fun _ _ _ h => h) (Or.inl ⟨by rfl, ?_⟩) ?_ ?_
          rotate_left
          ·
           intro w'; go_simp; with_reducible rfl
          rotate_left
          ·
           simp only [Act.put, lA, lZ, lS, i64_w, i32_w]; rfl
          refine pure_ (i := 8) (N := some 42) (v := ?_) (a' := ?_) #[T,T,T,T,T,T,F,F,T,F,F,F,F,F,F,F,F,F,F,F,F,F,F,F,F,F,F,F,F,F,F,F,F,F,F,F,F,F,F,F] rfl rfl (any_of HT_.out (by kernel_rfl)) (fun _ _ _ h => h) (Or.inl ⟨by rfl, ?_⟩) ?_ ?_
          rotate_left
          ·
           intro w'; go_simp; with_reducible rfl
          rotate_left
          ·
           simp only [Act.put, lA, lZ, lS, i64_w, i32_w]; rfl
          refine pure_ (i := 9) (N := some 43) (v := ?_) (a' := ?_) #[T,T,T,T,T,T,F,F,T,T,F,F,F,F,F,F,F,F,F,F,F,F,F,F,F,F,F,F,F,F,F,F,F,F,F,F,F,F,F,F] rfl rfl (any_of HT_.out (by kernel_rfl)) (fun _ _ _ h => h) (Or.inl ⟨by rfl, ?_⟩) ?_ ?_
          rotate_left
          ·
           intro w'; go_simp; with_reducible rfl
          rotate_left
          ·
           simp only [Act.put, lA, lZ, lS, i64_w, i32_w]; rfl
          refine pure_ (i := 10) (N := some 44) (v := ?_) (a' := ?_) #[T,T,T,T,T,T,F,F,T,T,T,F,F,F,F,F,F,F,F,F,F,F,F,F,F,F,F,F,F,F,F,F,F,F,F,F,F,F,F,F] rfl rfl (any_of HT_.out (by kernel_rfl)) (fun _ _ _ h => h) (Or.inl ⟨by rfl, ?_⟩) ?_ ?_
          rotate_left
          ·
           intro w'; go_simp; with_reducible rfl
          rotate_left
          ·
           simp only [Act.put, lA, lZ, lS, i64_w, i32_w]; rfl
          refine pure_ (i := 11) (N := some 45) (v := ?_) (a' := ?_) #[T,T,T,T,T,T,F,F,T,T,T,T,F,F,F,F,F,F,F,F,F,F,F,F,F,F,F,F,F,F,F,F,F,F,F,F,F,F,F,F] rfl rfl (any_of HT_.out (by kernel_rfl)) (fun _ _ _ h => h) (Or.inl ⟨by rfl, ?_⟩) ?_ ?_
          rotate_left
          ·
           intro w'; go_simp; with_reducible rfl
          rotate_left
          ·
           simp only [Act.put, lA, lZ, lS, i64_w, i32_w]; rfl
          refine pure_ (i := 13) (N := some 47) (v := ?_) (a' := ?_) #[T,T,T,T,T,T,F,F,T,T,T,T,F,T,F,F,F,F,F,F,F,F,F,F,F,F,F,F,F,F,F,F,F,F,F,F,F,F,F,F] rfl rfl (any_of HT_.out (by kernel_rfl)) (fun _ _ _ h => h) (Or.inl ⟨by rfl, ?_⟩) ?_ ?_
          rotate_left
          ·
           intro w'; go_simp; with_reducible rfl
          rotate_left
          ·
           simp only [Act.put, lA, lZ, lS, i64_w, i32_w]; rfl
          refine pure_ (i := 14) (N := some 48) (v := ?_) (a' := ?_) #[T,T,T,T,T,T,F,F,T,T,T,T,F,T,T,F,F,F,F,F,F,F,F,F,F,F,F,F,F,F,F,F,F,F,F,F,F,F,F,F] rfl rfl (any_of HT_.out (by kernel_rfl)) (fun _ _ _ h => h) (Or.inl ⟨by rfl, ?_⟩) ?_ ?_
          rotate_left
          ·
           intro w'; go_simp; with_reducible rfl
          rotate_left
          ·
           simp only [Act.put, lA, lZ, lS, i64_w, i32_w]; rfl
          refine pure_ (i := 15) (N := some 49) (v := ?_) (a' := ?_) #[T,T,T,T,T,T,F,F,T,T,T,T,F,T,T,T,F,F,F,F,F,F,F,F,F,F,F,F,F,F,F,F,F,F,F,F,F,F,F,F] rfl rfl (any_of HT_.out (by kernel_rfl)) (fun _ _ _ h => h) (Or.inl ⟨by rfl, ?_⟩) ?_ ?_
          rotate_left
          ·
           intro w'; go_simp; with_reducible rfl
          rotate_left
          ·
           simp only [Act.put, lA, lZ, lS, i64_w, i32_w]; rfl
          refine pure_ (i := 16) (N := some 50) (v := ?_) (a' := ?_) #[T,T,T,T,T,T,F,F,T,T,T,T,F,T,T,T,T,F,F,F,F,F,F,F,F,F,F,F,F,F,F,F,F,F,F,F,F,F,F,F] rfl rfl (any_of HT_.out (by kernel_rfl)) (fun _ _ _ h => h) (Or.inl ⟨by rfl, ?_⟩) ?_ ?_
          rotate_left
          ·
           intro w'; go_simp; with_reducible rfl
          rotate_left
          ·
           simp only [Act.put, lA, lZ, lS, i64_w, i32_w]; rfl
          refine pure_ (i := 17) (N := some 51) (v := ?_) (a' := ?_) #[T,T,T,T,T,T,F,F,T,T,T,T,F,T,T,T,T,T,F,F,F,F,F,F,F,F,F,F,F,F,F,F,F,F,F,F,F,F,F,F] rfl rfl (any_of HT_.out (by kernel_rfl)) (fun _ _ _ h => h) (Or.inl ⟨by rfl, ?_⟩) ?_ ?_
          rotate_left
          ·
           intro w'; go_simp; with_reducible rfl
          rotate_left
          ·
           simp only [Act.put, lA, lZ, lS, i64_w, i32_w]; rfl
          refine pure_ (i := 20) (N := some 54) (v := ?_) (a' := ?_) #[T,T,T,T,T,T,F,F,T,T,T,T,F,T,T,T,T,T,F,F,T,F,F,F,F,F,F,F,F,F,F,F,F,F,F,F,F,F,F,F] rfl rfl (any_of HT_.out (by kernel_rfl)) (fun _ _ _ h => h) (Or.inl ⟨by rfl, ?_⟩) ?_ ?_
          rotate_left
          ·
           intro w'; go_simp; with_reducible rfl
          rotate_left
          ·
           simp only [Act.put, lA, lZ, lS, i64_w, i32_w]; rfl
          refine pure_ (i := 21) (N := some 55) (v := ?_) (a' := ?_) #[T,T,T,T,T,T,F,F,T,T,T,T,F,T,T,T,T,T,F,F,T,T,F,F,F,F,F,F,F,F,F,F,F,F,F,F,F,F,F,F] rfl rfl (any_of HT_.out (by kernel_rfl)) (fun _ _ _ h => h) (Or.inl ⟨by rfl, ?_⟩) ?_ ?_
          rotate_left
          ·
           intro w'; go_simp; with_reducible rfl
          rotate_left
          ·
           simp only [Act.put, lA, lZ, lS, i64_w, i32_w]; rfl
          refine pure_ (i := 22) (N := some 56) (v := ?_) (a' := ?_) #[T,T,T,T,T,T,F,F,T,T,T,T,F,T,T,T,T,T,F,F,T,T,T,F,F,F,F,F,F,F,F,F,F,F,F,F,F,F,F,F] rfl rfl (any_of HT_.out (by kernel_rfl)) (fun _ _ _ h => h) (Or.inl ⟨by rfl, ?_⟩) ?_ ?_
          rotate_left
          ·
           intro w'; go_simp; with_reducible rfl
          rotate_left
          ·
           simp only [Act.put, lA, lZ, lS, i64_w, i32_w]; rfl
          refine pure_ (i := 23) (N := some 57) (v := ?_) (a' := ?_) #[T,T,T,T,T,T,F,F,T,T,T,T,F,T,T,T,T,T,F,F,T,T,T,T,F,F,F,F,F,F,F,F,F,F,F,F,F,F,F,F] rfl rfl (any_of HT_.out (by kernel_rfl)) (fun _ _ _ h => h) (Or.inl ⟨by rfl, ?_⟩) ?_ ?_
          rotate_left
          ·
           intro w'; go_simp; with_reducible rfl
          rotate_left
          ·
           simp only [Act.put, lA, lZ, lS, i64_w, i32_w]; rfl
          refine pure_ (i := 25) (N := some 59) (v := ?_) (a' := ?_) #[T,T,T,T,T,T,F,F,T,T,T,T,F,T,T,T,T,T,F,F,T,T,T,T,F,T,F,F,F,F,F,F,F,F,F,F,F,F,F,F] rfl rfl (any_of HT_.out (by kernel_rfl)) (fun _ _ _ h => h) (Or.inl ⟨by rfl, ?_⟩) ?_ ?_
          rotate_left
          ·
           intro w'; go_simp; with_reducible rfl
          rotate_left
          ·
           simp only [Act.put, lA, lZ, lS, i64_w, i32_w]; rfl
          refine pure_ (i := 26) (N := some 60) (v := ?_) (a' := ?_) #[T,T,T,T,T,T,F,F,T,T,T,T,F,T,T,T,T,T,F,F,T,T,T,T,F,T,T,F,F,F,F,F,F,F,F,F,F,F,F,F] rfl rfl (any_of HT_.out (by kernel_rfl)) (fun _ _ _ h => h) (Or.inl ⟨by rfl, ?_⟩) ?_ ?_
          rotate_left
          ·
           intro w'; go_simp; with_reducible rfl
          rotate_left
          ·
           simp only [Act.put, lA, lZ, lS, i64_w, i32_w]; rfl
          refine pure_ (i := 27) (N := some 61) (v := ?_) (a' := ?_) #[T,T,T,T,T,T,F,F,T,T,T,T,F,T,T,T,T,T,F,F,T,T,T,T,F,T,T,T,F,F,F,F,F,F,F,F,F,F,F,F] rfl rfl (any_of HT_.out (by kernel_rfl)) (fun _ _ _ h => h) (Or.inl ⟨by rfl, ?_⟩) ?_ ?_
          rotate_left
          ·
           intro w'; go_simp; with_reducible rfl
          rotate_left
          ·
           simp only [Act.put, lA, lZ, lS, i64_w, i32_w]; rfl
          refine pure_ (i := 28) (N := some 62) (v := ?_) (a' := ?_) #[T,T,T,T,T,T,F,F,T,T,T,T,F,T,T,T,T,T,F,F,T,T,T,T,F,T,T,T,T,F,F,F,F,F,F,F,F,F,F,F] rfl rfl (any_of HT_.out (by kernel_rfl)) (fun _ _ _ h => h) (Or.inl ⟨by rfl, ?_⟩) ?_ ?_
          rotate_left
          ·
           intro w'; go_simp; with_reducible rfl
          rotate_left
          ·
           simp only [Act.put, lA, lZ, lS, i64_w, i32_w]; rfl
          refine pure_ (i := 29) (N := some 63) (v := ?_) (a' := ?_) #[T,T,T,T,T,T,F,F,T,T,T,T,F,T,T,T,T,T,F,F,T,T,T,T,F,T,T,T,T,T,F,F,F,F,F,F,F,F,F,F] rfl rfl (any_of HT_.out (by kernel_rfl)) (fun _ _ _ h => h) (Or.inl ⟨by rfl, ?_⟩) ?_ ?_
          rotate_left
          ·
           intro w'; go_simp; with_reducible rfl
          rotate_left
          ·
           simp only [Act.put, lA, lZ, lS, i64_w, i32_w]; rfl
          refine take_ (i := 6) (N := some 40) (v := ?_) (a' := ?_) #[T,T,T,T,T,T,T,F,T,T,T,T,F,T,T,T,T,T,F,F,T,T,T,T,F,T,T,T,T,T,F,F,F,F,F,F,F,F,F,F] rfl rfl (take_ofW HT_.out HW_.out (by kernel_rfl)) (fun _ _ _ h => h) (Or.inl ⟨by rfl, ?_⟩) hHeld ?_ ?_
          rotate_left
          ·
           rintro w' ⟨s0, s1, s2, s3, s4, s5, s6, s7, s8, s9⟩
           go_simp; with_reducible rfl
          rotate_left
          ·
           simp only [Act.put, lA, lZ, lS, i64_w, i32_w]; rfl
          refine pure_ (i := 7) (N := some 41) (v := ?_) (a' := ?_) #[T,T,T,T,T,T,T,T,T,T,T,T,F,T,T,T,T,T,F,F,T,T,T,T,F,T,T,T,T,T,F,F,F,F,F,F,F,F,F,F] rfl rfl (any_of HT_.out (by kernel_rfl)) (fun _ _ _ h => h) (Or.inl ⟨by rfl, ?_⟩) ?_ ?_
          rotate_left
          ·
           intro w'; go_simp; with_reducible rfl
          rotate_left
          ·
           simp only [Act.put, lA, lZ, lS, i64_w, i32_w]; rfl
          refine take_ (i := 12) (N := some 46) (v := ?_) (a' := ?_) #[T,T,T,T,T,T,T,T,T,T,T,T,T,T,T,T,T,T,F,F,T,T,T,T,F,T,T,T,T,T,F,F,F,F,F,F,F,F,F,F] rfl rfl (take_ofW HT_.out HW_.out (by kernel_rfl)) (fun _ _ _ h => h) (Or.inl ⟨by rfl, ?_⟩) hHeld ?_ ?_
          rotate_left
          ·
           rintro w' ⟨s0, s1, s2, s3, s4, s5, s6, s7, s8, s9⟩
           go_simp; with_reducible rfl
          rotate_left
          ·
           simp only [Act.put, lA, lZ, lS, i64_w, i32_w]; rfl
          refine take_ (i := 18) (N := some 52) (v := ?_) (a' := ?_) #[T,T,T,T,T,T,T,T,T,T,T,T,T,T,T,T,T,T,T,F,T,T,T,T,F,T,T,T,T,T,F,F,F,F,F,F,F,F,F,F] rfl rfl (take_ofW HT_.out HW_.out (by kernel_rfl)) (fun _ _ _ h => h) (Or.inl ⟨by rfl, ?_⟩) hHeld ?_ ?_
          rotate_left
          ·
           rintro w' ⟨s0, s1, s2, s3, s4, s5, s6, s7, s8, s9⟩
           go_simp; with_reducible rfl
          rotate_left
          ·
           simp only [Act.put, lA, lZ, lS, i64_w, i32_w]; rfl
          refine pure_ (i := 19) (N := some 53) (v := ?_) (a' := ?_) #[T,T,T,T,T,T,T,T,T,T,T,T,T,T,T,T,T,T,T,T,T,T,T,T,F,T,T,T,T,T,F,F,F,F,F,F,F,F,F,F] rfl rfl (any_of HT_.out (by kernel_rfl)) (fun _ _ _ h => h) (Or.inl ⟨by rfl, ?_⟩) ?_ ?_
          rotate_left
          ·
           intro w'; go_simp; with_reducible rfl
          rotate_left
          ·
           simp only [Act.put, lA, lZ, lS, i64_w, i32_w]; rfl
          refine take_ (i := 24) (N := some 58) (v := ?_) (a' := ?_) #[T,T,T,T,T,T,T,T,T,T,T,T,T,T,T,T,T,T,T,T,T,T,T,T,T,T,T,T,T,T,F,F,F,F,F,F,F,F,F,F] rfl rfl (take_ofW HT_.out HW_.out (by kernel_rfl)) (fun _ _ _ h => h) (Or.inl ⟨by rfl, ?_⟩) hHeld ?_ ?_
          rotate_left
          ·
           rintro w' ⟨s0, s1, s2, s3, s4, s5, s6, s7, s8, s9⟩
           go_simp; with_reducible rfl
          rotate_left
          ·
           simp only [Act.put, lA, lZ, lS, i64_w, i32_w]; rfl
          refine take_ (i := 30) (N := some 64) (v := ?_) (a' := ?_) #[T,T,T,T,T,T,T,T,T,T,T,T,T,T,T,T,T,T,T,T,T,T,T,T,T,T,T,T,T,T,T,F,F,F,F,F,F,F,F,F] rfl rfl (take_ofW HT_.out HW_.out (by kernel_rfl)) (fun _ _ _ h => h) (Or.inl ⟨by rfl, ?_⟩) hHeld ?_ ?_
          rotate_left
          ·
           rintro w' ⟨s0, s1, s2, s3, s4, s5, s6, s7, s8, s9⟩
           go_simp; with_reducible rfl
          rotate_left
          ·
           simp only [Act.put, lA, lZ, lS, i64_w, i32_w]; rfl
          refine pure_ (i := 31) (N := some 65) (v := ?_) (a' := ?_) #[T,T,T,T,T,T,T,T,T,T,T,T,T,T,T,T,T,T,T,T,T,T,T,T,T,T,T,T,T,T,T,T,F,F,F,F,F,F,F,F] rfl rfl (any_of HT_.out (by kernel_rfl)) (fun _ _ _ h => h) (Or.inl ⟨by rfl, ?_⟩) ?_ ?_
          rotate_left
          ·
           intro w'; go_simp; with_reducible rfl
          rotate_left
          ·
           simp only [Act.put, lA, lZ, lS, i64_w, i32_w]; rfl
          refine one_ (i := 32) (N := some 66) #[T,T,T,T,T,T,T,T,T,T,T,T,T,T,T,T,T,T,T,T,T,T,T,T,T,T,T,T,T,T,T,T,T,F,F,F,F,F,F,F] rfl rfl (one_of HT_.out (by kernel_rfl)) (by decide) (fun K hK => ?_)
          refine goes_ Try.func27 (by kernel_rfl) rfl #[.int .i64 (wrap64 (a1 - ((rd_T37 l0 (ji8)).f0))), .int .i64 (wrap64 (((rd_T37 l0 x6_1).f1) - ((rd_T37 l0 (ji8)).f1))), .int .i64 (wrap64 (((rd_T37 l0 x6_1).f0) - ((rd_T37 l0 (ji8)).f0)))] (by rfl) rfl rfl (by (try simp only [List.map_toArray, List.map_cons, List.map_nil]); first | done | (simp only [hji8]; rfl) | rfl | (simp only [List.length_drop, List.length_take]; rfl)) ?_
          with_reducible refine (bourneref01_Scale.calls k1 (wrap64 (a1 - ((rd_T37 l0 (ji8)).f0))) (wrap64 (((rd_T37 l0 x6_1).f1) - ((rd_T37 l0 (ji8)).f1))) (wrap64 (((rd_T37 l0 x6_1).f0) - ((rd_T37 l0 (ji8)).f0))) t209 t210 t211 _ A11.out).mono ?_
          rintro e w' ⟨rfl, ⟨nd, rfl⟩⟩
          refine ⟨_, rfl, ?_⟩
          refine hK.out _ _ ⟨((HB.out.cell (wL w _ hw204_0)).trans hw204_0), ((HB.out.cell (wL w _ hw204_1)).trans hw204_1), ((HB.out.cell (wL w _ hw205_0)).trans hw205_0), ((HB.out.cell (wL w _ hw205_1)).trans hw205_1), ((HB.out.cell (wL w _ hw206_0)).trans hw206_0), ((HB.out.cell (wL w _ hw206_1)).trans hw206_1), ((HB.out.cell (wL w _ hw207_0)).trans hw207_0), ((HB.out.cell (wL w _ hw207_1)).trans hw207_1), ((HB.out.cell (wL w _ hw208_0)).trans hw208_0), ((HB.out.cell (wL w _ hw208_1)).trans hw208_1)⟩ (fun hHeld => ?_)
          clear hK K; refine norm_ (a' := ?_) ?_ ?_
          rotate_left
          ·
           show Act.put _ (some 66) _ = _
           simp only [Act.put, lA, lZ, lS, i64_w, i32_w]; rfl
          refine pure_ (i := 33) (N := some 33) (v := ?_) (a' := ?_) #[T,T,T,T,T,T,T,T,T,T,T,T,T,T,T,T,T,T,T,T,T,T,T,T,T,T,T,T,T,T,T,T,T,T,F,F,F,F,F,F] rfl rfl (any_of HT_.out (by kernel_rfl)) (fun _ _ _ h => h) (Or.inl ⟨by rfl, ?_⟩) ?_ ?_
          rotate_left
          ·
           intro w'; go_simp; with_reducible rfl
          rotate_left
          ·
           simp only [Act.put, lA, lZ, lS, i64_w, i32_w]; rfl
          refine pure_ (i := 34) (N := some 67) (v := ?_) (a' := ?_) #[T,T,T,T,T,T,T,T,T,T,T,T,T,T,T,T,T,T,T,T,T,T,T,T,T,T,T,T,T,T,T,T,T,T,T,F,F,F,F,F] rfl rfl (any_of HT_.out (by kernel_rfl)) (fun _ _ _ h => h) (Or.inl ⟨by rfl, ?_⟩) ?_ ?_
          rotate_left
          ·
           intro w'; go_simp; with_reducible rfl
          rotate_left
          ·
           simp only [Act.put, lA, lZ, lS, i64_w, i32_w]; rfl
          refine pure_ (i := 35) (N := some 68) (v := ?_) (a' := ?_) #[T,T,T,T,T,T,T,T,T,T,T,T,T,T,T,T,T,T,T,T,T,T,T,T,T,T,T,T,T,T,T,T,T,T,T,T,F,F,F,F] rfl rfl (any_of HT_.out (by kernel_rfl)) (fun _ _ _ h => h) (Or.inl ⟨by rfl, ?_⟩) ?_ ?_
          rotate_left
          ·
           intro w'; go_simp; with_reducible rfl
          rotate_left
          ·
           simp only [Act.put, lA, lZ, lS, i64_w, i32_w]; rfl
          refine pure_ (i := 36) (N := some 69) (v := ?_) (a' := ?_) #[T,T,T,T,T,T,T,T,T,T,T,T,T,T,T,T,T,T,T,T,T,T,T,T,T,T,T,T,T,T,T,T,T,T,T,T,T,F,F,F] rfl rfl (any_of HT_.out (by kernel_rfl)) (fun _ _ _ h => h) (Or.inl ⟨by rfl, ?_⟩) ?_ ?_
          rotate_left
          ·
           intro w'; go_simp; with_reducible rfl
          rotate_left
          ·
           simp only [Act.put, lA, lZ, lS, i64_w, i32_w]; rfl
          refine pure_ (i := 37) (N := some 7) (v := ?_) (a' := ?_) #[T,T,T,T,T,T,T,T,T,T,T,T,T,T,T,T,T,T,T,T,T,T,T,T,T,T,T,T,T,T,T,T,T,T,T,T,T,T,F,F] rfl rfl (any_of HT_.out (by kernel_rfl)) (fun _ _ _ h => h) (Or.inl ⟨by rfl, ?_⟩) ?_ ?_
          rotate_left
          ·
           intro w'; go_simp; with_reducible rfl
          rotate_left
          ·
           simp only [Act.put, lA, lZ, lS, i64_w, i32_w]; rfl
          refine pure_ (i := 38) (N := some 8) (v := ?_) (a' := ?_) #[T,T,T,T,T,T,T,T,T,T,T,T,T,T,T,T,T,T,T,T,T,T,T,T,T,T,T,T,T,T,T,T,T,T,T,T,T,T,T,F] rfl rfl (any_of HT_.out (by kernel_rfl)) (fun _ _ _ h => h) (Or.inl ⟨by rfl, ?_⟩) ?_ ?_
          rotate_left
          ·
           intro w'; go_simp; with_reducible rfl
          rotate_left
          ·
           simp only [Act.put, lA, lZ, lS, i64_w, i32_w]; rfl
          refine pure_ (i := 39) (N := some 9) (v := ?_) (a' := ?_) #[T,T,T,T,T,T,T,T,T,T,T,T,T,T,T,T,T,T,T,T,T,T,T,T,T,T,T,T,T,T,T,T,T,T,T,T,T,T,T,T] rfl rfl (any_of HT_.out (by kernel_rfl)) (fun _ _ _ h => h) (Or.inl ⟨by rfl, ?_⟩) ?_ ?_
          rotate_left
          ·
           intro w'; go_simp; with_reducible rfl
          rotate_left
          ·
           simp only [Act.put, lA, lZ, lS, i64_w, i32_w]; rfl
          refine done_ (done_of HT_.out (by kernel_rfl)) ?_
          have p212 : 0 ≤ ((ji8) : Int) := of_decide_eq_true (by first | (with_reducible assumption) | assumption)
          have q212 : (ji8) < (l0.length : Int) := of_decide_eq_true (by first | (with_reducible assumption) | assumption)
          obtain ⟨ad212, e212, hx212_0, hx212_1⟩ := at_T37 HR0.out (ji8) p212 q212
          obtain rfl : ad200 = ad212 := (by injection e212)
          replace hx212_0 := (HB.out.cell (wL w _ hx212_0)).trans hx212_0
          replace hx212_1 := (HB.out.cell (wL w _ hx212_1)).trans hx212_1
          replace p212 := eq_true p212
          replace q212 := eq_true q212
          try go_wp2
          go_ret2
          exact ⟨by first | rfl | (simp [errW_none, errW_some] <;> rfl) | (simp only [← hji8]; first | rfl | (simp [errW_none, errW_some] <;> rfl)) | (simp [*, errW_none, errW_some] <;> rfl), by repeat (first | (with_reducible first | exact HB.out | apply bL | apply bW | apply b1) | exact HB.out)⟩
         ·
          rw [if_neg c10] at H; exact absurd H (by simp)
        ·
         rw [if_neg c9] at H; exact absurd H (by simp)
       ·
        rw [if_neg c7] at H; have c7b0 : decide (a1 ≤ ((rd_T37 l0 x6_1).f0)) = false := decide_eq_false c7
        clear c7; have H' := Aside0.mk H
        clear H; have p203 : 0 ≤ (x6_1 : Int) := of_decide_eq_true (by first | (with_reducible assumption) | assumption)
        have q203 : x6_1 < (l0.length : Int) := of_decide_eq_true (by first | (with_reducible assumption) | assumption)
        obtain ⟨ad203, e203, hx203_0, hx203_1⟩ := at_T37 HR0.out x6_1 p203 q203
        obtain rfl : ad200 = ad203 := (by injection e203)
        replace hx203_0 := (HB.out.cell (wL w _ hx203_0)).trans hx203_0
        replace hx203_1 := (HB.out.cell (wL w _ hx203_1)).trans hx203_1
        replace p203 := eq_true p203
        replace q203 := eq_true q203
        go_wp2
        go_roundg k1
        case measure => have := HK1.out; omega
        case rel => exact ⟨(wrap64 (x6_1 + 1)), (by first | rfl | (simp; done) | (simp [*]; done)), H', ⟨by have := HK1.out; omega⟩, ⟨by repeat (first | (with_reducible first | exact HB.out | apply bL | apply bW | apply b1) | exact HB.out)⟩⟩
      ·
       rw [if_neg c6] at H; exact absurd H (by simp)
     ·
      rw [if_neg c5] at H; have c5b0 : decide (x6_1 < (l0.length : Int)) = false := decide_eq_false c5
      clear c5; obtain ⟨ji13, hji13⟩ : ∃ j_ : Int, (wrap64 ((l0.length : Int) - 1)) = j_ := ⟨_, rfl⟩
      replace H : (if 0 ≤ (ji13) then (if (ji13) < (l0.length : Int) then (some ((rd_T37 l0 (ji13)).f1, false)) else (none)) else (none)) = some (r1, r2) := by first | (rw [hji13] at H; exact H) | (simp only [hji13] at H ⊢; exact H)
      have hji13w : (IntKind.i64.wrap ((l0.length : Int) - 1)) = ji13 := (i64_w _).trans hji13
      by_cases c14 : 0 ≤ (ji13)
      ·
       rw [if_pos c14] at H; have c14b0 : decide (0 ≤ (ji13)) = true := decide_eq_true c14
       clear c14; by_cases c15 : (ji13) < (l0.length : Int)
       ·
        rw [if_pos c15] at H; have c15b0 : decide ((ji13) < (l0.length : Int)) = true := decide_eq_true c15
        clear c15; simp only [Option.some.injEq, Prod.mk.injEq] at H; obtain ⟨rfl, rfl⟩ := H
        have p202 : 0 ≤ ((ji13) : Int) := of_decide_eq_true (by first | (with_reducible assumption) | assumption)
        have q202 : (ji13) < (l0.length : Int) := of_decide_eq_true (by first | (with_reducible assumption) | assumption)
        obtain ⟨ad202, e202, hx202_0, hx202_1⟩ := at_T37 HR0.out (ji13) p202 q202
        obtain rfl : ad200 = ad202 := (by injection e202)
        replace hx202_0 := (HB.out.cell (wL w _ hx202_0)).trans hx202_0
        replace hx202_1 := (HB.out.cell (wL w _ hx202_1)).trans hx202_1
        replace p202 := eq_true p202
        replace q202 := eq_true q202
        go_wp2
        go_ret2
        exact ⟨by first | rfl | (simp [errW_none, errW_some] <;> rfl) | (simp only [← hji13]; first | rfl | (simp [errW_none, errW_some] <;> rfl)) | (simp [*, errW_none, errW_some] <;> rfl), by repeat (first | (with_reducible first | exact HB.out | apply bL | apply bW | apply b1) | exact HB.out)⟩
       ·
        rw [if_neg c15] at H; exact absurd H (by simp)
      ·
       rw [if_neg c14] at H; exact absurd H (by simp)
 ·
  rw [if_neg c3] at H; exact absurd H (by simp)
def bourneref10_At.f (k : Nat) (l0 : List (S37)) (a1 : Int) : Option (Int) := (bourneref10_Right.f k l0).bind fun t213 => (if t213 = true then ((bourneref10_value.f k l0 a1).bind fun bt214 => (some bt214.1)) else (some 0))
theorem bourneref10_At.mono : ∀ a0 a1 k, LeO (bourneref10_At.f k a0 a1) (bourneref10_At.f (k + 1) a0 a1) := by
 intro a0 a1 k; unfold bourneref10_At.f
 repeat' first
   | (with_reducible exact bourneref10_Right.mono _ _)
   | (with_reducible exact bourneref10_value.mono _ _ _)
   | (with_reducible exact LeO.refl _)
   | (with_reducible exact LeO.none _)
   | (with_reducible refine LeO.ite ?_ ?_)
   | (with_reducible refine LeO.bind ?_ (fun _ => ?_))
   | exact bourneref10_Right.mono _ _
   | exact bourneref10_value.mono _ _ _
   | exact LeO.none _
   | refine LeO.ite ?_ ?_
   | refine LeO.bind ?_ (fun _ => ?_)
set_option maxHeartbeats 8000000 in
set_option maxRecDepth 100000 in
theorem bourneref10_At.calls (k : Nat) (A0 : Option Addr) (c0 : Nat) (l0 : List (S37)) (a1 : Int) (r : Int) (w : World) (hr0 : Kd.C k37 w A0 l0.length l0) (hc0 : l0.length ≤ c0) (h : bourneref10_At.f k l0 a1 = some r) :
  Calls Try.prog 14 #[.slice A0 l0.length c0, .int .i64 a1] w fun e w' => e = .returned (.int .i64 r) ∧ Below w.heap.size w w' := by
 have HR0 := Aside0.mk hr0
 have HC0 := Aside0.mk hc0
 clear hr0 hc0; have HB := Aside0.mk (Below.refl w.heap.size w)
 have H : ((bourneref10_Right.f k l0).bind fun t213 => (if t213 = true then ((bourneref10_value.f k l0 a1).bind fun bt214 => (some bt214.1)) else (some 0))) = some r := h
 clear h; replace H := Option.bind_eq_some_iff.mp H
 obtain ⟨t213, A30, H⟩ := H
 have A3 := Aside0.mk A30
 clear A30; by_cases c4 : t213 = true
 ·
  subst c4; have H1 : ((bourneref10_value.f k l0 a1).bind fun bt214 => (some bt214.1)) = some r := by rw [if_pos rfl] at H; exact H
  clear H; have H := H1
  clear H1; replace H := Option.bind_eq_some_iff.mp H
  obtain ⟨⟨t214, t215⟩, A50, H⟩ := H
  dsimp only at H
  have A5 := Aside0.mk A50
  clear A50; obtain rfl := Option.some.inj H
  go_enter Try.func14, Try.ntmps14
  go_wp2_with (first | ((with_reducible refine gate_callee (f := 12) rfl ?_); refine goesL_ (some 8) rfl rfl Try.func12 (by kernel_rfl) rfl #[.slice A0 l0.length c0] rfl (by (try simp only [List.map_toArray, List.map_cons, List.map_nil]); first | done | rfl | (simp only [List.length_drop, List.length_take]; rfl)) ?_; (with_reducible refine (bourneref10_Right.calls k _ _ l0 true _ ?side1 ?side2 A3.out).mono ?_); (case side1 => repeat (first | exact HR0.out | (with_reducible refine Kd.C_alloc ?_ _) | (with_reducible refine Kd.C_drewN ?_ _) | (with_reducible refine Kd.C_drew ?_))); (case side2 => exact HC0.out); rintro e w6 ⟨rfl, hb⟩; refine ⟨_, rfl, ?_⟩; have n0_ := Aside0.mk (bP (by repeat (first | (with_reducible first | exact HB.out | apply bL | apply bW | apply b1) | exact HB.out)) hb); clear HB; have HB := n0_; clear n0_; (try clear hb); (try clear hb2); (try clear hk); (try clear hi)) | ((with_reducible refine gate_callee (f := 26) rfl ?_); refine goesL_ (some 13) rfl rfl Try.func26 (by kernel_rfl) rfl #[.slice A0 l0.length c0, .int .i64 a1] rfl (by (try simp only [List.map_toArray, List.map_cons, List.map_nil]); first | done | rfl | (simp only [List.length_drop, List.length_take]; rfl)) ?_; (with_reducible refine (bourneref10_value.calls k _ _ l0 a1 t214 t215 _ ?side1 ?side2 A5.out).mono ?_); (case side1 => repeat (first | exact (Kd.C_below HR0.out HB.out) | (with_reducible refine Kd.C_alloc ?_ _) | (with_reducible refine Kd.C_drewN ?_ _) | (with_reducible refine Kd.C_drew ?_))); (case side2 => exact HC0.out); rintro e w7 ⟨rfl, hb⟩; refine ⟨_, rfl, ?_⟩; have n0_ := Aside0.mk (bP (by repeat (first | (with_reducible first | exact HB.out | apply bL | apply bW | apply b1) | exact HB.out)) hb); clear HB; have HB := n0_; clear n0_; (try clear hb); (try clear hb2); (try clear hk); (try clear hi)))
  go_ret
  exact ⟨by first | rfl | (simp [errW_none, errW_some] <;> rfl) | (simp [*, errW_none, errW_some] <;> rfl), by repeat (first | (with_reducible first | exact HB.out | apply bL | apply bW | apply b1) | exact HB.out)⟩
 ·
  replace c4 := Bool.eq_false_iff.mpr c4
  subst c4; have H1 : (some 0) = some r := by rw [if_neg (show ¬ (false = true) by decide)] at H; exact H
  clear H; have H := H1
  clear H1; obtain rfl := Option.some.inj H
  go_enter Try.func14, Try.ntmps14
  go_wp2_with (first | ((with_reducible refine gate_callee (f := 12) rfl ?_); refine goesL_ (some 8) rfl rfl Try.func12 (by kernel_rfl) rfl #[.slice A0 l0.length c0] rfl (by (try simp only [List.map_toArray, List.map_cons, List.map_nil]); first | done | rfl | (simp only [List.length_drop, List.length_take]; rfl)) ?_; (with_reducible refine (bourneref10_Right.calls k _ _ l0 false _ ?side1 ?side2 A3.out).mono ?_); (case side1 => repeat (first | exact HR0.out | (with_reducible refine Kd.C_alloc ?_ _) | (with_reducible refine Kd.C_drewN ?_ _) | (with_reducible refine Kd.C_drew ?_))); (case side2 => exact HC0.out); rintro e w8 ⟨rfl, hb⟩; refine ⟨_, rfl, ?_⟩; have n0_ := Aside0.mk (bP (by repeat (first | (with_reducible first | exact HB.out | apply bL | apply bW | apply b1) | exact HB.out)) hb); clear HB; have HB := n0_; clear n0_; (try clear hb); (try clear hb2); (try clear hk); (try clear hi)))
  go_ret
  exact ⟨by first | rfl | (simp [errW_none, errW_some] <;> rfl) | (simp [*, errW_none, errW_some] <;> rfl), by repeat (first | (with_reducible first | exact HB.out | apply bL | apply bW | apply b1) | exact HB.out)⟩
end Go.Proofs.Ytmkekbehipaopaa.Fn
