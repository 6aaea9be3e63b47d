-- written by this session's program myprint.py out of the translation; Lean checks it
import Derived.Test.YtmkekbehipaopaaFn0
import Derived.Test.YtmkekbehipaopaaFn3
import Derived.Test.YtmkekbehipaopaaSearch
namespace Go.Proofs.Ytmkekbehipaopaa.Fn
open Go.RowKit Go.Proofs.YtmkekbehipaopaaW.PrintWords Go.Proofs.YtmkekbehipaopaaW.PrintLast Go.Proofs.YtmkekbehipaopaaW.PrintMore
open World renaming block_lt_of_cell? → wL
open Bool renaming true → T, false → F
open List renaming setIfInBounds_toArray → lA, set_cons_zero → lZ, set_cons_succ → lS
open Go.Proofs.YtmkekbehipaopaaW.PrintWords renaming blk_drewN → bN, blk_drew → bD, blk_alloc → bA, below_set → bS, blk_cell → bC, blk_below → bB, blk_frozen → bF, pw_below_drewN → bW, below_drew1 → b1, below_alloc → bL, below_step → bP, below_size → bZ, blk_lt → bT
attribute [local go_sem] max2_int min2_int max_two min_two max_three min_three max_four min_four
set_option linter.unusedVariables false
set_option linter.unusedSimpArgs false
def curve_at.f (k : Nat) (l0 : List (S37)) (a1 : Int) : Option (Int × Int) := (search_x.f l0 a1).bind fun t123 => (if t123 = 0 then (if 0 < (l0.length : Int) then (some ((rd_T37 l0 0).f1, (rd_T37 l0 0).f1)) else (none)) else (if t123 = (l0.length : Int) then (if 0 ≤ (wrap64 (t123 - 1)) then (if (wrap64 (t123 - 1)) < (l0.length : Int) then (some ((rd_T37 l0 (wrap64 (t123 - 1))).f1, (rd_T37 l0 (wrap64 (t123 - 1))).f1)) else (none)) else (none)) else (if 0 ≤ (wrap64 (t123 - 1)) then (if (wrap64 (t123 - 1)) < (l0.length : Int) then (if 0 ≤ t123 then (if t123 < (l0.length : Int) then ((exact_Scale.f k (wrap64 (((rd_T37 l0 t123).f1) - ((rd_T37 l0 (wrap64 (t123 - 1))).f1))) (wrap64 (a1 - ((rd_T37 l0 (wrap64 (t123 - 1))).f0))) (wrap64 (((rd_T37 l0 t123).f0) - ((rd_T37 l0 (wrap64 (t123 - 1))).f0)))).bind fun bt132 => (if bt132.2.1 > 0 then (some (wrap64 (((rd_T37 l0 (wrap64 (t123 - 1))).f1) + bt132.1), wrap64 ((wrap64 (((rd_T37 l0 (wrap64 (t123 - 1))).f1) + bt132.1)) + 1))) else (some (wrap64 (((rd_T37 l0 (wrap64 (t123 - 1))).f1) + bt132.1), wrap64 (((rd_T37 l0 (wrap64 (t123 - 1))).f1) + bt132.1))))) else (none)) else (none)) else (none)) else (none))))
theorem curve_at.mono : ∀ a0 a1 k, LeO (curve_at.f k a0 a1) (curve_at.f (k + 1) a0 a1) := by
 intro a0 a1 k; unfold curve_at.f
 repeat' first
   | (with_reducible exact exact_Scale.mono _ _ _ _)
   | (with_reducible exact LeO.refl _)
   | (with_reducible exact LeO.none _)
   | (with_reducible refine LeO.ite ?_ ?_)
   | (with_reducible refine LeO.bind ?_ (fun _ => ?_))
   | exact exact_Scale.mono _ _ _ _
   | exact LeO.none _
   | refine LeO.ite ?_ ?_
   | refine LeO.bind ?_ (fun _ => ?_)
def curve_at.T3 : Bool × List (List Nat × List Nat) := (true, [([], []), ([0], [0]), ([1], [1]), ([2], [2]), ([], []), ([4], [4]), ([5], [5]), ([6], [6]), ([3, 0, 1, 2, 3], [3]), ([7, 8, 0, 1, 2, 3, 4, 5, 6, 7, 8], [7])])
def curve_at.B3 : List Nat := [0, 1, 3, 7, 0, 16, 48, 112, 15, 511]
theorem curve_at.tab3 : rtab .any (opsOf Try.f25 3) = curve_at.T3 := by kernel_rfl
theorem curve_at.bits3 : waitsOk curve_at.T3.2 curve_at.B3 = true := by kernel_rfl
def curve_at.T5 : Bool × List (List Nat × List Nat) := (true, [([], []), ([], []), ([1], [1]), ([0, 2], [0, 2]), ([3], [3]), ([4], [4]), ([], []), ([], []), ([7], [7]), ([6, 8], [6, 8]), ([9], [9]), ([10], [10]), ([5, 0, 1, 2, 3, 4, 5], [5]), ([11, 12, 0, 1, 2, 3, 4, 5, 6, 7, 8, 9, 10, 11, 12], [11])])
def curve_at.B5 : List Nat := [0, 0, 2, 7, 15, 31, 0, 0, 128, 448, 960, 1984, 63, 8191]
theorem curve_at.tab5 : rtab .any (opsOf Try.f25 5) = curve_at.T5 := by kernel_rfl
theorem curve_at.bits5 : waitsOk curve_at.T5.2 curve_at.B5 = true := by kernel_rfl
def curve_at.T6 : Bool × List (List Nat × List Nat) := (true, [([], []), ([], []), ([1], [1]), ([0, 2], [0, 2]), ([3], [3]), ([], []), ([], []), ([5, 6], [5, 6]), ([7], [7]), ([], []), ([], []), ([9, 4, 0, 1, 2, 3, 4, 9, 10], [4, 9]), ([10, 8, 11, 0, 1, 2, 3, 4, 5, 6, 7, 8, 9, 10, 11], [8, 10])])
def curve_at.B6 : List Nat := [0, 0, 2, 7, 15, 0, 0, 96, 224, 0, 0, 1567, 4095]
theorem curve_at.tab6 : rtab .any (opsOf Try.f25 6) = curve_at.T6 := by kernel_rfl
theorem curve_at.bits6 : waitsOk curve_at.T6.2 curve_at.B6 = true := by kernel_rfl
set_option maxHeartbeats 8000000 in
set_option maxRecDepth 100000 in
theorem curve_at.calls (k : Nat) (A0 : Option Addr) (c0 : Nat) (l0 : List (S37)) (a1 : Int) (r1 : Int) (r2 : Int) (w : World) (hr0 : Kd.C k37 w A0 l0.length l0) (hc0 : l0.length ≤ c0) (h : curve_at.f k l0 a1 = some (r1, r2)) :
  Calls Try.prog 25 #[.slice A0 l0.length c0, .int .i64 a1] w fun e w' => e = .returned (.tuple #[.int .i64 r1, .int .i64 r2]) ∧ Below w.heap.size w w' := by
 obtain ⟨W0, hW0⟩ : ∃ W0, W0 = (w.alloc (.cells #[.slice A0 l0.length c0] 22)).alloc (.cells #[.int .i64 a1] 3) := ⟨_, rfl⟩
 have HBZ : Below w.heap.size w W0 := by rw [hW0]; exact bL (bL (Below.refl _ w) _) _
 have hq1 : W0.cell? ⟨w.heap.size, 0, none⟩ = some (.slice A0 l0.length c0) := by rw [hW0]; exact box_fst _ _ _ _ _
 have hq2 : W0.cell? ⟨w.heap.size + 1, 0, none⟩ = some (.int .i64 a1) := by rw [hW0]; exact box_snd _ _ _ _ _
 replace hW0 := Aside0.mk hW0
 replace HBZ := Aside0.mk HBZ
 replace hr0 := Kd.C_below hr0 HBZ.out
 suffices h_ : Calls Try.prog 25 #[.slice A0 l0.length c0, .int .i64 a1] w fun e w' => e = .returned (.tuple #[.int .i64 r1, .int .i64 r2]) ∧ Below W0.heap.size W0 w' from h_.mono fun e w' ⟨he, hb⟩ => ⟨he, bP HBZ.out hb⟩
 have hu37 := Try.underlying37
 have HR0 := Aside0.mk hr0
 have HC0 := Aside0.mk hc0
 clear hr0 hc0; have HB := Aside0.mk (Below.refl W0.heap.size W0)
 have H : ((search_x.f l0 a1).bind fun t123 => (if t123 = 0 then (if 0 < (l0.length : Int) then (some ((rd_T37 l0 0).f1, (rd_T37 l0 0).f1)) else (none)) else (if t123 = (l0.length : Int) then (if 0 ≤ (wrap64 (t123 - 1)) then (if (wrap64 (t123 - 1)) < (l0.length : Int) then (some ((rd_T37 l0 (wrap64 (t123 - 1))).f1, (rd_T37 l0 (wrap64 (t123 - 1))).f1)) else (none)) else (none)) else (if 0 ≤ (wrap64 (t123 - 1)) then (if (wrap64 (t123 - 1)) < (l0.length : Int) then (if 0 ≤ t123 then (if t123 < (l0.length : Int) then ((exact_Scale.f k (wrap64 (((rd_T37 l0 t123).f1) - ((rd_T37 l0 (wrap64 (t123 - 1))).f1))) (wrap64 (a1 - ((rd_T37 l0 (wrap64 (t123 - 1))).f0))) (wrap64 (((rd_T37 l0 t123).f0) - ((rd_T37 l0 (wrap64 (t123 - 1))).f0)))).bind fun bt132 => (if bt132.2.1 > 0 then (some (wrap64 (((rd_T37 l0 (wrap64 (t123 - 1))).f1) + bt132.1), wrap64 ((wrap64 (((rd_T37 l0 (wrap64 (t123 - 1))).f1) + bt132.1)) + 1))) else (some (wrap64 (((rd_T37 l0 (wrap64 (t123 - 1))).f1) + bt132.1), wrap64 (((rd_T37 l0 (wrap64 (t123 - 1))).f1) + bt132.1))))) else (none)) else (none)) else (none)) else (none))))) = some (r1, r2) := h
 clear h; replace H := Option.bind_eq_some_iff.mp H
 obtain ⟨t123, A30, H⟩ := H
 have A3 := Aside0.mk A30
 clear A30; by_cases c4 : t123 = 0
 ·
  rw [if_pos c4] at H; have c4b0 : (t123 == 0) = true := beq_iff_eq.mpr c4
  have c4b1 : (t123 != 0) = false := bne_eq_false_iff_eq.mpr c4
  clear c4; by_cases c5 : 0 < (l0.length : Int)
  ·
   rw [if_pos c5] at H; have c5b0 : decide (0 < (l0.length : Int)) = true := decide_eq_true c5
   have c5b1 : decide (0 < l0.length) = true := decide_eq_true (by omega)
   clear c5; simp only [Option.some.injEq, Prod.mk.injEq] at H; obtain ⟨rfl, rfl⟩ := H
   go_enter Try.func25, Try.ntmps25
   (try simp only [List.append_eq, List.cons_append, List.nil_append]); have hbx1 := ((HB.out.cell (wL W0 _ hq1)).trans hq1)
   have hbx2 := ((HB.out.cell (wL W0 _ hq2)).trans hq2)
   try go_wp2_with (first | ((with_reducible refine gate_callee (f := 22) rfl ?_); refine goesL_ (some 15) rfl rfl Try.func22 (by kernel_rfl) rfl #[.int .i64 (l0.length : Int), .func (.func 31) #[] #[.pointer (some ⟨w.heap.size, 0, none⟩), .pointer (some ⟨w.heap.size + 1, 0, none⟩)]] rfl (by (try simp only [List.map_toArray, List.map_cons, List.map_nil]); first | done | rfl | (simp only [List.length_drop, List.length_take]; rfl)) ?_; (try rw [← hW0.out]); (with_reducible refine (search_x.calls w.heap.size (w.heap.size + 1) A0 c0 l0 a1 t123 _ ?bx1 ?bx2 ?side1 A3.out).mono ?_); (case bx1 => exact ((HB.out.cell (wL W0 _ hq1)).trans hq1)); (case bx2 => exact ((HB.out.cell (wL W0 _ hq2)).trans hq2)); (case side1 => repeat (first | exact HR0.out | (with_reducible refine Kd.C_alloc ?_ _) | (with_reducible refine Kd.C_drewN ?_ _) | (with_reducible refine Kd.C_drew ?_))); rintro e w6 ⟨rfl, hb⟩; refine ⟨_, rfl, ?_⟩; have n0_ := Aside0.mk (bP (by repeat (first | (with_reducible first | exact HB.out | apply bL | apply bW | apply b1) | exact HB.out)) hb); clear HB; have HB := n0_; clear n0_; (try clear hbx1 hbx2); have hbx1 := ((HB.out.cell (wL W0 _ hq1)).trans hq1); have hbx2 := ((HB.out.cell (wL W0 _ hq2)).trans hq2); (try clear hb); (try clear hb2); (try clear hk); (try clear hi)))
   have n0_ := Aside0.mk (b1 HB.out)
   clear HB; have HB := n0_
   clear n0_; have p124 : 0 ≤ (0 : Int) := (by omega)
   have q124 : 0 < (l0.length : Int) := of_decide_eq_true (by first | (with_reducible assumption) | assumption)
   obtain ⟨ad124, e124, hx124_0, hx124_1⟩ := at_T37 HR0.out 0 p124 q124
   have hw124_1 := hx124_1
   (try rw [show ((0 : Int)).toNat = 0 from rfl] at hw124_1)
   (try rw [show 0 * 2 = 0 from rfl] at hw124_1); (try rw [Addr.add_zero'] at hw124_1); have hw124_0 := hx124_0
   (try rw [show ((0 : Int)).toNat = 0 from rfl] at hw124_0)
   (try rw [show 0 * 2 = 0 from rfl] at hw124_0); (try rw [Addr.add_zero'] at hw124_0); cases e124
   have qi124 : (0 < l0.length) = True := eq_true (by omega)
   (try rw [show ((0 : Int)).toNat = 0 from rfl] at hx124_0)
   (try rw [show 0 * 2 = 0 from rfl] at hx124_0); (try rw [Addr.add_zero'] at hx124_0); (try rw [show ((0 : Int)).toNat = 0 from rfl] at hx124_1)
   (try rw [show 0 * 2 = 0 from rfl] at hx124_1); (try rw [Addr.add_zero'] at hx124_1); replace hx124_0 := (HB.out.cell (wL W0 _ hx124_0)).trans hx124_0
   replace hx124_1 := (HB.out.cell (wL W0 _ hx124_1)).trans hx124_1
   replace p124 := eq_true p124
   replace q124 := eq_true q124
   have p125 : 0 ≤ (0 : Int) := (by omega)
   have q125 : 0 < (l0.length : Int) := of_decide_eq_true (by first | (with_reducible assumption) | assumption)
   obtain ⟨ad125, e125, hx125_0, hx125_1⟩ := at_T37 HR0.out 0 p125 q125
   have hw125_1 := hx125_1
   (try rw [show ((0 : Int)).toNat = 0 from rfl] at hw125_1)
   (try rw [show 0 * 2 = 0 from rfl] at hw125_1); (try rw [Addr.add_zero'] at hw125_1); have hw125_0 := hx125_0
   (try rw [show ((0 : Int)).toNat = 0 from rfl] at hw125_0)
   (try rw [show 0 * 2 = 0 from rfl] at hw125_0); (try rw [Addr.add_zero'] at hw125_0); obtain rfl : ad124 = ad125 := (by injection e125)
   have qi125 : (0 < l0.length) = True := eq_true (by omega)
   (try rw [show ((0 : Int)).toNat = 0 from rfl] at hx125_0)
   (try rw [show 0 * 2 = 0 from rfl] at hx125_0); (try rw [Addr.add_zero'] at hx125_0); (try rw [show ((0 : Int)).toNat = 0 from rfl] at hx125_1)
   (try rw [show 0 * 2 = 0 from rfl] at hx125_1); (try rw [Addr.add_zero'] at hx125_1); replace hx125_0 := (HB.out.cell (wL W0 _ hx125_0)).trans hx125_0
   replace hx125_1 := (HB.out.cell (wL W0 _ hx125_1)).trans hx125_1
   replace p125 := eq_true p125
   replace q125 := eq_true q125
   refine start_ (n := 10) (S := fun w' => w'.cell? ⟨w.heap.size, 0, none⟩ = some (.slice (some ad124) l0.length c0) ∧ w'.cell? ⟨w.heap.size + 1, 0, none⟩ = some (.int .i64 a1) ∧ w'.cell? ad124 = some (.int .i64 ((rd_T37 l0 0).f0)) ∧ w'.cell? ⟨ad124.block, ad124.off + 1, none⟩ = some (.int .i64 ((rd_T37 l0 0).f1)) ∧ w'.cell? ad124 = some (.int .i64 ((rd_T37 l0 0).f0)) ∧ w'.cell? ⟨ad124.block, ad124.off + 1, none⟩ = some (.int .i64 ((rd_T37 l0 0).f1))) (ds := []) #[F,F,F,F,F,F,F,F,F,F] (by kernel_rfl) rfl rfl ⟨((HB.out.cell (wL W0 _ hq1)).trans hq1), ((HB.out.cell (wL W0 _ hq2)).trans hq2), ((HB.out.cell (wL W0 _ hw124_0)).trans hw124_0), ((HB.out.cell (wL W0 _ hw124_1)).trans hw124_1), ((HB.out.cell (wL W0 _ hw125_0)).trans hw125_0), ((HB.out.cell (wL W0 _ hw125_1)).trans hw125_1)⟩ (fun hHeld => ?_); refine with_tabW curve_at.tab3 curve_at.bits3 (fun HT_ HW_ => ?_)
   generalize w6.drew = w7 at HB hx124_0 hx124_1 hx125_0 hx125_1 hHeld ⊢
   refine take_ (i := 0) (N := some 19) (v := ?_) (a' := ?_) #[T,F,F,F,F,F,F,F,F,F] rfl rfl (take_ofW HT_.out HW_.out (by kernel_rfl)) (fun _ _ _ h => h) (Or.inl ⟨by rfl, ?_⟩) hHeld ?_ ?_
   rotate_left
   ·
    rintro w' ⟨sx1, sx2, sx3⟩
    go_simp; with_reducible rfl
   rotate_left
   ·
    simp only [Act.put, lA, lZ, lS, i64_w, i32_w]; rfl
   refine pure_ (i := 1) (N := some 20) (v := ?_) (a' := ?_) #[T,T,F,F,F,F,F,F,F,F] rfl rfl (any_of HT_.out (by kernel_rfl)) (fun _ _ _ h => h) (Or.inl ⟨by rfl, ?_⟩) ?_ ?_
   rotate_left
   ·
    intro w'; go_simp; with_reducible rfl
   rotate_left
   ·
    simp only [Act.put, lA, lZ, lS, i64_w, i32_w]; rfl
   refine pure_ (i := 2) (N := some 21) (v := ?_) (a' := ?_) #[T,T,T,F,F,F,F,F,F,F] rfl rfl (any_of HT_.out (by kernel_rfl)) (fun _ _ _ h => h) (Or.inl ⟨by rfl, ?_⟩) ?_ ?_
   rotate_left
   ·
    intro w'; go_simp; with_reducible rfl
   rotate_left
   ·
    simp only [Act.put, lA, lZ, lS, i64_w, i32_w]; rfl
   refine take_ (i := 4) (N := some 23) (v := ?_) (a' := ?_) #[T,T,T,F,T,F,F,F,F,F] rfl rfl (take_ofW HT_.out HW_.out (by kernel_rfl)) (fun _ _ _ h => h) (Or.inl ⟨by rfl, ?_⟩) hHeld ?_ ?_
   rotate_left
   ·
    rintro w' ⟨sx1, sx2, sx3⟩
    go_simp; with_reducible rfl
   rotate_left
   ·
    simp only [Act.put, lA, lZ, lS, i64_w, i32_w]; rfl
   refine pure_ (i := 5) (N := some 24) (v := ?_) (a' := ?_) #[T,T,T,F,T,T,F,F,F,F] rfl rfl (any_of HT_.out (by kernel_rfl)) (fun _ _ _ h => h) (Or.inl ⟨by rfl, ?_⟩) ?_ ?_
   rotate_left
   ·
    intro w'; go_simp; with_reducible rfl
   rotate_left
   ·
    simp only [Act.put, lA, lZ, lS, i64_w, i32_w]; rfl
   refine pure_ (i := 6) (N := some 25) (v := ?_) (a' := ?_) #[T,T,T,F,T,T,T,F,F,F] rfl rfl (any_of HT_.out (by kernel_rfl)) (fun _ _ _ h => h) (Or.inl ⟨by rfl, ?_⟩) ?_ ?_
   rotate_left
   ·
    intro w'; go_simp; with_reducible rfl
   rotate_left
   ·
    simp only [Act.put, lA, lZ, lS, i64_w, i32_w]; rfl
   refine take_ (i := 3) (N := some 22) (v := ?_) (a' := ?_) #[T,T,T,T,T,T,T,F,F,F] rfl rfl (take_ofW HT_.out HW_.out (by kernel_rfl)) (fun _ _ _ h => h) (Or.inl ⟨by rfl, ?_⟩) hHeld ?_ ?_
   rotate_left
   ·
    rintro w' ⟨sx1, sx2, s0, s1, s2, s3⟩
    go_simp; with_reducible rfl
   rotate_left
   ·
    simp only [Act.put, lA, lZ, lS, i64_w, i32_w]; rfl
   refine pure_ (i := 8) (N := some 4) (v := ?_) (a' := ?_) #[T,T,T,T,T,T,T,F,T,F] rfl rfl (any_of HT_.out (by kernel_rfl)) (fun _ _ _ h => h) (Or.inl ⟨by rfl, ?_⟩) ?_ ?_
   rotate_left
   ·
    intro w'; go_simp; with_reducible rfl
   rotate_left
   ·
    simp only [Act.put, lA, lZ, lS, i64_w, i32_w]; rfl
   refine take_ (i := 7) (N := some 26) (v := ?_) (a' := ?_) #[T,T,T,T,T,T,T,T,T,F] rfl rfl (take_ofW HT_.out HW_.out (by kernel_rfl)) (fun _ _ _ h => h) (Or.inl ⟨by rfl, ?_⟩) hHeld ?_ ?_
   rotate_left
   ·
    rintro w' ⟨sx1, sx2, s0, s1, s2, s3⟩
    go_simp; with_reducible rfl
   rotate_left
   ·
    simp only [Act.put, lA, lZ, lS, i64_w, i32_w]; rfl
   refine pure_ (i := 9) (N := some 5) (v := ?_) (a' := ?_) #[T,T,T,T,T,T,T,T,T,T] rfl rfl (any_of HT_.out (by kernel_rfl)) (fun _ _ _ h => h) (Or.inl ⟨by rfl, ?_⟩) ?_ ?_
   rotate_left
   ·
    intro w'; go_simp; with_reducible rfl
   rotate_left
   ·
    simp only [Act.put, lA, lZ, lS, i64_w, i32_w]; rfl
   refine done_ (done_of HT_.out (by kernel_rfl)) ?_
   have hbx1 := ((HB.out.cell (wL W0 _ hq1)).trans hq1)
   have hbx2 := ((HB.out.cell (wL W0 _ hq2)).trans hq2)
   try go_wp2
   go_ret2
   exact ⟨by first | rfl | (simp [errW_none, errW_some] <;> rfl) | (simp [*, errW_none, errW_some] <;> rfl), by repeat (first | (with_reducible first | exact HB.out | apply bL | apply bW | apply b1) | exact HB.out)⟩
  ·
   rw [if_neg c5] at H; exact absurd H (by simp)
 ·
  rw [if_neg c4] at H; have c4b0 : (t123 == 0) = false := beq_eq_false_iff_ne.mpr c4
  have c4b1 : (t123 != 0) = true := bne_iff_ne.mpr c4
  by_cases c8 : t123 = (l0.length : Int)
  ·
   rw [if_pos c8] at H; have c8b0 : (t123 == (l0.length : Int)) = true := beq_iff_eq.mpr c8
   have c8b1 : (t123 != (l0.length : Int)) = false := bne_eq_false_iff_eq.mpr c8
   clear c8; obtain ⟨ji9, hji9⟩ : ∃ j_ : Int, (wrap64 (t123 - 1)) = j_ := ⟨_, rfl⟩
   replace H : (if 0 ≤ (ji9) then (if (ji9) < (l0.length : Int) then (some ((rd_T37 l0 (ji9)).f1, (rd_T37 l0 (ji9)).f1)) else (none)) else (none)) = some (r1, r2) := by first | (rw [hji9] at H; exact H) | (simp only [hji9] at H ⊢; exact H)
   (try rw [hji9] at A3); have hji9w : (IntKind.i64.wrap (t123 - 1)) = ji9 := (i64_w _).trans hji9
   by_cases c10 : 0 ≤ (ji9)
   ·
    rw [if_pos c10] at H; have c10b0 : decide (0 ≤ (ji9)) = true := decide_eq_true c10
    clear c10; by_cases c11 : (ji9) < (l0.length : Int)
    ·
     rw [if_pos c11] at H; have c11b0 : decide ((ji9) < (l0.length : Int)) = true := decide_eq_true c11
     clear c11; simp only [Option.some.injEq, Prod.mk.injEq] at H; obtain ⟨rfl, rfl⟩ := H
     go_enter Try.func25, Try.ntmps25
     (try simp only [List.append_eq, List.cons_append, List.nil_append]); have hbx1 := ((HB.out.cell (wL W0 _ hq1)).trans hq1)
     have hbx2 := ((HB.out.cell (wL W0 _ hq2)).trans hq2)
     try go_wp2_with (first | ((with_reducible refine gate_callee (f := 22) rfl ?_); refine goesL_ (some 15) rfl rfl Try.func22 (by kernel_rfl) rfl #[.int .i64 (l0.length : Int), .func (.func 31) #[] #[.pointer (some ⟨w.heap.size, 0, none⟩), .pointer (some ⟨w.heap.size + 1, 0, none⟩)]] rfl (by (try simp only [List.map_toArray, List.map_cons, List.map_nil]); first | done | rfl | (simp only [List.length_drop, List.length_take]; rfl)) ?_; (try rw [← hW0.out]); (with_reducible refine (search_x.calls w.heap.size (w.heap.size + 1) A0 c0 l0 a1 t123 _ ?bx1 ?bx2 ?side1 A3.out).mono ?_); (case bx1 => exact ((HB.out.cell (wL W0 _ hq1)).trans hq1)); (case bx2 => exact ((HB.out.cell (wL W0 _ hq2)).trans hq2)); (case side1 => repeat (first | exact HR0.out | (with_reducible refine Kd.C_alloc ?_ _) | (with_reducible refine Kd.C_drewN ?_ _) | (with_reducible refine Kd.C_drew ?_))); rintro e w12 ⟨rfl, hb⟩; refine ⟨_, rfl, ?_⟩; have n0_ := Aside0.mk (bP (by repeat (first | (with_reducible first | exact HB.out | apply bL | apply bW | apply b1) | exact HB.out)) hb); clear HB; have HB := n0_; clear n0_; (try clear hbx1 hbx2); have hbx1 := ((HB.out.cell (wL W0 _ hq1)).trans hq1); have hbx2 := ((HB.out.cell (wL W0 _ hq2)).trans hq2); (try clear hb); (try clear hb2); (try clear hk); (try clear hi)))
     have n0_ := Aside0.mk (b1 HB.out)
     clear HB; have HB := n0_
     clear n0_; have p126 : 0 ≤ ((ji9) : Int) := of_decide_eq_true (by first | (with_reducible assumption) | assumption)
     have q126 : (ji9) < (l0.length : Int) := of_decide_eq_true (by first | (with_reducible assumption) | assumption)
     obtain ⟨ad126, e126, hx126_0, hx126_1⟩ := at_T37 HR0.out (ji9) p126 q126
     have hw126_1 := hx126_1
     have hw126_0 := hx126_0
     cases e126
     replace hx126_0 := (HB.out.cell (wL W0 _ hx126_0)).trans hx126_0
     replace hx126_1 := (HB.out.cell (wL W0 _ hx126_1)).trans hx126_1
     replace p126 := eq_true p126
     replace q126 := eq_true q126
     have p127 : 0 ≤ ((ji9) : Int) := of_decide_eq_true (by first | (with_reducible assumption) | assumption)
     have q127 : (ji9) < (l0.length : Int) := of_decide_eq_true (by first | (with_reducible assumption) | assumption)
     obtain ⟨ad127, e127, hx127_0, hx127_1⟩ := at_T37 HR0.out (ji9) p127 q127
     have hw127_1 := hx127_1
     have hw127_0 := hx127_0
     obtain rfl : ad126 = ad127 := (by injection e127)
     replace hx127_0 := (HB.out.cell (wL W0 _ hx127_0)).trans hx127_0
     replace hx127_1 := (HB.out.cell (wL W0 _ hx127_1)).trans hx127_1
     replace p127 := eq_true p127
     replace q127 := eq_true q127
     refine start_ (n := 14) (S := fun w' => w'.cell? ⟨w.heap.size, 0, none⟩ = some (.slice (some ad126) l0.length c0) ∧ w'.cell? ⟨w.heap.size + 1, 0, none⟩ = some (.int .i64 a1) ∧ w'.cell? (ad126.add (((ji9)).toNat * 2)) = some (.int .i64 ((rd_T37 l0 (ji9)).f0)) ∧ w'.cell? ⟨(ad126.add (((ji9)).toNat * 2)).block, (ad126.add (((ji9)).toNat * 2)).off + 1, none⟩ = some (.int .i64 ((rd_T37 l0 (ji9)).f1)) ∧ w'.cell? (ad126.add (((ji9)).toNat * 2)) = some (.int .i64 ((rd_T37 l0 (ji9)).f0)) ∧ w'.cell? ⟨(ad126.add (((ji9)).toNat * 2)).block, (ad126.add (((ji9)).toNat * 2)).off + 1, none⟩ = some (.int .i64 ((rd_T37 l0 (ji9)).f1))) (ds := []) #[F,F,F,F,F,F,F,F,F,F,F,F,F,F] (by kernel_rfl) rfl rfl ⟨((HB.out.cell (wL W0 _ hq1)).trans hq1), ((HB.out.cell (wL W0 _ hq2)).trans hq2), ((HB.out.cell (wL W0 _ hw126_0)).trans hw126_0), ((HB.out.cell (wL W0 _ hw126_1)).trans hw126_1), ((HB.out.cell (wL W0 _ hw127_0)).trans hw127_0), ((HB.out.cell (wL W0 _ hw127_1)).trans hw127_1)⟩ (fun hHeld => ?_); refine with_tabW curve_at.tab5 curve_at.bits5 (fun HT_ HW_ => ?_)
     generalize w12.drew = w13 at HB hx126_0 hx126_1 hx127_0 hx127_1 hHeld ⊢
     refine take_ (i := 0) (N := some 32) (v := ?_) (a' := ?_) #[T,F,F,F,F,F,F,F,F,F,F,F,F,F] rfl rfl (take_ofW HT_.out HW_.out (by kernel_rfl)) (fun _ _ _ h => h) (Or.inl ⟨by rfl, ?_⟩) hHeld ?_ ?_
     rotate_left
     ·
      rintro w' ⟨sx1, sx2, sx3⟩
      go_simp; with_reducible rfl
     rotate_left
     ·
      simp only [Act.put, lA, lZ, lS, i64_w, i32_w]; rfl
     refine pure_ (i := 1) (N := some 33) (v := ?_) (a' := ?_) #[T,T,F,F,F,F,F,F,F,F,F,F,F,F] rfl rfl (any_of HT_.out (by kernel_rfl)) (fun _ _ _ h => h) (Or.inl ⟨by rfl, ?_⟩) ?_ ?_
     rotate_left
     ·
      intro w'; go_simp; with_reducible rfl
     rotate_left
     ·
      simp only [Act.put, lA, lZ, lS, i64_w, i32_w]; rfl
     refine pure_ (i := 2) (N := some 34) (v := ?_) (a' := ?_) #[T,T,T,F,F,F,F,F,F,F,F,F,F,F] rfl rfl (any_of HT_.out (by kernel_rfl)) (fun _ _ _ h => h) (Or.inl ⟨by rfl, ?_⟩) ?_ ?_
     rotate_left
     ·
      intro w'; go_simp; with_reducible rfl
     rotate_left
     ·
      simp only [Act.put, lA, lZ, lS, i64_w, i32_w]; rfl
     refine pure_ (i := 3) (N := some 35) (v := ?_) (a' := ?_) #[T,T,T,T,F,F,F,F,F,F,F,F,F,F] rfl rfl (any_of HT_.out (by kernel_rfl)) (fun _ _ _ h => h) (Or.inl ⟨by rfl, ?_⟩) ?_ ?_
     rotate_left
     ·
      intro w'; go_simp; with_reducible rfl
     rotate_left
     ·
      simp only [Act.put, lA, lZ, lS, i64_w, i32_w]; rfl
     refine pure_ (i := 4) (N := some 36) (v := ?_) (a' := ?_) #[T,T,T,T,T,F,F,F,F,F,F,F,F,F] rfl rfl (any_of HT_.out (by kernel_rfl)) (fun _ _ _ h => h) (Or.inl ⟨by rfl, ?_⟩) ?_ ?_
     rotate_left
     ·
      intro w'; go_simp; with_reducible rfl
     rotate_left
     ·
      simp only [Act.put, lA, lZ, lS, i64_w, i32_w]; rfl
     refine take_ (i := 6) (N := some 38) (v := ?_) (a' := ?_) #[T,T,T,T,T,F,T,F,F,F,F,F,F,F] rfl rfl (take_ofW HT_.out HW_.out (by kernel_rfl)) (fun _ _ _ h => h) (Or.inl ⟨by rfl, ?_⟩) hHeld ?_ ?_
     rotate_left
     ·
      rintro w' ⟨sx1, sx2, sx3⟩
      go_simp; with_reducible rfl
     rotate_left
     ·
      simp only [Act.put, lA, lZ, lS, i64_w, i32_w]; rfl
     refine pure_ (i := 7) (N := some 39) (v := ?_) (a' := ?_) #[T,T,T,T,T,F,T,T,F,F,F,F,F,F] rfl rfl (any_of HT_.out (by kernel_rfl)) (fun _ _ _ h => h) (Or.inl ⟨by rfl, ?_⟩) ?_ ?_
     rotate_left
     ·
      intro w'; go_simp; with_reducible rfl
     rotate_left
     ·
      simp only [Act.put, lA, lZ, lS, i64_w, i32_w]; rfl
     refine pure_ (i := 8) (N := some 40) (v := ?_) (a' := ?_) #[T,T,T,T,T,F,T,T,T,F,F,F,F,F] rfl rfl (any_of HT_.out (by kernel_rfl)) (fun _ _ _ h => h) (Or.inl ⟨by rfl, ?_⟩) ?_ ?_
     rotate_left
     ·
      intro w'; go_simp; with_reducible rfl
     rotate_left
     ·
      simp only [Act.put, lA, lZ, lS, i64_w, i32_w]; rfl
     refine pure_ (i := 9) (N := some 41) (v := ?_) (a' := ?_) #[T,T,T,T,T,F,T,T,T,T,F,F,F,F] rfl rfl (any_of HT_.out (by kernel_rfl)) (fun _ _ _ h => h) (Or.inl ⟨by rfl, ?_⟩) ?_ ?_
     rotate_left
     ·
      intro w'; go_simp; with_reducible rfl
     rotate_left
     ·
      simp only [Act.put, lA, lZ, lS, i64_w, i32_w]; rfl
     refine pure_ (i := 10) (N := some 42) (v := ?_) (a' := ?_) #[T,T,T,T,T,F,T,T,T,T,T,F,F,F] rfl rfl (any_of HT_.out (by kernel_rfl)) (fun _ _ _ h => h) (Or.inl ⟨by rfl, ?_⟩) ?_ ?_
     rotate_left
     ·
      intro w'; go_simp; with_reducible rfl
     rotate_left
     ·
      simp only [Act.put, lA, lZ, lS, i64_w, i32_w]; rfl
     refine take_ (i := 5) (N := some 37) (v := ?_) (a' := ?_) #[T,T,T,T,T,T,T,T,T,T,T,F,F,F] rfl rfl (take_ofW HT_.out HW_.out (by kernel_rfl)) (fun _ _ _ h => h) (Or.inl ⟨by rfl, ?_⟩) hHeld ?_ ?_
     rotate_left
     ·
      rintro w' ⟨sx1, sx2, s0, s1, s2, s3⟩
      go_simp; with_reducible rfl
     rotate_left
     ·
      simp only [Act.put, lA, lZ, lS, i64_w, i32_w]; rfl
     refine pure_ (i := 12) (N := some 4) (v := ?_) (a' := ?_) #[T,T,T,T,T,T,T,T,T,T,T,F,T,F] rfl rfl (any_of HT_.out (by kernel_rfl)) (fun _ _ _ h => h) (Or.inl ⟨by rfl, ?_⟩) ?_ ?_
     rotate_left
     ·
      intro w'; go_simp; with_reducible rfl
     rotate_left
     ·
      simp only [Act.put, lA, lZ, lS, i64_w, i32_w]; rfl
     refine take_ (i := 11) (N := some 43) (v := ?_) (a' := ?_) #[T,T,T,T,T,T,T,T,T,T,T,T,T,F] rfl rfl (take_ofW HT_.out HW_.out (by kernel_rfl)) (fun _ _ _ h => h) (Or.inl ⟨by rfl, ?_⟩) hHeld ?_ ?_
     rotate_left
     ·
      rintro w' ⟨sx1, sx2, s0, s1, s2, s3⟩
      go_simp; with_reducible rfl
     rotate_left
     ·
      simp only [Act.put, lA, lZ, lS, i64_w, i32_w]; rfl
     refine pure_ (i := 13) (N := some 5) (v := ?_) (a' := ?_) #[T,T,T,T,T,T,T,T,T,T,T,T,T,T] rfl rfl (any_of HT_.out (by kernel_rfl)) (fun _ _ _ h => h) (Or.inl ⟨by rfl, ?_⟩) ?_ ?_
     rotate_left
     ·
      intro w'; go_simp; with_reducible rfl
     rotate_left
     ·
      simp only [Act.put, lA, lZ, lS, i64_w, i32_w]; rfl
     refine done_ (done_of HT_.out (by kernel_rfl)) ?_
     have hbx1 := ((HB.out.cell (wL W0 _ hq1)).trans hq1)
     have hbx2 := ((HB.out.cell (wL W0 _ hq2)).trans hq2)
     try go_wp2
     go_ret2
     exact ⟨by first | rfl | (simp [errW_none, errW_some] <;> rfl) | (simp only [← hji9]; first | rfl | (simp [errW_none, errW_some] <;> rfl)) | (simp [*, errW_none, errW_some] <;> rfl), by repeat (first | (with_reducible first | exact HB.out | apply bL | apply bW | apply b1) | exact HB.out)⟩
    ·
     rw [if_neg c11] at H; exact absurd H (by simp)
   ·
    rw [if_neg c10] at H; exact absurd H (by simp)
  ·
   rw [if_neg c8] at H; have c8b0 : (t123 == (l0.length : Int)) = false := beq_eq_false_iff_ne.mpr c8
   have c8b1 : (t123 != (l0.length : Int)) = true := bne_iff_ne.mpr c8
   obtain ⟨ji14, hji14⟩ : ∃ j_ : Int, (wrap64 (t123 - 1)) = j_ := ⟨_, rfl⟩
   replace H : (if 0 ≤ (ji14) then (if (ji14) < (l0.length : Int) then (if 0 ≤ t123 then (if t123 < (l0.length : Int) then ((exact_Scale.f k (wrap64 (((rd_T37 l0 t123).f1) - ((rd_T37 l0 (ji14)).f1))) (wrap64 (a1 - ((rd_T37 l0 (ji14)).f0))) (wrap64 (((rd_T37 l0 t123).f0) - ((rd_T37 l0 (ji14)).f0)))).bind fun bt132 => (if bt132.2.1 > 0 then (some (wrap64 (((rd_T37 l0 (ji14)).f1) + bt132.1), wrap64 ((wrap64 (((rd_T37 l0 (ji14)).f1) + bt132.1)) + 1))) else (some (wrap64 (((rd_T37 l0 (ji14)).f1) + bt132.1), wrap64 (((rd_T37 l0 (ji14)).f1) + bt132.1))))) else (none)) else (none)) else (none)) else (none)) = some (r1, r2) := by first | (rw [hji14] at H; exact H) | (simp only [hji14] at H ⊢; exact H)
   (try rw [hji14] at A3); have hji14w : (IntKind.i64.wrap (t123 - 1)) = ji14 := (i64_w _).trans hji14
   by_cases c15 : 0 ≤ (ji14)
   ·
    rw [if_pos c15] at H; have c15b0 : decide (0 ≤ (ji14)) = true := decide_eq_true c15
    clear c15; by_cases c16 : (ji14) < (l0.length : Int)
    ·
     rw [if_pos c16] at H; have c16b0 : decide ((ji14) < (l0.length : Int)) = true := decide_eq_true c16
     clear c16; by_cases c17 : 0 ≤ t123
     ·
      rw [if_pos c17] at H; have c17b0 : decide (0 ≤ t123) = true := decide_eq_true c17
      clear c17; by_cases c18 : t123 < (l0.length : Int)
      ·
       rw [if_pos c18] at H; have c18b0 : decide (t123 < (l0.length : Int)) = true := decide_eq_true c18
       clear c18; replace H := Option.bind_eq_some_iff.mp H
       obtain ⟨⟨t132, t133, t134⟩, A190, H⟩ := H
       dsimp only at H
       have A19 := Aside0.mk A190
       clear A190; by_cases c20 : t133 > 0
       ·
        rw [if_pos c20] at H; have c20b0 : decide (0 < t133) = true := decide_eq_true c20
        clear c20; simp only [Option.some.injEq, Prod.mk.injEq] at H; obtain ⟨rfl, rfl⟩ := H
        go_enter Try.func25, Try.ntmps25
        (try simp only [List.append_eq, List.cons_append, List.nil_append]); have hbx1 := ((HB.out.cell (wL W0 _ hq1)).trans hq1)
        have hbx2 := ((HB.out.cell (wL W0 _ hq2)).trans hq2)
        try go_wp2_with (first | ((with_reducible refine gate_callee (f := 22) rfl ?_); refine goesL_ (some 15) rfl rfl Try.func22 (by kernel_rfl) rfl #[.int .i64 (l0.length : Int), .func (.func 31) #[] #[.pointer (some ⟨w.heap.size, 0, none⟩), .pointer (some ⟨w.heap.size + 1, 0, none⟩)]] rfl (by (try simp only [List.map_toArray, List.map_cons, List.map_nil]); first | done | rfl | (simp only [List.length_drop, List.length_take]; rfl)) ?_; (try rw [← hW0.out]); (with_reducible refine (search_x.calls w.heap.size (w.heap.size + 1) A0 c0 l0 a1 t123 _ ?bx1 ?bx2 ?side1 A3.out).mono ?_); (case bx1 => exact ((HB.out.cell (wL W0 _ hq1)).trans hq1)); (case bx2 => exact ((HB.out.cell (wL W0 _ hq2)).trans hq2)); (case side1 => repeat (first | exact HR0.out | (with_reducible refine Kd.C_alloc ?_ _) | (with_reducible refine Kd.C_drewN ?_ _) | (with_reducible refine Kd.C_drew ?_))); rintro e w21 ⟨rfl, hb⟩; refine ⟨_, rfl, ?_⟩; have n0_ := Aside0.mk (bP (by repeat (first | (with_reducible first | exact HB.out | apply bL | apply bW | apply b1) | exact HB.out)) hb); clear HB; have HB := n0_; clear n0_; (try clear hbx1 hbx2); have hbx1 := ((HB.out.cell (wL W0 _ hq1)).trans hq1); have hbx2 := ((HB.out.cell (wL W0 _ hq2)).trans hq2); (try clear hb); (try clear hb2); (try clear hk); (try clear hi)))
        have n0_ := Aside0.mk (b1 HB.out)
        clear HB; have HB := n0_
        clear n0_; have p128 : 0 ≤ ((ji14) : Int) := of_decide_eq_true (by first | (with_reducible assumption) | assumption)
        have q128 : (ji14) < (l0.length : Int) := of_decide_eq_true (by first | (with_reducible assumption) | assumption)
        obtain ⟨ad128, e128, hx128_0, hx128_1⟩ := at_T37 HR0.out (ji14) p128 q128
        have hw128_1 := hx128_1
        have hw128_0 := hx128_0
        cases e128
        replace hx128_0 := (HB.out.cell (wL W0 _ hx128_0)).trans hx128_0
        replace hx128_1 := (HB.out.cell (wL W0 _ hx128_1)).trans hx128_1
        replace p128 := eq_true p128
        replace q128 := eq_true q128
        have p129 : 0 ≤ (t123 : Int) := of_decide_eq_true (by first | (with_reducible assumption) | assumption)
        have q129 : t123 < (l0.length : Int) := of_decide_eq_true (by first | (with_reducible assumption) | assumption)
        obtain ⟨ad129, e129, hx129_0, hx129_1⟩ := at_T37 HR0.out t123 p129 q129
        have hw129_1 := hx129_1
        have hw129_0 := hx129_0
        obtain rfl : ad128 = ad129 := (by injection e129)
        replace hx129_0 := (HB.out.cell (wL W0 _ hx129_0)).trans hx129_0
        replace hx129_1 := (HB.out.cell (wL W0 _ hx129_1)).trans hx129_1
        replace p129 := eq_true p129
        replace q129 := eq_true q129
        refine start_ (n := 13) (S := fun w' => w'.cell? ⟨w.heap.size, 0, none⟩ = some (.slice (some ad128) l0.length c0) ∧ w'.cell? ⟨w.heap.size + 1, 0, none⟩ = some (.int .i64 a1) ∧ w'.cell? (ad128.add (((ji14)).toNat * 2)) = some (.int .i64 ((rd_T37 l0 (ji14)).f0)) ∧ w'.cell? ⟨(ad128.add (((ji14)).toNat * 2)).block, (ad128.add (((ji14)).toNat * 2)).off + 1, none⟩ = some (.int .i64 ((rd_T37 l0 (ji14)).f1)) ∧ w'.cell? (ad128.add ((t123).toNat * 2)) = some (.int .i64 ((rd_T37 l0 t123).f0)) ∧ w'.cell? ⟨(ad128.add ((t123).toNat * 2)).block, (ad128.add ((t123).toNat * 2)).off + 1, none⟩ = some (.int .i64 ((rd_T37 l0 t123).f1))) (ds := []) #[F,F,F,F,F,F,F,F,F,F,F,F,F] (by kernel_rfl) rfl rfl ⟨((HB.out.cell (wL W0 _ hq1)).trans hq1), ((HB.out.cell (wL W0 _ hq2)).trans hq2), ((HB.out.cell (wL W0 _ hw128_0)).trans hw128_0), ((HB.out.cell (wL W0 _ hw128_1)).trans hw128_1), ((HB.out.cell (wL W0 _ hw129_0)).trans hw129_0), ((HB.out.cell (wL W0 _ hw129_1)).trans hw129_1)⟩ (fun hHeld => ?_); refine with_tabW curve_at.tab6 curve_at.bits6 (fun HT_ HW_ => ?_)
        generalize w21.drew = w22 at HB hx128_0 hx128_1 hx129_0 hx129_1 hHeld ⊢
        refine take_ (i := 0) (N := some 44) (v := ?_) (a' := ?_) #[T,F,F,F,F,F,F,F,F,F,F,F,F] rfl rfl (take_ofW HT_.out HW_.out (by kernel_rfl)) (fun _ _ _ h => h) (Or.inl ⟨by rfl, ?_⟩) hHeld ?_ ?_
        rotate_left
        ·
         rintro w' ⟨sx1, sx2, sx3⟩
         go_simp; with_reducible rfl
        rotate_left
        ·
         simp only [Act.put, lA, lZ, lS, i64_w, i32_w]; rfl
        refine pure_ (i := 1) (N := some 45) (v := ?_) (a' := ?_) #[T,T,F,F,F,F,F,F,F,F,F,F,F] rfl rfl (any_of HT_.out (by kernel_rfl)) (fun _ _ _ h => h) (Or.inl ⟨by rfl, ?_⟩) ?_ ?_
        rotate_left
        ·
         intro w'; go_simp; with_reducible rfl
        rotate_left
        ·
         simp only [Act.put, lA, lZ, lS, i64_w, i32_w]; rfl
        refine pure_ (i := 2) (N := some 46) (v := ?_) (a' := ?_) #[T,T,T,F,F,F,F,F,F,F,F,F,F] rfl rfl (any_of HT_.out (by kernel_rfl)) (fun _ _ _ h => h) (Or.inl ⟨by rfl, ?_⟩) ?_ ?_
        rotate_left
        ·
         intro w'; go_simp; with_reducible rfl
        rotate_left
        ·
         simp only [Act.put, lA, lZ, lS, i64_w, i32_w]; rfl
        refine pure_ (i := 3) (N := some 47) (v := ?_) (a' := ?_) #[T,T,T,T,F,F,F,F,F,F,F,F,F] rfl rfl (any_of HT_.out (by kernel_rfl)) (fun _ _ _ h => h) (Or.inl ⟨by rfl, ?_⟩) ?_ ?_
        rotate_left
        ·
         intro w'; go_simp; with_reducible rfl
        rotate_left
        ·
         simp only [Act.put, lA, lZ, lS, i64_w, i32_w]; rfl
        refine take_ (i := 5) (N := some 49) (v := ?_) (a' := ?_) #[T,T,T,T,F,T,F,F,F,F,F,F,F] rfl rfl (take_ofW HT_.out HW_.out (by kernel_rfl)) (fun _ _ _ h => h) (Or.inl ⟨by rfl, ?_⟩) hHeld ?_ ?_
        rotate_left
        ·
         rintro w' ⟨sx1, sx2, sx3⟩
         go_simp; with_reducible rfl
        rotate_left
        ·
         simp only [Act.put, lA, lZ, lS, i64_w, i32_w]; rfl
        refine pure_ (i := 6) (N := some 50) (v := ?_) (a' := ?_) #[T,T,T,T,F,T,T,F,F,F,F,F,F] rfl rfl (any_of HT_.out (by kernel_rfl)) (fun _ _ _ h => h) (Or.inl ⟨by rfl, ?_⟩) ?_ ?_
        rotate_left
        ·
         intro w'; go_simp; with_reducible rfl
        rotate_left
        ·
         simp only [Act.put, lA, lZ, lS, i64_w, i32_w]; rfl
        refine pure_ (i := 7) (N := some 51) (v := ?_) (a' := ?_) #[T,T,T,T,F,T,T,T,F,F,F,F,F] rfl rfl (any_of HT_.out (by kernel_rfl)) (fun _ _ _ h => h) (Or.inl ⟨by rfl, ?_⟩) ?_ ?_
        rotate_left
        ·
         intro w'; go_simp; with_reducible rfl
        rotate_left
        ·
         simp only [Act.put, lA, lZ, lS, i64_w, i32_w]; rfl
        refine take_ (i := 4) (N := some 48) (v := ?_) (a' := ?_) #[T,T,T,T,T,T,T,T,F,F,F,F,F] rfl rfl (take_ofW HT_.out HW_.out (by kernel_rfl)) (fun _ _ _ h => h) (Or.inl ⟨by rfl, ?_⟩) hHeld ?_ ?_
        rotate_left
        ·
         rintro w' ⟨sx1, sx2, s0, s1, s2, s3⟩
         go_simp; with_reducible rfl
        rotate_left
        ·
         simp only [Act.put, lA, lZ, lS, i64_w, i32_w]; rfl
        refine take_ (i := 8) (N := some 52) (v := ?_) (a' := ?_) #[T,T,T,T,T,T,T,T,T,F,F,F,F] rfl rfl (take_ofW HT_.out HW_.out (by kernel_rfl)) (fun _ _ _ h => h) (Or.inl ⟨by rfl, ?_⟩) hHeld ?_ ?_
        rotate_left
        ·
         rintro w' ⟨sx1, sx2, s0, s1, s2, s3⟩
         go_simp; with_reducible rfl
        rotate_left
        ·
         simp only [Act.put, lA, lZ, lS, i64_w, i32_w]; rfl
        refine join_ (σ := Nat × Nat) 2 #[T,T,T,T,T,T,T,T,T,T,T,F,F] (fun s_ => [(7, .pointer (some ⟨s_.1, 0, none⟩)), (8, .pointer (some ⟨s_.2, 0, none⟩))]) (fun s_ w' => (w'.cell? ⟨w.heap.size, 0, none⟩ = some (.slice (some ad128) l0.length c0) ∧ w'.cell? ⟨w.heap.size + 1, 0, none⟩ = some (.int .i64 a1) ∧ w'.cell? (ad128.add (((ji14)).toNat * 2)) = some (.int .i64 ((rd_T37 l0 (ji14)).f0)) ∧ w'.cell? ⟨(ad128.add (((ji14)).toNat * 2)).block, (ad128.add (((ji14)).toNat * 2)).off + 1, none⟩ = some (.int .i64 ((rd_T37 l0 (ji14)).f1)) ∧ w'.cell? (ad128.add ((t123).toNat * 2)) = some (.int .i64 ((rd_T37 l0 t123).f0)) ∧ w'.cell? ⟨(ad128.add ((t123).toNat * 2)).block, (ad128.add ((t123).toNat * 2)).off + 1, none⟩ = some (.int .i64 ((rd_T37 l0 t123).f1))) ∧ (w'.heap[s_.1]? = some (.cells #[.int .i64 0, .int .i64 0] 37 (0, 0))) ∧ (w'.heap[s_.2]? = some (.cells #[.int .i64 0, .int .i64 0] 37 (0, 0))) ∧ (W0.heap.size ≤ s_.1) ∧ (W0.heap.size ≤ s_.1) ∧ (s_.2 ≠ s_.1) ∧ (s_.1 ≠ s_.2) ∧ (W0.heap.size ≤ s_.2) ∧ (W0.heap.size ≤ s_.2) ∧ (Below W0.heap.size W0 w')) ?_ ?_
        rotate_left
        ·
         intro hCont; refine two_ (i := 9) (j := 10) (Ni := some 7) (Nj := some 8) #[T,T,T,T,T,T,T,T,T,T,F,F,F] #[T,T,T,T,T,T,T,T,T,F,T,F,F] rfl rfl rfl rfl (two_of HT_.out (by kernel_rfl)) (by decide) (by decide) (fun K hK => ?_) (fun K hK => ?_)
         ·
          skip
          refine box_step ?hg (N := 7) ?hd (cs := #[.int .i64 0, .int .i64 0]) (t := 37) ?hr ?_; (case hd => rfl); (case hg => rfl); (case hr => first | (go_simp; done) | (go_simp; rfl))
          intro gb130 hg w23 hbox hb; have n0_ := Aside0.mk (bP (by repeat (first | (with_reducible first | exact HB.out | apply bL | apply bW | apply b1) | exact HB.out)) hb)
          have n1_ := Aside0.mk (hbox)
          have n2_ := Aside0.mk ((by rw [hg]; exact (bZ (by repeat (first | (with_reducible first | exact HB.out | apply bL | apply bW | apply b1) | exact HB.out))) : W0.heap.size ≤ gb130))
          have n3_ := Aside0.mk ((by rw [hg]; exact (bZ (by repeat (first | (with_reducible first | exact HB.out | apply bL | apply bW | apply b1) | exact HB.out))) : W0.heap.size ≤ gb130))
          clear HB; have HB := n0_
          have BK130 := n1_
          have GW130 := n2_
          have GE130 := n3_
          clear n0_ n1_ n2_ n3_; clear hb hbox hg; refine hK.out _ _ ⟨((HB.out.cell (wL W0 _ hq1)).trans hq1), ((HB.out.cell (wL W0 _ hq2)).trans hq2), ((HB.out.cell (wL W0 _ hw128_0)).trans hw128_0), ((HB.out.cell (wL W0 _ hw128_1)).trans hw128_1), ((HB.out.cell (wL W0 _ hw129_0)).trans hw129_0), ((HB.out.cell (wL W0 _ hw129_1)).trans hw129_1)⟩ (fun hHeld => ?_)
          clear hK K; refine norm_ (a' := ?_) ?_ ?_
          rotate_left
          ·
           show Act.put _ (some 7) _ = _
           simp only [Act.put, lA, lZ, lS, i64_w, i32_w]; rfl
          refine one_ (i := 10) (N := some 8) #[T,T,T,T,T,T,T,T,T,T,T,F,F] rfl rfl (one_of HT_.out (by kernel_rfl)) (by decide) (fun K hK => ?_)
          refine box_step ?hg (N := 8) ?hd (cs := #[.int .i64 0, .int .i64 0]) (t := 37) ?hr ?_; (case hd => rfl); (case hg => rfl); (case hr => first | (go_simp; done) | (go_simp; rfl))
          intro gb131 hg w24 hbox hb; have n0_ := Aside0.mk (bB (g := gb130) (o := .cells #[.int .i64 0, .int .i64 0] 37 (0, 0)) (by (with_reducible repeat (first | refine bN ?_ _ | refine bD ?_ | refine bA ?_ _)); exact BK130.out) hb)
          have n1_ := Aside0.mk (bP (by repeat (first | (with_reducible first | exact HB.out | apply bL | apply bW | apply b1 | refine bS ?_ GE130.out) | exact HB.out)) hb)
          have n2_ := Aside0.mk (hbox)
          have n3_ := Aside0.mk ((by rw [hg]; exact (bZ (by repeat (first | (with_reducible first | exact HB.out | apply bL | apply bW | apply b1 | refine bS ?_ GE130.out) | exact HB.out))) : W0.heap.size ≤ gb131))
          have n4_ := Aside0.mk ((by rw [hg]; exact (bZ (by repeat (first | (with_reducible first | exact HB.out | apply bL | apply bW | apply b1 | refine bS ?_ GE130.out) | exact HB.out))) : W0.heap.size ≤ gb131))
          have n5_ := Aside0.mk ((by rw [hg]; exact Nat.ne_of_lt (bT (g := gb130) (o := .cells #[.int .i64 0, .int .i64 0] 37 (0, 0)) (by (with_reducible repeat (first | refine bN ?_ _ | refine bD ?_ | refine bA ?_ _)); exact BK130.out)) : gb130 ≠ gb131))
          have n6_ := Aside0.mk ((by rw [hg]; exact Nat.ne_of_gt (bT (g := gb130) (o := .cells #[.int .i64 0, .int .i64 0] 37 (0, 0)) (by (with_reducible repeat (first | refine bN ?_ _ | refine bD ?_ | refine bA ?_ _)); exact BK130.out)) : gb131 ≠ gb130))
          clear BK130; clear HB; have BK130 := n0_
          have HB := n1_
          have BK131 := n2_
          have GW131 := n3_
          have GE131 := n4_
          have NB130_131 := n5_
          have NB131_130 := n6_
          clear n0_ n1_ n2_ n3_ n4_ n5_ n6_; clear hb hbox hg; refine hK.out _ _ ⟨((HB.out.cell (wL W0 _ hq1)).trans hq1), ((HB.out.cell (wL W0 _ hq2)).trans hq2), ((HB.out.cell (wL W0 _ hw128_0)).trans hw128_0), ((HB.out.cell (wL W0 _ hw128_1)).trans hw128_1), ((HB.out.cell (wL W0 _ hw129_0)).trans hw129_0), ((HB.out.cell (wL W0 _ hw129_1)).trans hw129_1)⟩ (fun hHeld => ?_)
          clear hK K; refine norm_ (a' := ?_) ?_ ?_
          rotate_left
          ·
           show Act.put _ (some 8) _ = _
           simp only [Act.put, lA, lZ, lS, i64_w, i32_w]; rfl
          exact norm_ (by simp only [putAll, Act.put, lA, lZ, lS]) (hCont (gb130, gb131) _ ⟨hHeld, (by (with_reducible repeat (first | refine bN ?_ _ | refine bD ?_ | refine bA ?_ _)); exact BK130.out), (by (with_reducible repeat (first | refine bN ?_ _ | refine bD ?_ | refine bA ?_ _)); exact BK131.out), GW130.out, GE130.out, NB131_130.out, NB130_131.out, GW131.out, GE131.out, (by repeat (first | (with_reducible first | exact HB.out | apply bL | apply bW | apply b1 | refine bS ?_ GE130.out | refine bS ?_ GE131.out) | exact HB.out))⟩)
         ·
          skip
          refine box_step ?hg (N := 8) ?hd (cs := #[.int .i64 0, .int .i64 0]) (t := 37) ?hr ?_; (case hd => rfl); (case hg => rfl); (case hr => first | (go_simp; done) | (go_simp; rfl))
          intro gb131 hg w23 hbox hb; have n0_ := Aside0.mk (bP (by repeat (first | (with_reducible first | exact HB.out | apply bL | apply bW | apply b1) | exact HB.out)) hb)
          have n1_ := Aside0.mk (hbox)
          have n2_ := Aside0.mk ((by rw [hg]; exact (bZ (by repeat (first | (with_reducible first | exact HB.out | apply bL | apply bW | apply b1) | exact HB.out))) : W0.heap.size ≤ gb131))
          have n3_ := Aside0.mk ((by rw [hg]; exact (bZ (by repeat (first | (with_reducible first | exact HB.out | apply bL | apply bW | apply b1) | exact HB.out))) : W0.heap.size ≤ gb131))
          clear HB; have HB := n0_
          have BK131 := n1_
          have GW131 := n2_
          have GE131 := n3_
          clear n0_ n1_ n2_ n3_; clear hb hbox hg; refine hK.out _ _ ⟨((HB.out.cell (wL W0 _ hq1)).trans hq1), ((HB.out.cell (wL W0 _ hq2)).trans hq2), ((HB.out.cell (wL W0 _ hw128_0)).trans hw128_0), ((HB.out.cell (wL W0 _ hw128_1)).trans hw128_1), ((HB.out.cell (wL W0 _ hw129_0)).trans hw129_0), ((HB.out.cell (wL W0 _ hw129_1)).trans hw129_1)⟩ (fun hHeld => ?_)
          clear hK K; refine norm_ (a' := ?_) ?_ ?_
          rotate_left
          ·
           show Act.put _ (some 8) _ = _
           simp only [Act.put, lA, lZ, lS, i64_w, i32_w]; rfl
          refine one_ (i := 9) (N := some 7) #[T,T,T,T,T,T,T,T,T,T,T,F,F] rfl rfl (one_of HT_.out (by kernel_rfl)) (by decide) (fun K hK => ?_)
          refine box_step ?hg (N := 7) ?hd (cs := #[.int .i64 0, .int .i64 0]) (t := 37) ?hr ?_; (case hd => rfl); (case hg => rfl); (case hr => first | (go_simp; done) | (go_simp; rfl))
          intro gb130 hg w24 hbox hb; have n0_ := Aside0.mk (bB (g := gb131) (o := .cells #[.int .i64 0, .int .i64 0] 37 (0, 0)) (by (with_reducible repeat (first | refine bN ?_ _ | refine bD ?_ | refine bA ?_ _)); exact BK131.out) hb)
          have n1_ := Aside0.mk (bP (by repeat (first | (with_reducible first | exact HB.out | apply bL | apply bW | apply b1 | refine bS ?_ GE131.out) | exact HB.out)) hb)
          have n2_ := Aside0.mk (hbox)
          have n3_ := Aside0.mk ((by rw [hg]; exact (bZ (by repeat (first | (with_reducible first | exact HB.out | apply bL | apply bW | apply b1 | refine bS ?_ GE131.out) | exact HB.out))) : W0.heap.size ≤ gb130))
          have n4_ := Aside0.mk ((by rw [hg]; exact (bZ (by repeat (first | (with_reducible first | exact HB.out | apply bL | apply bW | apply b1 | refine bS ?_ GE131.out) | exact HB.out))) : W0.heap.size ≤ gb130))
          have n5_ := Aside0.mk ((by rw [hg]; exact Nat.ne_of_lt (bT (g := gb131) (o := .cells #[.int .i64 0, .int .i64 0] 37 (0, 0)) (by (with_reducible repeat (first | refine bN ?_ _ | refine bD ?_ | refine bA ?_ _)); exact BK131.out)) : gb131 ≠ gb130))
          have n6_ := Aside0.mk ((by rw [hg]; exact Nat.ne_of_gt (bT (g := gb131) (o := .cells #[.int .i64 0, .int .i64 0] 37 (0, 0)) (by (with_reducible repeat (first | refine bN ?_ _ | refine bD ?_ | refine bA ?_ _)); exact BK131.out)) : gb130 ≠ gb131))
          clear BK131; clear HB; have BK131 := n0_
          have HB := n1_
          have BK130 := n2_
          have GW130 := n3_
          have GE130 := n4_
          have NB131_130 := n5_
          have NB130_131 := n6_
          clear n0_ n1_ n2_ n3_ n4_ n5_ n6_; clear hb hbox hg; refine hK.out _ _ ⟨((HB.out.cell (wL W0 _ hq1)).trans hq1), ((HB.out.cell (wL W0 _ hq2)).trans hq2), ((HB.out.cell (wL W0 _ hw128_0)).trans hw128_0), ((HB.out.cell (wL W0 _ hw128_1)).trans hw128_1), ((HB.out.cell (wL W0 _ hw129_0)).trans hw129_0), ((HB.out.cell (wL W0 _ hw129_1)).trans hw129_1)⟩ (fun hHeld => ?_)
          clear hK K; refine norm_ (a' := ?_) ?_ ?_
          rotate_left
          ·
           show Act.put _ (some 7) _ = _
           simp only [Act.put, lA, lZ, lS, i64_w, i32_w]; rfl
          exact norm_ (by simp only [putAll, Act.put, lA, lZ, lS]) (hCont (gb130, gb131) _ ⟨hHeld, (by (with_reducible repeat (first | refine bN ?_ _ | refine bD ?_ | refine bA ?_ _)); exact BK130.out), (by (with_reducible repeat (first | refine bN ?_ _ | refine bD ?_ | refine bA ?_ _)); exact BK131.out), GW130.out, GE130.out, NB131_130.out, NB130_131.out, GW131.out, GE131.out, (by repeat (first | (with_reducible first | exact HB.out | apply bL | apply bW | apply b1 | refine bS ?_ GE131.out | refine bS ?_ GE130.out) | exact HB.out))⟩)
        rintro ⟨gb130, gb131⟩ w25 ⟨hS_, h0_, h1_, h2_, h3_, h4_, h5_, h6_, h7_, h8_⟩
        have n0_ : Aside0 (w25.heap[gb130]? = some (.cells #[.int .i64 0, .int .i64 0] 37 (0, 0))) := ⟨h0_⟩
        have n1_ : Aside0 (w25.heap[gb131]? = some (.cells #[.int .i64 0, .int .i64 0] 37 (0, 0))) := ⟨h1_⟩
        have n2_ : Aside0 (W0.heap.size ≤ gb130) := ⟨h2_⟩
        have n3_ : Aside0 (W0.heap.size ≤ gb130) := ⟨h3_⟩
        have n4_ : Aside0 (gb131 ≠ gb130) := ⟨h4_⟩
        have n5_ : Aside0 (gb130 ≠ gb131) := ⟨h5_⟩
        have n6_ : Aside0 (W0.heap.size ≤ gb131) := ⟨h6_⟩
        have n7_ : Aside0 (W0.heap.size ≤ gb131) := ⟨h7_⟩
        have n8_ : Aside0 (Below W0.heap.size W0 w25) := ⟨h8_⟩
        clear HB; clear h0_ h1_ h2_ h3_ h4_ h5_ h6_ h7_ h8_; have BK130 := n0_
        have BK131 := n1_
        have GW130 := n2_
        have GE130 := n3_
        have NB131_130 := n4_
        have NB130_131 := n5_
        have GW131 := n6_
        have GE131 := n7_
        have HB := n8_
        clear n0_ n1_ n2_ n3_ n4_ n5_ n6_ n7_ n8_; have hHeld := hS_
        refine norm_ (a' := ?_) ?_ ?_
        rotate_left
        ·
         simp only [putAll, Act.put, lA, lZ, lS]; rfl
        refine one_ (i := 11) (N := none) #[T,T,T,T,T,T,T,T,T,T,T,T,F] rfl rfl (one_of HT_.out (by kernel_rfl)) (by decide) (fun K hK => ?_)
        have hs26 : w25.cell? ⟨gb130, 0, none⟩ = some (.int .i64 0) := (bC BK130.out 0).trans rfl
        have hfs26 := bF BK130.out 0
        have hns26_1 := NB131_130.out
        have hms26_1 := NB130_131.out
        have hs27 : w25.cell? ⟨gb130, 1, none⟩ = some (.int .i64 0) := (bC BK130.out 1).trans rfl
        have hfs27 := bF BK130.out 1
        have hns27_1 := NB131_130.out
        have hms27_1 := NB130_131.out
        refine skip_ (w1 := ?_) (by rfl) rfl ?_ ?_
        rotate_left
        ·
         go_simp; rfl
        refine hK.out _ _ ⟨((cell_far (p := ⟨gb130, _, none⟩) (by have z_ := wL _ _ hq1; (try rw [add_block] at z_); have y_ := Nat.ne_of_lt (Nat.lt_of_lt_of_le z_ GW130.out); first | exact y_ | (rw [add_block]; exact y_) | (show (Addr.add _ _).block ≠ _; rw [add_block]; exact y_) | (dsimp only; exact y_)) _).trans (((cell_far (p := ⟨gb130, _, none⟩) (by have z_ := wL _ _ hq1; (try rw [add_block] at z_); have y_ := Nat.ne_of_lt (Nat.lt_of_lt_of_le z_ GW130.out); first | exact y_ | (rw [add_block]; exact y_) | (show (Addr.add _ _).block ≠ _; rw [add_block]; exact y_) | (dsimp only; exact y_)) _).trans (hHeld.1)))), ((cell_far (p := ⟨gb130, _, none⟩) (by have z_ := wL _ _ hq2; (try rw [add_block] at z_); have y_ := Nat.ne_of_lt (Nat.lt_of_lt_of_le z_ GW130.out); first | exact y_ | (rw [add_block]; exact y_) | (show (Addr.add _ _).block ≠ _; rw [add_block]; exact y_) | (dsimp only; exact y_)) _).trans (((cell_far (p := ⟨gb130, _, none⟩) (by have z_ := wL _ _ hq2; (try rw [add_block] at z_); have y_ := Nat.ne_of_lt (Nat.lt_of_lt_of_le z_ GW130.out); first | exact y_ | (rw [add_block]; exact y_) | (show (Addr.add _ _).block ≠ _; rw [add_block]; exact y_) | (dsimp only; exact y_)) _).trans (hHeld.2.1)))), ((cell_far (p := ⟨gb130, _, none⟩) (by have z_ := wL _ _ hw128_0; (try rw [add_block] at z_); have y_ := Nat.ne_of_lt (Nat.lt_of_lt_of_le z_ GW130.out); first | exact y_ | (rw [add_block]; exact y_) | (show (Addr.add _ _).block ≠ _; rw [add_block]; exact y_) | (dsimp only; exact y_)) _).trans (((cell_far (p := ⟨gb130, _, none⟩) (by have z_ := wL _ _ hw128_0; (try rw [add_block] at z_); have y_ := Nat.ne_of_lt (Nat.lt_of_lt_of_le z_ GW130.out); first | exact y_ | (rw [add_block]; exact y_) | (show (Addr.add _ _).block ≠ _; rw [add_block]; exact y_) | (dsimp only; exact y_)) _).trans (hHeld.2.2.1)))), ((cell_far (p := ⟨gb130, _, none⟩) (by have z_ := wL _ _ hw128_1; (try rw [add_block] at z_); have y_ := Nat.ne_of_lt (Nat.lt_of_lt_of_le z_ GW130.out); first | exact y_ | (rw [add_block]; exact y_) | (show (Addr.add _ _).block ≠ _; rw [add_block]; exact y_) | (dsimp only; exact y_)) _).trans (((cell_far (p := ⟨gb130, _, none⟩) (by have z_ := wL _ _ hw128_1; (try rw [add_block] at z_); have y_ := Nat.ne_of_lt (Nat.lt_of_lt_of_le z_ GW130.out); first | exact y_ | (rw [add_block]; exact y_) | (show (Addr.add _ _).block ≠ _; rw [add_block]; exact y_) | (dsimp only; exact y_)) _).trans (hHeld.2.2.2.1)))), ((cell_far (p := ⟨gb130, _, none⟩) (by have z_ := wL _ _ hw129_0; (try rw [add_block] at z_); have y_ := Nat.ne_of_lt (Nat.lt_of_lt_of_le z_ GW130.out); first | exact y_ | (rw [add_block]; exact y_) | (show (Addr.add _ _).block ≠ _; rw [add_block]; exact y_) | (dsimp only; exact y_)) _).trans (((cell_far (p := ⟨gb130, _, none⟩) (by have z_ := wL _ _ hw129_0; (try rw [add_block] at z_); have y_ := Nat.ne_of_lt (Nat.lt_of_lt_of_le z_ GW130.out); first | exact y_ | (rw [add_block]; exact y_) | (show (Addr.add _ _).block ≠ _; rw [add_block]; exact y_) | (dsimp only; exact y_)) _).trans (hHeld.2.2.2.2.1)))), ((cell_far (p := ⟨gb130, _, none⟩) (by have z_ := wL _ _ hw129_1; (try rw [add_block] at z_); have y_ := Nat.ne_of_lt (Nat.lt_of_lt_of_le z_ GW130.out); first | exact y_ | (rw [add_block]; exact y_) | (show (Addr.add _ _).block ≠ _; rw [add_block]; exact y_) | (dsimp only; exact y_)) _).trans (((cell_far (p := ⟨gb130, _, none⟩) (by have z_ := wL _ _ hw129_1; (try rw [add_block] at z_); have y_ := Nat.ne_of_lt (Nat.lt_of_lt_of_le z_ GW130.out); first | exact y_ | (rw [add_block]; exact y_) | (show (Addr.add _ _).block ≠ _; rw [add_block]; exact y_) | (dsimp only; exact y_)) _).trans (hHeld.2.2.2.2.2))))⟩ (fun hHeld => ?_)
        clear hK K; refine one_ (i := 12) (N := none) #[T,T,T,T,T,T,T,T,T,T,T,T,T] rfl rfl (one_of HT_.out (by kernel_rfl)) (by decide) (fun K hK => ?_)
        have hs28 : w25.cell? ⟨gb131, 0, none⟩ = some (.int .i64 0) := (bC BK131.out 0).trans rfl
        have hfs28 := bF BK131.out 0
        have hns28_0 := NB130_131.out
        have hms28_0 := NB131_130.out
        have hs29 : w25.cell? ⟨gb131, 1, none⟩ = some (.int .i64 0) := (bC BK131.out 1).trans rfl
        have hfs29 := bF BK131.out 1
        have hns29_0 := NB130_131.out
        have hms29_0 := NB131_130.out
        refine skip_ (w1 := ?_) (by rfl) rfl ?_ ?_
        rotate_left
        ·
         go_simp; rfl
        refine hK.out _ _ ⟨((cell_far (p := ⟨gb131, _, none⟩) (by have z_ := wL _ _ hq1; (try rw [add_block] at z_); have y_ := Nat.ne_of_lt (Nat.lt_of_lt_of_le z_ GW131.out); first | exact y_ | (rw [add_block]; exact y_) | (show (Addr.add _ _).block ≠ _; rw [add_block]; exact y_) | (dsimp only; exact y_)) _).trans (((cell_far (p := ⟨gb131, _, none⟩) (by have z_ := wL _ _ hq1; (try rw [add_block] at z_); have y_ := Nat.ne_of_lt (Nat.lt_of_lt_of_le z_ GW131.out); first | exact y_ | (rw [add_block]; exact y_) | (show (Addr.add _ _).block ≠ _; rw [add_block]; exact y_) | (dsimp only; exact y_)) _).trans (hHeld.1)))), ((cell_far (p := ⟨gb131, _, none⟩) (by have z_ := wL _ _ hq2; (try rw [add_block] at z_); have y_ := Nat.ne_of_lt (Nat.lt_of_lt_of_le z_ GW131.out); first | exact y_ | (rw [add_block]; exact y_) | (show (Addr.add _ _).block ≠ _; rw [add_block]; exact y_) | (dsimp only; exact y_)) _).trans (((cell_far (p := ⟨gb131, _, none⟩) (by have z_ := wL _ _ hq2; (try rw [add_block] at z_); have y_ := Nat.ne_of_lt (Nat.lt_of_lt_of_le z_ GW131.out); first | exact y_ | (rw [add_block]; exact y_) | (show (Addr.add _ _).block ≠ _; rw [add_block]; exact y_) | (dsimp only; exact y_)) _).trans (hHeld.2.1)))), ((cell_far (p := ⟨gb131, _, none⟩) (by have z_ := wL _ _ hw128_0; (try rw [add_block] at z_); have y_ := Nat.ne_of_lt (Nat.lt_of_lt_of_le z_ GW131.out); first | exact y_ | (rw [add_block]; exact y_) | (show (Addr.add _ _).block ≠ _; rw [add_block]; exact y_) | (dsimp only; exact y_)) _).trans (((cell_far (p := ⟨gb131, _, none⟩) (by have z_ := wL _ _ hw128_0; (try rw [add_block] at z_); have y_ := Nat.ne_of_lt (Nat.lt_of_lt_of_le z_ GW131.out); first | exact y_ | (rw [add_block]; exact y_) | (show (Addr.add _ _).block ≠ _; rw [add_block]; exact y_) | (dsimp only; exact y_)) _).trans (hHeld.2.2.1)))), ((cell_far (p := ⟨gb131, _, none⟩) (by have z_ := wL _ _ hw128_1; (try rw [add_block] at z_); have y_ := Nat.ne_of_lt (Nat.lt_of_lt_of_le z_ GW131.out); first | exact y_ | (rw [add_block]; exact y_) | (show (Addr.add _ _).block ≠ _; rw [add_block]; exact y_) | (dsimp only; exact y_)) _).trans (((cell_far (p := ⟨gb131, _, none⟩) (by have z_ := wL _ _ hw128_1; (try rw [add_block] at z_); have y_ := Nat.ne_of_lt (Nat.lt_of_lt_of_le z_ GW131.out); first | exact y_ | (rw [add_block]; exact y_) | (show (Addr.add _ _).block ≠ _; rw [add_block]; exact y_) | (dsimp only; exact y_)) _).trans (hHeld.2.2.2.1)))), ((cell_far (p := ⟨gb131, _, none⟩) (by have z_ := wL _ _ hw129_0; (try rw [add_block] at z_); have y_ := Nat.ne_of_lt (Nat.lt_of_lt_of_le z_ GW131.out); first | exact y_ | (rw [add_block]; exact y_) | (show (Addr.add _ _).block ≠ _; rw [add_block]; exact y_) | (dsimp only; exact y_)) _).trans (((cell_far (p := ⟨gb131, _, none⟩) (by have z_ := wL _ _ hw129_0; (try rw [add_block] at z_); have y_ := Nat.ne_of_lt (Nat.lt_of_lt_of_le z_ GW131.out); first | exact y_ | (rw [add_block]; exact y_) | (show (Addr.add _ _).block ≠ _; rw [add_block]; exact y_) | (dsimp only; exact y_)) _).trans (hHeld.2.2.2.2.1)))), ((cell_far (p := ⟨gb131, _, none⟩) (by have z_ := wL _ _ hw129_1; (try rw [add_block] at z_); have y_ := Nat.ne_of_lt (Nat.lt_of_lt_of_le z_ GW131.out); first | exact y_ | (rw [add_block]; exact y_) | (show (Addr.add _ _).block ≠ _; rw [add_block]; exact y_) | (dsimp only; exact y_)) _).trans (((cell_far (p := ⟨gb131, _, none⟩) (by have z_ := wL _ _ hw129_1; (try rw [add_block] at z_); have y_ := Nat.ne_of_lt (Nat.lt_of_lt_of_le z_ GW131.out); first | exact y_ | (rw [add_block]; exact y_) | (show (Addr.add _ _).block ≠ _; rw [add_block]; exact y_) | (dsimp only; exact y_)) _).trans (hHeld.2.2.2.2.2))))⟩ (fun hHeld => ?_)
        clear hK K; refine done_ (done_of HT_.out (by kernel_rfl)) ?_
        have hnb30 := NB131_130.out
        have hnc30 := NB130_131.out
        have hcz31_0 : w25.cell? ⟨gb131, 0, none⟩ = some (.int .i64 0) := (bC BK131.out 0).trans rfl
        have hcz31_1 : w25.cell? ⟨gb131, 1, none⟩ = some (.int .i64 0) := (bC BK131.out 1).trans rfl
        have hfz31_0 := bF BK131.out 0
        have hfz31_1 := bF BK131.out 1
        have hcz32_0 : w25.cell? ⟨gb130, 0, none⟩ = some (.int .i64 0) := (bC BK130.out 0).trans rfl
        have hcz32_1 : w25.cell? ⟨gb130, 1, none⟩ = some (.int .i64 0) := (bC BK130.out 1).trans rfl
        have hfz32_0 := bF BK130.out 0
        have hfz32_1 := bF BK130.out 1
        have hbx1 := ((HB.out.cell (wL W0 _ hq1)).trans hq1)
        have hbx2 := ((HB.out.cell (wL W0 _ hq2)).trans hq2)
        try go_wp2_with (first | ((with_reducible refine gate_callee (f := 21) rfl ?_); refine goesL_ (some 68) rfl rfl Try.func21 (by kernel_rfl) rfl #[.int .i64 (wrap64 (((rd_T37 l0 t123).f1) - ((rd_T37 l0 (ji14)).f1))), .int .i64 (wrap64 (a1 - ((rd_T37 l0 (ji14)).f0))), .int .i64 (wrap64 (((rd_T37 l0 t123).f0) - ((rd_T37 l0 (ji14)).f0)))] rfl (by (try simp only [List.map_toArray, List.map_cons, List.map_nil]); first | done | (simp only [hji14]; rfl) | rfl | (simp only [List.length_drop, List.length_take]; rfl)) ?_; (try rw [← hW0.out]); (with_reducible refine (exact_Scale.calls k (wrap64 (((rd_T37 l0 t123).f1) - ((rd_T37 l0 (ji14)).f1))) (wrap64 (a1 - ((rd_T37 l0 (ji14)).f0))) (wrap64 (((rd_T37 l0 t123).f0) - ((rd_T37 l0 (ji14)).f0))) t132 t133 t134 _ A19.out).mono ?_); rintro e w' ⟨rfl, ⟨nd, rfl⟩⟩; refine ⟨_, rfl, ?_⟩))
        go_ret2
        exact ⟨by first | rfl | (simp [errW_none, errW_some] <;> rfl) | (simp only [← hji14]; first | rfl | (simp [errW_none, errW_some] <;> rfl)) | (simp [*, errW_none, errW_some] <;> rfl), by repeat (first | (with_reducible first | exact HB.out | apply bL | apply bW | apply b1 | refine bS ?_ GE130.out | refine bS ?_ GE131.out) | exact HB.out)⟩
       ·
        rw [if_neg c20] at H; have c20b0 : decide (0 < t133) = false := decide_eq_false c20
        clear c20; simp only [Option.some.injEq, Prod.mk.injEq] at H; obtain ⟨rfl, rfl⟩ := H
        go_enter Try.func25, Try.ntmps25
        (try simp only [List.append_eq, List.cons_append, List.nil_append]); have hbx1 := ((HB.out.cell (wL W0 _ hq1)).trans hq1)
        have hbx2 := ((HB.out.cell (wL W0 _ hq2)).trans hq2)
        try go_wp2_with (first | ((with_reducible refine gate_callee (f := 22) rfl ?_); refine goesL_ (some 15) rfl rfl Try.func22 (by kernel_rfl) rfl #[.int .i64 (l0.length : Int), .func (.func 31) #[] #[.pointer (some ⟨w.heap.size, 0, none⟩), .pointer (some ⟨w.heap.size + 1, 0, none⟩)]] rfl (by (try simp only [List.map_toArray, List.map_cons, List.map_nil]); first | done | rfl | (simp only [List.length_drop, List.length_take]; rfl)) ?_; (try rw [← hW0.out]); (with_reducible refine (search_x.calls w.heap.size (w.heap.size + 1) A0 c0 l0 a1 t123 _ ?bx1 ?bx2 ?side1 A3.out).mono ?_); (case bx1 => exact ((HB.out.cell (wL W0 _ hq1)).trans hq1)); (case bx2 => exact ((HB.out.cell (wL W0 _ hq2)).trans hq2)); (case side1 => repeat (first | exact HR0.out | (with_reducible refine Kd.C_alloc ?_ _) | (with_reducible refine Kd.C_drewN ?_ _) | (with_reducible refine Kd.C_drew ?_))); rintro e w33 ⟨rfl, hb⟩; refine ⟨_, rfl, ?_⟩; have n0_ := Aside0.mk (bP (by repeat (first | (with_reducible first | exact HB.out | apply bL | apply bW | apply b1) | exact HB.out)) hb); clear HB; have HB := n0_; clear n0_; (try clear hbx1 hbx2); have hbx1 := ((HB.out.cell (wL W0 _ hq1)).trans hq1); have hbx2 := ((HB.out.cell (wL W0 _ hq2)).trans hq2); (try clear hb); (try clear hb2); (try clear hk); (try clear hi)))
        have n0_ := Aside0.mk (b1 HB.out)
        clear HB; have HB := n0_
        clear n0_; have p128 : 0 ≤ ((ji14) : Int) := of_decide_eq_true (by first | (with_reducible assumption) | assumption)
        have q128 : (ji14) < (l0.length : Int) := of_decide_eq_true (by first | (with_reducible assumption) | assumption)
        obtain ⟨ad128, e128, hx128_0, hx128_1⟩ := at_T37 HR0.out (ji14) p128 q128
        have hw128_1 := hx128_1
        have hw128_0 := hx128_0
        cases e128
        replace hx128_0 := (HB.out.cell (wL W0 _ hx128_0)).trans hx128_0
        replace hx128_1 := (HB.out.cell (wL W0 _ hx128_1)).trans hx128_1
        replace p128 := eq_true p128
        replace q128 := eq_true q128
        have p129 : 0 ≤ (t123 : Int) := of_decide_eq_true (by first | (with_reducible assumption) | assumption)
        have q129 : t123 < (l0.length : Int) := of_decide_eq_true (by first | (with_reducible assumption) | assumption)
        obtain ⟨ad129, e129, hx129_0, hx129_1⟩ := at_T37 HR0.out t123 p129 q129
        have hw129_1 := hx129_1
        have hw129_0 := hx129_0
        obtain rfl : ad128 = ad129 := (by injection e129)
        replace hx129_0 := (HB.out.cell (wL W0 _ hx129_0)).trans hx129_0
        replace hx129_1 := (HB.out.cell (wL W0 _ hx129_1)).trans hx129_1
        replace p129 := eq_true p129
        replace q129 := eq_true q129
        refine start_ (n := 13) (S := fun w' => w'.cell? ⟨w.heap.size, 0, none⟩ = some (.slice (some ad128) l0.length c0) ∧ w'.cell? ⟨w.heap.size + 1, 0, none⟩ = some (.int .i64 a1) ∧ w'.cell? (ad128.add (((ji14)).toNat * 2)) = some (.int .i64 ((rd_T37 l0 (ji14)).f0)) ∧ w'.cell? ⟨(ad128.add (((ji14)).toNat * 2)).block, (ad128.add (((ji14)).toNat * 2)).off + 1, none⟩ = some (.int .i64 ((rd_T37 l0 (ji14)).f1)) ∧ w'.cell? (ad128.add ((t123).toNat * 2)) = some (.int .i64 ((rd_T37 l0 t123).f0)) ∧ w'.cell? ⟨(ad128.add ((t123).toNat * 2)).block, (ad128.add ((t123).toNat * 2)).off + 1, none⟩ = some (.int .i64 ((rd_T37 l0 t123).f1))) (ds := []) #[F,F,F,F,F,F,F,F,F,F,F,F,F] (by kernel_rfl) rfl rfl ⟨((HB.out.cell (wL W0 _ hq1)).trans hq1), ((HB.out.cell (wL W0 _ hq2)).trans hq2), ((HB.out.cell (wL W0 _ hw128_0)).trans hw128_0), ((HB.out.cell (wL W0 _ hw128_1)).trans hw128_1), ((HB.out.cell (wL W0 _ hw129_0)).trans hw129_0), ((HB.out.cell (wL W0 _ hw129_1)).trans hw129_1)⟩ (fun hHeld => ?_); refine with_tabW curve_at.tab6 curve_at.bits6 (fun HT_ HW_ => ?_)
        generalize w33.drew = w34 at HB hx128_0 hx128_1 hx129_0 hx129_1 hHeld ⊢
        refine take_ (i := 0) (N := some 44) (v := ?_) (a' := ?_) #[T,F,F,F,F,F,F,F,F,F,F,F,F] rfl rfl (take_ofW HT_.out HW_.out (by kernel_rfl)) (fun _ _ _ h => h) (Or.inl ⟨by rfl, ?_⟩) hHeld ?_ ?_
        rotate_left
        ·
         rintro w' ⟨sx1, sx2, sx3⟩
         go_simp; with_reducible rfl
        rotate_left
        ·
         simp only [Act.put, lA, lZ, lS, i64_w, i32_w]; rfl
        refine pure_ (i := 1) (N := some 45) (v := ?_) (a' := ?_) #[T,T,F,F,F,F,F,F,F,F,F,F,F] rfl rfl (any_of HT_.out (by kernel_rfl)) (fun _ _ _ h => h) (Or.inl ⟨by rfl, ?_⟩) ?_ ?_
        rotate_left
        ·
         intro w'; go_simp; with_reducible rfl
        rotate_left
        ·
         simp only [Act.put, lA, lZ, lS, i64_w, i32_w]; rfl
        refine pure_ (i := 2) (N := some 46) (v := ?_) (a' := ?_) #[T,T,T,F,F,F,F,F,F,F,F,F,F] rfl rfl (any_of HT_.out (by kernel_rfl)) (fun _ _ _ h => h) (Or.inl ⟨by rfl, ?_⟩) ?_ ?_
        rotate_left
        ·
         intro w'; go_simp; with_reducible rfl
        rotate_left
        ·
         simp only [Act.put, lA, lZ, lS, i64_w, i32_w]; rfl
        refine pure_ (i := 3) (N := some 47) (v := ?_) (a' := ?_) #[T,T,T,T,F,F,F,F,F,F,F,F,F] rfl rfl (any_of HT_.out (by kernel_rfl)) (fun _ _ _ h => h) (Or.inl ⟨by rfl, ?_⟩) ?_ ?_
        rotate_left
        ·
         intro w'; go_simp; with_reducible rfl
        rotate_left
        ·
         simp only [Act.put, lA, lZ, lS, i64_w, i32_w]; rfl
        refine take_ (i := 5) (N := some 49) (v := ?_) (a' := ?_) #[T,T,T,T,F,T,F,F,F,F,F,F,F] rfl rfl (take_ofW HT_.out HW_.out (by kernel_rfl)) (fun _ _ _ h => h) (Or.inl ⟨by rfl, ?_⟩) hHeld ?_ ?_
        rotate_left
        ·
         rintro w' ⟨sx1, sx2, sx3⟩
         go_simp; with_reducible rfl
        rotate_left
        ·
         simp only [Act.put, lA, lZ, lS, i64_w, i32_w]; rfl
        refine pure_ (i := 6) (N := some 50) (v := ?_) (a' := ?_) #[T,T,T,T,F,T,T,F,F,F,F,F,F] rfl rfl (any_of HT_.out (by kernel_rfl)) (fun _ _ _ h => h) (Or.inl ⟨by rfl, ?_⟩) ?_ ?_
        rotate_left
        ·
         intro w'; go_simp; with_reducible rfl
        rotate_left
        ·
         simp only [Act.put, lA, lZ, lS, i64_w, i32_w]; rfl
        refine pure_ (i := 7) (N := some 51) (v := ?_) (a' := ?_) #[T,T,T,T,F,T,T,T,F,F,F,F,F] rfl rfl (any_of HT_.out (by kernel_rfl)) (fun _ _ _ h => h) (Or.inl ⟨by rfl, ?_⟩) ?_ ?_
        rotate_left
        ·
         intro w'; go_simp; with_reducible rfl
        rotate_left
        ·
         simp only [Act.put, lA, lZ, lS, i64_w, i32_w]; rfl
        refine take_ (i := 4) (N := some 48) (v := ?_) (a' := ?_) #[T,T,T,T,T,T,T,T,F,F,F,F,F] rfl rfl (take_ofW HT_.out HW_.out (by kernel_rfl)) (fun _ _ _ h => h) (Or.inl ⟨by rfl, ?_⟩) hHeld ?_ ?_
        rotate_left
        ·
         rintro w' ⟨sx1, sx2, s0, s1, s2, s3⟩
         go_simp; with_reducible rfl
        rotate_left
        ·
         simp only [Act.put, lA, lZ, lS, i64_w, i32_w]; rfl
        refine take_ (i := 8) (N := some 52) (v := ?_) (a' := ?_) #[T,T,T,T,T,T,T,T,T,F,F,F,F] rfl rfl (take_ofW HT_.out HW_.out (by kernel_rfl)) (fun _ _ _ h => h) (Or.inl ⟨by rfl, ?_⟩) hHeld ?_ ?_
        rotate_left
        ·
         rintro w' ⟨sx1, sx2, s0, s1, s2, s3⟩
         go_simp; with_reducible rfl
        rotate_left
        ·
         simp only [Act.put, lA, lZ, lS, i64_w, i32_w]; rfl
        refine join_ (σ := Nat × Nat) 2 #[T,T,T,T,T,T,T,T,T,T,T,F,F] (fun s_ => [(7, .pointer (some ⟨s_.1, 0, none⟩)), (8, .pointer (some ⟨s_.2, 0, none⟩))]) (fun s_ w' => (w'.cell? ⟨w.heap.size, 0, none⟩ = some (.slice (some ad128) l0.length c0) ∧ w'.cell? ⟨w.heap.size + 1, 0, none⟩ = some (.int .i64 a1) ∧ w'.cell? (ad128.add (((ji14)).toNat * 2)) = some (.int .i64 ((rd_T37 l0 (ji14)).f0)) ∧ w'.cell? ⟨(ad128.add (((ji14)).toNat * 2)).block, (ad128.add (((ji14)).toNat * 2)).off + 1, none⟩ = some (.int .i64 ((rd_T37 l0 (ji14)).f1)) ∧ w'.cell? (ad128.add ((t123).toNat * 2)) = some (.int .i64 ((rd_T37 l0 t123).f0)) ∧ w'.cell? ⟨(ad128.add ((t123).toNat * 2)).block, (ad128.add ((t123).toNat * 2)).off + 1, none⟩ = some (.int .i64 ((rd_T37 l0 t123).f1))) ∧ (w'.heap[s_.1]? = some (.cells #[.int .i64 0, .int .i64 0] 37 (0, 0))) ∧ (w'.heap[s_.2]? = some (.cells #[.int .i64 0, .int .i64 0] 37 (0, 0))) ∧ (W0.heap.size ≤ s_.1) ∧ (W0.heap.size ≤ s_.1) ∧ (s_.2 ≠ s_.1) ∧ (s_.1 ≠ s_.2) ∧ (W0.heap.size ≤ s_.2) ∧ (W0.heap.size ≤ s_.2) ∧ (Below W0.heap.size W0 w')) ?_ ?_
        rotate_left
        ·
         intro hCont; refine two_ (i := 9) (j := 10) (Ni := some 7) (Nj := some 8) #[T,T,T,T,T,T,T,T,T,T,F,F,F] #[T,T,T,T,T,T,T,T,T,F,T,F,F] rfl rfl rfl rfl (two_of HT_.out (by kernel_rfl)) (by decide) (by decide) (fun K hK => ?_) (fun K hK => ?_)
         ·
          skip
          refine box_step ?hg (N := 7) ?hd (cs := #[.int .i64 0, .int .i64 0]) (t := 37) ?hr ?_; (case hd => rfl); (case hg => rfl); (case hr => first | (go_simp; done) | (go_simp; rfl))
          intro gb130 hg w35 hbox hb; have n0_ := Aside0.mk (bP (by repeat (first | (with_reducible first | exact HB.out | apply bL | apply bW | apply b1) | exact HB.out)) hb)
          have n1_ := Aside0.mk (hbox)
          have n2_ := Aside0.mk ((by rw [hg]; exact (bZ (by repeat (first | (with_reducible first | exact HB.out | apply bL | apply bW | apply b1) | exact HB.out))) : W0.heap.size ≤ gb130))
          have n3_ := Aside0.mk ((by rw [hg]; exact (bZ (by repeat (first | (with_reducible first | exact HB.out | apply bL | apply bW | apply b1) | exact HB.out))) : W0.heap.size ≤ gb130))
          clear HB; have HB := n0_
          have BK130 := n1_
          have GW130 := n2_
          have GE130 := n3_
          clear n0_ n1_ n2_ n3_; clear hb hbox hg; refine hK.out _ _ ⟨((HB.out.cell (wL W0 _ hq1)).trans hq1), ((HB.out.cell (wL W0 _ hq2)).trans hq2), ((HB.out.cell (wL W0 _ hw128_0)).trans hw128_0), ((HB.out.cell (wL W0 _ hw128_1)).trans hw128_1), ((HB.out.cell (wL W0 _ hw129_0)).trans hw129_0), ((HB.out.cell (wL W0 _ hw129_1)).trans hw129_1)⟩ (fun hHeld => ?_)
          clear hK K; refine norm_ (a' := ?_) ?_ ?_
          rotate_left
          ·
           show Act.put _ (some 7) _ = _
           simp only [Act.put, lA, lZ, lS, i64_w, i32_w]; rfl
          refine one_ (i := 10) (N := some 8) #[T,T,T,T,T,T,T,T,T,T,T,F,F] rfl rfl (one_of HT_.out (by kernel_rfl)) (by decide) (fun K hK => ?_)
          refine box_step ?hg (N := 8) ?hd (cs := #[.int .i64 0, .int .i64 0]) (t := 37) ?hr ?_; (case hd => rfl); (case hg => rfl); (case hr => first | (go_simp; done) | (go_simp; rfl))
          intro gb131 hg w36 hbox hb; have n0_ := Aside0.mk (bB (g := gb130) (o := .cells #[.int .i64 0, .int .i64 0] 37 (0, 0)) (by (with_reducible repeat (first | refine bN ?_ _ | refine bD ?_ | refine bA ?_ _)); exact BK130.out) hb)
          have n1_ := Aside0.mk (bP (by repeat (first | (with_reducible first | exact HB.out | apply bL | apply bW | apply b1 | refine bS ?_ GE130.out) | exact HB.out)) hb)
          have n2_ := Aside0.mk (hbox)
          have n3_ := Aside0.mk ((by rw [hg]; exact (bZ (by repeat (first | (with_reducible first | exact HB.out | apply bL | apply bW | apply b1 | refine bS ?_ GE130.out) | exact HB.out))) : W0.heap.size ≤ gb131))
          have n4_ := Aside0.mk ((by rw [hg]; exact (bZ (by repeat (first | (with_reducible first | exact HB.out | apply bL | apply bW | apply b1 | refine bS ?_ GE130.out) | exact HB.out))) : W0.heap.size ≤ gb131))
          have n5_ := Aside0.mk ((by rw [hg]; exact Nat.ne_of_lt (bT (g := gb130) (o := .cells #[.int .i64 0, .int .i64 0] 37 (0, 0)) (by (with_reducible repeat (first | refine bN ?_ _ | refine bD ?_ | refine bA ?_ _)); exact BK130.out)) : gb130 ≠ gb131))
          have n6_ := Aside0.mk ((by rw [hg]; exact Nat.ne_of_gt (bT (g := gb130) (o := .cells #[.int .i64 0, .int .i64 0] 37 (0, 0)) (by (with_reducible repeat (first | refine bN ?_ _ | refine bD ?_ | refine bA ?_ _)); exact BK130.out)) : gb131 ≠ gb130))
          clear BK130; clear HB; have BK130 := n0_
          have HB := n1_
          have BK131 := n2_
          have GW131 := n3_
          have GE131 := n4_
          have NB130_131 := n5_
          have NB131_130 := n6_
          clear n0_ n1_ n2_ n3_ n4_ n5_ n6_; clear hb hbox hg; refine hK.out _ _ ⟨((HB.out.cell (wL W0 _ hq1)).trans hq1), ((HB.out.cell (wL W0 _ hq2)).trans hq2), ((HB.out.cell (wL W0 _ hw128_0)).trans hw128_0), ((HB.out.cell (wL W0 _ hw128_1)).trans hw128_1), ((HB.out.cell (wL W0 _ hw129_0)).trans hw129_0), ((HB.out.cell (wL W0 _ hw129_1)).trans hw129_1)⟩ (fun hHeld => ?_)
          clear hK K; refine norm_ (a' := ?_) ?_ ?_
          rotate_left
          ·
           show Act.put _ (some 8) _ = _
           simp only [Act.put, lA, lZ, lS, i64_w, i32_w]; rfl
          exact norm_ (by simp only [putAll, Act.put, lA, lZ, lS]) (hCont (gb130, gb131) _ ⟨hHeld, (by (with_reducible repeat (first | refine bN ?_ _ | refine bD ?_ | refine bA ?_ _)); exact BK130.out), (by (with_reducible repeat (first | refine bN ?_ _ | refine bD ?_ | refine bA ?_ _)); exact BK131.out), GW130.out, GE130.out, NB131_130.out, NB130_131.out, GW131.out, GE131.out, (by repeat (first | (with_reducible first | exact HB.out | apply bL | apply bW | apply b1 | refine bS ?_ GE130.out | refine bS ?_ GE131.out) | exact HB.out))⟩)
         ·
          skip
          refine box_step ?hg (N := 8) ?hd (cs := #[.int .i64 0, .int .i64 0]) (t := 37) ?hr ?_; (case hd => rfl); (case hg => rfl); (case hr => first | (go_simp; done) | (go_simp; rfl))
          intro gb131 hg w35 hbox hb; have n0_ := Aside0.mk (bP (by repeat (first | (with_reducible first | exact HB.out | apply bL | apply bW | apply b1) | exact HB.out)) hb)
          have n1_ := Aside0.mk (hbox)
          have n2_ := Aside0.mk ((by rw [hg]; exact (bZ (by repeat (first | (with_reducible first | exact HB.out | apply bL | apply bW | apply b1) | exact HB.out))) : W0.heap.size ≤ gb131))
          have n3_ := Aside0.mk ((by rw [hg]; exact (bZ (by repeat (first | (with_reducible first | exact HB.out | apply bL | apply bW | apply b1) | exact HB.out))) : W0.heap.size ≤ gb131))
          clear HB; have HB := n0_
          have BK131 := n1_
          have GW131 := n2_
          have GE131 := n3_
          clear n0_ n1_ n2_ n3_; clear hb hbox hg; refine hK.out _ _ ⟨((HB.out.cell (wL W0 _ hq1)).trans hq1), ((HB.out.cell (wL W0 _ hq2)).trans hq2), ((HB.out.cell (wL W0 _ hw128_0)).trans hw128_0), ((HB.out.cell (wL W0 _ hw128_1)).trans hw128_1), ((HB.out.cell (wL W0 _ hw129_0)).trans hw129_0), ((HB.out.cell (wL W0 _ hw129_1)).trans hw129_1)⟩ (fun hHeld => ?_)
          clear hK K; refine norm_ (a' := ?_) ?_ ?_
          rotate_left
          ·
           show Act.put _ (some 8) _ = _
           simp only [Act.put, lA, lZ, lS, i64_w, i32_w]; rfl
          refine one_ (i := 9) (N := some 7) #[T,T,T,T,T,T,T,T,T,T,T,F,F] rfl rfl (one_of HT_.out (by kernel_rfl)) (by decide) (fun K hK => ?_)
          refine box_step ?hg (N := 7) ?hd (cs := #[.int .i64 0, .int .i64 0]) (t := 37) ?hr ?_; (case hd => rfl); (case hg => rfl); (case hr => first | (go_simp; done) | (go_simp; rfl))
          intro gb130 hg w36 hbox hb; have n0_ := Aside0.mk (bB (g := gb131) (o := .cells #[.int .i64 0, .int .i64 0] 37 (0, 0)) (by (with_reducible repeat (first | refine bN ?_ _ | refine bD ?_ | refine bA ?_ _)); exact BK131.out) hb)
          have n1_ := Aside0.mk (bP (by repeat (first | (with_reducible first | exact HB.out | apply bL | apply bW | apply b1 | refine bS ?_ GE131.out) | exact HB.out)) hb)
          have n2_ := Aside0.mk (hbox)
          have n3_ := Aside0.mk ((by rw [hg]; exact (bZ (by repeat (first | (with_reducible first | exact HB.out | apply bL | apply bW | apply b1 | refine bS ?_ GE131.out) | exact HB.out))) : W0.heap.size ≤ gb130))
          have n4_ := Aside0.mk ((by rw [hg]; exact (bZ (by repeat (first | (with_reducible first | exact HB.out | apply bL | apply bW | apply b1 | refine bS ?_ GE131.out) | exact HB.out))) : W0.heap.size ≤ gb130))
          have n5_ := Aside0.mk ((by rw [hg]; exact Nat.ne_of_lt (bT (g := gb131) (o := .cells #[.int .i64 0, .int .i64 0] 37 (0, 0)) (by (with_reducible repeat (first | refine bN ?_ _ | refine bD ?_ | refine bA ?_ _)); exact BK131.out)) : gb131 ≠ gb130))
          have n6_ := Aside0.mk ((by rw [hg]; exact Nat.ne_of_gt (bT (g := gb131) (o := .cells #[.int .i64 0, .int .i64 0] 37 (0, 0)) (by (with_reducible repeat (first | refine bN ?_ _ | refine bD ?_ | refine bA ?_ _)); exact BK131.out)) : gb130 ≠ gb131))
          clear BK131; clear HB; have BK131 := n0_
          have HB := n1_
          have BK130 := n2_
          have GW130 := n3_
          have GE130 := n4_
          have NB131_130 := n5_
          have NB130_131 := n6_
          clear n0_ n1_ n2_ n3_ n4_ n5_ n6_; clear hb hbox hg; refine hK.out _ _ ⟨((HB.out.cell (wL W0 _ hq1)).trans hq1), ((HB.out.cell (wL W0 _ hq2)).trans hq2), ((HB.out.cell (wL W0 _ hw128_0)).trans hw128_0), ((HB.out.cell (wL W0 _ hw128_1)).trans hw128_1), ((HB.out.cell (wL W0 _ hw129_0)).trans hw129_0), ((HB.out.cell (wL W0 _ hw129_1)).trans hw129_1)⟩ (fun hHeld => ?_)
          clear hK K; refine norm_ (a' := ?_) ?_ ?_
          rotate_left
          ·
           show Act.put _ (some 7) _ = _
           simp only [Act.put, lA, lZ, lS, i64_w, i32_w]; rfl
          exact norm_ (by simp only [putAll, Act.put, lA, lZ, lS]) (hCont (gb130, gb131) _ ⟨hHeld, (by (with_reducible repeat (first | refine bN ?_ _ | refine bD ?_ | refine bA ?_ _)); exact BK130.out), (by (with_reducible repeat (first | refine bN ?_ _ | refine bD ?_ | refine bA ?_ _)); exact BK131.out), GW130.out, GE130.out, NB131_130.out, NB130_131.out, GW131.out, GE131.out, (by repeat (first | (with_reducible first | exact HB.out | apply bL | apply bW | apply b1 | refine bS ?_ GE131.out | refine bS ?_ GE130.out) | exact HB.out))⟩)
        rintro ⟨gb130, gb131⟩ w37 ⟨hS_, h0_, h1_, h2_, h3_, h4_, h5_, h6_, h7_, h8_⟩
        have n0_ : Aside0 (w37.heap[gb130]? = some (.cells #[.int .i64 0, .int .i64 0] 37 (0, 0))) := ⟨h0_⟩
        have n1_ : Aside0 (w37.heap[gb131]? = some (.cells #[.int .i64 0, .int .i64 0] 37 (0, 0))) := ⟨h1_⟩
        have n2_ : Aside0 (W0.heap.size ≤ gb130) := ⟨h2_⟩
        have n3_ : Aside0 (W0.heap.size ≤ gb130) := ⟨h3_⟩
        have n4_ : Aside0 (gb131 ≠ gb130) := ⟨h4_⟩
        have n5_ : Aside0 (gb130 ≠ gb131) := ⟨h5_⟩
        have n6_ : Aside0 (W0.heap.size ≤ gb131) := ⟨h6_⟩
        have n7_ : Aside0 (W0.heap.size ≤ gb131) := ⟨h7_⟩
        have n8_ : Aside0 (Below W0.heap.size W0 w37) := ⟨h8_⟩
        clear HB; clear h0_ h1_ h2_ h3_ h4_ h5_ h6_ h7_ h8_; have BK130 := n0_
        have BK131 := n1_
        have GW130 := n2_
        have GE130 := n3_
        have NB131_130 := n4_
        have NB130_131 := n5_
        have GW131 := n6_
        have GE131 := n7_
        have HB := n8_
        clear n0_ n1_ n2_ n3_ n4_ n5_ n6_ n7_ n8_; have hHeld := hS_
        refine norm_ (a' := ?_) ?_ ?_
        rotate_left
        ·
         simp only [putAll, Act.put, lA, lZ, lS]; rfl
        refine one_ (i := 11) (N := none) #[T,T,T,T,T,T,T,T,T,T,T,T,F] rfl rfl (one_of HT_.out (by kernel_rfl)) (by decide) (fun K hK => ?_)
        have hs38 : w37.cell? ⟨gb130, 0, none⟩ = some (.int .i64 0) := (bC BK130.out 0).trans rfl
        have hfs38 := bF BK130.out 0
        have hns38_1 := NB131_130.out
        have hms38_1 := NB130_131.out
        have hs39 : w37.cell? ⟨gb130, 1, none⟩ = some (.int .i64 0) := (bC BK130.out 1).trans rfl
        have hfs39 := bF BK130.out 1
        have hns39_1 := NB131_130.out
        have hms39_1 := NB130_131.out
        refine skip_ (w1 := ?_) (by rfl) rfl ?_ ?_
        rotate_left
        ·
         go_simp; rfl
        refine hK.out _ _ ⟨((cell_far (p := ⟨gb130, _, none⟩) (by have z_ := wL _ _ hq1; (try rw [add_block] at z_); have y_ := Nat.ne_of_lt (Nat.lt_of_lt_of_le z_ GW130.out); first | exact y_ | (rw [add_block]; exact y_) | (show (Addr.add _ _).block ≠ _; rw [add_block]; exact y_) | (dsimp only; exact y_)) _).trans (((cell_far (p := ⟨gb130, _, none⟩) (by have z_ := wL _ _ hq1; (try rw [add_block] at z_); have y_ := Nat.ne_of_lt (Nat.lt_of_lt_of_le z_ GW130.out); first | exact y_ | (rw [add_block]; exact y_) | (show (Addr.add _ _).block ≠ _; rw [add_block]; exact y_) | (dsimp only; exact y_)) _).trans (hHeld.1)))), ((cell_far (p := ⟨gb130, _, none⟩) (by have z_ := wL _ _ hq2; (try rw [add_block] at z_); have y_ := Nat.ne_of_lt (Nat.lt_of_lt_of_le z_ GW130.out); first | exact y_ | (rw [add_block]; exact y_) | (show (Addr.add _ _).block ≠ _; rw [add_block]; exact y_) | (dsimp only; exact y_)) _).trans (((cell_far (p := ⟨gb130, _, none⟩) (by have z_ := wL _ _ hq2; (try rw [add_block] at z_); have y_ := Nat.ne_of_lt (Nat.lt_of_lt_of_le z_ GW130.out); first | exact y_ | (rw [add_block]; exact y_) | (show (Addr.add _ _).block ≠ _; rw [add_block]; exact y_) | (dsimp only; exact y_)) _).trans (hHeld.2.1)))), ((cell_far (p := ⟨gb130, _, none⟩) (by have z_ := wL _ _ hw128_0; (try rw [add_block] at z_); have y_ := Nat.ne_of_lt (Nat.lt_of_lt_of_le z_ GW130.out); first | exact y_ | (rw [add_block]; exact y_) | (show (Addr.add _ _).block ≠ _; rw [add_block]; exact y_) | (dsimp only; exact y_)) _).trans (((cell_far (p := ⟨gb130, _, none⟩) (by have z_ := wL _ _ hw128_0; (try rw [add_block] at z_); have y_ := Nat.ne_of_lt (Nat.lt_of_lt_of_le z_ GW130.out); first | exact y_ | (rw [add_block]; exact y_) | (show (Addr.add _ _).block ≠ _; rw [add_block]; exact y_) | (dsimp only; exact y_)) _).trans (hHeld.2.2.1)))), ((cell_far (p := ⟨gb130, _, none⟩) (by have z_ := wL _ _ hw128_1; (try rw [add_block] at z_); have y_ := Nat.ne_of_lt (Nat.lt_of_lt_of_le z_ GW130.out); first | exact y_ | (rw [add_block]; exact y_) | (show (Addr.add _ _).block ≠ _; rw [add_block]; exact y_) | (dsimp only; exact y_)) _).trans (((cell_far (p := ⟨gb130, _, none⟩) (by have z_ := wL _ _ hw128_1; (try rw [add_block] at z_); have y_ := Nat.ne_of_lt (Nat.lt_of_lt_of_le z_ GW130.out); first | exact y_ | (rw [add_block]; exact y_) | (show (Addr.add _ _).block ≠ _; rw [add_block]; exact y_) | (dsimp only; exact y_)) _).trans (hHeld.2.2.2.1)))), ((cell_far (p := ⟨gb130, _, none⟩) (by have z_ := wL _ _ hw129_0; (try rw [add_block] at z_); have y_ := Nat.ne_of_lt (Nat.lt_of_lt_of_le z_ GW130.out); first | exact y_ | (rw [add_block]; exact y_) | (show (Addr.add _ _).block ≠ _; rw [add_block]; exact y_) | (dsimp only; exact y_)) _).trans (((cell_far (p := ⟨gb130, _, none⟩) (by have z_ := wL _ _ hw129_0; (try rw [add_block] at z_); have y_ := Nat.ne_of_lt (Nat.lt_of_lt_of_le z_ GW130.out); first | exact y_ | (rw [add_block]; exact y_) | (show (Addr.add _ _).block ≠ _; rw [add_block]; exact y_) | (dsimp only; exact y_)) _).trans (hHeld.2.2.2.2.1)))), ((cell_far (p := ⟨gb130, _, none⟩) (by have z_ := wL _ _ hw129_1; (try rw [add_block] at z_); have y_ := Nat.ne_of_lt (Nat.lt_of_lt_of_le z_ GW130.out); first | exact y_ | (rw [add_block]; exact y_) | (show (Addr.add _ _).block ≠ _; rw [add_block]; exact y_) | (dsimp only; exact y_)) _).trans (((cell_far (p := ⟨gb130, _, none⟩) (by have z_ := wL _ _ hw129_1; (try rw [add_block] at z_); have y_ := Nat.ne_of_lt (Nat.lt_of_lt_of_le z_ GW130.out); first | exact y_ | (rw [add_block]; exact y_) | (show (Addr.add _ _).block ≠ _; rw [add_block]; exact y_) | (dsimp only; exact y_)) _).trans (hHeld.2.2.2.2.2))))⟩ (fun hHeld => ?_)
        clear hK K; refine one_ (i := 12) (N := none) #[T,T,T,T,T,T,T,T,T,T,T,T,T] rfl rfl (one_of HT_.out (by kernel_rfl)) (by decide) (fun K hK => ?_)
        have hs40 : w37.cell? ⟨gb131, 0, none⟩ = some (.int .i64 0) := (bC BK131.out 0).trans rfl
        have hfs40 := bF BK131.out 0
        have hns40_0 := NB130_131.out
        have hms40_0 := NB131_130.out
        have hs41 : w37.cell? ⟨gb131, 1, none⟩ = some (.int .i64 0) := (bC BK131.out 1).trans rfl
        have hfs41 := bF BK131.out 1
        have hns41_0 := NB130_131.out
        have hms41_0 := NB131_130.out
        refine skip_ (w1 := ?_) (by rfl) rfl ?_ ?_
        rotate_left
        ·
         go_simp; rfl
        refine hK.out _ _ ⟨((cell_far (p := ⟨gb131, _, none⟩) (by have z_ := wL _ _ hq1; (try rw [add_block] at z_); have y_ := Nat.ne_of_lt (Nat.lt_of_lt_of_le z_ GW131.out); first | exact y_ | (rw [add_block]; exact y_) | (show (Addr.add _ _).block ≠ _; rw [add_block]; exact y_) | (dsimp only; exact y_)) _).trans (((cell_far (p := ⟨gb131, _, none⟩) (by have z_ := wL _ _ hq1; (try rw [add_block] at z_); have y_ := Nat.ne_of_lt (Nat.lt_of_lt_of_le z_ GW131.out); first | exact y_ | (rw [add_block]; exact y_) | (show (Addr.add _ _).block ≠ _; rw [add_block]; exact y_) | (dsimp only; exact y_)) _).trans (hHeld.1)))), ((cell_far (p := ⟨gb131, _, none⟩) (by have z_ := wL _ _ hq2; (try rw [add_block] at z_); have y_ := Nat.ne_of_lt (Nat.lt_of_lt_of_le z_ GW131.out); first | exact y_ | (rw [add_block]; exact y_) | (show (Addr.add _ _).block ≠ _; rw [add_block]; exact y_) | (dsimp only; exact y_)) _).trans (((cell_far (p := ⟨gb131, _, none⟩) (by have z_ := wL _ _ hq2; (try rw [add_block] at z_); have y_ := Nat.ne_of_lt (Nat.lt_of_lt_of_le z_ GW131.out); first | exact y_ | (rw [add_block]; exact y_) | (show (Addr.add _ _).block ≠ _; rw [add_block]; exact y_) | (dsimp only; exact y_)) _).trans (hHeld.2.1)))), ((cell_far (p := ⟨gb131, _, none⟩) (by have z_ := wL _ _ hw128_0; (try rw [add_block] at z_); have y_ := Nat.ne_of_lt (Nat.lt_of_lt_of_le z_ GW131.out); first | exact y_ | (rw [add_block]; exact y_) | (show (Addr.add _ _).block ≠ _; rw [add_block]; exact y_) | (dsimp only; exact y_)) _).trans (((cell_far (p := ⟨gb131, _, none⟩) (by have z_ := wL _ _ hw128_0; (try rw [add_block] at z_); have y_ := Nat.ne_of_lt (Nat.lt_of_lt_of_le z_ GW131.out); first | exact y_ | (rw [add_block]; exact y_) | (show (Addr.add _ _).block ≠ _; rw [add_block]; exact y_) | (dsimp only; exact y_)) _).trans (hHeld.2.2.1)))), ((cell_far (p := ⟨gb131, _, none⟩) (by have z_ := wL _ _ hw128_1; (try rw [add_block] at z_); have y_ := Nat.ne_of_lt (Nat.lt_of_lt_of_le z_ GW131.out); first | exact y_ | (rw [add_block]; exact y_) | (show (Addr.add _ _).block ≠ _; rw [add_block]; exact y_) | (dsimp only; exact y_)) _).trans (((cell_far (p := ⟨gb131, _, none⟩) (by have z_ := wL _ _ hw128_1; (try rw [add_block] at z_); have y_ := Nat.ne_of_lt (Nat.lt_of_lt_of_le z_ GW131.out); first | exact y_ | (rw [add_block]; exact y_) | (show (Addr.add _ _).block ≠ _; rw [add_block]; exact y_) | (dsimp only; exact y_)) _).trans (hHeld.2.2.2.1)))), ((cell_far (p := ⟨gb131, _, none⟩) (by have z_ := wL _ _ hw129_0; (try rw [add_block] at z_); have y_ := Nat.ne_of_lt (Nat.lt_of_lt_of_le z_ GW131.out); first | exact y_ | (rw [add_block]; exact y_) | (show (Addr.add _ _).block ≠ _; rw [add_block]; exact y_) | (dsimp only; exact y_)) _).trans (((cell_far (p := ⟨gb131, _, none⟩) (by have z_ := wL _ _ hw129_0; (try rw [add_block] at z_); have y_ := Nat.ne_of_lt (Nat.lt_of_lt_of_le z_ GW131.out); first | exact y_ | (rw [add_block]; exact y_) | (show (Addr.add _ _).block ≠ _; rw [add_block]; exact y_) | (dsimp only; exact y_)) _).trans (hHeld.2.2.2.2.1)))), ((cell_far (p := ⟨gb131, _, none⟩) (by have z_ := wL _ _ hw129_1; (try rw [add_block] at z_); have y_ := Nat.ne_of_lt (Nat.lt_of_lt_of_le z_ GW131.out); first | exact y_ | (rw [add_block]; exact y_) | (show (Addr.add _ _).block ≠ _; rw [add_block]; exact y_) | (dsimp only; exact y_)) _).trans (((cell_far (p := ⟨gb131, _, none⟩) (by have z_ := wL _ _ hw129_1; (try rw [add_block] at z_); have y_ := Nat.ne_of_lt (Nat.lt_of_lt_of_le z_ GW131.out); first | exact y_ | (rw [add_block]; exact y_) | (show (Addr.add _ _).block ≠ _; rw [add_block]; exact y_) | (dsimp only; exact y_)) _).trans (hHeld.2.2.2.2.2))))⟩ (fun hHeld => ?_)
        clear hK K; refine done_ (done_of HT_.out (by kernel_rfl)) ?_
        have hnb42 := NB131_130.out
        have hnc42 := NB130_131.out
        have hcz43_0 : w37.cell? ⟨gb131, 0, none⟩ = some (.int .i64 0) := (bC BK131.out 0).trans rfl
        have hcz43_1 : w37.cell? ⟨gb131, 1, none⟩ = some (.int .i64 0) := (bC BK131.out 1).trans rfl
        have hfz43_0 := bF BK131.out 0
        have hfz43_1 := bF BK131.out 1
        have hcz44_0 : w37.cell? ⟨gb130, 0, none⟩ = some (.int .i64 0) := (bC BK130.out 0).trans rfl
        have hcz44_1 : w37.cell? ⟨gb130, 1, none⟩ = some (.int .i64 0) := (bC BK130.out 1).trans rfl
        have hfz44_0 := bF BK130.out 0
        have hfz44_1 := bF BK130.out 1
        have hbx1 := ((HB.out.cell (wL W0 _ hq1)).trans hq1)
        have hbx2 := ((HB.out.cell (wL W0 _ hq2)).trans hq2)
        try go_wp2_with (first | ((with_reducible refine gate_callee (f := 21) rfl ?_); refine goesL_ (some 68) rfl rfl Try.func21 (by kernel_rfl) rfl #[.int .i64 (wrap64 (((rd_T37 l0 t123).f1) - ((rd_T37 l0 (ji14)).f1))), .int .i64 (wrap64 (a1 - ((rd_T37 l0 (ji14)).f0))), .int .i64 (wrap64 (((rd_T37 l0 t123).f0) - ((rd_T37 l0 (ji14)).f0)))] rfl (by (try simp only [List.map_toArray, List.map_cons, List.map_nil]); first | done | (simp only [hji14]; rfl) | rfl | (simp only [List.length_drop, List.length_take]; rfl)) ?_; (try rw [← hW0.out]); (with_reducible refine (exact_Scale.calls k (wrap64 (((rd_T37 l0 t123).f1) - ((rd_T37 l0 (ji14)).f1))) (wrap64 (a1 - ((rd_T37 l0 (ji14)).f0))) (wrap64 (((rd_T37 l0 t123).f0) - ((rd_T37 l0 (ji14)).f0))) t132 t133 t134 _ A19.out).mono ?_); rintro e w' ⟨rfl, ⟨nd, rfl⟩⟩; refine ⟨_, rfl, ?_⟩))
        go_ret2
        exact ⟨by first | rfl | (simp [errW_none, errW_some] <;> rfl) | (simp only [← hji14]; first | rfl | (simp [errW_none, errW_some] <;> rfl)) | (simp [*, errW_none, errW_some] <;> rfl), by repeat (first | (with_reducible first | exact HB.out | apply bL | apply bW | apply b1 | refine bS ?_ GE130.out | refine bS ?_ GE131.out) | exact HB.out)⟩
      ·
       rw [if_neg c18] at H; exact absurd H (by simp)
     ·
      rw [if_neg c17] at H; exact absurd H (by simp)
    ·
     rw [if_neg c16] at H; exact absurd H (by simp)
   ·
    rw [if_neg c15] at H; exact absurd H (by simp)
end Go.Proofs.Ytmkekbehipaopaa.Fn
