-- written by this session's program myprint.py out of the translation; Lean checks it
import Derived.Test.YthbdhlcfcfjknaaFn0
import Derived.Test.YthbdhlcfcfjknaaFn2
import Derived.Test.YthbdhlcfcfjknaaFn4
import Derived.Test.YthbdhlcfcfjknaaFn5
namespace Go.Proofs.Ythbdhlcfcfjknaa.Fn
open Go.RowKit Go.Proofs.YthbdhlcfcfjknaaW.PrintWords Go.Proofs.YthbdhlcfcfjknaaW.PrintLast Go.Proofs.YthbdhlcfcfjknaaW.PrintMore
open Go.Proofs.YthbdhlcfcfjknaaW.PrintWords renaming blk_drewN → bN, blk_drew → bD, blk_alloc → bA, below_set → bS, blk_cell → bC, blk_below → bB, blk_frozen → bF, pw_below_drewN → bW, below_drew1 → b1, below_alloc → bL, below_step → bP, below_size → bZ, blk_far → bR, blk_put → bU, blk_lt → bT
attribute [local go_sem] max2_int min2_int max_two min_two max_three min_three max_four min_four   -- for this text's walks alone
set_option linter.unusedVariables false
set_option linter.unusedSimpArgs false

/-! ### bournelaw09_SpanGrows: function 6 -/
mutual
def bournelaw09_SpanGrows.j0 : Nat → Int → Int → Bool → Bool → Int → Int → Int → Int → Int → Int → Int → Int → Option (Bool)
 | 0, _, _, _, _, _, _, _, _, _, _, _, _ => none
 | k + 1, x4, x5, x13, x42, x311000, x311001, x312000, x312001, x313000, x313001, x314000, x314001 => if x42 = true then (some x13) else ((span_Add.f x311000 x311001 x312000 x312001).bind fun bt319 => ((span_Add.f x313000 x313001 x314000 x314001).bind fun bt321 => ((span_Within.f bt319.1 bt319.2 bt321.1 bt321.2).bind fun t323 => (if t323 = true then ((span_Sub.f x311000 x311001 x312000 x312001).bind fun bt324 => ((span_Sub.f x313000 x313001 x314000 x314001).bind fun bt326 => ((span_Within.f bt324.1 bt324.2 bt326.1 bt326.2).bind fun t328 => (if t328 = true then ((span_Width.f x311000 x311001).bind fun t329 => ((span_Width.f x313000 x313001).bind fun t330 => (bournelaw09_SpanGrows.j1 k x4 x5 x13 (decide (t329 > t330)) x311000 x311001 x312000 x312001 x313000 x313001 x314000 x314001))) else (bournelaw09_SpanGrows.j1 k x4 x5 x13 true x311000 x311001 x312000 x312001 x313000 x313001 x314000 x314001))))) else (bournelaw09_SpanGrows.j1 k x4 x5 x13 true x311000 x311001 x312000 x312001 x313000 x313001 x314000 x314001)))))
def bournelaw09_SpanGrows.j1 : Nat → Int → Int → Bool → Bool → Int → Int → Int → Int → Int → Int → Int → Int → Option (Bool)
 | 0, _, _, _, _, _, _, _, _, _, _, _, _ => none
 | k + 1, x4, x5, x13, x68, x311000, x311001, x312000, x312001, x313000, x313001, x314000, x314001 => if x68 = true then (some false) else ((span_Meet.f x311000 x311001 x312000 x312001).bind fun bt331 => ((span_Meet.f x313000 x313001 x314000 x314001).bind fun bt335 => ((span_Scale.f k x311000 x311001 x4 x5).bind fun bt339 => ((span_Scale.f k x313000 x313001 x4 x5).bind fun bt343 => (if bt331.2.2 = true then (if bt335.2.2 = true then ((span_Within.f bt331.1 bt331.2.1 bt335.1 bt335.2.1).bind fun t347 => (if t347 = true then (if bt343.2.2 = true then (if bt339.2.2 = true then ((span_Within.f bt339.1 bt339.2.1 bt343.1 bt343.2.1).bind fun t348 => (bournelaw09_SpanGrows.j2 k x13 (!t348) x311000 x311001 x312000 x312001 x313000 x313001 x314000 x314001)) else (bournelaw09_SpanGrows.j2 k x13 true x311000 x311001 x312000 x312001 x313000 x313001 x314000 x314001)) else (bournelaw09_SpanGrows.j2 k x13 false x311000 x311001 x312000 x312001 x313000 x313001 x314000 x314001)) else (bournelaw09_SpanGrows.j2 k x13 true x311000 x311001 x312000 x312001 x313000 x313001 x314000 x314001))) else (bournelaw09_SpanGrows.j2 k x13 true x311000 x311001 x312000 x312001 x313000 x313001 x314000 x314001)) else (if bt343.2.2 = true then (if bt339.2.2 = true then ((span_Within.f bt339.1 bt339.2.1 bt343.1 bt343.2.1).bind fun t349 => (bournelaw09_SpanGrows.j2 k x13 (!t349) x311000 x311001 x312000 x312001 x313000 x313001 x314000 x314001)) else (bournelaw09_SpanGrows.j2 k x13 true x311000 x311001 x312000 x312001 x313000 x313001 x314000 x314001)) else (bournelaw09_SpanGrows.j2 k x13 false x311000 x311001 x312000 x312001 x313000 x313001 x314000 x314001)))))))
def bournelaw09_SpanGrows.j2 : Nat → Bool → Bool → Int → Int → Int → Int → Int → Int → Int → Int → Option (Bool)
 | 0, _, _, _, _, _, _, _, _, _, _ => none
 | k + 1, x13, x118, x311000, x311001, x312000, x312001, x313000, x313001, x314000, x314001 => if x118 = true then (some false) else (if x13 = true then ((span_Join.f x311000 x311001 x312000 x312001).bind fun bt350 => ((span_Join.f x313000 x313001 x314000 x314001).bind fun bt352 => ((span_Within.f bt350.1 bt350.2 bt352.1 bt352.2).bind fun t354 => (some t354)))) else (some false))
end
def bournelaw09_SpanGrows.f (k : Nat) (a0_0 : Int) (a0_1 : Int) (a1_0 : Int) (a1_1 : Int) (a2_0 : Int) (a2_1 : Int) (a3_0 : Int) (a3_1 : Int) (a4 : Int) (a5 : Int) : Option (Bool) := (bournelaw09_small.f k).bind fun t314 => ((span_Right.f a0_0 a0_1).bind fun t315 => (if t315 = true then ((span_Right.f a1_0 a1_1).bind fun t316 => (if t316 = true then ((span_Within.f a0_0 a0_1 a2_0 a2_1).bind fun t317 => (if t317 = true then ((span_Within.f a1_0 a1_1 a3_0 a3_1).bind fun t318 => (bournelaw09_SpanGrows.j0 k a4 a5 t314 (!t318) a0_0 a0_1 a1_0 a1_1 a2_0 a2_1 a3_0 a3_1)) else (bournelaw09_SpanGrows.j0 k a4 a5 t314 true a0_0 a0_1 a1_0 a1_1 a2_0 a2_1 a3_0 a3_1))) else (bournelaw09_SpanGrows.j0 k a4 a5 t314 true a0_0 a0_1 a1_0 a1_1 a2_0 a2_1 a3_0 a3_1))) else (bournelaw09_SpanGrows.j0 k a4 a5 t314 true a0_0 a0_1 a1_0 a1_1 a2_0 a2_1 a3_0 a3_1)))
theorem bournelaw09_SpanGrows.mono_l : ∀ k, (∀ y0 y1 y2 y3 y4 y5 y6 y7 y8 y9 y10 y11, LeO (bournelaw09_SpanGrows.j0 k y0 y1 y2 y3 y4 y5 y6 y7 y8 y9 y10 y11) (bournelaw09_SpanGrows.j0 (k + 1) y0 y1 y2 y3 y4 y5 y6 y7 y8 y9 y10 y11)) ∧ (∀ y0 y1 y2 y3 y4 y5 y6 y7 y8 y9 y10 y11, LeO (bournelaw09_SpanGrows.j1 k y0 y1 y2 y3 y4 y5 y6 y7 y8 y9 y10 y11) (bournelaw09_SpanGrows.j1 (k + 1) y0 y1 y2 y3 y4 y5 y6 y7 y8 y9 y10 y11)) ∧ (∀ y0 y1 y2 y3 y4 y5 y6 y7 y8 y9, LeO (bournelaw09_SpanGrows.j2 k y0 y1 y2 y3 y4 y5 y6 y7 y8 y9) (bournelaw09_SpanGrows.j2 (k + 1) y0 y1 y2 y3 y4 y5 y6 y7 y8 y9))
 | 0 => ⟨fun _ _ _ _ _ _ _ _ _ _ _ _ r h => by simp [bournelaw09_SpanGrows.j0] at h, fun _ _ _ _ _ _ _ _ _ _ _ _ r h => by simp [bournelaw09_SpanGrows.j1] at h, fun _ _ _ _ _ _ _ _ _ _ r h => by simp [bournelaw09_SpanGrows.j2] at h⟩
 | k + 1 => by
  obtain ⟨ih0, ih1, ih2⟩ := bournelaw09_SpanGrows.mono_l k
  refine ⟨?_, ?_, ?_⟩
  ·
   intro y0 y1 y2 y3 y4 y5 y6 y7 y8 y9 y10 y11
   unfold bournelaw09_SpanGrows.j0
   repeat' first
   | (with_reducible exact ih0 _ _ _ _ _ _ _ _ _ _ _ _)
   | (with_reducible exact ih1 _ _ _ _ _ _ _ _ _ _ _ _)
   | (with_reducible exact ih2 _ _ _ _ _ _ _ _ _ _)
   | (with_reducible exact bournelaw09_small.mono _)
   | (with_reducible exact span_Scale.mono _ _ _ _ _)
   | (with_reducible exact LeO.refl _)
   | (with_reducible exact LeO.none _)
   | (with_reducible refine LeO.ite ?_ ?_)
   | (with_reducible refine LeO.bind ?_ (fun _ => ?_))
   | exact ih0 _ _ _ _ _ _ _ _ _ _ _ _
   | exact ih1 _ _ _ _ _ _ _ _ _ _ _ _
   | exact ih2 _ _ _ _ _ _ _ _ _ _
   | exact bournelaw09_small.mono _
   | exact span_Scale.mono _ _ _ _ _
   | exact LeO.none _
   | refine LeO.ite ?_ ?_
   | refine LeO.bind ?_ (fun _ => ?_)
  ·
   intro y0 y1 y2 y3 y4 y5 y6 y7 y8 y9 y10 y11
   unfold bournelaw09_SpanGrows.j1
   repeat' first
   | (with_reducible exact ih0 _ _ _ _ _ _ _ _ _ _ _ _)
   | (with_reducible exact ih1 _ _ _ _ _ _ _ _ _ _ _ _)
   | (with_reducible exact ih2 _ _ _ _ _ _ _ _ _ _)
   | (with_reducible exact bournelaw09_small.mono _)
   | (with_reducible exact span_Scale.mono _ _ _ _ _)
   | (with_reducible exact LeO.refl _)
   | (with_reducible exact LeO.none _)
   | (with_reducible refine LeO.ite ?_ ?_)
   | (with_reducible refine LeO.bind ?_ (fun _ => ?_))
   | exact ih0 _ _ _ _ _ _ _ _ _ _ _ _
   | exact ih1 _ _ _ _ _ _ _ _ _ _ _ _
   | exact ih2 _ _ _ _ _ _ _ _ _ _
   | exact bournelaw09_small.mono _
   | exact span_Scale.mono _ _ _ _ _
   | exact LeO.none _
   | refine LeO.ite ?_ ?_
   | refine LeO.bind ?_ (fun _ => ?_)
  ·
   intro y0 y1 y2 y3 y4 y5 y6 y7 y8 y9
   unfold bournelaw09_SpanGrows.j2
   repeat' first
   | (with_reducible exact ih0 _ _ _ _ _ _ _ _ _ _ _ _)
   | (with_reducible exact ih1 _ _ _ _ _ _ _ _ _ _ _ _)
   | (with_reducible exact ih2 _ _ _ _ _ _ _ _ _ _)
   | (with_reducible exact bournelaw09_small.mono _)
   | (with_reducible exact span_Scale.mono _ _ _ _ _)
   | (with_reducible exact LeO.refl _)
   | (with_reducible exact LeO.none _)
   | (with_reducible refine LeO.ite ?_ ?_)
   | (with_reducible refine LeO.bind ?_ (fun _ => ?_))
   | exact ih0 _ _ _ _ _ _ _ _ _ _ _ _
   | exact ih1 _ _ _ _ _ _ _ _ _ _ _ _
   | exact ih2 _ _ _ _ _ _ _ _ _ _
   | exact bournelaw09_small.mono _
   | exact span_Scale.mono _ _ _ _ _
   | exact LeO.none _
   | refine LeO.ite ?_ ?_
   | refine LeO.bind ?_ (fun _ => ?_)
theorem bournelaw09_SpanGrows.mono : ∀ a0 a1 a2 a3 a4 a5 a6 a7 a8 a9 k, LeO (bournelaw09_SpanGrows.f k a0 a1 a2 a3 a4 a5 a6 a7 a8 a9) (bournelaw09_SpanGrows.f (k + 1) a0 a1 a2 a3 a4 a5 a6 a7 a8 a9) := by
 intro a0 a1 a2 a3 a4 a5 a6 a7 a8 a9 k
 obtain ⟨ih0, ih1, ih2⟩ := bournelaw09_SpanGrows.mono_l k
 unfold bournelaw09_SpanGrows.f
 repeat' first
   | (with_reducible exact ih0 _ _ _ _ _ _ _ _ _ _ _ _)
   | (with_reducible exact ih1 _ _ _ _ _ _ _ _ _ _ _ _)
   | (with_reducible exact ih2 _ _ _ _ _ _ _ _ _ _)
   | (with_reducible exact bournelaw09_small.mono _)
   | (with_reducible exact span_Scale.mono _ _ _ _ _)
   | (with_reducible exact LeO.refl _)
   | (with_reducible exact LeO.none _)
   | (with_reducible refine LeO.ite ?_ ?_)
   | (with_reducible refine LeO.bind ?_ (fun _ => ?_))
   | exact ih0 _ _ _ _ _ _ _ _ _ _ _ _
   | exact ih1 _ _ _ _ _ _ _ _ _ _ _ _
   | exact ih2 _ _ _ _ _ _ _ _ _ _
   | exact bournelaw09_small.mono _
   | exact span_Scale.mono _ _ _ _ _
   | exact LeO.none _
   | refine LeO.ite ?_ ?_
   | refine LeO.bind ?_ (fun _ => ?_)
def bournelaw09_SpanGrows.T4 : Bool × List (List Nat × List Nat) := (true, [([], []), ([], []), ([0, 1], [0, 1]), ([], []), ([], []), ([3, 4, 2], [3, 4]), ([2, 5, 5], [2, 5]), ([6], [6]), ([7, 6], [7]), ([8], [8]), ([8], [8]), ([9, 10, 8, 8], [8, 9, 10]), ([8], [8]), ([8], [8]), ([12, 13, 11, 8], [8, 12, 13]), ([11, 14, 14, 8], [8, 11, 14]), ([15, 8], [8, 15]), ([8, 16], [8, 16]), ([17, 15], [17]), ([18], [18]), ([19, 18, 18], [18, 19]), ([18], [18]), ([21, 20, 18], [18, 21]), ([20, 22, 18], [18, 20, 22]), ([18, 23], [18, 23])])
def bournelaw09_SpanGrows.B4 : List Nat := [0, 0, 3, 0, 0, 31, 63, 127, 255, 511, 511, 2047, 511, 511, 16383, 32767, 65535, 131071, 262143, 524287, 1048575, 524287, 4194303, 8388607, 16777215]
theorem bournelaw09_SpanGrows.tab4 : rtab .any (opsOf Try.f6 4) = bournelaw09_SpanGrows.T4 := by kernel_rfl
theorem bournelaw09_SpanGrows.bits4 : waitsOk bournelaw09_SpanGrows.T4.2 bournelaw09_SpanGrows.B4 = true := by kernel_rfl
def bournelaw09_SpanGrows.T12 : Bool × List (List Nat × List Nat) := (true, [([], []), ([0], [0]), ([1], [1]), ([1], [1]), ([2, 3, 1, 1], [1, 2, 3]), ([1], [1]), ([1], [1]), ([5, 6, 4, 1], [1, 5, 6]), ([4, 7, 7, 1], [1, 4, 7]), ([1, 8], [1, 8]), ([9, 8, 0, 1, 2, 3, 4, 5, 6, 7, 8, 9], [9])])
def bournelaw09_SpanGrows.B12 : List Nat := [0, 1, 3, 3, 15, 3, 3, 127, 255, 511, 1023]
theorem bournelaw09_SpanGrows.tab12 : rtab .any (opsOf Try.f6 12) = bournelaw09_SpanGrows.T12 := by kernel_rfl
theorem bournelaw09_SpanGrows.bits12 : waitsOk bournelaw09_SpanGrows.T12.2 bournelaw09_SpanGrows.B12 = true := by kernel_rfl
set_option maxHeartbeats 8000000 in
set_option maxRecDepth 100000 in
theorem bournelaw09_SpanGrows.calls (k : Nat) (a0_0 : Int) (a0_1 : Int) (a1_0 : Int) (a1_1 : Int) (a2_0 : Int) (a2_1 : Int) (a3_0 : Int) (a3_1 : Int) (a4 : Int) (a5 : Int) (r : Bool) (w : World) (hT : Aside0 (r = true)) (h : bournelaw09_SpanGrows.f k a0_0 a0_1 a1_0 a1_1 a2_0 a2_1 a3_0 a3_1 a4 a5 = some r) :
  Calls Try.prog 6 #[.agg #[.int .i64 a0_0, .int .i64 a0_1], .agg #[.int .i64 a1_0, .int .i64 a1_1], .agg #[.int .i64 a2_0, .int .i64 a2_1], .agg #[.int .i64 a3_0, .int .i64 a3_1], .int .i64 a4, .int .i64 a5] w fun e w' => e = .returned (.bool r) ∧ Below w.heap.size w w' := by
 have hu23 := Try.underlying23
 have HB := Aside0.mk (Below.refl w.heap.size w)
 have H : ((bournelaw09_small.f k).bind fun t314 => ((span_Right.f a0_0 a0_1).bind fun t315 => (if t315 = true then ((span_Right.f a1_0 a1_1).bind fun t316 => (if t316 = true then ((span_Within.f a0_0 a0_1 a2_0 a2_1).bind fun t317 => (if t317 = true then ((span_Within.f a1_0 a1_1 a3_0 a3_1).bind fun t318 => (bournelaw09_SpanGrows.j0 k a4 a5 t314 (!t318) a0_0 a0_1 a1_0 a1_1 a2_0 a2_1 a3_0 a3_1)) else (bournelaw09_SpanGrows.j0 k a4 a5 t314 true a0_0 a0_1 a1_0 a1_1 a2_0 a2_1 a3_0 a3_1))) else (bournelaw09_SpanGrows.j0 k a4 a5 t314 true a0_0 a0_1 a1_0 a1_1 a2_0 a2_1 a3_0 a3_1))) else (bournelaw09_SpanGrows.j0 k a4 a5 t314 true a0_0 a0_1 a1_0 a1_1 a2_0 a2_1 a3_0 a3_1)))) = some r := h
 clear h
 replace H := Option.bind_eq_some_iff.mp H
 obtain ⟨t314, A70, H⟩ := H
 have A7 := Aside0.mk A70
 clear A70
 have HC8 := Aside0.mk H
 clear H
 go_enter Try.func6, Try.ntmps6
 (try simp only [List.append_eq, List.cons_append, List.nil_append])
 go_upto_region 2 with (first | ((with_reducible refine gate_dst (N := 6) rfl ?_); refine box_event ?hg (N := 6) ?hd (cs := #[.int .i64 a0_0, .int .i64 a0_1]) (t := 23) ?hr ?_; (case hd => rfl); (case hg => rfl); (case hr => first | (go_simp; done) | (go_simp; rfl)); intro gb310 hg w9 hbox hb; have n0_ := Aside0.mk (bP (by repeat (first | (with_reducible first | exact HB.out | apply bL | apply bW | apply b1) | exact HB.out)) hb); have n1_ := Aside0.mk (hbox); have n2_ := Aside0.mk ((by rw [hg]; exact (bZ (by repeat (first | (with_reducible first | exact HB.out | apply bL | apply bW | apply b1) | exact HB.out))) : w.heap.size ≤ gb310)); have n3_ := Aside0.mk ((by rw [hg]; exact (bZ (by repeat (first | (with_reducible first | exact HB.out | apply bL | apply bW | apply b1) | exact HB.out))) : w.heap.size ≤ gb310)); clear HB; have HB := n0_; have BK310 := n1_; have GW310 := n2_; have GE310 := n3_; clear n0_ n1_ n2_ n3_; clear hb hbox hg) | ((with_reducible refine gate_dst (N := 7) rfl ?_); refine box_event ?hg (N := 7) ?hd (cs := #[.int .i64 a1_0, .int .i64 a1_1]) (t := 23) ?hr ?_; (case hd => rfl); (case hg => rfl); (case hr => first | (go_simp; done) | (go_simp; rfl)); intro gb311 hg w10 hbox hb; have n0_ := Aside0.mk (bB (g := gb310) (o := .cells #[.int .i64 a0_0, .int .i64 a0_1] 23 (0, 0)) (by (with_reducible repeat (first | refine bN ?_ _ | refine bD ?_ | refine bA ?_ _)); exact BK310.out) hb); have n1_ := Aside0.mk (bP (by repeat (first | (with_reducible first | exact HB.out | apply bL | apply bW | apply b1 | refine bS ?_ GE310.out) | exact HB.out)) hb); have n2_ := Aside0.mk (hbox); have n3_ := Aside0.mk ((by rw [hg]; exact (bZ (by repeat (first | (with_reducible first | exact HB.out | apply bL | apply bW | apply b1 | refine bS ?_ GE310.out) | exact HB.out))) : w.heap.size ≤ gb311)); have n4_ := Aside0.mk ((by rw [hg]; exact (bZ (by repeat (first | (with_reducible first | exact HB.out | apply bL | apply bW | apply b1 | refine bS ?_ GE310.out) | exact HB.out))) : w.heap.size ≤ gb311)); have n5_ := Aside0.mk ((by rw [hg]; exact Nat.ne_of_lt (bT (g := gb310) (o := .cells #[.int .i64 a0_0, .int .i64 a0_1] 23 (0, 0)) (by (with_reducible repeat (first | refine bN ?_ _ | refine bD ?_ | refine bA ?_ _)); exact BK310.out)) : gb310 ≠ gb311)); have n6_ := Aside0.mk ((by rw [hg]; exact Nat.ne_of_gt (bT (g := gb310) (o := .cells #[.int .i64 a0_0, .int .i64 a0_1] 23 (0, 0)) (by (with_reducible repeat (first | refine bN ?_ _ | refine bD ?_ | refine bA ?_ _)); exact BK310.out)) : gb311 ≠ gb310)); clear BK310; clear HB; have BK310 := n0_; have HB := n1_; have BK311 := n2_; have GW311 := n3_; have GE311 := n4_; have NB310_311 := n5_; have NB311_310 := n6_; clear n0_ n1_ n2_ n3_ n4_ n5_ n6_; clear hb hbox hg) | ((with_reducible refine gate_dst (N := 8) rfl ?_); refine box_event ?hg (N := 8) ?hd (cs := #[.int .i64 a2_0, .int .i64 a2_1]) (t := 23) ?hr ?_; (case hd => rfl); (case hg => rfl); (case hr => first | (go_simp; done) | (go_simp; rfl)); intro gb312 hg w11 hbox hb; have n0_ := Aside0.mk (bB (g := gb310) (o := .cells #[.int .i64 a0_0, .int .i64 a0_1] 23 (0, 0)) (by (with_reducible repeat (first | refine bN ?_ _ | refine bD ?_ | refine bA ?_ _)); exact BK310.out) hb); have n1_ := Aside0.mk (bB (g := gb311) (o := .cells #[.int .i64 a1_0, .int .i64 a1_1] 23 (0, 0)) (by (with_reducible repeat (first | refine bN ?_ _ | refine bD ?_ | refine bA ?_ _)); exact BK311.out) hb); have n2_ := Aside0.mk (bP (by repeat (first | (with_reducible first | exact HB.out | apply bL | apply bW | apply b1 | refine bS ?_ GE310.out | refine bS ?_ GE311.out) | exact HB.out)) hb); have n3_ := Aside0.mk (hbox); have n4_ := Aside0.mk ((by rw [hg]; exact (bZ (by repeat (first | (with_reducible first | exact HB.out | apply bL | apply bW | apply b1 | refine bS ?_ GE310.out | refine bS ?_ GE311.out) | exact HB.out))) : w.heap.size ≤ gb312)); have n5_ := Aside0.mk ((by rw [hg]; exact (bZ (by repeat (first | (with_reducible first | exact HB.out | apply bL | apply bW | apply b1 | refine bS ?_ GE310.out | refine bS ?_ GE311.out) | exact HB.out))) : w.heap.size ≤ gb312)); have n6_ := Aside0.mk ((by rw [hg]; exact Nat.ne_of_lt (bT (g := gb310) (o := .cells #[.int .i64 a0_0, .int .i64 a0_1] 23 (0, 0)) (by (with_reducible repeat (first | refine bN ?_ _ | refine bD ?_ | refine bA ?_ _)); exact BK310.out)) : gb310 ≠ gb312)); have n7_ := Aside0.mk ((by rw [hg]; exact Nat.ne_of_gt (bT (g := gb310) (o := .cells #[.int .i64 a0_0, .int .i64 a0_1] 23 (0, 0)) (by (with_reducible repeat (first | refine bN ?_ _ | refine bD ?_ | refine bA ?_ _)); exact BK310.out)) : gb312 ≠ gb310)); have n8_ := Aside0.mk ((by rw [hg]; exact Nat.ne_of_lt (bT (g := gb311) (o := .cells #[.int .i64 a1_0, .int .i64 a1_1] 23 (0, 0)) (by (with_reducible repeat (first | refine bN ?_ _ | refine bD ?_ | refine bA ?_ _)); exact BK311.out)) : gb311 ≠ gb312)); have n9_ := Aside0.mk ((by rw [hg]; exact Nat.ne_of_gt (bT (g := gb311) (o := .cells #[.int .i64 a1_0, .int .i64 a1_1] 23 (0, 0)) (by (with_reducible repeat (first | refine bN ?_ _ | refine bD ?_ | refine bA ?_ _)); exact BK311.out)) : gb312 ≠ gb311)); clear BK310; clear BK311; clear HB; have BK310 := n0_; have BK311 := n1_; have HB := n2_; have BK312 := n3_; have GW312 := n4_; have GE312 := n5_; have NB310_312 := n6_; have NB312_310 := n7_; have NB311_312 := n8_; have NB312_311 := n9_; clear n0_ n1_ n2_ n3_ n4_ n5_ n6_ n7_ n8_ n9_; clear hb hbox hg) | ((with_reducible refine gate_dst (N := 9) rfl ?_); refine box_event ?hg (N := 9) ?hd (cs := #[.int .i64 a3_0, .int .i64 a3_1]) (t := 23) ?hr ?_; (case hd => rfl); (case hg => rfl); (case hr => first | (go_simp; done) | (go_simp; rfl)); intro gb313 hg w12 hbox hb; have n0_ := Aside0.mk (bB (g := gb310) (o := .cells #[.int .i64 a0_0, .int .i64 a0_1] 23 (0, 0)) (by (with_reducible repeat (first | refine bN ?_ _ | refine bD ?_ | refine bA ?_ _)); exact BK310.out) hb); have n1_ := Aside0.mk (bB (g := gb311) (o := .cells #[.int .i64 a1_0, .int .i64 a1_1] 23 (0, 0)) (by (with_reducible repeat (first | refine bN ?_ _ | refine bD ?_ | refine bA ?_ _)); exact BK311.out) hb); have n2_ := Aside0.mk (bB (g := gb312) (o := .cells #[.int .i64 a2_0, .int .i64 a2_1] 23 (0, 0)) (by (with_reducible repeat (first | refine bN ?_ _ | refine bD ?_ | refine bA ?_ _)); exact BK312.out) hb); have n3_ := Aside0.mk (bP (by repeat (first | (with_reducible first | exact HB.out | apply bL | apply bW | apply b1 | refine bS ?_ GE310.out | refine bS ?_ GE311.out | refine bS ?_ GE312.out) | exact HB.out)) hb); have n4_ := Aside0.mk (hbox); have n5_ := Aside0.mk ((by rw [hg]; exact (bZ (by repeat (first | (with_reducible first | exact HB.out | apply bL | apply bW | apply b1 | refine bS ?_ GE310.out | refine bS ?_ GE311.out | refine bS ?_ GE312.out) | exact HB.out))) : w.heap.size ≤ gb313)); have n6_ := Aside0.mk ((by rw [hg]; exact (bZ (by repeat (first | (with_reducible first | exact HB.out | apply bL | apply bW | apply b1 | refine bS ?_ GE310.out | refine bS ?_ GE311.out | refine bS ?_ GE312.out) | exact HB.out))) : w.heap.size ≤ gb313)); have n7_ := Aside0.mk ((by rw [hg]; exact Nat.ne_of_lt (bT (g := gb310) (o := .cells #[.int .i64 a0_0, .int .i64 a0_1] 23 (0, 0)) (by (with_reducible repeat (first | refine bN ?_ _ | refine bD ?_ | refine bA ?_ _)); exact BK310.out)) : gb310 ≠ gb313)); have n8_ := Aside0.mk ((by rw [hg]; exact Nat.ne_of_gt (bT (g := gb310) (o := .cells #[.int .i64 a0_0, .int .i64 a0_1] 23 (0, 0)) (by (with_reducible repeat (first | refine bN ?_ _ | refine bD ?_ | refine bA ?_ _)); exact BK310.out)) : gb313 ≠ gb310)); have n9_ := Aside0.mk ((by rw [hg]; exact Nat.ne_of_lt (bT (g := gb311) (o := .cells #[.int .i64 a1_0, .int .i64 a1_1] 23 (0, 0)) (by (with_reducible repeat (first | refine bN ?_ _ | refine bD ?_ | refine bA ?_ _)); exact BK311.out)) : gb311 ≠ gb313)); have n10_ := Aside0.mk ((by rw [hg]; exact Nat.ne_of_gt (bT (g := gb311) (o := .cells #[.int .i64 a1_0, .int .i64 a1_1] 23 (0, 0)) (by (with_reducible repeat (first | refine bN ?_ _ | refine bD ?_ | refine bA ?_ _)); exact BK311.out)) : gb313 ≠ gb311)); have n11_ := Aside0.mk ((by rw [hg]; exact Nat.ne_of_lt (bT (g := gb312) (o := .cells #[.int .i64 a2_0, .int .i64 a2_1] 23 (0, 0)) (by (with_reducible repeat (first | refine bN ?_ _ | refine bD ?_ | refine bA ?_ _)); exact BK312.out)) : gb312 ≠ gb313)); have n12_ := Aside0.mk ((by rw [hg]; exact Nat.ne_of_gt (bT (g := gb312) (o := .cells #[.int .i64 a2_0, .int .i64 a2_1] 23 (0, 0)) (by (with_reducible repeat (first | refine bN ?_ _ | refine bD ?_ | refine bA ?_ _)); exact BK312.out)) : gb313 ≠ gb312)); clear BK310; clear BK311; clear BK312; clear HB; have BK310 := n0_; have BK311 := n1_; have BK312 := n2_; have HB := n3_; have BK313 := n4_; have GW313 := n5_; have GE313 := n6_; have NB310_313 := n7_; have NB313_310 := n8_; have NB311_313 := n9_; have NB313_311 := n10_; have NB312_313 := n11_; have NB313_312 := n12_; clear n0_ n1_ n2_ n3_ n4_ n5_ n6_ n7_ n8_ n9_ n10_ n11_ n12_; clear hb hbox hg) | ((with_reducible refine gate_callee (f := 8) rfl ?_); refine goesL_ (some 22) rfl rfl Try.func8 (by kernel_rfl) rfl #[] rfl (by (try simp only [List.map_toArray, List.map_cons, List.map_nil]); first | done | rfl | (simp only [List.length_drop, List.length_take]; rfl)) ?_; (with_reducible refine (bournelaw09_small.calls k  t314 _ A7.out).mono ?_); rintro e w13 ⟨rfl, hb⟩; refine ⟨_, rfl, ?_⟩; have n0_ := Aside0.mk (bB (g := gb310) (o := .cells #[.int .i64 a0_0, .int .i64 a0_1] 23 (0, 0)) (by (with_reducible repeat (first | refine bN ?_ _ | refine bD ?_ | refine bA ?_ _)); exact BK310.out) hb); have n1_ := Aside0.mk (bB (g := gb311) (o := .cells #[.int .i64 a1_0, .int .i64 a1_1] 23 (0, 0)) (by (with_reducible repeat (first | refine bN ?_ _ | refine bD ?_ | refine bA ?_ _)); exact BK311.out) hb); have n2_ := Aside0.mk (bB (g := gb312) (o := .cells #[.int .i64 a2_0, .int .i64 a2_1] 23 (0, 0)) (by (with_reducible repeat (first | refine bN ?_ _ | refine bD ?_ | refine bA ?_ _)); exact BK312.out) hb); have n3_ := Aside0.mk (bB (g := gb313) (o := .cells #[.int .i64 a3_0, .int .i64 a3_1] 23 (0, 0)) (by (with_reducible repeat (first | refine bN ?_ _ | refine bD ?_ | refine bA ?_ _)); exact BK313.out) hb); have n4_ := Aside0.mk (bP (by repeat (first | (with_reducible first | exact HB.out | apply bL | apply bW | apply b1 | refine bS ?_ GE310.out | refine bS ?_ GE311.out | refine bS ?_ GE312.out | refine bS ?_ GE313.out) | exact HB.out)) hb); clear BK310; clear BK311; clear BK312; clear BK313; clear HB; have BK310 := n0_; have BK311 := n1_; have BK312 := n2_; have BK313 := n3_; have HB := n4_; clear n0_ n1_ n2_ n3_ n4_; (try clear hb); (try clear hb2); (try clear hk); (try clear hi)))
 (try simp only [Act.put, List.setIfInBounds_toArray, List.set_cons_zero, List.set_cons_succ])
 go_cut [42] (fun v42 wc => ∃ (kq : Nat) (x42_7 : Bool), v42 = .bool x42_7 ∧ Aside0 (bournelaw09_SpanGrows.j0 kq a4 a5 t314 x42_7 a0_0 a0_1 a1_0 a1_1 a2_0 a2_1 a3_0 a3_1 = some r) ∧ Aside0 (kq ≤ k) ∧ Aside0 (wc.heap[gb310]? = some (.cells #[.int .i64 a0_0, .int .i64 a0_1] 23 (0, 0))) ∧ Aside0 (wc.heap[gb311]? = some (.cells #[.int .i64 a1_0, .int .i64 a1_1] 23 (0, 0))) ∧ Aside0 (wc.heap[gb312]? = some (.cells #[.int .i64 a2_0, .int .i64 a2_1] 23 (0, 0))) ∧ Aside0 (wc.heap[gb313]? = some (.cells #[.int .i64 a3_0, .int .i64 a3_1] 23 (0, 0))) ∧ Aside0 (Below w.heap.size w wc))
 case first =>
  have H := HC8.out
  clear HC8
  replace H := Option.bind_eq_some_iff.mp H
  obtain ⟨t315, A140, H⟩ := H
  have A14 := Aside0.mk A140
  clear A140
  by_cases c15 : t315 = true
  ·
   subst c15
   have H1 : ((span_Right.f a1_0 a1_1).bind fun t316 => (if t316 = true then ((span_Within.f a0_0 a0_1 a2_0 a2_1).bind fun t317 => (if t317 = true then ((span_Within.f a1_0 a1_1 a3_0 a3_1).bind fun t318 => (bournelaw09_SpanGrows.j0 k a4 a5 t314 (!t318) a0_0 a0_1 a1_0 a1_1 a2_0 a2_1 a3_0 a3_1)) else (bournelaw09_SpanGrows.j0 k a4 a5 t314 true a0_0 a0_1 a1_0 a1_1 a2_0 a2_1 a3_0 a3_1))) else (bournelaw09_SpanGrows.j0 k a4 a5 t314 true a0_0 a0_1 a1_0 a1_1 a2_0 a2_1 a3_0 a3_1))) = some r := by rw [if_pos rfl] at H; exact H
   clear H
   have H := H1
   clear H1
   replace H := Option.bind_eq_some_iff.mp H
   obtain ⟨t316, A160, H⟩ := H
   have A16 := Aside0.mk A160
   clear A160
   by_cases c17 : t316 = true
   ·
    subst c17
    have H1 : ((span_Within.f a0_0 a0_1 a2_0 a2_1).bind fun t317 => (if t317 = true then ((span_Within.f a1_0 a1_1 a3_0 a3_1).bind fun t318 => (bournelaw09_SpanGrows.j0 k a4 a5 t314 (!t318) a0_0 a0_1 a1_0 a1_1 a2_0 a2_1 a3_0 a3_1)) else (bournelaw09_SpanGrows.j0 k a4 a5 t314 true a0_0 a0_1 a1_0 a1_1 a2_0 a2_1 a3_0 a3_1))) = some r := by rw [if_pos rfl] at H; exact H
    clear H
    have H := H1
    clear H1
    replace H := Option.bind_eq_some_iff.mp H
    obtain ⟨t317, A180, H⟩ := H
    have A18 := Aside0.mk A180
    clear A180
    by_cases c19 : t317 = true
    ·
     subst c19
     have H1 : ((span_Within.f a1_0 a1_1 a3_0 a3_1).bind fun t318 => (bournelaw09_SpanGrows.j0 k a4 a5 t314 (!t318) a0_0 a0_1 a1_0 a1_1 a2_0 a2_1 a3_0 a3_1)) = some r := by rw [if_pos rfl] at H; exact H
     clear H
     have H := H1
     clear H1
     replace H := Option.bind_eq_some_iff.mp H
     obtain ⟨t318, A200, H⟩ := H
     have A20 := Aside0.mk A200
     clear A200
     have H' := Aside0.mk H
     clear H
     have hnb21 := NB310_311.out
     have hnc21 := NB311_310.out
     have hnb22 := NB310_312.out
     have hnc22 := NB312_310.out
     have hnb23 := NB310_313.out
     have hnc23 := NB313_310.out
     have hcz24_0 : w13.cell? ⟨gb310, 0, none⟩ = some (.int .i64 a0_0) := (bC BK310.out 0).trans rfl
     have hcz24_1 : w13.cell? ⟨gb310, 1, none⟩ = some (.int .i64 a0_1) := (bC BK310.out 1).trans rfl
     have hfz24_0 := bF BK310.out 0
     have hfz24_1 := bF BK310.out 1
     go_wp2_with (first | ((with_reducible refine gate_callee (f := 13) rfl ?_); refine goesL_ (some 24) rfl rfl Try.func13 (by kernel_rfl) rfl #[.agg #[.int .i64 a0_0, .int .i64 a0_1]] rfl (by (try simp only [List.map_toArray, List.map_cons, List.map_nil]); first | done | rfl | (simp only [List.length_drop, List.length_take]; rfl)) ?_; (with_reducible refine (span_Right.calls a0_0 a0_1 true _ A14.out).mono ?_); rintro e w25 ⟨rfl, hb⟩; refine ⟨_, rfl, ?_⟩; have n0_ := Aside0.mk (bB (g := gb310) (o := .cells #[.int .i64 a0_0, .int .i64 a0_1] 23 (0, 0)) (by (with_reducible repeat (first | refine bN ?_ _ | refine bD ?_ | refine bA ?_ _)); exact BK310.out) hb); have n1_ := Aside0.mk (bB (g := gb311) (o := .cells #[.int .i64 a1_0, .int .i64 a1_1] 23 (0, 0)) (by (with_reducible repeat (first | refine bN ?_ _ | refine bD ?_ | refine bA ?_ _)); exact BK311.out) hb); have n2_ := Aside0.mk (bB (g := gb312) (o := .cells #[.int .i64 a2_0, .int .i64 a2_1] 23 (0, 0)) (by (with_reducible repeat (first | refine bN ?_ _ | refine bD ?_ | refine bA ?_ _)); exact BK312.out) hb); have n3_ := Aside0.mk (bB (g := gb313) (o := .cells #[.int .i64 a3_0, .int .i64 a3_1] 23 (0, 0)) (by (with_reducible repeat (first | refine bN ?_ _ | refine bD ?_ | refine bA ?_ _)); exact BK313.out) hb); have n4_ := Aside0.mk (bP (by repeat (first | (with_reducible first | exact HB.out | apply bL | apply bW | apply b1 | refine bS ?_ GE310.out | refine bS ?_ GE311.out | refine bS ?_ GE312.out | refine bS ?_ GE313.out) | exact HB.out)) hb); clear BK310; clear BK311; clear BK312; clear BK313; clear HB; have BK310 := n0_; have BK311 := n1_; have BK312 := n2_; have BK313 := n3_; have HB := n4_; clear n0_ n1_ n2_ n3_ n4_; (try clear hb); (try clear hb2); (try clear hk); (try clear hi); have hnb26 := NB311_312.out; have hnc26 := NB312_311.out; have hnb27 := NB311_313.out; have hnc27 := NB313_311.out; have hcz28_0 : w25.cell? ⟨gb311, 0, none⟩ = some (.int .i64 a1_0) := (bC BK311.out 0).trans rfl; have hcz28_1 : w25.cell? ⟨gb311, 1, none⟩ = some (.int .i64 a1_1) := (bC BK311.out 1).trans rfl; have hfz28_0 := bF BK311.out 0; have hfz28_1 := bF BK311.out 1) | (go_at_call 13; (with_reducible refine (span_Right.calls a1_0 a1_1 true _ A16.out).mono ?_); rintro e w29 ⟨rfl, hb⟩; (try clear A16); have n0_ := Aside0.mk (bB (g := gb310) (o := .cells #[.int .i64 a0_0, .int .i64 a0_1] 23 (0, 0)) (by (with_reducible repeat (first | refine bN ?_ _ | refine bD ?_ | refine bA ?_ _)); exact BK310.out) hb); have n1_ := Aside0.mk (bB (g := gb311) (o := .cells #[.int .i64 a1_0, .int .i64 a1_1] 23 (0, 0)) (by (with_reducible repeat (first | refine bN ?_ _ | refine bD ?_ | refine bA ?_ _)); exact BK311.out) hb); have n2_ := Aside0.mk (bB (g := gb312) (o := .cells #[.int .i64 a2_0, .int .i64 a2_1] 23 (0, 0)) (by (with_reducible repeat (first | refine bN ?_ _ | refine bD ?_ | refine bA ?_ _)); exact BK312.out) hb); have n3_ := Aside0.mk (bB (g := gb313) (o := .cells #[.int .i64 a3_0, .int .i64 a3_1] 23 (0, 0)) (by (with_reducible repeat (first | refine bN ?_ _ | refine bD ?_ | refine bA ?_ _)); exact BK313.out) hb); have n4_ := Aside0.mk (bP (by repeat (first | (with_reducible first | exact HB.out | apply bL | apply bW | apply b1 | refine bS ?_ GE310.out | refine bS ?_ GE311.out | refine bS ?_ GE312.out | refine bS ?_ GE313.out) | exact HB.out)) hb); clear BK310; clear BK311; clear BK312; clear BK313; clear HB; have BK310 := n0_; have BK311 := n1_; have BK312 := n2_; have BK313 := n3_; have HB := n4_; clear n0_ n1_ n2_ n3_ n4_; (try clear hb); (try clear hb2); (try clear hk); (try clear hi); have hcz30_0 : w29.cell? ⟨gb310, 0, none⟩ = some (.int .i64 a0_0) := (bC BK310.out 0).trans rfl; have hcz30_1 : w29.cell? ⟨gb310, 1, none⟩ = some (.int .i64 a0_1) := (bC BK310.out 1).trans rfl; have hfz30_0 := bF BK310.out 0; have hfz30_1 := bF BK310.out 1; have hnb31 := NB312_313.out; have hnc31 := NB313_312.out; have hcz32_0 : w29.cell? ⟨gb312, 0, none⟩ = some (.int .i64 a2_0) := (bC BK312.out 0).trans rfl; have hcz32_1 : w29.cell? ⟨gb312, 1, none⟩ = some (.int .i64 a2_1) := (bC BK312.out 1).trans rfl; have hfz32_0 := bF BK312.out 0; have hfz32_1 := bF BK312.out 1) | (go_at_call 25; (with_reducible refine (span_Within.calls a0_0 a0_1 a2_0 a2_1 true _ A18.out).mono ?_); rintro e w33 ⟨rfl, hb⟩; (try clear A18); have n0_ := Aside0.mk (bB (g := gb310) (o := .cells #[.int .i64 a0_0, .int .i64 a0_1] 23 (0, 0)) (by (with_reducible repeat (first | refine bN ?_ _ | refine bD ?_ | refine bA ?_ _)); exact BK310.out) hb); have n1_ := Aside0.mk (bB (g := gb311) (o := .cells #[.int .i64 a1_0, .int .i64 a1_1] 23 (0, 0)) (by (with_reducible repeat (first | refine bN ?_ _ | refine bD ?_ | refine bA ?_ _)); exact BK311.out) hb); have n2_ := Aside0.mk (bB (g := gb312) (o := .cells #[.int .i64 a2_0, .int .i64 a2_1] 23 (0, 0)) (by (with_reducible repeat (first | refine bN ?_ _ | refine bD ?_ | refine bA ?_ _)); exact BK312.out) hb); have n3_ := Aside0.mk (bB (g := gb313) (o := .cells #[.int .i64 a3_0, .int .i64 a3_1] 23 (0, 0)) (by (with_reducible repeat (first | refine bN ?_ _ | refine bD ?_ | refine bA ?_ _)); exact BK313.out) hb); have n4_ := Aside0.mk (bP (by repeat (first | (with_reducible first | exact HB.out | apply bL | apply bW | apply b1 | refine bS ?_ GE310.out | refine bS ?_ GE311.out | refine bS ?_ GE312.out | refine bS ?_ GE313.out) | exact HB.out)) hb); clear BK310; clear BK311; clear BK312; clear BK313; clear HB; have BK310 := n0_; have BK311 := n1_; have BK312 := n2_; have BK313 := n3_; have HB := n4_; clear n0_ n1_ n2_ n3_ n4_; (try clear hb); (try clear hb2); (try clear hk); (try clear hi); have hcz34_0 : w33.cell? ⟨gb311, 0, none⟩ = some (.int .i64 a1_0) := (bC BK311.out 0).trans rfl; have hcz34_1 : w33.cell? ⟨gb311, 1, none⟩ = some (.int .i64 a1_1) := (bC BK311.out 1).trans rfl; have hfz34_0 := bF BK311.out 0; have hfz34_1 := bF BK311.out 1; have hcz35_0 : w33.cell? ⟨gb313, 0, none⟩ = some (.int .i64 a3_0) := (bC BK313.out 0).trans rfl; have hcz35_1 : w33.cell? ⟨gb313, 1, none⟩ = some (.int .i64 a3_1) := (bC BK313.out 1).trans rfl; have hfz35_0 := bF BK313.out 0; have hfz35_1 := bF BK313.out 1) | (go_at_call 25; (with_reducible refine (span_Within.calls a1_0 a1_1 a3_0 a3_1 t318 _ A20.out).mono ?_); rintro e w36 ⟨rfl, hb⟩; (try clear A20); have n0_ := Aside0.mk (bB (g := gb310) (o := .cells #[.int .i64 a0_0, .int .i64 a0_1] 23 (0, 0)) (by (with_reducible repeat (first | refine bN ?_ _ | refine bD ?_ | refine bA ?_ _)); exact BK310.out) hb); have n1_ := Aside0.mk (bB (g := gb311) (o := .cells #[.int .i64 a1_0, .int .i64 a1_1] 23 (0, 0)) (by (with_reducible repeat (first | refine bN ?_ _ | refine bD ?_ | refine bA ?_ _)); exact BK311.out) hb); have n2_ := Aside0.mk (bB (g := gb312) (o := .cells #[.int .i64 a2_0, .int .i64 a2_1] 23 (0, 0)) (by (with_reducible repeat (first | refine bN ?_ _ | refine bD ?_ | refine bA ?_ _)); exact BK312.out) hb); have n3_ := Aside0.mk (bB (g := gb313) (o := .cells #[.int .i64 a3_0, .int .i64 a3_1] 23 (0, 0)) (by (with_reducible repeat (first | refine bN ?_ _ | refine bD ?_ | refine bA ?_ _)); exact BK313.out) hb); have n4_ := Aside0.mk (bP (by repeat (first | (with_reducible first | exact HB.out | apply bL | apply bW | apply b1 | refine bS ?_ GE310.out | refine bS ?_ GE311.out | refine bS ?_ GE312.out | refine bS ?_ GE313.out) | exact HB.out)) hb); clear BK310; clear BK311; clear BK312; clear BK313; clear HB; have BK310 := n0_; have BK311 := n1_; have BK312 := n2_; have BK313 := n3_; have HB := n4_; clear n0_ n1_ n2_ n3_ n4_; (try clear hb); (try clear hb2); (try clear hk); (try clear hi)))
     go_meet
     case rel => exact ⟨_, (!t318), (by first | rfl | (simp; done) | (simp [*]; done)), H', ⟨by first | omega | exact Nat.le_refl _⟩, ⟨by (with_reducible repeat (first | refine bN ?_ _ | refine bD ?_ | refine bA ?_ _)); exact BK310.out⟩, ⟨by (with_reducible repeat (first | refine bN ?_ _ | refine bD ?_ | refine bA ?_ _)); exact BK311.out⟩, ⟨by (with_reducible repeat (first | refine bN ?_ _ | refine bD ?_ | refine bA ?_ _)); exact BK312.out⟩, ⟨by (with_reducible repeat (first | refine bN ?_ _ | refine bD ?_ | refine bA ?_ _)); exact BK313.out⟩, ⟨by repeat (first | (with_reducible first | exact HB.out | apply bL | apply bW | apply b1 | refine bS ?_ GE310.out | refine bS ?_ GE311.out | refine bS ?_ GE312.out | refine bS ?_ GE313.out) | exact HB.out)⟩⟩
    ·
     replace c19 := Bool.eq_false_iff.mpr c19
     subst c19
     have H1 : (bournelaw09_SpanGrows.j0 k a4 a5 t314 true a0_0 a0_1 a1_0 a1_1 a2_0 a2_1 a3_0 a3_1) = some r := by rw [if_neg (show ¬ (false = true) by decide)] at H; exact H
     clear H
     have H := H1
     clear H1
     have H' := Aside0.mk H
     clear H
     have hnb37 := NB310_311.out
     have hnc37 := NB311_310.out
     have hnb38 := NB310_312.out
     have hnc38 := NB312_310.out
     have hnb39 := NB310_313.out
     have hnc39 := NB313_310.out
     have hcz40_0 : w13.cell? ⟨gb310, 0, none⟩ = some (.int .i64 a0_0) := (bC BK310.out 0).trans rfl
     have hcz40_1 : w13.cell? ⟨gb310, 1, none⟩ = some (.int .i64 a0_1) := (bC BK310.out 1).trans rfl
     have hfz40_0 := bF BK310.out 0
     have hfz40_1 := bF BK310.out 1
     go_wp2_with (first | ((with_reducible refine gate_callee (f := 13) rfl ?_); refine goesL_ (some 24) rfl rfl Try.func13 (by kernel_rfl) rfl #[.agg #[.int .i64 a0_0, .int .i64 a0_1]] rfl (by (try simp only [List.map_toArray, List.map_cons, List.map_nil]); first | done | rfl | (simp only [List.length_drop, List.length_take]; rfl)) ?_; (with_reducible refine (span_Right.calls a0_0 a0_1 true _ A14.out).mono ?_); rintro e w41 ⟨rfl, hb⟩; refine ⟨_, rfl, ?_⟩; have n0_ := Aside0.mk (bB (g := gb310) (o := .cells #[.int .i64 a0_0, .int .i64 a0_1] 23 (0, 0)) (by (with_reducible repeat (first | refine bN ?_ _ | refine bD ?_ | refine bA ?_ _)); exact BK310.out) hb); have n1_ := Aside0.mk (bB (g := gb311) (o := .cells #[.int .i64 a1_0, .int .i64 a1_1] 23 (0, 0)) (by (with_reducible repeat (first | refine bN ?_ _ | refine bD ?_ | refine bA ?_ _)); exact BK311.out) hb); have n2_ := Aside0.mk (bB (g := gb312) (o := .cells #[.int .i64 a2_0, .int .i64 a2_1] 23 (0, 0)) (by (with_reducible repeat (first | refine bN ?_ _ | refine bD ?_ | refine bA ?_ _)); exact BK312.out) hb); have n3_ := Aside0.mk (bB (g := gb313) (o := .cells #[.int .i64 a3_0, .int .i64 a3_1] 23 (0, 0)) (by (with_reducible repeat (first | refine bN ?_ _ | refine bD ?_ | refine bA ?_ _)); exact BK313.out) hb); have n4_ := Aside0.mk (bP (by repeat (first | (with_reducible first | exact HB.out | apply bL | apply bW | apply b1 | refine bS ?_ GE310.out | refine bS ?_ GE311.out | refine bS ?_ GE312.out | refine bS ?_ GE313.out) | exact HB.out)) hb); clear BK310; clear BK311; clear BK312; clear BK313; clear HB; have BK310 := n0_; have BK311 := n1_; have BK312 := n2_; have BK313 := n3_; have HB := n4_; clear n0_ n1_ n2_ n3_ n4_; (try clear hb); (try clear hb2); (try clear hk); (try clear hi); have hnb42 := NB311_312.out; have hnc42 := NB312_311.out; have hnb43 := NB311_313.out; have hnc43 := NB313_311.out; have hcz44_0 : w41.cell? ⟨gb311, 0, none⟩ = some (.int .i64 a1_0) := (bC BK311.out 0).trans rfl; have hcz44_1 : w41.cell? ⟨gb311, 1, none⟩ = some (.int .i64 a1_1) := (bC BK311.out 1).trans rfl; have hfz44_0 := bF BK311.out 0; have hfz44_1 := bF BK311.out 1) | (go_at_call 13; (with_reducible refine (span_Right.calls a1_0 a1_1 true _ A16.out).mono ?_); rintro e w45 ⟨rfl, hb⟩; (try clear A16); have n0_ := Aside0.mk (bB (g := gb310) (o := .cells #[.int .i64 a0_0, .int .i64 a0_1] 23 (0, 0)) (by (with_reducible repeat (first | refine bN ?_ _ | refine bD ?_ | refine bA ?_ _)); exact BK310.out) hb); have n1_ := Aside0.mk (bB (g := gb311) (o := .cells #[.int .i64 a1_0, .int .i64 a1_1] 23 (0, 0)) (by (with_reducible repeat (first | refine bN ?_ _ | refine bD ?_ | refine bA ?_ _)); exact BK311.out) hb); have n2_ := Aside0.mk (bB (g := gb312) (o := .cells #[.int .i64 a2_0, .int .i64 a2_1] 23 (0, 0)) (by (with_reducible repeat (first | refine bN ?_ _ | refine bD ?_ | refine bA ?_ _)); exact BK312.out) hb); have n3_ := Aside0.mk (bB (g := gb313) (o := .cells #[.int .i64 a3_0, .int .i64 a3_1] 23 (0, 0)) (by (with_reducible repeat (first | refine bN ?_ _ | refine bD ?_ | refine bA ?_ _)); exact BK313.out) hb); have n4_ := Aside0.mk (bP (by repeat (first | (with_reducible first | exact HB.out | apply bL | apply bW | apply b1 | refine bS ?_ GE310.out | refine bS ?_ GE311.out | refine bS ?_ GE312.out | refine bS ?_ GE313.out) | exact HB.out)) hb); clear BK310; clear BK311; clear BK312; clear BK313; clear HB; have BK310 := n0_; have BK311 := n1_; have BK312 := n2_; have BK313 := n3_; have HB := n4_; clear n0_ n1_ n2_ n3_ n4_; (try clear hb); (try clear hb2); (try clear hk); (try clear hi); have hcz46_0 : w45.cell? ⟨gb310, 0, none⟩ = some (.int .i64 a0_0) := (bC BK310.out 0).trans rfl; have hcz46_1 : w45.cell? ⟨gb310, 1, none⟩ = some (.int .i64 a0_1) := (bC BK310.out 1).trans rfl; have hfz46_0 := bF BK310.out 0; have hfz46_1 := bF BK310.out 1; have hnb47 := NB312_313.out; have hnc47 := NB313_312.out; have hcz48_0 : w45.cell? ⟨gb312, 0, none⟩ = some (.int .i64 a2_0) := (bC BK312.out 0).trans rfl; have hcz48_1 : w45.cell? ⟨gb312, 1, none⟩ = some (.int .i64 a2_1) := (bC BK312.out 1).trans rfl; have hfz48_0 := bF BK312.out 0; have hfz48_1 := bF BK312.out 1) | (go_at_call 25; (with_reducible refine (span_Within.calls a0_0 a0_1 a2_0 a2_1 false _ A18.out).mono ?_); rintro e w49 ⟨rfl, hb⟩; (try clear A18); have n0_ := Aside0.mk (bB (g := gb310) (o := .cells #[.int .i64 a0_0, .int .i64 a0_1] 23 (0, 0)) (by (with_reducible repeat (first | refine bN ?_ _ | refine bD ?_ | refine bA ?_ _)); exact BK310.out) hb); have n1_ := Aside0.mk (bB (g := gb311) (o := .cells #[.int .i64 a1_0, .int .i64 a1_1] 23 (0, 0)) (by (with_reducible repeat (first | refine bN ?_ _ | refine bD ?_ | refine bA ?_ _)); exact BK311.out) hb); have n2_ := Aside0.mk (bB (g := gb312) (o := .cells #[.int .i64 a2_0, .int .i64 a2_1] 23 (0, 0)) (by (with_reducible repeat (first | refine bN ?_ _ | refine bD ?_ | refine bA ?_ _)); exact BK312.out) hb); have n3_ := Aside0.mk (bB (g := gb313) (o := .cells #[.int .i64 a3_0, .int .i64 a3_1] 23 (0, 0)) (by (with_reducible repeat (first | refine bN ?_ _ | refine bD ?_ | refine bA ?_ _)); exact BK313.out) hb); have n4_ := Aside0.mk (bP (by repeat (first | (with_reducible first | exact HB.out | apply bL | apply bW | apply b1 | refine bS ?_ GE310.out | refine bS ?_ GE311.out | refine bS ?_ GE312.out | refine bS ?_ GE313.out) | exact HB.out)) hb); clear BK310; clear BK311; clear BK312; clear BK313; clear HB; have BK310 := n0_; have BK311 := n1_; have BK312 := n2_; have BK313 := n3_; have HB := n4_; clear n0_ n1_ n2_ n3_ n4_; (try clear hb); (try clear hb2); (try clear hk); (try clear hi)))
     go_meet
     case rel => exact ⟨_, (true), (by first | rfl | (simp; done) | (simp [*]; done)), H', ⟨by first | omega | exact Nat.le_refl _⟩, ⟨by (with_reducible repeat (first | refine bN ?_ _ | refine bD ?_ | refine bA ?_ _)); exact BK310.out⟩, ⟨by (with_reducible repeat (first | refine bN ?_ _ | refine bD ?_ | refine bA ?_ _)); exact BK311.out⟩, ⟨by (with_reducible repeat (first | refine bN ?_ _ | refine bD ?_ | refine bA ?_ _)); exact BK312.out⟩, ⟨by (with_reducible repeat (first | refine bN ?_ _ | refine bD ?_ | refine bA ?_ _)); exact BK313.out⟩, ⟨by repeat (first | (with_reducible first | exact HB.out | apply bL | apply bW | apply b1 | refine bS ?_ GE310.out | refine bS ?_ GE311.out | refine bS ?_ GE312.out | refine bS ?_ GE313.out) | exact HB.out)⟩⟩
   ·
    replace c17 := Bool.eq_false_iff.mpr c17
    subst c17
    have H1 : (bournelaw09_SpanGrows.j0 k a4 a5 t314 true a0_0 a0_1 a1_0 a1_1 a2_0 a2_1 a3_0 a3_1) = some r := by rw [if_neg (show ¬ (false = true) by decide)] at H; exact H
    clear H
    have H := H1
    clear H1
    have H' := Aside0.mk H
    clear H
    have hnb50 := NB310_311.out
    have hnc50 := NB311_310.out
    have hnb51 := NB310_312.out
    have hnc51 := NB312_310.out
    have hnb52 := NB310_313.out
    have hnc52 := NB313_310.out
    have hcz53_0 : w13.cell? ⟨gb310, 0, none⟩ = some (.int .i64 a0_0) := (bC BK310.out 0).trans rfl
    have hcz53_1 : w13.cell? ⟨gb310, 1, none⟩ = some (.int .i64 a0_1) := (bC BK310.out 1).trans rfl
    have hfz53_0 := bF BK310.out 0
    have hfz53_1 := bF BK310.out 1
    go_wp2_with (first | ((with_reducible refine gate_callee (f := 13) rfl ?_); refine goesL_ (some 24) rfl rfl Try.func13 (by kernel_rfl) rfl #[.agg #[.int .i64 a0_0, .int .i64 a0_1]] rfl (by (try simp only [List.map_toArray, List.map_cons, List.map_nil]); first | done | rfl | (simp only [List.length_drop, List.length_take]; rfl)) ?_; (with_reducible refine (span_Right.calls a0_0 a0_1 true _ A14.out).mono ?_); rintro e w54 ⟨rfl, hb⟩; refine ⟨_, rfl, ?_⟩; have n0_ := Aside0.mk (bB (g := gb310) (o := .cells #[.int .i64 a0_0, .int .i64 a0_1] 23 (0, 0)) (by (with_reducible repeat (first | refine bN ?_ _ | refine bD ?_ | refine bA ?_ _)); exact BK310.out) hb); have n1_ := Aside0.mk (bB (g := gb311) (o := .cells #[.int .i64 a1_0, .int .i64 a1_1] 23 (0, 0)) (by (with_reducible repeat (first | refine bN ?_ _ | refine bD ?_ | refine bA ?_ _)); exact BK311.out) hb); have n2_ := Aside0.mk (bB (g := gb312) (o := .cells #[.int .i64 a2_0, .int .i64 a2_1] 23 (0, 0)) (by (with_reducible repeat (first | refine bN ?_ _ | refine bD ?_ | refine bA ?_ _)); exact BK312.out) hb); have n3_ := Aside0.mk (bB (g := gb313) (o := .cells #[.int .i64 a3_0, .int .i64 a3_1] 23 (0, 0)) (by (with_reducible repeat (first | refine bN ?_ _ | refine bD ?_ | refine bA ?_ _)); exact BK313.out) hb); have n4_ := Aside0.mk (bP (by repeat (first | (with_reducible first | exact HB.out | apply bL | apply bW | apply b1 | refine bS ?_ GE310.out | refine bS ?_ GE311.out | refine bS ?_ GE312.out | refine bS ?_ GE313.out) | exact HB.out)) hb); clear BK310; clear BK311; clear BK312; clear BK313; clear HB; have BK310 := n0_; have BK311 := n1_; have BK312 := n2_; have BK313 := n3_; have HB := n4_; clear n0_ n1_ n2_ n3_ n4_; (try clear hb); (try clear hb2); (try clear hk); (try clear hi); have hnb55 := NB311_312.out; have hnc55 := NB312_311.out; have hnb56 := NB311_313.out; have hnc56 := NB313_311.out; have hcz57_0 : w54.cell? ⟨gb311, 0, none⟩ = some (.int .i64 a1_0) := (bC BK311.out 0).trans rfl; have hcz57_1 : w54.cell? ⟨gb311, 1, none⟩ = some (.int .i64 a1_1) := (bC BK311.out 1).trans rfl; have hfz57_0 := bF BK311.out 0; have hfz57_1 := bF BK311.out 1) | (go_at_call 13; (with_reducible refine (span_Right.calls a1_0 a1_1 false _ A16.out).mono ?_); rintro e w58 ⟨rfl, hb⟩; (try clear A16); have n0_ := Aside0.mk (bB (g := gb310) (o := .cells #[.int .i64 a0_0, .int .i64 a0_1] 23 (0, 0)) (by (with_reducible repeat (first | refine bN ?_ _ | refine bD ?_ | refine bA ?_ _)); exact BK310.out) hb); have n1_ := Aside0.mk (bB (g := gb311) (o := .cells #[.int .i64 a1_0, .int .i64 a1_1] 23 (0, 0)) (by (with_reducible repeat (first | refine bN ?_ _ | refine bD ?_ | refine bA ?_ _)); exact BK311.out) hb); have n2_ := Aside0.mk (bB (g := gb312) (o := .cells #[.int .i64 a2_0, .int .i64 a2_1] 23 (0, 0)) (by (with_reducible repeat (first | refine bN ?_ _ | refine bD ?_ | refine bA ?_ _)); exact BK312.out) hb); have n3_ := Aside0.mk (bB (g := gb313) (o := .cells #[.int .i64 a3_0, .int .i64 a3_1] 23 (0, 0)) (by (with_reducible repeat (first | refine bN ?_ _ | refine bD ?_ | refine bA ?_ _)); exact BK313.out) hb); have n4_ := Aside0.mk (bP (by repeat (first | (with_reducible first | exact HB.out | apply bL | apply bW | apply b1 | refine bS ?_ GE310.out | refine bS ?_ GE311.out | refine bS ?_ GE312.out | refine bS ?_ GE313.out) | exact HB.out)) hb); clear BK310; clear BK311; clear BK312; clear BK313; clear HB; have BK310 := n0_; have BK311 := n1_; have BK312 := n2_; have BK313 := n3_; have HB := n4_; clear n0_ n1_ n2_ n3_ n4_; (try clear hb); (try clear hb2); (try clear hk); (try clear hi)))
    go_meet
    case rel => exact ⟨_, (true), (by first | rfl | (simp; done) | (simp [*]; done)), H', ⟨by first | omega | exact Nat.le_refl _⟩, ⟨by (with_reducible repeat (first | refine bN ?_ _ | refine bD ?_ | refine bA ?_ _)); exact BK310.out⟩, ⟨by (with_reducible repeat (first | refine bN ?_ _ | refine bD ?_ | refine bA ?_ _)); exact BK311.out⟩, ⟨by (with_reducible repeat (first | refine bN ?_ _ | refine bD ?_ | refine bA ?_ _)); exact BK312.out⟩, ⟨by (with_reducible repeat (first | refine bN ?_ _ | refine bD ?_ | refine bA ?_ _)); exact BK313.out⟩, ⟨by repeat (first | (with_reducible first | exact HB.out | apply bL | apply bW | apply b1 | refine bS ?_ GE310.out | refine bS ?_ GE311.out | refine bS ?_ GE312.out | refine bS ?_ GE313.out) | exact HB.out)⟩⟩
  ·
   replace c15 := Bool.eq_false_iff.mpr c15
   subst c15
   have H1 : (bournelaw09_SpanGrows.j0 k a4 a5 t314 true a0_0 a0_1 a1_0 a1_1 a2_0 a2_1 a3_0 a3_1) = some r := by rw [if_neg (show ¬ (false = true) by decide)] at H; exact H
   clear H
   have H := H1
   clear H1
   have H' := Aside0.mk H
   clear H
   have hnb59 := NB310_311.out
   have hnc59 := NB311_310.out
   have hnb60 := NB310_312.out
   have hnc60 := NB312_310.out
   have hnb61 := NB310_313.out
   have hnc61 := NB313_310.out
   have hcz62_0 : w13.cell? ⟨gb310, 0, none⟩ = some (.int .i64 a0_0) := (bC BK310.out 0).trans rfl
   have hcz62_1 : w13.cell? ⟨gb310, 1, none⟩ = some (.int .i64 a0_1) := (bC BK310.out 1).trans rfl
   have hfz62_0 := bF BK310.out 0
   have hfz62_1 := bF BK310.out 1
   go_wp2_with (first | ((with_reducible refine gate_callee (f := 13) rfl ?_); refine goesL_ (some 24) rfl rfl Try.func13 (by kernel_rfl) rfl #[.agg #[.int .i64 a0_0, .int .i64 a0_1]] rfl (by (try simp only [List.map_toArray, List.map_cons, List.map_nil]); first | done | rfl | (simp only [List.length_drop, List.length_take]; rfl)) ?_; (with_reducible refine (span_Right.calls a0_0 a0_1 false _ A14.out).mono ?_); rintro e w63 ⟨rfl, hb⟩; refine ⟨_, rfl, ?_⟩; have n0_ := Aside0.mk (bB (g := gb310) (o := .cells #[.int .i64 a0_0, .int .i64 a0_1] 23 (0, 0)) (by (with_reducible repeat (first | refine bN ?_ _ | refine bD ?_ | refine bA ?_ _)); exact BK310.out) hb); have n1_ := Aside0.mk (bB (g := gb311) (o := .cells #[.int .i64 a1_0, .int .i64 a1_1] 23 (0, 0)) (by (with_reducible repeat (first | refine bN ?_ _ | refine bD ?_ | refine bA ?_ _)); exact BK311.out) hb); have n2_ := Aside0.mk (bB (g := gb312) (o := .cells #[.int .i64 a2_0, .int .i64 a2_1] 23 (0, 0)) (by (with_reducible repeat (first | refine bN ?_ _ | refine bD ?_ | refine bA ?_ _)); exact BK312.out) hb); have n3_ := Aside0.mk (bB (g := gb313) (o := .cells #[.int .i64 a3_0, .int .i64 a3_1] 23 (0, 0)) (by (with_reducible repeat (first | refine bN ?_ _ | refine bD ?_ | refine bA ?_ _)); exact BK313.out) hb); have n4_ := Aside0.mk (bP (by repeat (first | (with_reducible first | exact HB.out | apply bL | apply bW | apply b1 | refine bS ?_ GE310.out | refine bS ?_ GE311.out | refine bS ?_ GE312.out | refine bS ?_ GE313.out) | exact HB.out)) hb); clear BK310; clear BK311; clear BK312; clear BK313; clear HB; have BK310 := n0_; have BK311 := n1_; have BK312 := n2_; have BK313 := n3_; have HB := n4_; clear n0_ n1_ n2_ n3_ n4_; (try clear hb); (try clear hb2); (try clear hk); (try clear hi)))
   go_meet
   case rel => exact ⟨_, (true), (by first | rfl | (simp; done) | (simp [*]; done)), H', ⟨by first | omega | exact Nat.le_refl _⟩, ⟨by (with_reducible repeat (first | refine bN ?_ _ | refine bD ?_ | refine bA ?_ _)); exact BK310.out⟩, ⟨by (with_reducible repeat (first | refine bN ?_ _ | refine bD ?_ | refine bA ?_ _)); exact BK311.out⟩, ⟨by (with_reducible repeat (first | refine bN ?_ _ | refine bD ?_ | refine bA ?_ _)); exact BK312.out⟩, ⟨by (with_reducible repeat (first | refine bN ?_ _ | refine bD ?_ | refine bA ?_ _)); exact BK313.out⟩, ⟨by repeat (first | (with_reducible first | exact HB.out | apply bL | apply bW | apply b1 | refine bS ?_ GE310.out | refine bS ?_ GE311.out | refine bS ?_ GE312.out | refine bS ?_ GE313.out) | exact HB.out)⟩⟩
 case rest =>
  clear HC8
  try clear c1
  try clear c2
  try clear p2
  try clear c3
  try clear c4
  try clear c5
  try clear c6
  try clear c8
  try clear c13
  try clear c15
  try clear c17
  try clear c19
  try clear c21
  try clear c22
  try clear c23
  try clear c26
  try clear c27
  try clear c31
  try clear c37
  try clear c38
  try clear c39
  try clear c42
  try clear c43
  try clear c47
  try clear c50
  try clear c51
  try clear c52
  try clear c55
  try clear c56
  try clear c59
  try clear c60
  try clear c61
  try clear hcz24_0
  try clear hcz24_1
  try clear hcz28_0
  try clear hcz28_1
  try clear hcz30_0
  try clear hcz30_1
  try clear hcz32_0
  try clear hcz32_1
  try clear hcz34_0
  try clear hcz34_1
  try clear hcz35_0
  try clear hcz35_1
  try clear hcz40_0
  try clear hcz40_1
  try clear hcz44_0
  try clear hcz44_1
  try clear hcz46_0
  try clear hcz46_1
  try clear hcz48_0
  try clear hcz48_1
  try clear hcz53_0
  try clear hcz53_1
  try clear hcz57_0
  try clear hcz57_1
  try clear hcz62_0
  try clear hcz62_1
  try clear hfz24_0
  try clear hfz24_1
  try clear hfz28_0
  try clear hfz28_1
  try clear hfz30_0
  try clear hfz30_1
  try clear hfz32_0
  try clear hfz32_1
  try clear hfz34_0
  try clear hfz34_1
  try clear hfz35_0
  try clear hfz35_1
  try clear hfz40_0
  try clear hfz40_1
  try clear hfz44_0
  try clear hfz44_1
  try clear hfz46_0
  try clear hfz46_1
  try clear hfz48_0
  try clear hfz48_1
  try clear hfz53_0
  try clear hfz53_1
  try clear hfz57_0
  try clear hfz57_1
  try clear hfz62_0
  try clear hfz62_1
  obtain ⟨kq, x42_7, rfl, HA, HJ7, BK310, BK311, BK312, BK313, HB⟩ := hcut
  cases kq with
  | zero => exact absurd HA.out (by simp [bournelaw09_SpanGrows.j0])
  | succ kj7 =>
   have H := HA.out
   clear HA
   simp only [bournelaw09_SpanGrows.j0] at H
   by_cases c64 : x42_7 = true
   ·
    subst c64
    have H1 : (some t314) = some r := by rw [if_pos rfl] at H; exact H
    clear H
    have H := H1
    clear H1
    obtain rfl := Option.some.inj H
    go_wp2
    go_ret
    exact ⟨by first | rfl | (simp [errW_none, errW_some] <;> rfl) | (simp [*, errW_none, errW_some] <;> rfl), by repeat (first | (with_reducible first | exact HB.out | apply bL | apply bW | apply b1 | refine bS ?_ GE310.out | refine bS ?_ GE311.out | refine bS ?_ GE312.out | refine bS ?_ GE313.out) | exact HB.out)⟩
   ·
    replace c64 := Bool.eq_false_iff.mpr c64
    subst c64
    have H1 : ((span_Add.f a0_0 a0_1 a1_0 a1_1).bind fun bt319 => ((span_Add.f a2_0 a2_1 a3_0 a3_1).bind fun bt321 => ((span_Within.f bt319.1 bt319.2 bt321.1 bt321.2).bind fun t323 => (if t323 = true then ((span_Sub.f a0_0 a0_1 a1_0 a1_1).bind fun bt324 => ((span_Sub.f a2_0 a2_1 a3_0 a3_1).bind fun bt326 => ((span_Within.f bt324.1 bt324.2 bt326.1 bt326.2).bind fun t328 => (if t328 = true then ((span_Width.f a0_0 a0_1).bind fun t329 => ((span_Width.f a2_0 a2_1).bind fun t330 => (bournelaw09_SpanGrows.j1 kj7 a4 a5 t314 (decide (t329 > t330)) a0_0 a0_1 a1_0 a1_1 a2_0 a2_1 a3_0 a3_1))) else (bournelaw09_SpanGrows.j1 kj7 a4 a5 t314 true a0_0 a0_1 a1_0 a1_1 a2_0 a2_1 a3_0 a3_1))))) else (bournelaw09_SpanGrows.j1 kj7 a4 a5 t314 true a0_0 a0_1 a1_0 a1_1 a2_0 a2_1 a3_0 a3_1))))) = some r := by rw [if_neg (show ¬ (false = true) by decide)] at H; exact H
    clear H
    have H := H1
    clear H1
    have HC65 := Aside0.mk H
    clear H
    go_upto_region 4 with (fail)
    go_cut [68] (fun v68 wc => ∃ (kq : Nat) (x68_64 : Bool), v68 = .bool x68_64 ∧ Aside0 (bournelaw09_SpanGrows.j1 kq a4 a5 t314 x68_64 a0_0 a0_1 a1_0 a1_1 a2_0 a2_1 a3_0 a3_1 = some r) ∧ Aside0 (kq ≤ kj7) ∧ Aside0 (wc.heap[gb310]? = some (.cells #[.int .i64 a0_0, .int .i64 a0_1] 23 (0, 0))) ∧ Aside0 (wc.heap[gb311]? = some (.cells #[.int .i64 a1_0, .int .i64 a1_1] 23 (0, 0))) ∧ Aside0 (wc.heap[gb312]? = some (.cells #[.int .i64 a2_0, .int .i64 a2_1] 23 (0, 0))) ∧ Aside0 (wc.heap[gb313]? = some (.cells #[.int .i64 a3_0, .int .i64 a3_1] 23 (0, 0))) ∧ Aside0 (Below w.heap.size w wc))
    case first =>
     have H := HC65.out
     clear HC65
     replace H := Option.bind_eq_some_iff.mp H
     obtain ⟨⟨t319, t320⟩, A660, H⟩ := H
     dsimp only at H
     have A66 := Aside0.mk A660
     clear A660
     replace H := Option.bind_eq_some_iff.mp H
     obtain ⟨⟨t321, t322⟩, A670, H⟩ := H
     dsimp only at H
     have A67 := Aside0.mk A670
     clear A670
     replace H := Option.bind_eq_some_iff.mp H
     obtain ⟨t323, A680, H⟩ := H
     have A68 := Aside0.mk A680
     clear A680
     by_cases c69 : t323 = true
     ·
      subst c69
      have H1 : ((span_Sub.f a0_0 a0_1 a1_0 a1_1).bind fun bt324 => ((span_Sub.f a2_0 a2_1 a3_0 a3_1).bind fun bt326 => ((span_Within.f bt324.1 bt324.2 bt326.1 bt326.2).bind fun t328 => (if t328 = true then ((span_Width.f a0_0 a0_1).bind fun t329 => ((span_Width.f a2_0 a2_1).bind fun t330 => (bournelaw09_SpanGrows.j1 kj7 a4 a5 t314 (decide (t329 > t330)) a0_0 a0_1 a1_0 a1_1 a2_0 a2_1 a3_0 a3_1))) else (bournelaw09_SpanGrows.j1 kj7 a4 a5 t314 true a0_0 a0_1 a1_0 a1_1 a2_0 a2_1 a3_0 a3_1))))) = some r := by rw [if_pos rfl] at H; exact H
      clear H
      have H := H1
      clear H1
      replace H := Option.bind_eq_some_iff.mp H
      obtain ⟨⟨t324, t325⟩, A700, H⟩ := H
      dsimp only at H
      have A70 := Aside0.mk A700
      clear A700
      replace H := Option.bind_eq_some_iff.mp H
      obtain ⟨⟨t326, t327⟩, A710, H⟩ := H
      dsimp only at H
      have A71 := Aside0.mk A710
      clear A710
      replace H := Option.bind_eq_some_iff.mp H
      obtain ⟨t328, A720, H⟩ := H
      have A72 := Aside0.mk A720
      clear A720
      by_cases c73 : t328 = true
      ·
       subst c73
       have H1 : ((span_Width.f a0_0 a0_1).bind fun t329 => ((span_Width.f a2_0 a2_1).bind fun t330 => (bournelaw09_SpanGrows.j1 kj7 a4 a5 t314 (decide (t329 > t330)) a0_0 a0_1 a1_0 a1_1 a2_0 a2_1 a3_0 a3_1))) = some r := by rw [if_pos rfl] at H; exact H
       clear H
       have H := H1
       clear H1
       replace H := Option.bind_eq_some_iff.mp H
       obtain ⟨t329, A740, H⟩ := H
       have A74 := Aside0.mk A740
       clear A740
       replace H := Option.bind_eq_some_iff.mp H
       obtain ⟨t330, A750, H⟩ := H
       have A75 := Aside0.mk A750
       clear A750
       have H' := Aside0.mk H
       clear H
       try go_wp2
       have n0_ := Aside0.mk (bD BK310.out)
       have n1_ := Aside0.mk (bD BK311.out)
       have n2_ := Aside0.mk (bD BK312.out)
       have n3_ := Aside0.mk (bD BK313.out)
       have n4_ := Aside0.mk (b1 HB.out)
       clear BK310
       clear BK311
       clear BK312
       clear BK313
       clear HB
       have BK310 := n0_
       have BK311 := n1_
       have BK312 := n2_
       have BK313 := n3_
       have HB := n4_
       clear n0_ n1_ n2_ n3_ n4_
       refine start_ (n := 25) (S := fun w' => w'.cell? ⟨gb310, 0, none⟩ = some (.int .i64 a0_0) ∧ w'.cell? ⟨gb310, 1, none⟩ = some (.int .i64 a0_1) ∧ w'.cell? ⟨gb311, 0, none⟩ = some (.int .i64 a1_0) ∧ w'.cell? ⟨gb311, 1, none⟩ = some (.int .i64 a1_1) ∧ w'.cell? ⟨gb312, 0, none⟩ = some (.int .i64 a2_0) ∧ w'.cell? ⟨gb312, 1, none⟩ = some (.int .i64 a2_1) ∧ w'.cell? ⟨gb313, 0, none⟩ = some (.int .i64 a3_0) ∧ w'.cell? ⟨gb313, 1, none⟩ = some (.int .i64 a3_1)) (ds := []) #[false, false, false, false, false, false, false, false, false, false, false, false, false, false, false, false, false, false, false, false, false, false, false, false, false] (by kernel_rfl) rfl rfl ⟨(bC BK310.out 0).trans rfl, (bC BK310.out 1).trans rfl, (bC BK311.out 0).trans rfl, (bC BK311.out 1).trans rfl, (bC BK312.out 0).trans rfl, (bC BK312.out 1).trans rfl, (bC BK313.out 0).trans rfl, (bC BK313.out 1).trans rfl⟩ (fun hHeld => ?_); refine with_tabW bournelaw09_SpanGrows.tab4 bournelaw09_SpanGrows.bits4 (fun HT_ HW_ => ?_)
       generalize wc.drew = w76 at BK310 BK311 BK312 BK313 HB hHeld ⊢
       refine take_ (i := 0) (N := some 44) (v := ?_) (a' := ?_) #[true, false, false, false, false, false, false, false, false, false, false, false, false, false, false, false, false, false, false, false, false, false, false, false, false] rfl rfl (take_ofW HT_.out HW_.out (by kernel_rfl)) (fun _ _ _ h => h) (Or.inl ⟨by rfl, ?_⟩) hHeld ?_ ?_
       rotate_left
       ·
        rintro w' ⟨s0, s1, s2, s3, s4, s5, s6, s7⟩
        go_simp
        with_reducible rfl
       rotate_left
       ·
        simp only [Act.put, List.setIfInBounds_toArray, List.set_cons_zero, List.set_cons_succ, i64_w, i32_w]
        rfl
       refine take_ (i := 1) (N := some 45) (v := ?_) (a' := ?_) #[true, true, false, false, false, false, false, false, false, false, false, false, false, false, false, false, false, false, false, false, false, false, false, false, false] rfl rfl (take_ofW HT_.out HW_.out (by kernel_rfl)) (fun _ _ _ h => h) (Or.inl ⟨by rfl, ?_⟩) hHeld ?_ ?_
       rotate_left
       ·
        rintro w' ⟨s0, s1, s2, s3, s4, s5, s6, s7⟩
        go_simp
        with_reducible rfl
       rotate_left
       ·
        simp only [Act.put, List.setIfInBounds_toArray, List.set_cons_zero, List.set_cons_succ, i64_w, i32_w]
        rfl
       refine take_ (i := 3) (N := some 47) (v := ?_) (a' := ?_) #[true, true, false, true, false, false, false, false, false, false, false, false, false, false, false, false, false, false, false, false, false, false, false, false, false] rfl rfl (take_ofW HT_.out HW_.out (by kernel_rfl)) (fun _ _ _ h => h) (Or.inl ⟨by rfl, ?_⟩) hHeld ?_ ?_
       rotate_left
       ·
        rintro w' ⟨s0, s1, s2, s3, s4, s5, s6, s7⟩
        go_simp
        with_reducible rfl
       rotate_left
       ·
        simp only [Act.put, List.setIfInBounds_toArray, List.set_cons_zero, List.set_cons_succ, i64_w, i32_w]
        rfl
       refine take_ (i := 4) (N := some 48) (v := ?_) (a' := ?_) #[true, true, false, true, true, false, false, false, false, false, false, false, false, false, false, false, false, false, false, false, false, false, false, false, false] rfl rfl (take_ofW HT_.out HW_.out (by kernel_rfl)) (fun _ _ _ h => h) (Or.inl ⟨by rfl, ?_⟩) hHeld ?_ ?_
       rotate_left
       ·
        rintro w' ⟨s0, s1, s2, s3, s4, s5, s6, s7⟩
        go_simp
        with_reducible rfl
       rotate_left
       ·
        simp only [Act.put, List.setIfInBounds_toArray, List.set_cons_zero, List.set_cons_succ, i64_w, i32_w]
        rfl
       refine one_ (i := 2) (N := some 46) #[true, true, true, true, true, false, false, false, false, false, false, false, false, false, false, false, false, false, false, false, false, false, false, false, false] rfl rfl (one_of HT_.out (by kernel_rfl)) (by decide) (fun K hK => ?_)
       refine goes_ Try.func19 (by kernel_rfl) rfl #[.agg #[.int .i64 a0_0, .int .i64 a0_1], .agg #[.int .i64 a1_0, .int .i64 a1_1]] (by rfl) rfl rfl (by (try simp only [List.map_toArray, List.map_cons, List.map_nil]); first | done | rfl | (simp only [List.length_drop, List.length_take]; rfl)) ?_
       with_reducible refine (span_Add.calls a0_0 a0_1 a1_0 a1_1 t319 t320 _ A66.out).mono ?_
       rintro e w77 ⟨rfl, hb⟩
       refine ⟨_, rfl, ?_⟩
       have n0_ := Aside0.mk (bB (g := gb310) (o := .cells #[.int .i64 a0_0, .int .i64 a0_1] 23 (0, 0)) (by (with_reducible repeat (first | refine bN ?_ _ | refine bD ?_ | refine bA ?_ _)); exact BK310.out) hb)
       have n1_ := Aside0.mk (bB (g := gb311) (o := .cells #[.int .i64 a1_0, .int .i64 a1_1] 23 (0, 0)) (by (with_reducible repeat (first | refine bN ?_ _ | refine bD ?_ | refine bA ?_ _)); exact BK311.out) hb)
       have n2_ := Aside0.mk (bB (g := gb312) (o := .cells #[.int .i64 a2_0, .int .i64 a2_1] 23 (0, 0)) (by (with_reducible repeat (first | refine bN ?_ _ | refine bD ?_ | refine bA ?_ _)); exact BK312.out) hb)
       have n3_ := Aside0.mk (bB (g := gb313) (o := .cells #[.int .i64 a3_0, .int .i64 a3_1] 23 (0, 0)) (by (with_reducible repeat (first | refine bN ?_ _ | refine bD ?_ | refine bA ?_ _)); exact BK313.out) hb)
       have n4_ := Aside0.mk (bP (by repeat (first | (with_reducible first | exact HB.out | apply bL | apply bW | apply b1 | refine bS ?_ GE310.out | refine bS ?_ GE311.out | refine bS ?_ GE312.out | refine bS ?_ GE313.out) | exact HB.out)) hb)
       clear BK310
       clear BK311
       clear BK312
       clear BK313
       clear HB
       have BK310 := n0_
       have BK311 := n1_
       have BK312 := n2_
       have BK313 := n3_
       have HB := n4_
       clear n0_ n1_ n2_ n3_ n4_
       (try clear hb)
       (try clear hb2)
       (try clear hk)
       (try clear hi)
       refine hK.out _ _ ⟨(bC BK310.out 0).trans rfl, (bC BK310.out 1).trans rfl, (bC BK311.out 0).trans rfl, (bC BK311.out 1).trans rfl, (bC BK312.out 0).trans rfl, (bC BK312.out 1).trans rfl, (bC BK313.out 0).trans rfl, (bC BK313.out 1).trans rfl⟩ (fun hHeld => ?_)
       clear hK K
       refine norm_ (a' := ?_) ?_ ?_
       rotate_left
       ·
        show Act.put _ (some 46) _ = _
        simp only [Act.put, List.setIfInBounds_toArray, List.set_cons_zero, List.set_cons_succ, i64_w, i32_w]
        rfl
       refine one_ (i := 5) (N := some 49) #[true, true, true, true, true, true, false, false, false, false, false, false, false, false, false, false, false, false, false, false, false, false, false, false, false] rfl rfl (one_of HT_.out (by kernel_rfl)) (by decide) (fun K hK => ?_)
       refine goes_ Try.func19 (by kernel_rfl) rfl #[.agg #[.int .i64 a2_0, .int .i64 a2_1], .agg #[.int .i64 a3_0, .int .i64 a3_1]] (by rfl) rfl rfl (by (try simp only [List.map_toArray, List.map_cons, List.map_nil]); first | done | rfl | (simp only [List.length_drop, List.length_take]; rfl)) ?_
       with_reducible refine (span_Add.calls a2_0 a2_1 a3_0 a3_1 t321 t322 _ A67.out).mono ?_
       rintro e w78 ⟨rfl, hb⟩
       refine ⟨_, rfl, ?_⟩
       have n0_ := Aside0.mk (bB (g := gb310) (o := .cells #[.int .i64 a0_0, .int .i64 a0_1] 23 (0, 0)) (by (with_reducible repeat (first | refine bN ?_ _ | refine bD ?_ | refine bA ?_ _)); exact BK310.out) hb)
       have n1_ := Aside0.mk (bB (g := gb311) (o := .cells #[.int .i64 a1_0, .int .i64 a1_1] 23 (0, 0)) (by (with_reducible repeat (first | refine bN ?_ _ | refine bD ?_ | refine bA ?_ _)); exact BK311.out) hb)
       have n2_ := Aside0.mk (bB (g := gb312) (o := .cells #[.int .i64 a2_0, .int .i64 a2_1] 23 (0, 0)) (by (with_reducible repeat (first | refine bN ?_ _ | refine bD ?_ | refine bA ?_ _)); exact BK312.out) hb)
       have n3_ := Aside0.mk (bB (g := gb313) (o := .cells #[.int .i64 a3_0, .int .i64 a3_1] 23 (0, 0)) (by (with_reducible repeat (first | refine bN ?_ _ | refine bD ?_ | refine bA ?_ _)); exact BK313.out) hb)
       have n4_ := Aside0.mk (bP (by repeat (first | (with_reducible first | exact HB.out | apply bL | apply bW | apply b1 | refine bS ?_ GE310.out | refine bS ?_ GE311.out | refine bS ?_ GE312.out | refine bS ?_ GE313.out) | exact HB.out)) hb)
       clear BK310
       clear BK311
       clear BK312
       clear BK313
       clear HB
       have BK310 := n0_
       have BK311 := n1_
       have BK312 := n2_
       have BK313 := n3_
       have HB := n4_
       clear n0_ n1_ n2_ n3_ n4_
       (try clear hb)
       (try clear hb2)
       (try clear hk)
       (try clear hi)
       refine hK.out _ _ ⟨(bC BK310.out 0).trans rfl, (bC BK310.out 1).trans rfl, (bC BK311.out 0).trans rfl, (bC BK311.out 1).trans rfl, (bC BK312.out 0).trans rfl, (bC BK312.out 1).trans rfl, (bC BK313.out 0).trans rfl, (bC BK313.out 1).trans rfl⟩ (fun hHeld => ?_)
       clear hK K
       refine norm_ (a' := ?_) ?_ ?_
       rotate_left
       ·
        show Act.put _ (some 49) _ = _
        simp only [Act.put, List.setIfInBounds_toArray, List.set_cons_zero, List.set_cons_succ, i64_w, i32_w]
        rfl
       refine one_ (i := 6) (N := some 50) #[true, true, true, true, true, true, true, false, false, false, false, false, false, false, false, false, false, false, false, false, false, false, false, false, false] rfl rfl (one_of HT_.out (by kernel_rfl)) (by decide) (fun K hK => ?_)
       refine goes_ Try.func25 (by kernel_rfl) rfl #[.agg #[.int .i64 t319, .int .i64 t320], .agg #[.int .i64 t321, .int .i64 t322]] (by rfl) rfl rfl (by (try simp only [List.map_toArray, List.map_cons, List.map_nil]); first | done | rfl | (simp only [List.length_drop, List.length_take]; rfl)) ?_
       with_reducible refine (span_Within.calls t319 t320 t321 t322 true _ A68.out).mono ?_
       rintro e w79 ⟨rfl, hb⟩
       refine ⟨_, rfl, ?_⟩
       have n0_ := Aside0.mk (bB (g := gb310) (o := .cells #[.int .i64 a0_0, .int .i64 a0_1] 23 (0, 0)) (by (with_reducible repeat (first | refine bN ?_ _ | refine bD ?_ | refine bA ?_ _)); exact BK310.out) hb)
       have n1_ := Aside0.mk (bB (g := gb311) (o := .cells #[.int .i64 a1_0, .int .i64 a1_1] 23 (0, 0)) (by (with_reducible repeat (first | refine bN ?_ _ | refine bD ?_ | refine bA ?_ _)); exact BK311.out) hb)
       have n2_ := Aside0.mk (bB (g := gb312) (o := .cells #[.int .i64 a2_0, .int .i64 a2_1] 23 (0, 0)) (by (with_reducible repeat (first | refine bN ?_ _ | refine bD ?_ | refine bA ?_ _)); exact BK312.out) hb)
       have n3_ := Aside0.mk (bB (g := gb313) (o := .cells #[.int .i64 a3_0, .int .i64 a3_1] 23 (0, 0)) (by (with_reducible repeat (first | refine bN ?_ _ | refine bD ?_ | refine bA ?_ _)); exact BK313.out) hb)
       have n4_ := Aside0.mk (bP (by repeat (first | (with_reducible first | exact HB.out | apply bL | apply bW | apply b1 | refine bS ?_ GE310.out | refine bS ?_ GE311.out | refine bS ?_ GE312.out | refine bS ?_ GE313.out) | exact HB.out)) hb)
       clear BK310
       clear BK311
       clear BK312
       clear BK313
       clear HB
       have BK310 := n0_
       have BK311 := n1_
       have BK312 := n2_
       have BK313 := n3_
       have HB := n4_
       clear n0_ n1_ n2_ n3_ n4_
       (try clear hb)
       (try clear hb2)
       (try clear hk)
       (try clear hi)
       refine hK.out _ _ ⟨(bC BK310.out 0).trans rfl, (bC BK310.out 1).trans rfl, (bC BK311.out 0).trans rfl, (bC BK311.out 1).trans rfl, (bC BK312.out 0).trans rfl, (bC BK312.out 1).trans rfl, (bC BK313.out 0).trans rfl, (bC BK313.out 1).trans rfl⟩ (fun hHeld => ?_)
       clear hK K
       refine norm_ (a' := ?_) ?_ ?_
       rotate_left
       ·
        show Act.put _ (some 50) _ = _
        simp only [Act.put, List.setIfInBounds_toArray, List.set_cons_zero, List.set_cons_succ, i64_w, i32_w]
        rfl
       refine pure_ (i := 7) (N := some 51) (v := ?_) (a' := ?_) #[true, true, true, true, true, true, true, true, false, false, false, false, false, false, false, false, false, false, false, false, false, false, false, false, false] rfl rfl (any_of HT_.out (by kernel_rfl)) (fun _ _ _ h => h) (Or.inl ⟨by rfl, ?_⟩) ?_ ?_
       rotate_left
       ·
        intro w'
        go_simp
        with_reducible rfl
       rotate_left
       ·
        simp only [Act.put, List.setIfInBounds_toArray, List.set_cons_zero, List.set_cons_succ, i64_w, i32_w]
        rfl
       refine pure_ (i := 8) (N := some 52) (v := ?_) (a' := ?_) #[true, true, true, true, true, true, true, true, true, false, false, false, false, false, false, false, false, false, false, false, false, false, false, false, false] rfl rfl (any_of HT_.out (by kernel_rfl)) (fun _ _ _ h => h) (Or.inl ⟨by rfl, ?_⟩) ?_ ?_
       rotate_left
       ·
        intro w'
        go_simp
        with_reducible rfl
       rotate_left
       ·
        simp only [Act.put, List.setIfInBounds_toArray, List.set_cons_zero, List.set_cons_succ, i64_w, i32_w]
        rfl
       refine take_ (i := 9) (N := some 53) (v := ?_) (a' := ?_) #[true, true, true, true, true, true, true, true, true, true, false, false, false, false, false, false, false, false, false, false, false, false, false, false, false] rfl rfl (take_ofW HT_.out HW_.out (by kernel_rfl)) (fun _ _ _ h => h) (Or.inl ⟨by rfl, ?_⟩) hHeld ?_ ?_
       rotate_left
       ·
        rintro w' ⟨s0, s1, s2, s3, s4, s5, s6, s7⟩
        go_simp
        with_reducible rfl
       rotate_left
       ·
        simp only [Act.put, List.setIfInBounds_toArray, List.set_cons_zero, List.set_cons_succ, i64_w, i32_w]
        rfl
       refine take_ (i := 10) (N := some 54) (v := ?_) (a' := ?_) #[true, true, true, true, true, true, true, true, true, true, true, false, false, false, false, false, false, false, false, false, false, false, false, false, false] rfl rfl (take_ofW HT_.out HW_.out (by kernel_rfl)) (fun _ _ _ h => h) (Or.inl ⟨by rfl, ?_⟩) hHeld ?_ ?_
       rotate_left
       ·
        rintro w' ⟨s0, s1, s2, s3, s4, s5, s6, s7⟩
        go_simp
        with_reducible rfl
       rotate_left
       ·
        simp only [Act.put, List.setIfInBounds_toArray, List.set_cons_zero, List.set_cons_succ, i64_w, i32_w]
        rfl
       refine take_ (i := 12) (N := some 56) (v := ?_) (a' := ?_) #[true, true, true, true, true, true, true, true, true, true, true, false, true, false, false, false, false, false, false, false, false, false, false, false, false] rfl rfl (take_ofW HT_.out HW_.out (by kernel_rfl)) (fun _ _ _ h => h) (Or.inl ⟨by rfl, ?_⟩) hHeld ?_ ?_
       rotate_left
       ·
        rintro w' ⟨s0, s1, s2, s3, s4, s5, s6, s7⟩
        go_simp
        with_reducible rfl
       rotate_left
       ·
        simp only [Act.put, List.setIfInBounds_toArray, List.set_cons_zero, List.set_cons_succ, i64_w, i32_w]
        rfl
       refine take_ (i := 13) (N := some 57) (v := ?_) (a' := ?_) #[true, true, true, true, true, true, true, true, true, true, true, false, true, true, false, false, false, false, false, false, false, false, false, false, false] rfl rfl (take_ofW HT_.out HW_.out (by kernel_rfl)) (fun _ _ _ h => h) (Or.inl ⟨by rfl, ?_⟩) hHeld ?_ ?_
       rotate_left
       ·
        rintro w' ⟨s0, s1, s2, s3, s4, s5, s6, s7⟩
        go_simp
        with_reducible rfl
       rotate_left
       ·
        simp only [Act.put, List.setIfInBounds_toArray, List.set_cons_zero, List.set_cons_succ, i64_w, i32_w]
        rfl
       refine one_ (i := 11) (N := some 55) #[true, true, true, true, true, true, true, true, true, true, true, true, true, true, false, false, false, false, false, false, false, false, false, false, false] rfl rfl (one_of HT_.out (by kernel_rfl)) (by decide) (fun K hK => ?_)
       refine goes_ Try.func21 (by kernel_rfl) rfl #[.agg #[.int .i64 a0_0, .int .i64 a0_1], .agg #[.int .i64 a1_0, .int .i64 a1_1]] (by rfl) rfl rfl (by (try simp only [List.map_toArray, List.map_cons, List.map_nil]); first | done | rfl | (simp only [List.length_drop, List.length_take]; rfl)) ?_
       with_reducible refine (span_Sub.calls a0_0 a0_1 a1_0 a1_1 t324 t325 _ A70.out).mono ?_
       rintro e w80 ⟨rfl, hb⟩
       refine ⟨_, rfl, ?_⟩
       have n0_ := Aside0.mk (bB (g := gb310) (o := .cells #[.int .i64 a0_0, .int .i64 a0_1] 23 (0, 0)) (by (with_reducible repeat (first | refine bN ?_ _ | refine bD ?_ | refine bA ?_ _)); exact BK310.out) hb)
       have n1_ := Aside0.mk (bB (g := gb311) (o := .cells #[.int .i64 a1_0, .int .i64 a1_1] 23 (0, 0)) (by (with_reducible repeat (first | refine bN ?_ _ | refine bD ?_ | refine bA ?_ _)); exact BK311.out) hb)
       have n2_ := Aside0.mk (bB (g := gb312) (o := .cells #[.int .i64 a2_0, .int .i64 a2_1] 23 (0, 0)) (by (with_reducible repeat (first | refine bN ?_ _ | refine bD ?_ | refine bA ?_ _)); exact BK312.out) hb)
       have n3_ := Aside0.mk (bB (g := gb313) (o := .cells #[.int .i64 a3_0, .int .i64 a3_1] 23 (0, 0)) (by (with_reducible repeat (first | refine bN ?_ _ | refine bD ?_ | refine bA ?_ _)); exact BK313.out) hb)
       have n4_ := Aside0.mk (bP (by repeat (first | (with_reducible first | exact HB.out | apply bL | apply bW | apply b1 | refine bS ?_ GE310.out | refine bS ?_ GE311.out | refine bS ?_ GE312.out | refine bS ?_ GE313.out) | exact HB.out)) hb)
       clear BK310
       clear BK311
       clear BK312
       clear BK313
       clear HB
       have BK310 := n0_
       have BK311 := n1_
       have BK312 := n2_
       have BK313 := n3_
       have HB := n4_
       clear n0_ n1_ n2_ n3_ n4_
       (try clear hb)
       (try clear hb2)
       (try clear hk)
       (try clear hi)
       refine hK.out _ _ ⟨(bC BK310.out 0).trans rfl, (bC BK310.out 1).trans rfl, (bC BK311.out 0).trans rfl, (bC BK311.out 1).trans rfl, (bC BK312.out 0).trans rfl, (bC BK312.out 1).trans rfl, (bC BK313.out 0).trans rfl, (bC BK313.out 1).trans rfl⟩ (fun hHeld => ?_)
       clear hK K
       refine norm_ (a' := ?_) ?_ ?_
       rotate_left
       ·
        show Act.put _ (some 55) _ = _
        simp only [Act.put, List.setIfInBounds_toArray, List.set_cons_zero, List.set_cons_succ, i64_w, i32_w]
        rfl
       refine one_ (i := 14) (N := some 58) #[true, true, true, true, true, true, true, true, true, true, true, true, true, true, true, false, false, false, false, false, false, false, false, false, false] rfl rfl (one_of HT_.out (by kernel_rfl)) (by decide) (fun K hK => ?_)
       refine goes_ Try.func21 (by kernel_rfl) rfl #[.agg #[.int .i64 a2_0, .int .i64 a2_1], .agg #[.int .i64 a3_0, .int .i64 a3_1]] (by rfl) rfl rfl (by (try simp only [List.map_toArray, List.map_cons, List.map_nil]); first | done | rfl | (simp only [List.length_drop, List.length_take]; rfl)) ?_
       with_reducible refine (span_Sub.calls a2_0 a2_1 a3_0 a3_1 t326 t327 _ A71.out).mono ?_
       rintro e w81 ⟨rfl, hb⟩
       refine ⟨_, rfl, ?_⟩
       have n0_ := Aside0.mk (bB (g := gb310) (o := .cells #[.int .i64 a0_0, .int .i64 a0_1] 23 (0, 0)) (by (with_reducible repeat (first | refine bN ?_ _ | refine bD ?_ | refine bA ?_ _)); exact BK310.out) hb)
       have n1_ := Aside0.mk (bB (g := gb311) (o := .cells #[.int .i64 a1_0, .int .i64 a1_1] 23 (0, 0)) (by (with_reducible repeat (first | refine bN ?_ _ | refine bD ?_ | refine bA ?_ _)); exact BK311.out) hb)
       have n2_ := Aside0.mk (bB (g := gb312) (o := .cells #[.int .i64 a2_0, .int .i64 a2_1] 23 (0, 0)) (by (with_reducible repeat (first | refine bN ?_ _ | refine bD ?_ | refine bA ?_ _)); exact BK312.out) hb)
       have n3_ := Aside0.mk (bB (g := gb313) (o := .cells #[.int .i64 a3_0, .int .i64 a3_1] 23 (0, 0)) (by (with_reducible repeat (first | refine bN ?_ _ | refine bD ?_ | refine bA ?_ _)); exact BK313.out) hb)
       have n4_ := Aside0.mk (bP (by repeat (first | (with_reducible first | exact HB.out | apply bL | apply bW | apply b1 | refine bS ?_ GE310.out | refine bS ?_ GE311.out | refine bS ?_ GE312.out | refine bS ?_ GE313.out) | exact HB.out)) hb)
       clear BK310
       clear BK311
       clear BK312
       clear BK313
       clear HB
       have BK310 := n0_
       have BK311 := n1_
       have BK312 := n2_
       have BK313 := n3_
       have HB := n4_
       clear n0_ n1_ n2_ n3_ n4_
       (try clear hb)
       (try clear hb2)
       (try clear hk)
       (try clear hi)
       refine hK.out _ _ ⟨(bC BK310.out 0).trans rfl, (bC BK310.out 1).trans rfl, (bC BK311.out 0).trans rfl, (bC BK311.out 1).trans rfl, (bC BK312.out 0).trans rfl, (bC BK312.out 1).trans rfl, (bC BK313.out 0).trans rfl, (bC BK313.out 1).trans rfl⟩ (fun hHeld => ?_)
       clear hK K
       refine norm_ (a' := ?_) ?_ ?_
       rotate_left
       ·
        show Act.put _ (some 58) _ = _
        simp only [Act.put, List.setIfInBounds_toArray, List.set_cons_zero, List.set_cons_succ, i64_w, i32_w]
        rfl
       refine one_ (i := 15) (N := some 59) #[true, true, true, true, true, true, true, true, true, true, true, true, true, true, true, true, false, false, false, false, false, false, false, false, false] rfl rfl (one_of HT_.out (by kernel_rfl)) (by decide) (fun K hK => ?_)
       refine goes_ Try.func25 (by kernel_rfl) rfl #[.agg #[.int .i64 t324, .int .i64 t325], .agg #[.int .i64 t326, .int .i64 t327]] (by rfl) rfl rfl (by (try simp only [List.map_toArray, List.map_cons, List.map_nil]); first | done | rfl | (simp only [List.length_drop, List.length_take]; rfl)) ?_
       with_reducible refine (span_Within.calls t324 t325 t326 t327 true _ A72.out).mono ?_
       rintro e w82 ⟨rfl, hb⟩
       refine ⟨_, rfl, ?_⟩
       have n0_ := Aside0.mk (bB (g := gb310) (o := .cells #[.int .i64 a0_0, .int .i64 a0_1] 23 (0, 0)) (by (with_reducible repeat (first | refine bN ?_ _ | refine bD ?_ | refine bA ?_ _)); exact BK310.out) hb)
       have n1_ := Aside0.mk (bB (g := gb311) (o := .cells #[.int .i64 a1_0, .int .i64 a1_1] 23 (0, 0)) (by (with_reducible repeat (first | refine bN ?_ _ | refine bD ?_ | refine bA ?_ _)); exact BK311.out) hb)
       have n2_ := Aside0.mk (bB (g := gb312) (o := .cells #[.int .i64 a2_0, .int .i64 a2_1] 23 (0, 0)) (by (with_reducible repeat (first | refine bN ?_ _ | refine bD ?_ | refine bA ?_ _)); exact BK312.out) hb)
       have n3_ := Aside0.mk (bB (g := gb313) (o := .cells #[.int .i64 a3_0, .int .i64 a3_1] 23 (0, 0)) (by (with_reducible repeat (first | refine bN ?_ _ | refine bD ?_ | refine bA ?_ _)); exact BK313.out) hb)
       have n4_ := Aside0.mk (bP (by repeat (first | (with_reducible first | exact HB.out | apply bL | apply bW | apply b1 | refine bS ?_ GE310.out | refine bS ?_ GE311.out | refine bS ?_ GE312.out | refine bS ?_ GE313.out) | exact HB.out)) hb)
       clear BK310
       clear BK311
       clear BK312
       clear BK313
       clear HB
       have BK310 := n0_
       have BK311 := n1_
       have BK312 := n2_
       have BK313 := n3_
       have HB := n4_
       clear n0_ n1_ n2_ n3_ n4_
       (try clear hb)
       (try clear hb2)
       (try clear hk)
       (try clear hi)
       refine hK.out _ _ ⟨(bC BK310.out 0).trans rfl, (bC BK310.out 1).trans rfl, (bC BK311.out 0).trans rfl, (bC BK311.out 1).trans rfl, (bC BK312.out 0).trans rfl, (bC BK312.out 1).trans rfl, (bC BK313.out 0).trans rfl, (bC BK313.out 1).trans rfl⟩ (fun hHeld => ?_)
       clear hK K
       refine norm_ (a' := ?_) ?_ ?_
       rotate_left
       ·
        show Act.put _ (some 59) _ = _
        simp only [Act.put, List.setIfInBounds_toArray, List.set_cons_zero, List.set_cons_succ, i64_w, i32_w]
        rfl
       refine pure_ (i := 16) (N := some 60) (v := ?_) (a' := ?_) #[true, true, true, true, true, true, true, true, true, true, true, true, true, true, true, true, true, false, false, false, false, false, false, false, false] rfl rfl (any_of HT_.out (by kernel_rfl)) (fun _ _ _ h => h) (Or.inl ⟨by rfl, ?_⟩) ?_ ?_
       rotate_left
       ·
        intro w'
        go_simp
        with_reducible rfl
       rotate_left
       ·
        simp only [Act.put, List.setIfInBounds_toArray, List.set_cons_zero, List.set_cons_succ, i64_w, i32_w]
        rfl
       refine pure_ (i := 17) (N := some 61) (v := ?_) (a' := ?_) #[true, true, true, true, true, true, true, true, true, true, true, true, true, true, true, true, true, true, false, false, false, false, false, false, false] rfl rfl (any_of HT_.out (by kernel_rfl)) (fun _ _ _ h => h) (Or.inl ⟨by rfl, ?_⟩) ?_ ?_
       rotate_left
       ·
        intro w'
        go_simp
        with_reducible rfl
       rotate_left
       ·
        simp only [Act.put, List.setIfInBounds_toArray, List.set_cons_zero, List.set_cons_succ, i64_w, i32_w]
        rfl
       refine pure_ (i := 18) (N := some 62) (v := ?_) (a' := ?_) #[true, true, true, true, true, true, true, true, true, true, true, true, true, true, true, true, true, true, true, false, false, false, false, false, false] rfl rfl (any_of HT_.out (by kernel_rfl)) (fun _ _ _ h => h) (Or.inl ⟨by rfl, ?_⟩) ?_ ?_
       rotate_left
       ·
        intro w'
        go_simp
        with_reducible rfl
       rotate_left
       ·
        simp only [Act.put, List.setIfInBounds_toArray, List.set_cons_zero, List.set_cons_succ, i64_w, i32_w]
        rfl
       refine take_ (i := 19) (N := some 63) (v := ?_) (a' := ?_) #[true, true, true, true, true, true, true, true, true, true, true, true, true, true, true, true, true, true, true, true, false, false, false, false, false] rfl rfl (take_ofW HT_.out HW_.out (by kernel_rfl)) (fun _ _ _ h => h) (Or.inl ⟨by rfl, ?_⟩) hHeld ?_ ?_
       rotate_left
       ·
        rintro w' ⟨s0, s1, s2, s3, s4, s5, s6, s7⟩
        go_simp
        with_reducible rfl
       rotate_left
       ·
        simp only [Act.put, List.setIfInBounds_toArray, List.set_cons_zero, List.set_cons_succ, i64_w, i32_w]
        rfl
       refine take_ (i := 21) (N := some 65) (v := ?_) (a' := ?_) #[true, true, true, true, true, true, true, true, true, true, true, true, true, true, true, true, true, true, true, true, false, true, false, false, false] rfl rfl (take_ofW HT_.out HW_.out (by kernel_rfl)) (fun _ _ _ h => h) (Or.inl ⟨by rfl, ?_⟩) hHeld ?_ ?_
       rotate_left
       ·
        rintro w' ⟨s0, s1, s2, s3, s4, s5, s6, s7⟩
        go_simp
        with_reducible rfl
       rotate_left
       ·
        simp only [Act.put, List.setIfInBounds_toArray, List.set_cons_zero, List.set_cons_succ, i64_w, i32_w]
        rfl
       refine one_ (i := 20) (N := some 64) #[true, true, true, true, true, true, true, true, true, true, true, true, true, true, true, true, true, true, true, true, true, true, false, false, false] rfl rfl (one_of HT_.out (by kernel_rfl)) (by decide) (fun K hK => ?_)
       refine goes_ Try.func27 (by kernel_rfl) rfl #[.agg #[.int .i64 a0_0, .int .i64 a0_1]] (by rfl) rfl rfl (by (try simp only [List.map_toArray, List.map_cons, List.map_nil]); first | done | rfl | (simp only [List.length_drop, List.length_take]; rfl)) ?_
       with_reducible refine (span_Width.calls a0_0 a0_1 t329 _ A74.out).mono ?_
       rintro e w83 ⟨rfl, hb⟩
       refine ⟨_, rfl, ?_⟩
       have n0_ := Aside0.mk (bB (g := gb310) (o := .cells #[.int .i64 a0_0, .int .i64 a0_1] 23 (0, 0)) (by (with_reducible repeat (first | refine bN ?_ _ | refine bD ?_ | refine bA ?_ _)); exact BK310.out) hb)
       have n1_ := Aside0.mk (bB (g := gb311) (o := .cells #[.int .i64 a1_0, .int .i64 a1_1] 23 (0, 0)) (by (with_reducible repeat (first | refine bN ?_ _ | refine bD ?_ | refine bA ?_ _)); exact BK311.out) hb)
       have n2_ := Aside0.mk (bB (g := gb312) (o := .cells #[.int .i64 a2_0, .int .i64 a2_1] 23 (0, 0)) (by (with_reducible repeat (first | refine bN ?_ _ | refine bD ?_ | refine bA ?_ _)); exact BK312.out) hb)
       have n3_ := Aside0.mk (bB (g := gb313) (o := .cells #[.int .i64 a3_0, .int .i64 a3_1] 23 (0, 0)) (by (with_reducible repeat (first | refine bN ?_ _ | refine bD ?_ | refine bA ?_ _)); exact BK313.out) hb)
       have n4_ := Aside0.mk (bP (by repeat (first | (with_reducible first | exact HB.out | apply bL | apply bW | apply b1 | refine bS ?_ GE310.out | refine bS ?_ GE311.out | refine bS ?_ GE312.out | refine bS ?_ GE313.out) | exact HB.out)) hb)
       clear BK310
       clear BK311
       clear BK312
       clear BK313
       clear HB
       have BK310 := n0_
       have BK311 := n1_
       have BK312 := n2_
       have BK313 := n3_
       have HB := n4_
       clear n0_ n1_ n2_ n3_ n4_
       (try clear hb)
       (try clear hb2)
       (try clear hk)
       (try clear hi)
       refine hK.out _ _ ⟨(bC BK310.out 0).trans rfl, (bC BK310.out 1).trans rfl, (bC BK311.out 0).trans rfl, (bC BK311.out 1).trans rfl, (bC BK312.out 0).trans rfl, (bC BK312.out 1).trans rfl, (bC BK313.out 0).trans rfl, (bC BK313.out 1).trans rfl⟩ (fun hHeld => ?_)
       clear hK K
       refine norm_ (a' := ?_) ?_ ?_
       rotate_left
       ·
        show Act.put _ (some 64) _ = _
        simp only [Act.put, List.setIfInBounds_toArray, List.set_cons_zero, List.set_cons_succ, i64_w, i32_w]
        rfl
       refine one_ (i := 22) (N := some 66) #[true, true, true, true, true, true, true, true, true, true, true, true, true, true, true, true, true, true, true, true, true, true, true, false, false] rfl rfl (one_of HT_.out (by kernel_rfl)) (by decide) (fun K hK => ?_)
       refine goes_ Try.func27 (by kernel_rfl) rfl #[.agg #[.int .i64 a2_0, .int .i64 a2_1]] (by rfl) rfl rfl (by (try simp only [List.map_toArray, List.map_cons, List.map_nil]); first | done | rfl | (simp only [List.length_drop, List.length_take]; rfl)) ?_
       with_reducible refine (span_Width.calls a2_0 a2_1 t330 _ A75.out).mono ?_
       rintro e w84 ⟨rfl, hb⟩
       refine ⟨_, rfl, ?_⟩
       have n0_ := Aside0.mk (bB (g := gb310) (o := .cells #[.int .i64 a0_0, .int .i64 a0_1] 23 (0, 0)) (by (with_reducible repeat (first | refine bN ?_ _ | refine bD ?_ | refine bA ?_ _)); exact BK310.out) hb)
       have n1_ := Aside0.mk (bB (g := gb311) (o := .cells #[.int .i64 a1_0, .int .i64 a1_1] 23 (0, 0)) (by (with_reducible repeat (first | refine bN ?_ _ | refine bD ?_ | refine bA ?_ _)); exact BK311.out) hb)
       have n2_ := Aside0.mk (bB (g := gb312) (o := .cells #[.int .i64 a2_0, .int .i64 a2_1] 23 (0, 0)) (by (with_reducible repeat (first | refine bN ?_ _ | refine bD ?_ | refine bA ?_ _)); exact BK312.out) hb)
       have n3_ := Aside0.mk (bB (g := gb313) (o := .cells #[.int .i64 a3_0, .int .i64 a3_1] 23 (0, 0)) (by (with_reducible repeat (first | refine bN ?_ _ | refine bD ?_ | refine bA ?_ _)); exact BK313.out) hb)
       have n4_ := Aside0.mk (bP (by repeat (first | (with_reducible first | exact HB.out | apply bL | apply bW | apply b1 | refine bS ?_ GE310.out | refine bS ?_ GE311.out | refine bS ?_ GE312.out | refine bS ?_ GE313.out) | exact HB.out)) hb)
       clear BK310
       clear BK311
       clear BK312
       clear BK313
       clear HB
       have BK310 := n0_
       have BK311 := n1_
       have BK312 := n2_
       have BK313 := n3_
       have HB := n4_
       clear n0_ n1_ n2_ n3_ n4_
       (try clear hb)
       (try clear hb2)
       (try clear hk)
       (try clear hi)
       refine hK.out _ _ ⟨(bC BK310.out 0).trans rfl, (bC BK310.out 1).trans rfl, (bC BK311.out 0).trans rfl, (bC BK311.out 1).trans rfl, (bC BK312.out 0).trans rfl, (bC BK312.out 1).trans rfl, (bC BK313.out 0).trans rfl, (bC BK313.out 1).trans rfl⟩ (fun hHeld => ?_)
       clear hK K
       refine norm_ (a' := ?_) ?_ ?_
       rotate_left
       ·
        show Act.put _ (some 66) _ = _
        simp only [Act.put, List.setIfInBounds_toArray, List.set_cons_zero, List.set_cons_succ, i64_w, i32_w]
        rfl
       refine pure_ (i := 23) (N := some 67) (v := ?_) (a' := ?_) #[true, true, true, true, true, true, true, true, true, true, true, true, true, true, true, true, true, true, true, true, true, true, true, true, false] rfl rfl (any_of HT_.out (by kernel_rfl)) (fun _ _ _ h => h) (Or.inl ⟨by rfl, ?_⟩) ?_ ?_
       rotate_left
       ·
        intro w'
        go_simp
        with_reducible rfl
       rotate_left
       ·
        simp only [Act.put, List.setIfInBounds_toArray, List.set_cons_zero, List.set_cons_succ, i64_w, i32_w]
        rfl
       refine pure_ (i := 24) (N := some 68) (v := ?_) (a' := ?_) #[true, true, true, true, true, true, true, true, true, true, true, true, true, true, true, true, true, true, true, true, true, true, true, true, true] rfl rfl (any_of HT_.out (by kernel_rfl)) (fun _ _ _ h => h) (Or.inl ⟨by rfl, ?_⟩) ?_ ?_
       rotate_left
       ·
        intro w'
        go_simp
        with_reducible rfl
       rotate_left
       ·
        simp only [Act.put, List.setIfInBounds_toArray, List.set_cons_zero, List.set_cons_succ, i64_w, i32_w]
        rfl
       refine done_ (done_of HT_.out (by kernel_rfl)) ?_
       try go_wp2
       go_meet
       case rel => exact ⟨_, (decide (t329 > t330)), (by first | rfl | (simp; done) | (simp [*]; done)), H', ⟨by have := HJ7.out; first | omega | exact Nat.le_refl _⟩, ⟨by (with_reducible repeat (first | refine bN ?_ _ | refine bD ?_ | refine bA ?_ _)); exact BK310.out⟩, ⟨by (with_reducible repeat (first | refine bN ?_ _ | refine bD ?_ | refine bA ?_ _)); exact BK311.out⟩, ⟨by (with_reducible repeat (first | refine bN ?_ _ | refine bD ?_ | refine bA ?_ _)); exact BK312.out⟩, ⟨by (with_reducible repeat (first | refine bN ?_ _ | refine bD ?_ | refine bA ?_ _)); exact BK313.out⟩, ⟨by repeat (first | (with_reducible first | exact HB.out | apply bL | apply bW | apply b1 | refine bS ?_ GE310.out | refine bS ?_ GE311.out | refine bS ?_ GE312.out | refine bS ?_ GE313.out) | exact HB.out)⟩⟩
      ·
       replace c73 := Bool.eq_false_iff.mpr c73
       subst c73
       have H1 : (bournelaw09_SpanGrows.j1 kj7 a4 a5 t314 true a0_0 a0_1 a1_0 a1_1 a2_0 a2_1 a3_0 a3_1) = some r := by rw [if_neg (show ¬ (false = true) by decide)] at H; exact H
       clear H
       have H := H1
       clear H1
       have H' := Aside0.mk H
       clear H
       try go_wp2
       have n0_ := Aside0.mk (bD BK310.out)
       have n1_ := Aside0.mk (bD BK311.out)
       have n2_ := Aside0.mk (bD BK312.out)
       have n3_ := Aside0.mk (bD BK313.out)
       have n4_ := Aside0.mk (b1 HB.out)
       clear BK310
       clear BK311
       clear BK312
       clear BK313
       clear HB
       have BK310 := n0_
       have BK311 := n1_
       have BK312 := n2_
       have BK313 := n3_
       have HB := n4_
       clear n0_ n1_ n2_ n3_ n4_
       refine start_ (n := 25) (S := fun w' => w'.cell? ⟨gb310, 0, none⟩ = some (.int .i64 a0_0) ∧ w'.cell? ⟨gb310, 1, none⟩ = some (.int .i64 a0_1) ∧ w'.cell? ⟨gb311, 0, none⟩ = some (.int .i64 a1_0) ∧ w'.cell? ⟨gb311, 1, none⟩ = some (.int .i64 a1_1) ∧ w'.cell? ⟨gb312, 0, none⟩ = some (.int .i64 a2_0) ∧ w'.cell? ⟨gb312, 1, none⟩ = some (.int .i64 a2_1) ∧ w'.cell? ⟨gb313, 0, none⟩ = some (.int .i64 a3_0) ∧ w'.cell? ⟨gb313, 1, none⟩ = some (.int .i64 a3_1)) (ds := []) #[false, false, false, false, false, false, false, false, false, false, false, false, false, false, false, false, false, false, false, false, false, false, false, false, false] (by kernel_rfl) rfl rfl ⟨(bC BK310.out 0).trans rfl, (bC BK310.out 1).trans rfl, (bC BK311.out 0).trans rfl, (bC BK311.out 1).trans rfl, (bC BK312.out 0).trans rfl, (bC BK312.out 1).trans rfl, (bC BK313.out 0).trans rfl, (bC BK313.out 1).trans rfl⟩ (fun hHeld => ?_); refine with_tabW bournelaw09_SpanGrows.tab4 bournelaw09_SpanGrows.bits4 (fun HT_ HW_ => ?_)
       generalize wc.drew = w85 at BK310 BK311 BK312 BK313 HB hHeld ⊢
       refine take_ (i := 0) (N := some 44) (v := ?_) (a' := ?_) #[true, false, false, false, false, false, false, false, false, false, false, false, false, false, false, false, false, false, false, false, false, false, false, false, false] rfl rfl (take_ofW HT_.out HW_.out (by kernel_rfl)) (fun _ _ _ h => h) (Or.inl ⟨by rfl, ?_⟩) hHeld ?_ ?_
       rotate_left
       ·
        rintro w' ⟨s0, s1, s2, s3, s4, s5, s6, s7⟩
        go_simp
        with_reducible rfl
       rotate_left
       ·
        simp only [Act.put, List.setIfInBounds_toArray, List.set_cons_zero, List.set_cons_succ, i64_w, i32_w]
        rfl
       refine take_ (i := 1) (N := some 45) (v := ?_) (a' := ?_) #[true, true, false, false, false, false, false, false, false, false, false, false, false, false, false, false, false, false, false, false, false, false, false, false, false] rfl rfl (take_ofW HT_.out HW_.out (by kernel_rfl)) (fun _ _ _ h => h) (Or.inl ⟨by rfl, ?_⟩) hHeld ?_ ?_
       rotate_left
       ·
        rintro w' ⟨s0, s1, s2, s3, s4, s5, s6, s7⟩
        go_simp
        with_reducible rfl
       rotate_left
       ·
        simp only [Act.put, List.setIfInBounds_toArray, List.set_cons_zero, List.set_cons_succ, i64_w, i32_w]
        rfl
       refine take_ (i := 3) (N := some 47) (v := ?_) (a' := ?_) #[true, true, false, true, false, false, false, false, false, false, false, false, false, false, false, false, false, false, false, false, false, false, false, false, false] rfl rfl (take_ofW HT_.out HW_.out (by kernel_rfl)) (fun _ _ _ h => h) (Or.inl ⟨by rfl, ?_⟩) hHeld ?_ ?_
       rotate_left
       ·
        rintro w' ⟨s0, s1, s2, s3, s4, s5, s6, s7⟩
        go_simp
        with_reducible rfl
       rotate_left
       ·
        simp only [Act.put, List.setIfInBounds_toArray, List.set_cons_zero, List.set_cons_succ, i64_w, i32_w]
        rfl
       refine take_ (i := 4) (N := some 48) (v := ?_) (a' := ?_) #[true, true, false, true, true, false, false, false, false, false, false, false, false, false, false, false, false, false, false, false, false, false, false, false, false] rfl rfl (take_ofW HT_.out HW_.out (by kernel_rfl)) (fun _ _ _ h => h) (Or.inl ⟨by rfl, ?_⟩) hHeld ?_ ?_
       rotate_left
       ·
        rintro w' ⟨s0, s1, s2, s3, s4, s5, s6, s7⟩
        go_simp
        with_reducible rfl
       rotate_left
       ·
        simp only [Act.put, List.setIfInBounds_toArray, List.set_cons_zero, List.set_cons_succ, i64_w, i32_w]
        rfl
       refine one_ (i := 2) (N := some 46) #[true, true, true, true, true, false, false, false, false, false, false, false, false, false, false, false, false, false, false, false, false, false, false, false, false] rfl rfl (one_of HT_.out (by kernel_rfl)) (by decide) (fun K hK => ?_)
       refine goes_ Try.func19 (by kernel_rfl) rfl #[.agg #[.int .i64 a0_0, .int .i64 a0_1], .agg #[.int .i64 a1_0, .int .i64 a1_1]] (by rfl) rfl rfl (by (try simp only [List.map_toArray, List.map_cons, List.map_nil]); first | done | rfl | (simp only [List.length_drop, List.length_take]; rfl)) ?_
       with_reducible refine (span_Add.calls a0_0 a0_1 a1_0 a1_1 t319 t320 _ A66.out).mono ?_
       rintro e w86 ⟨rfl, hb⟩
       refine ⟨_, rfl, ?_⟩
       have n0_ := Aside0.mk (bB (g := gb310) (o := .cells #[.int .i64 a0_0, .int .i64 a0_1] 23 (0, 0)) (by (with_reducible repeat (first | refine bN ?_ _ | refine bD ?_ | refine bA ?_ _)); exact BK310.out) hb)
       have n1_ := Aside0.mk (bB (g := gb311) (o := .cells #[.int .i64 a1_0, .int .i64 a1_1] 23 (0, 0)) (by (with_reducible repeat (first | refine bN ?_ _ | refine bD ?_ | refine bA ?_ _)); exact BK311.out) hb)
       have n2_ := Aside0.mk (bB (g := gb312) (o := .cells #[.int .i64 a2_0, .int .i64 a2_1] 23 (0, 0)) (by (with_reducible repeat (first | refine bN ?_ _ | refine bD ?_ | refine bA ?_ _)); exact BK312.out) hb)
       have n3_ := Aside0.mk (bB (g := gb313) (o := .cells #[.int .i64 a3_0, .int .i64 a3_1] 23 (0, 0)) (by (with_reducible repeat (first | refine bN ?_ _ | refine bD ?_ | refine bA ?_ _)); exact BK313.out) hb)
       have n4_ := Aside0.mk (bP (by repeat (first | (with_reducible first | exact HB.out | apply bL | apply bW | apply b1 | refine bS ?_ GE310.out | refine bS ?_ GE311.out | refine bS ?_ GE312.out | refine bS ?_ GE313.out) | exact HB.out)) hb)
       clear BK310
       clear BK311
       clear BK312
       clear BK313
       clear HB
       have BK310 := n0_
       have BK311 := n1_
       have BK312 := n2_
       have BK313 := n3_
       have HB := n4_
       clear n0_ n1_ n2_ n3_ n4_
       (try clear hb)
       (try clear hb2)
       (try clear hk)
       (try clear hi)
       refine hK.out _ _ ⟨(bC BK310.out 0).trans rfl, (bC BK310.out 1).trans rfl, (bC BK311.out 0).trans rfl, (bC BK311.out 1).trans rfl, (bC BK312.out 0).trans rfl, (bC BK312.out 1).trans rfl, (bC BK313.out 0).trans rfl, (bC BK313.out 1).trans rfl⟩ (fun hHeld => ?_)
       clear hK K
       refine norm_ (a' := ?_) ?_ ?_
       rotate_left
       ·
        show Act.put _ (some 46) _ = _
        simp only [Act.put, List.setIfInBounds_toArray, List.set_cons_zero, List.set_cons_succ, i64_w, i32_w]
        rfl
       refine one_ (i := 5) (N := some 49) #[true, true, true, true, true, true, false, false, false, false, false, false, false, false, false, false, false, false, false, false, false, false, false, false, false] rfl rfl (one_of HT_.out (by kernel_rfl)) (by decide) (fun K hK => ?_)
       refine goes_ Try.func19 (by kernel_rfl) rfl #[.agg #[.int .i64 a2_0, .int .i64 a2_1], .agg #[.int .i64 a3_0, .int .i64 a3_1]] (by rfl) rfl rfl (by (try simp only [List.map_toArray, List.map_cons, List.map_nil]); first | done | rfl | (simp only [List.length_drop, List.length_take]; rfl)) ?_
       with_reducible refine (span_Add.calls a2_0 a2_1 a3_0 a3_1 t321 t322 _ A67.out).mono ?_
       rintro e w87 ⟨rfl, hb⟩
       refine ⟨_, rfl, ?_⟩
       have n0_ := Aside0.mk (bB (g := gb310) (o := .cells #[.int .i64 a0_0, .int .i64 a0_1] 23 (0, 0)) (by (with_reducible repeat (first | refine bN ?_ _ | refine bD ?_ | refine bA ?_ _)); exact BK310.out) hb)
       have n1_ := Aside0.mk (bB (g := gb311) (o := .cells #[.int .i64 a1_0, .int .i64 a1_1] 23 (0, 0)) (by (with_reducible repeat (first | refine bN ?_ _ | refine bD ?_ | refine bA ?_ _)); exact BK311.out) hb)
       have n2_ := Aside0.mk (bB (g := gb312) (o := .cells #[.int .i64 a2_0, .int .i64 a2_1] 23 (0, 0)) (by (with_reducible repeat (first | refine bN ?_ _ | refine bD ?_ | refine bA ?_ _)); exact BK312.out) hb)
       have n3_ := Aside0.mk (bB (g := gb313) (o := .cells #[.int .i64 a3_0, .int .i64 a3_1] 23 (0, 0)) (by (with_reducible repeat (first | refine bN ?_ _ | refine bD ?_ | refine bA ?_ _)); exact BK313.out) hb)
       have n4_ := Aside0.mk (bP (by repeat (first | (with_reducible first | exact HB.out | apply bL | apply bW | apply b1 | refine bS ?_ GE310.out | refine bS ?_ GE311.out | refine bS ?_ GE312.out | refine bS ?_ GE313.out) | exact HB.out)) hb)
       clear BK310
       clear BK311
       clear BK312
       clear BK313
       clear HB
       have BK310 := n0_
       have BK311 := n1_
       have BK312 := n2_
       have BK313 := n3_
       have HB := n4_
       clear n0_ n1_ n2_ n3_ n4_
       (try clear hb)
       (try clear hb2)
       (try clear hk)
       (try clear hi)
       refine hK.out _ _ ⟨(bC BK310.out 0).trans rfl, (bC BK310.out 1).trans rfl, (bC BK311.out 0).trans rfl, (bC BK311.out 1).trans rfl, (bC BK312.out 0).trans rfl, (bC BK312.out 1).trans rfl, (bC BK313.out 0).trans rfl, (bC BK313.out 1).trans rfl⟩ (fun hHeld => ?_)
       clear hK K
       refine norm_ (a' := ?_) ?_ ?_
       rotate_left
       ·
        show Act.put _ (some 49) _ = _
        simp only [Act.put, List.setIfInBounds_toArray, List.set_cons_zero, List.set_cons_succ, i64_w, i32_w]
        rfl
       refine one_ (i := 6) (N := some 50) #[true, true, true, true, true, true, true, false, false, false, false, false, false, false, false, false, false, false, false, false, false, false, false, false, false] rfl rfl (one_of HT_.out (by kernel_rfl)) (by decide) (fun K hK => ?_)
       refine goes_ Try.func25 (by kernel_rfl) rfl #[.agg #[.int .i64 t319, .int .i64 t320], .agg #[.int .i64 t321, .int .i64 t322]] (by rfl) rfl rfl (by (try simp only [List.map_toArray, List.map_cons, List.map_nil]); first | done | rfl | (simp only [List.length_drop, List.length_take]; rfl)) ?_
       with_reducible refine (span_Within.calls t319 t320 t321 t322 true _ A68.out).mono ?_
       rintro e w88 ⟨rfl, hb⟩
       refine ⟨_, rfl, ?_⟩
       have n0_ := Aside0.mk (bB (g := gb310) (o := .cells #[.int .i64 a0_0, .int .i64 a0_1] 23 (0, 0)) (by (with_reducible repeat (first | refine bN ?_ _ | refine bD ?_ | refine bA ?_ _)); exact BK310.out) hb)
       have n1_ := Aside0.mk (bB (g := gb311) (o := .cells #[.int .i64 a1_0, .int .i64 a1_1] 23 (0, 0)) (by (with_reducible repeat (first | refine bN ?_ _ | refine bD ?_ | refine bA ?_ _)); exact BK311.out) hb)
       have n2_ := Aside0.mk (bB (g := gb312) (o := .cells #[.int .i64 a2_0, .int .i64 a2_1] 23 (0, 0)) (by (with_reducible repeat (first | refine bN ?_ _ | refine bD ?_ | refine bA ?_ _)); exact BK312.out) hb)
       have n3_ := Aside0.mk (bB (g := gb313) (o := .cells #[.int .i64 a3_0, .int .i64 a3_1] 23 (0, 0)) (by (with_reducible repeat (first | refine bN ?_ _ | refine bD ?_ | refine bA ?_ _)); exact BK313.out) hb)
       have n4_ := Aside0.mk (bP (by repeat (first | (with_reducible first | exact HB.out | apply bL | apply bW | apply b1 | refine bS ?_ GE310.out | refine bS ?_ GE311.out | refine bS ?_ GE312.out | refine bS ?_ GE313.out) | exact HB.out)) hb)
       clear BK310
       clear BK311
       clear BK312
       clear BK313
       clear HB
       have BK310 := n0_
       have BK311 := n1_
       have BK312 := n2_
       have BK313 := n3_
       have HB := n4_
       clear n0_ n1_ n2_ n3_ n4_
       (try clear hb)
       (try clear hb2)
       (try clear hk)
       (try clear hi)
       refine hK.out _ _ ⟨(bC BK310.out 0).trans rfl, (bC BK310.out 1).trans rfl, (bC BK311.out 0).trans rfl, (bC BK311.out 1).trans rfl, (bC BK312.out 0).trans rfl, (bC BK312.out 1).trans rfl, (bC BK313.out 0).trans rfl, (bC BK313.out 1).trans rfl⟩ (fun hHeld => ?_)
       clear hK K
       refine norm_ (a' := ?_) ?_ ?_
       rotate_left
       ·
        show Act.put _ (some 50) _ = _
        simp only [Act.put, List.setIfInBounds_toArray, List.set_cons_zero, List.set_cons_succ, i64_w, i32_w]
        rfl
       refine pure_ (i := 7) (N := some 51) (v := ?_) (a' := ?_) #[true, true, true, true, true, true, true, true, false, false, false, false, false, false, false, false, false, false, false, false, false, false, false, false, false] rfl rfl (any_of HT_.out (by kernel_rfl)) (fun _ _ _ h => h) (Or.inl ⟨by rfl, ?_⟩) ?_ ?_
       rotate_left
       ·
        intro w'
        go_simp
        with_reducible rfl
       rotate_left
       ·
        simp only [Act.put, List.setIfInBounds_toArray, List.set_cons_zero, List.set_cons_succ, i64_w, i32_w]
        rfl
       refine pure_ (i := 8) (N := some 52) (v := ?_) (a' := ?_) #[true, true, true, true, true, true, true, true, true, false, false, false, false, false, false, false, false, false, false, false, false, false, false, false, false] rfl rfl (any_of HT_.out (by kernel_rfl)) (fun _ _ _ h => h) (Or.inl ⟨by rfl, ?_⟩) ?_ ?_
       rotate_left
       ·
        intro w'
        go_simp
        with_reducible rfl
       rotate_left
       ·
        simp only [Act.put, List.setIfInBounds_toArray, List.set_cons_zero, List.set_cons_succ, i64_w, i32_w]
        rfl
       refine take_ (i := 9) (N := some 53) (v := ?_) (a' := ?_) #[true, true, true, true, true, true, true, true, true, true, false, false, false, false, false, false, false, false, false, false, false, false, false, false, false] rfl rfl (take_ofW HT_.out HW_.out (by kernel_rfl)) (fun _ _ _ h => h) (Or.inl ⟨by rfl, ?_⟩) hHeld ?_ ?_
       rotate_left
       ·
        rintro w' ⟨s0, s1, s2, s3, s4, s5, s6, s7⟩
        go_simp
        with_reducible rfl
       rotate_left
       ·
        simp only [Act.put, List.setIfInBounds_toArray, List.set_cons_zero, List.set_cons_succ, i64_w, i32_w]
        rfl
       refine take_ (i := 10) (N := some 54) (v := ?_) (a' := ?_) #[true, true, true, true, true, true, true, true, true, true, true, false, false, false, false, false, false, false, false, false, false, false, false, false, false] rfl rfl (take_ofW HT_.out HW_.out (by kernel_rfl)) (fun _ _ _ h => h) (Or.inl ⟨by rfl, ?_⟩) hHeld ?_ ?_
       rotate_left
       ·
        rintro w' ⟨s0, s1, s2, s3, s4, s5, s6, s7⟩
        go_simp
        with_reducible rfl
       rotate_left
       ·
        simp only [Act.put, List.setIfInBounds_toArray, List.set_cons_zero, List.set_cons_succ, i64_w, i32_w]
        rfl
       refine take_ (i := 12) (N := some 56) (v := ?_) (a' := ?_) #[true, true, true, true, true, true, true, true, true, true, true, false, true, false, false, false, false, false, false, false, false, false, false, false, false] rfl rfl (take_ofW HT_.out HW_.out (by kernel_rfl)) (fun _ _ _ h => h) (Or.inl ⟨by rfl, ?_⟩) hHeld ?_ ?_
       rotate_left
       ·
        rintro w' ⟨s0, s1, s2, s3, s4, s5, s6, s7⟩
        go_simp
        with_reducible rfl
       rotate_left
       ·
        simp only [Act.put, List.setIfInBounds_toArray, List.set_cons_zero, List.set_cons_succ, i64_w, i32_w]
        rfl
       refine take_ (i := 13) (N := some 57) (v := ?_) (a' := ?_) #[true, true, true, true, true, true, true, true, true, true, true, false, true, true, false, false, false, false, false, false, false, false, false, false, false] rfl rfl (take_ofW HT_.out HW_.out (by kernel_rfl)) (fun _ _ _ h => h) (Or.inl ⟨by rfl, ?_⟩) hHeld ?_ ?_
       rotate_left
       ·
        rintro w' ⟨s0, s1, s2, s3, s4, s5, s6, s7⟩
        go_simp
        with_reducible rfl
       rotate_left
       ·
        simp only [Act.put, List.setIfInBounds_toArray, List.set_cons_zero, List.set_cons_succ, i64_w, i32_w]
        rfl
       refine one_ (i := 11) (N := some 55) #[true, true, true, true, true, true, true, true, true, true, true, true, true, true, false, false, false, false, false, false, false, false, false, false, false] rfl rfl (one_of HT_.out (by kernel_rfl)) (by decide) (fun K hK => ?_)
       refine goes_ Try.func21 (by kernel_rfl) rfl #[.agg #[.int .i64 a0_0, .int .i64 a0_1], .agg #[.int .i64 a1_0, .int .i64 a1_1]] (by rfl) rfl rfl (by (try simp only [List.map_toArray, List.map_cons, List.map_nil]); first | done | rfl | (simp only [List.length_drop, List.length_take]; rfl)) ?_
       with_reducible refine (span_Sub.calls a0_0 a0_1 a1_0 a1_1 t324 t325 _ A70.out).mono ?_
       rintro e w89 ⟨rfl, hb⟩
       refine ⟨_, rfl, ?_⟩
       have n0_ := Aside0.mk (bB (g := gb310) (o := .cells #[.int .i64 a0_0, .int .i64 a0_1] 23 (0, 0)) (by (with_reducible repeat (first | refine bN ?_ _ | refine bD ?_ | refine bA ?_ _)); exact BK310.out) hb)
       have n1_ := Aside0.mk (bB (g := gb311) (o := .cells #[.int .i64 a1_0, .int .i64 a1_1] 23 (0, 0)) (by (with_reducible repeat (first | refine bN ?_ _ | refine bD ?_ | refine bA ?_ _)); exact BK311.out) hb)
       have n2_ := Aside0.mk (bB (g := gb312) (o := .cells #[.int .i64 a2_0, .int .i64 a2_1] 23 (0, 0)) (by (with_reducible repeat (first | refine bN ?_ _ | refine bD ?_ | refine bA ?_ _)); exact BK312.out) hb)
       have n3_ := Aside0.mk (bB (g := gb313) (o := .cells #[.int .i64 a3_0, .int .i64 a3_1] 23 (0, 0)) (by (with_reducible repeat (first | refine bN ?_ _ | refine bD ?_ | refine bA ?_ _)); exact BK313.out) hb)
       have n4_ := Aside0.mk (bP (by repeat (first | (with_reducible first | exact HB.out | apply bL | apply bW | apply b1 | refine bS ?_ GE310.out | refine bS ?_ GE311.out | refine bS ?_ GE312.out | refine bS ?_ GE313.out) | exact HB.out)) hb)
       clear BK310
       clear BK311
       clear BK312
       clear BK313
       clear HB
       have BK310 := n0_
       have BK311 := n1_
       have BK312 := n2_
       have BK313 := n3_
       have HB := n4_
       clear n0_ n1_ n2_ n3_ n4_
       (try clear hb)
       (try clear hb2)
       (try clear hk)
       (try clear hi)
       refine hK.out _ _ ⟨(bC BK310.out 0).trans rfl, (bC BK310.out 1).trans rfl, (bC BK311.out 0).trans rfl, (bC BK311.out 1).trans rfl, (bC BK312.out 0).trans rfl, (bC BK312.out 1).trans rfl, (bC BK313.out 0).trans rfl, (bC BK313.out 1).trans rfl⟩ (fun hHeld => ?_)
       clear hK K
       refine norm_ (a' := ?_) ?_ ?_
       rotate_left
       ·
        show Act.put _ (some 55) _ = _
        simp only [Act.put, List.setIfInBounds_toArray, List.set_cons_zero, List.set_cons_succ, i64_w, i32_w]
        rfl
       refine one_ (i := 14) (N := some 58) #[true, true, true, true, true, true, true, true, true, true, true, true, true, true, true, false, false, false, false, false, false, false, false, false, false] rfl rfl (one_of HT_.out (by kernel_rfl)) (by decide) (fun K hK => ?_)
       refine goes_ Try.func21 (by kernel_rfl) rfl #[.agg #[.int .i64 a2_0, .int .i64 a2_1], .agg #[.int .i64 a3_0, .int .i64 a3_1]] (by rfl) rfl rfl (by (try simp only [List.map_toArray, List.map_cons, List.map_nil]); first | done | rfl | (simp only [List.length_drop, List.length_take]; rfl)) ?_
       with_reducible refine (span_Sub.calls a2_0 a2_1 a3_0 a3_1 t326 t327 _ A71.out).mono ?_
       rintro e w90 ⟨rfl, hb⟩
       refine ⟨_, rfl, ?_⟩
       have n0_ := Aside0.mk (bB (g := gb310) (o := .cells #[.int .i64 a0_0, .int .i64 a0_1] 23 (0, 0)) (by (with_reducible repeat (first | refine bN ?_ _ | refine bD ?_ | refine bA ?_ _)); exact BK310.out) hb)
       have n1_ := Aside0.mk (bB (g := gb311) (o := .cells #[.int .i64 a1_0, .int .i64 a1_1] 23 (0, 0)) (by (with_reducible repeat (first | refine bN ?_ _ | refine bD ?_ | refine bA ?_ _)); exact BK311.out) hb)
       have n2_ := Aside0.mk (bB (g := gb312) (o := .cells #[.int .i64 a2_0, .int .i64 a2_1] 23 (0, 0)) (by (with_reducible repeat (first | refine bN ?_ _ | refine bD ?_ | refine bA ?_ _)); exact BK312.out) hb)
       have n3_ := Aside0.mk (bB (g := gb313) (o := .cells #[.int .i64 a3_0, .int .i64 a3_1] 23 (0, 0)) (by (with_reducible repeat (first | refine bN ?_ _ | refine bD ?_ | refine bA ?_ _)); exact BK313.out) hb)
       have n4_ := Aside0.mk (bP (by repeat (first | (with_reducible first | exact HB.out | apply bL | apply bW | apply b1 | refine bS ?_ GE310.out | refine bS ?_ GE311.out | refine bS ?_ GE312.out | refine bS ?_ GE313.out) | exact HB.out)) hb)
       clear BK310
       clear BK311
       clear BK312
       clear BK313
       clear HB
       have BK310 := n0_
       have BK311 := n1_
       have BK312 := n2_
       have BK313 := n3_
       have HB := n4_
       clear n0_ n1_ n2_ n3_ n4_
       (try clear hb)
       (try clear hb2)
       (try clear hk)
       (try clear hi)
       refine hK.out _ _ ⟨(bC BK310.out 0).trans rfl, (bC BK310.out 1).trans rfl, (bC BK311.out 0).trans rfl, (bC BK311.out 1).trans rfl, (bC BK312.out 0).trans rfl, (bC BK312.out 1).trans rfl, (bC BK313.out 0).trans rfl, (bC BK313.out 1).trans rfl⟩ (fun hHeld => ?_)
       clear hK K
       refine norm_ (a' := ?_) ?_ ?_
       rotate_left
       ·
        show Act.put _ (some 58) _ = _
        simp only [Act.put, List.setIfInBounds_toArray, List.set_cons_zero, List.set_cons_succ, i64_w, i32_w]
        rfl
       refine one_ (i := 15) (N := some 59) #[true, true, true, true, true, true, true, true, true, true, true, true, true, true, true, true, false, false, false, false, false, false, false, false, false] rfl rfl (one_of HT_.out (by kernel_rfl)) (by decide) (fun K hK => ?_)
       refine goes_ Try.func25 (by kernel_rfl) rfl #[.agg #[.int .i64 t324, .int .i64 t325], .agg #[.int .i64 t326, .int .i64 t327]] (by rfl) rfl rfl (by (try simp only [List.map_toArray, List.map_cons, List.map_nil]); first | done | rfl | (simp only [List.length_drop, List.length_take]; rfl)) ?_
       with_reducible refine (span_Within.calls t324 t325 t326 t327 false _ A72.out).mono ?_
       rintro e w91 ⟨rfl, hb⟩
       refine ⟨_, rfl, ?_⟩
       have n0_ := Aside0.mk (bB (g := gb310) (o := .cells #[.int .i64 a0_0, .int .i64 a0_1] 23 (0, 0)) (by (with_reducible repeat (first | refine bN ?_ _ | refine bD ?_ | refine bA ?_ _)); exact BK310.out) hb)
       have n1_ := Aside0.mk (bB (g := gb311) (o := .cells #[.int .i64 a1_0, .int .i64 a1_1] 23 (0, 0)) (by (with_reducible repeat (first | refine bN ?_ _ | refine bD ?_ | refine bA ?_ _)); exact BK311.out) hb)
       have n2_ := Aside0.mk (bB (g := gb312) (o := .cells #[.int .i64 a2_0, .int .i64 a2_1] 23 (0, 0)) (by (with_reducible repeat (first | refine bN ?_ _ | refine bD ?_ | refine bA ?_ _)); exact BK312.out) hb)
       have n3_ := Aside0.mk (bB (g := gb313) (o := .cells #[.int .i64 a3_0, .int .i64 a3_1] 23 (0, 0)) (by (with_reducible repeat (first | refine bN ?_ _ | refine bD ?_ | refine bA ?_ _)); exact BK313.out) hb)
       have n4_ := Aside0.mk (bP (by repeat (first | (with_reducible first | exact HB.out | apply bL | apply bW | apply b1 | refine bS ?_ GE310.out | refine bS ?_ GE311.out | refine bS ?_ GE312.out | refine bS ?_ GE313.out) | exact HB.out)) hb)
       clear BK310
       clear BK311
       clear BK312
       clear BK313
       clear HB
       have BK310 := n0_
       have BK311 := n1_
       have BK312 := n2_
       have BK313 := n3_
       have HB := n4_
       clear n0_ n1_ n2_ n3_ n4_
       (try clear hb)
       (try clear hb2)
       (try clear hk)
       (try clear hi)
       refine hK.out _ _ ⟨(bC BK310.out 0).trans rfl, (bC BK310.out 1).trans rfl, (bC BK311.out 0).trans rfl, (bC BK311.out 1).trans rfl, (bC BK312.out 0).trans rfl, (bC BK312.out 1).trans rfl, (bC BK313.out 0).trans rfl, (bC BK313.out 1).trans rfl⟩ (fun hHeld => ?_)
       clear hK K
       refine norm_ (a' := ?_) ?_ ?_
       rotate_left
       ·
        show Act.put _ (some 59) _ = _
        simp only [Act.put, List.setIfInBounds_toArray, List.set_cons_zero, List.set_cons_succ, i64_w, i32_w]
        rfl
       refine pure_ (i := 16) (N := some 60) (v := ?_) (a' := ?_) #[true, true, true, true, true, true, true, true, true, true, true, true, true, true, true, true, true, false, false, false, false, false, false, false, false] rfl rfl (any_of HT_.out (by kernel_rfl)) (fun _ _ _ h => h) (Or.inl ⟨by rfl, ?_⟩) ?_ ?_
       rotate_left
       ·
        intro w'
        go_simp
        with_reducible rfl
       rotate_left
       ·
        simp only [Act.put, List.setIfInBounds_toArray, List.set_cons_zero, List.set_cons_succ, i64_w, i32_w]
        rfl
       refine pure_ (i := 17) (N := some 61) (v := ?_) (a' := ?_) #[true, true, true, true, true, true, true, true, true, true, true, true, true, true, true, true, true, true, false, false, false, false, false, false, false] rfl rfl (any_of HT_.out (by kernel_rfl)) (fun _ _ _ h => h) (Or.inl ⟨by rfl, ?_⟩) ?_ ?_
       rotate_left
       ·
        intro w'
        go_simp
        with_reducible rfl
       rotate_left
       ·
        simp only [Act.put, List.setIfInBounds_toArray, List.set_cons_zero, List.set_cons_succ, i64_w, i32_w]
        rfl
       refine pure_ (i := 18) (N := some 62) (v := ?_) (a' := ?_) #[true, true, true, true, true, true, true, true, true, true, true, true, true, true, true, true, true, true, true, false, false, false, false, false, false] rfl rfl (any_of HT_.out (by kernel_rfl)) (fun _ _ _ h => h) (Or.inl ⟨by rfl, ?_⟩) ?_ ?_
       rotate_left
       ·
        intro w'
        go_simp
        with_reducible rfl
       rotate_left
       ·
        simp only [Act.put, List.setIfInBounds_toArray, List.set_cons_zero, List.set_cons_succ, i64_w, i32_w]
        rfl
       refine pure_ (i := 19) (N := some 63) (v := undef) (a' := ?_) #[true, true, true, true, true, true, true, true, true, true, true, true, true, true, true, true, true, true, true, true, false, false, false, false, false] rfl rfl (any_of HT_.out (by kernel_rfl)) (fun _ _ _ h => h) (Or.inr ⟨by rfl, rfl⟩) ?_ ?_
       rotate_left
       ·
        simp only [Act.put, List.setIfInBounds_toArray, List.set_cons_zero, List.set_cons_succ, i64_w, i32_w]
        rfl
       refine pure_ (i := 20) (N := some 64) (v := undef) (a' := ?_) #[true, true, true, true, true, true, true, true, true, true, true, true, true, true, true, true, true, true, true, true, true, false, false, false, false] rfl rfl (any_of HT_.out (by kernel_rfl)) (fun _ _ _ h => h) (Or.inr ⟨by rfl, rfl⟩) ?_ ?_
       rotate_left
       ·
        simp only [Act.put, List.setIfInBounds_toArray, List.set_cons_zero, List.set_cons_succ, i64_w, i32_w]
        rfl
       refine pure_ (i := 21) (N := some 65) (v := undef) (a' := ?_) #[true, true, true, true, true, true, true, true, true, true, true, true, true, true, true, true, true, true, true, true, true, true, false, false, false] rfl rfl (any_of HT_.out (by kernel_rfl)) (fun _ _ _ h => h) (Or.inr ⟨by rfl, rfl⟩) ?_ ?_
       rotate_left
       ·
        simp only [Act.put, List.setIfInBounds_toArray, List.set_cons_zero, List.set_cons_succ, i64_w, i32_w]
        rfl
       refine pure_ (i := 22) (N := some 66) (v := undef) (a' := ?_) #[true, true, true, true, true, true, true, true, true, true, true, true, true, true, true, true, true, true, true, true, true, true, true, false, false] rfl rfl (any_of HT_.out (by kernel_rfl)) (fun _ _ _ h => h) (Or.inr ⟨by rfl, rfl⟩) ?_ ?_
       rotate_left
       ·
        simp only [Act.put, List.setIfInBounds_toArray, List.set_cons_zero, List.set_cons_succ, i64_w, i32_w]
        rfl
       refine pure_ (i := 23) (N := some 67) (v := undef) (a' := ?_) #[true, true, true, true, true, true, true, true, true, true, true, true, true, true, true, true, true, true, true, true, true, true, true, true, false] rfl rfl (any_of HT_.out (by kernel_rfl)) (fun _ _ _ h => h) (Or.inr ⟨by rfl, rfl⟩) ?_ ?_
       rotate_left
       ·
        simp only [Act.put, List.setIfInBounds_toArray, List.set_cons_zero, List.set_cons_succ, i64_w, i32_w]
        rfl
       refine pure_ (i := 24) (N := some 68) (v := ?_) (a' := ?_) #[true, true, true, true, true, true, true, true, true, true, true, true, true, true, true, true, true, true, true, true, true, true, true, true, true] rfl rfl (any_of HT_.out (by kernel_rfl)) (fun _ _ _ h => h) (Or.inl ⟨by rfl, ?_⟩) ?_ ?_
       rotate_left
       ·
        intro w'
        go_simp
        with_reducible rfl
       rotate_left
       ·
        simp only [Act.put, List.setIfInBounds_toArray, List.set_cons_zero, List.set_cons_succ, i64_w, i32_w]
        rfl
       refine done_ (done_of HT_.out (by kernel_rfl)) ?_
       try go_wp2
       go_meet
       case rel => exact ⟨_, (true), (by first | rfl | (simp; done) | (simp [*]; done)), H', ⟨by have := HJ7.out; first | omega | exact Nat.le_refl _⟩, ⟨by (with_reducible repeat (first | refine bN ?_ _ | refine bD ?_ | refine bA ?_ _)); exact BK310.out⟩, ⟨by (with_reducible repeat (first | refine bN ?_ _ | refine bD ?_ | refine bA ?_ _)); exact BK311.out⟩, ⟨by (with_reducible repeat (first | refine bN ?_ _ | refine bD ?_ | refine bA ?_ _)); exact BK312.out⟩, ⟨by (with_reducible repeat (first | refine bN ?_ _ | refine bD ?_ | refine bA ?_ _)); exact BK313.out⟩, ⟨by repeat (first | (with_reducible first | exact HB.out | apply bL | apply bW | apply b1 | refine bS ?_ GE310.out | refine bS ?_ GE311.out | refine bS ?_ GE312.out | refine bS ?_ GE313.out) | exact HB.out)⟩⟩
     ·
      replace c69 := Bool.eq_false_iff.mpr c69
      subst c69
      have H1 : (bournelaw09_SpanGrows.j1 kj7 a4 a5 t314 true a0_0 a0_1 a1_0 a1_1 a2_0 a2_1 a3_0 a3_1) = some r := by rw [if_neg (show ¬ (false = true) by decide)] at H; exact H
      clear H
      have H := H1
      clear H1
      have H' := Aside0.mk H
      clear H
      try go_wp2
      have n0_ := Aside0.mk (bD BK310.out)
      have n1_ := Aside0.mk (bD BK311.out)
      have n2_ := Aside0.mk (bD BK312.out)
      have n3_ := Aside0.mk (bD BK313.out)
      have n4_ := Aside0.mk (b1 HB.out)
      clear BK310
      clear BK311
      clear BK312
      clear BK313
      clear HB
      have BK310 := n0_
      have BK311 := n1_
      have BK312 := n2_
      have BK313 := n3_
      have HB := n4_
      clear n0_ n1_ n2_ n3_ n4_
      refine start_ (n := 25) (S := fun w' => w'.cell? ⟨gb310, 0, none⟩ = some (.int .i64 a0_0) ∧ w'.cell? ⟨gb310, 1, none⟩ = some (.int .i64 a0_1) ∧ w'.cell? ⟨gb311, 0, none⟩ = some (.int .i64 a1_0) ∧ w'.cell? ⟨gb311, 1, none⟩ = some (.int .i64 a1_1) ∧ w'.cell? ⟨gb312, 0, none⟩ = some (.int .i64 a2_0) ∧ w'.cell? ⟨gb312, 1, none⟩ = some (.int .i64 a2_1) ∧ w'.cell? ⟨gb313, 0, none⟩ = some (.int .i64 a3_0) ∧ w'.cell? ⟨gb313, 1, none⟩ = some (.int .i64 a3_1)) (ds := []) #[false, false, false, false, false, false, false, false, false, false, false, false, false, false, false, false, false, false, false, false, false, false, false, false, false] (by kernel_rfl) rfl rfl ⟨(bC BK310.out 0).trans rfl, (bC BK310.out 1).trans rfl, (bC BK311.out 0).trans rfl, (bC BK311.out 1).trans rfl, (bC BK312.out 0).trans rfl, (bC BK312.out 1).trans rfl, (bC BK313.out 0).trans rfl, (bC BK313.out 1).trans rfl⟩ (fun hHeld => ?_); refine with_tabW bournelaw09_SpanGrows.tab4 bournelaw09_SpanGrows.bits4 (fun HT_ HW_ => ?_)
      generalize wc.drew = w92 at BK310 BK311 BK312 BK313 HB hHeld ⊢
      refine take_ (i := 0) (N := some 44) (v := ?_) (a' := ?_) #[true, false, false, false, false, false, false, false, false, false, false, false, false, false, false, false, false, false, false, false, false, false, false, false, false] rfl rfl (take_ofW HT_.out HW_.out (by kernel_rfl)) (fun _ _ _ h => h) (Or.inl ⟨by rfl, ?_⟩) hHeld ?_ ?_
      rotate_left
      ·
       rintro w' ⟨s0, s1, s2, s3, s4, s5, s6, s7⟩
       go_simp
       with_reducible rfl
      rotate_left
      ·
       simp only [Act.put, List.setIfInBounds_toArray, List.set_cons_zero, List.set_cons_succ, i64_w, i32_w]
       rfl
      refine take_ (i := 1) (N := some 45) (v := ?_) (a' := ?_) #[true, true, false, false, false, false, false, false, false, false, false, false, false, false, false, false, false, false, false, false, false, false, false, false, false] rfl rfl (take_ofW HT_.out HW_.out (by kernel_rfl)) (fun _ _ _ h => h) (Or.inl ⟨by rfl, ?_⟩) hHeld ?_ ?_
      rotate_left
      ·
       rintro w' ⟨s0, s1, s2, s3, s4, s5, s6, s7⟩
       go_simp
       with_reducible rfl
      rotate_left
      ·
       simp only [Act.put, List.setIfInBounds_toArray, List.set_cons_zero, List.set_cons_succ, i64_w, i32_w]
       rfl
      refine take_ (i := 3) (N := some 47) (v := ?_) (a' := ?_) #[true, true, false, true, false, false, false, false, false, false, false, false, false, false, false, false, false, false, false, false, false, false, false, false, false] rfl rfl (take_ofW HT_.out HW_.out (by kernel_rfl)) (fun _ _ _ h => h) (Or.inl ⟨by rfl, ?_⟩) hHeld ?_ ?_
      rotate_left
      ·
       rintro w' ⟨s0, s1, s2, s3, s4, s5, s6, s7⟩
       go_simp
       with_reducible rfl
      rotate_left
      ·
       simp only [Act.put, List.setIfInBounds_toArray, List.set_cons_zero, List.set_cons_succ, i64_w, i32_w]
       rfl
      refine take_ (i := 4) (N := some 48) (v := ?_) (a' := ?_) #[true, true, false, true, true, false, false, false, false, false, false, false, false, false, false, false, false, false, false, false, false, false, false, false, false] rfl rfl (take_ofW HT_.out HW_.out (by kernel_rfl)) (fun _ _ _ h => h) (Or.inl ⟨by rfl, ?_⟩) hHeld ?_ ?_
      rotate_left
      ·
       rintro w' ⟨s0, s1, s2, s3, s4, s5, s6, s7⟩
       go_simp
       with_reducible rfl
      rotate_left
      ·
       simp only [Act.put, List.setIfInBounds_toArray, List.set_cons_zero, List.set_cons_succ, i64_w, i32_w]
       rfl
      refine one_ (i := 2) (N := some 46) #[true, true, true, true, true, false, false, false, false, false, false, false, false, false, false, false, false, false, false, false, false, false, false, false, false] rfl rfl (one_of HT_.out (by kernel_rfl)) (by decide) (fun K hK => ?_)
      refine goes_ Try.func19 (by kernel_rfl) rfl #[.agg #[.int .i64 a0_0, .int .i64 a0_1], .agg #[.int .i64 a1_0, .int .i64 a1_1]] (by rfl) rfl rfl (by (try simp only [List.map_toArray, List.map_cons, List.map_nil]); first | done | rfl | (simp only [List.length_drop, List.length_take]; rfl)) ?_
      with_reducible refine (span_Add.calls a0_0 a0_1 a1_0 a1_1 t319 t320 _ A66.out).mono ?_
      rintro e w93 ⟨rfl, hb⟩
      refine ⟨_, rfl, ?_⟩
      have n0_ := Aside0.mk (bB (g := gb310) (o := .cells #[.int .i64 a0_0, .int .i64 a0_1] 23 (0, 0)) (by (with_reducible repeat (first | refine bN ?_ _ | refine bD ?_ | refine bA ?_ _)); exact BK310.out) hb)
      have n1_ := Aside0.mk (bB (g := gb311) (o := .cells #[.int .i64 a1_0, .int .i64 a1_1] 23 (0, 0)) (by (with_reducible repeat (first | refine bN ?_ _ | refine bD ?_ | refine bA ?_ _)); exact BK311.out) hb)
      have n2_ := Aside0.mk (bB (g := gb312) (o := .cells #[.int .i64 a2_0, .int .i64 a2_1] 23 (0, 0)) (by (with_reducible repeat (first | refine bN ?_ _ | refine bD ?_ | refine bA ?_ _)); exact BK312.out) hb)
      have n3_ := Aside0.mk (bB (g := gb313) (o := .cells #[.int .i64 a3_0, .int .i64 a3_1] 23 (0, 0)) (by (with_reducible repeat (first | refine bN ?_ _ | refine bD ?_ | refine bA ?_ _)); exact BK313.out) hb)
      have n4_ := Aside0.mk (bP (by repeat (first | (with_reducible first | exact HB.out | apply bL | apply bW | apply b1 | refine bS ?_ GE310.out | refine bS ?_ GE311.out | refine bS ?_ GE312.out | refine bS ?_ GE313.out) | exact HB.out)) hb)
      clear BK310
      clear BK311
      clear BK312
      clear BK313
      clear HB
      have BK310 := n0_
      have BK311 := n1_
      have BK312 := n2_
      have BK313 := n3_
      have HB := n4_
      clear n0_ n1_ n2_ n3_ n4_
      (try clear hb)
      (try clear hb2)
      (try clear hk)
      (try clear hi)
      refine hK.out _ _ ⟨(bC BK310.out 0).trans rfl, (bC BK310.out 1).trans rfl, (bC BK311.out 0).trans rfl, (bC BK311.out 1).trans rfl, (bC BK312.out 0).trans rfl, (bC BK312.out 1).trans rfl, (bC BK313.out 0).trans rfl, (bC BK313.out 1).trans rfl⟩ (fun hHeld => ?_)
      clear hK K
      refine norm_ (a' := ?_) ?_ ?_
      rotate_left
      ·
       show Act.put _ (some 46) _ = _
       simp only [Act.put, List.setIfInBounds_toArray, List.set_cons_zero, List.set_cons_succ, i64_w, i32_w]
       rfl
      refine one_ (i := 5) (N := some 49) #[true, true, true, true, true, true, false, false, false, false, false, false, false, false, false, false, false, false, false, false, false, false, false, false, false] rfl rfl (one_of HT_.out (by kernel_rfl)) (by decide) (fun K hK => ?_)
      refine goes_ Try.func19 (by kernel_rfl) rfl #[.agg #[.int .i64 a2_0, .int .i64 a2_1], .agg #[.int .i64 a3_0, .int .i64 a3_1]] (by rfl) rfl rfl (by (try simp only [List.map_toArray, List.map_cons, List.map_nil]); first | done | rfl | (simp only [List.length_drop, List.length_take]; rfl)) ?_
      with_reducible refine (span_Add.calls a2_0 a2_1 a3_0 a3_1 t321 t322 _ A67.out).mono ?_
      rintro e w94 ⟨rfl, hb⟩
      refine ⟨_, rfl, ?_⟩
      have n0_ := Aside0.mk (bB (g := gb310) (o := .cells #[.int .i64 a0_0, .int .i64 a0_1] 23 (0, 0)) (by (with_reducible repeat (first | refine bN ?_ _ | refine bD ?_ | refine bA ?_ _)); exact BK310.out) hb)
      have n1_ := Aside0.mk (bB (g := gb311) (o := .cells #[.int .i64 a1_0, .int .i64 a1_1] 23 (0, 0)) (by (with_reducible repeat (first | refine bN ?_ _ | refine bD ?_ | refine bA ?_ _)); exact BK311.out) hb)
      have n2_ := Aside0.mk (bB (g := gb312) (o := .cells #[.int .i64 a2_0, .int .i64 a2_1] 23 (0, 0)) (by (with_reducible repeat (first | refine bN ?_ _ | refine bD ?_ | refine bA ?_ _)); exact BK312.out) hb)
      have n3_ := Aside0.mk (bB (g := gb313) (o := .cells #[.int .i64 a3_0, .int .i64 a3_1] 23 (0, 0)) (by (with_reducible repeat (first | refine bN ?_ _ | refine bD ?_ | refine bA ?_ _)); exact BK313.out) hb)
      have n4_ := Aside0.mk (bP (by repeat (first | (with_reducible first | exact HB.out | apply bL | apply bW | apply b1 | refine bS ?_ GE310.out | refine bS ?_ GE311.out | refine bS ?_ GE312.out | refine bS ?_ GE313.out) | exact HB.out)) hb)
      clear BK310
      clear BK311
      clear BK312
      clear BK313
      clear HB
      have BK310 := n0_
      have BK311 := n1_
      have BK312 := n2_
      have BK313 := n3_
      have HB := n4_
      clear n0_ n1_ n2_ n3_ n4_
      (try clear hb)
      (try clear hb2)
      (try clear hk)
      (try clear hi)
      refine hK.out _ _ ⟨(bC BK310.out 0).trans rfl, (bC BK310.out 1).trans rfl, (bC BK311.out 0).trans rfl, (bC BK311.out 1).trans rfl, (bC BK312.out 0).trans rfl, (bC BK312.out 1).trans rfl, (bC BK313.out 0).trans rfl, (bC BK313.out 1).trans rfl⟩ (fun hHeld => ?_)
      clear hK K
      refine norm_ (a' := ?_) ?_ ?_
      rotate_left
      ·
       show Act.put _ (some 49) _ = _
       simp only [Act.put, List.setIfInBounds_toArray, List.set_cons_zero, List.set_cons_succ, i64_w, i32_w]
       rfl
      refine one_ (i := 6) (N := some 50) #[true, true, true, true, true, true, true, false, false, false, false, false, false, false, false, false, false, false, false, false, false, false, false, false, false] rfl rfl (one_of HT_.out (by kernel_rfl)) (by decide) (fun K hK => ?_)
      refine goes_ Try.func25 (by kernel_rfl) rfl #[.agg #[.int .i64 t319, .int .i64 t320], .agg #[.int .i64 t321, .int .i64 t322]] (by rfl) rfl rfl (by (try simp only [List.map_toArray, List.map_cons, List.map_nil]); first | done | rfl | (simp only [List.length_drop, List.length_take]; rfl)) ?_
      with_reducible refine (span_Within.calls t319 t320 t321 t322 false _ A68.out).mono ?_
      rintro e w95 ⟨rfl, hb⟩
      refine ⟨_, rfl, ?_⟩
      have n0_ := Aside0.mk (bB (g := gb310) (o := .cells #[.int .i64 a0_0, .int .i64 a0_1] 23 (0, 0)) (by (with_reducible repeat (first | refine bN ?_ _ | refine bD ?_ | refine bA ?_ _)); exact BK310.out) hb)
      have n1_ := Aside0.mk (bB (g := gb311) (o := .cells #[.int .i64 a1_0, .int .i64 a1_1] 23 (0, 0)) (by (with_reducible repeat (first | refine bN ?_ _ | refine bD ?_ | refine bA ?_ _)); exact BK311.out) hb)
      have n2_ := Aside0.mk (bB (g := gb312) (o := .cells #[.int .i64 a2_0, .int .i64 a2_1] 23 (0, 0)) (by (with_reducible repeat (first | refine bN ?_ _ | refine bD ?_ | refine bA ?_ _)); exact BK312.out) hb)
      have n3_ := Aside0.mk (bB (g := gb313) (o := .cells #[.int .i64 a3_0, .int .i64 a3_1] 23 (0, 0)) (by (with_reducible repeat (first | refine bN ?_ _ | refine bD ?_ | refine bA ?_ _)); exact BK313.out) hb)
      have n4_ := Aside0.mk (bP (by repeat (first | (with_reducible first | exact HB.out | apply bL | apply bW | apply b1 | refine bS ?_ GE310.out | refine bS ?_ GE311.out | refine bS ?_ GE312.out | refine bS ?_ GE313.out) | exact HB.out)) hb)
      clear BK310
      clear BK311
      clear BK312
      clear BK313
      clear HB
      have BK310 := n0_
      have BK311 := n1_
      have BK312 := n2_
      have BK313 := n3_
      have HB := n4_
      clear n0_ n1_ n2_ n3_ n4_
      (try clear hb)
      (try clear hb2)
      (try clear hk)
      (try clear hi)
      refine hK.out _ _ ⟨(bC BK310.out 0).trans rfl, (bC BK310.out 1).trans rfl, (bC BK311.out 0).trans rfl, (bC BK311.out 1).trans rfl, (bC BK312.out 0).trans rfl, (bC BK312.out 1).trans rfl, (bC BK313.out 0).trans rfl, (bC BK313.out 1).trans rfl⟩ (fun hHeld => ?_)
      clear hK K
      refine norm_ (a' := ?_) ?_ ?_
      rotate_left
      ·
       show Act.put _ (some 50) _ = _
       simp only [Act.put, List.setIfInBounds_toArray, List.set_cons_zero, List.set_cons_succ, i64_w, i32_w]
       rfl
      refine pure_ (i := 7) (N := some 51) (v := ?_) (a' := ?_) #[true, true, true, true, true, true, true, true, false, false, false, false, false, false, false, false, false, false, false, false, false, false, false, false, false] rfl rfl (any_of HT_.out (by kernel_rfl)) (fun _ _ _ h => h) (Or.inl ⟨by rfl, ?_⟩) ?_ ?_
      rotate_left
      ·
       intro w'
       go_simp
       with_reducible rfl
      rotate_left
      ·
       simp only [Act.put, List.setIfInBounds_toArray, List.set_cons_zero, List.set_cons_succ, i64_w, i32_w]
       rfl
      refine pure_ (i := 8) (N := some 52) (v := ?_) (a' := ?_) #[true, true, true, true, true, true, true, true, true, false, false, false, false, false, false, false, false, false, false, false, false, false, false, false, false] rfl rfl (any_of HT_.out (by kernel_rfl)) (fun _ _ _ h => h) (Or.inl ⟨by rfl, ?_⟩) ?_ ?_
      rotate_left
      ·
       intro w'
       go_simp
       with_reducible rfl
      rotate_left
      ·
       simp only [Act.put, List.setIfInBounds_toArray, List.set_cons_zero, List.set_cons_succ, i64_w, i32_w]
       rfl
      refine pure_ (i := 9) (N := some 53) (v := undef) (a' := ?_) #[true, true, true, true, true, true, true, true, true, true, false, false, false, false, false, false, false, false, false, false, false, false, false, false, false] rfl rfl (any_of HT_.out (by kernel_rfl)) (fun _ _ _ h => h) (Or.inr ⟨by rfl, rfl⟩) ?_ ?_
      rotate_left
      ·
       simp only [Act.put, List.setIfInBounds_toArray, List.set_cons_zero, List.set_cons_succ, i64_w, i32_w]
       rfl
      refine pure_ (i := 10) (N := some 54) (v := undef) (a' := ?_) #[true, true, true, true, true, true, true, true, true, true, true, false, false, false, false, false, false, false, false, false, false, false, false, false, false] rfl rfl (any_of HT_.out (by kernel_rfl)) (fun _ _ _ h => h) (Or.inr ⟨by rfl, rfl⟩) ?_ ?_
      rotate_left
      ·
       simp only [Act.put, List.setIfInBounds_toArray, List.set_cons_zero, List.set_cons_succ, i64_w, i32_w]
       rfl
      refine pure_ (i := 11) (N := some 55) (v := undef) (a' := ?_) #[true, true, true, true, true, true, true, true, true, true, true, true, false, false, false, false, false, false, false, false, false, false, false, false, false] rfl rfl (any_of HT_.out (by kernel_rfl)) (fun _ _ _ h => h) (Or.inr ⟨by rfl, rfl⟩) ?_ ?_
      rotate_left
      ·
       simp only [Act.put, List.setIfInBounds_toArray, List.set_cons_zero, List.set_cons_succ, i64_w, i32_w]
       rfl
      refine pure_ (i := 12) (N := some 56) (v := undef) (a' := ?_) #[true, true, true, true, true, true, true, true, true, true, true, true, true, false, false, false, false, false, false, false, false, false, false, false, false] rfl rfl (any_of HT_.out (by kernel_rfl)) (fun _ _ _ h => h) (Or.inr ⟨by rfl, rfl⟩) ?_ ?_
      rotate_left
      ·
       simp only [Act.put, List.setIfInBounds_toArray, List.set_cons_zero, List.set_cons_succ, i64_w, i32_w]
       rfl
      refine pure_ (i := 13) (N := some 57) (v := undef) (a' := ?_) #[true, true, true, true, true, true, true, true, true, true, true, true, true, true, false, false, false, false, false, false, false, false, false, false, false] rfl rfl (any_of HT_.out (by kernel_rfl)) (fun _ _ _ h => h) (Or.inr ⟨by rfl, rfl⟩) ?_ ?_
      rotate_left
      ·
       simp only [Act.put, List.setIfInBounds_toArray, List.set_cons_zero, List.set_cons_succ, i64_w, i32_w]
       rfl
      refine pure_ (i := 14) (N := some 58) (v := undef) (a' := ?_) #[true, true, true, true, true, true, true, true, true, true, true, true, true, true, true, false, false, false, false, false, false, false, false, false, false] rfl rfl (any_of HT_.out (by kernel_rfl)) (fun _ _ _ h => h) (Or.inr ⟨by rfl, rfl⟩) ?_ ?_
      rotate_left
      ·
       simp only [Act.put, List.setIfInBounds_toArray, List.set_cons_zero, List.set_cons_succ, i64_w, i32_w]
       rfl
      refine pure_ (i := 15) (N := some 59) (v := undef) (a' := ?_) #[true, true, true, true, true, true, true, true, true, true, true, true, true, true, true, true, false, false, false, false, false, false, false, false, false] rfl rfl (any_of HT_.out (by kernel_rfl)) (fun _ _ _ h => h) (Or.inr ⟨by rfl, rfl⟩) ?_ ?_
      rotate_left
      ·
       simp only [Act.put, List.setIfInBounds_toArray, List.set_cons_zero, List.set_cons_succ, i64_w, i32_w]
       rfl
      refine pure_ (i := 16) (N := some 60) (v := undef) (a' := ?_) #[true, true, true, true, true, true, true, true, true, true, true, true, true, true, true, true, true, false, false, false, false, false, false, false, false] rfl rfl (any_of HT_.out (by kernel_rfl)) (fun _ _ _ h => h) (Or.inr ⟨by rfl, rfl⟩) ?_ ?_
      rotate_left
      ·
       simp only [Act.put, List.setIfInBounds_toArray, List.set_cons_zero, List.set_cons_succ, i64_w, i32_w]
       rfl
      refine pure_ (i := 17) (N := some 61) (v := ?_) (a' := ?_) #[true, true, true, true, true, true, true, true, true, true, true, true, true, true, true, true, true, true, false, false, false, false, false, false, false] rfl rfl (any_of HT_.out (by kernel_rfl)) (fun _ _ _ h => h) (Or.inl ⟨by rfl, ?_⟩) ?_ ?_
      rotate_left
      ·
       intro w'
       go_simp
       with_reducible rfl
      rotate_left
      ·
       simp only [Act.put, List.setIfInBounds_toArray, List.set_cons_zero, List.set_cons_succ, i64_w, i32_w]
       rfl
      refine pure_ (i := 18) (N := some 62) (v := ?_) (a' := ?_) #[true, true, true, true, true, true, true, true, true, true, true, true, true, true, true, true, true, true, true, false, false, false, false, false, false] rfl rfl (any_of HT_.out (by kernel_rfl)) (fun _ _ _ h => h) (Or.inl ⟨by rfl, ?_⟩) ?_ ?_
      rotate_left
      ·
       intro w'
       go_simp
       with_reducible rfl
      rotate_left
      ·
       simp only [Act.put, List.setIfInBounds_toArray, List.set_cons_zero, List.set_cons_succ, i64_w, i32_w]
       rfl
      refine pure_ (i := 19) (N := some 63) (v := undef) (a' := ?_) #[true, true, true, true, true, true, true, true, true, true, true, true, true, true, true, true, true, true, true, true, false, false, false, false, false] rfl rfl (any_of HT_.out (by kernel_rfl)) (fun _ _ _ h => h) (Or.inr ⟨by rfl, rfl⟩) ?_ ?_
      rotate_left
      ·
       simp only [Act.put, List.setIfInBounds_toArray, List.set_cons_zero, List.set_cons_succ, i64_w, i32_w]
       rfl
      refine pure_ (i := 20) (N := some 64) (v := undef) (a' := ?_) #[true, true, true, true, true, true, true, true, true, true, true, true, true, true, true, true, true, true, true, true, true, false, false, false, false] rfl rfl (any_of HT_.out (by kernel_rfl)) (fun _ _ _ h => h) (Or.inr ⟨by rfl, rfl⟩) ?_ ?_
      rotate_left
      ·
       simp only [Act.put, List.setIfInBounds_toArray, List.set_cons_zero, List.set_cons_succ, i64_w, i32_w]
       rfl
      refine pure_ (i := 21) (N := some 65) (v := undef) (a' := ?_) #[true, true, true, true, true, true, true, true, true, true, true, true, true, true, true, true, true, true, true, true, true, true, false, false, false] rfl rfl (any_of HT_.out (by kernel_rfl)) (fun _ _ _ h => h) (Or.inr ⟨by rfl, rfl⟩) ?_ ?_
      rotate_left
      ·
       simp only [Act.put, List.setIfInBounds_toArray, List.set_cons_zero, List.set_cons_succ, i64_w, i32_w]
       rfl
      refine pure_ (i := 22) (N := some 66) (v := undef) (a' := ?_) #[true, true, true, true, true, true, true, true, true, true, true, true, true, true, true, true, true, true, true, true, true, true, true, false, false] rfl rfl (any_of HT_.out (by kernel_rfl)) (fun _ _ _ h => h) (Or.inr ⟨by rfl, rfl⟩) ?_ ?_
      rotate_left
      ·
       simp only [Act.put, List.setIfInBounds_toArray, List.set_cons_zero, List.set_cons_succ, i64_w, i32_w]
       rfl
      refine pure_ (i := 23) (N := some 67) (v := undef) (a' := ?_) #[true, true, true, true, true, true, true, true, true, true, true, true, true, true, true, true, true, true, true, true, true, true, true, true, false] rfl rfl (any_of HT_.out (by kernel_rfl)) (fun _ _ _ h => h) (Or.inr ⟨by rfl, rfl⟩) ?_ ?_
      rotate_left
      ·
       simp only [Act.put, List.setIfInBounds_toArray, List.set_cons_zero, List.set_cons_succ, i64_w, i32_w]
       rfl
      refine pure_ (i := 24) (N := some 68) (v := ?_) (a' := ?_) #[true, true, true, true, true, true, true, true, true, true, true, true, true, true, true, true, true, true, true, true, true, true, true, true, true] rfl rfl (any_of HT_.out (by kernel_rfl)) (fun _ _ _ h => h) (Or.inl ⟨by rfl, ?_⟩) ?_ ?_
      rotate_left
      ·
       intro w'
       go_simp
       with_reducible rfl
      rotate_left
      ·
       simp only [Act.put, List.setIfInBounds_toArray, List.set_cons_zero, List.set_cons_succ, i64_w, i32_w]
       rfl
      refine done_ (done_of HT_.out (by kernel_rfl)) ?_
      try go_wp2
      go_meet
      case rel => exact ⟨_, (true), (by first | rfl | (simp; done) | (simp [*]; done)), H', ⟨by have := HJ7.out; first | omega | exact Nat.le_refl _⟩, ⟨by (with_reducible repeat (first | refine bN ?_ _ | refine bD ?_ | refine bA ?_ _)); exact BK310.out⟩, ⟨by (with_reducible repeat (first | refine bN ?_ _ | refine bD ?_ | refine bA ?_ _)); exact BK311.out⟩, ⟨by (with_reducible repeat (first | refine bN ?_ _ | refine bD ?_ | refine bA ?_ _)); exact BK312.out⟩, ⟨by (with_reducible repeat (first | refine bN ?_ _ | refine bD ?_ | refine bA ?_ _)); exact BK313.out⟩, ⟨by repeat (first | (with_reducible first | exact HB.out | apply bL | apply bW | apply b1 | refine bS ?_ GE310.out | refine bS ?_ GE311.out | refine bS ?_ GE312.out | refine bS ?_ GE313.out) | exact HB.out)⟩⟩
    case rest =>
     clear HC65
     try clear c1
     try clear c2
     try clear p2
     try clear c6
     try clear c19
     try clear c21
     try clear c25
     try clear c69
     obtain ⟨kq, x68_64, rfl, HA, HJ64, BK310, BK311, BK312, BK313, HB⟩ := hcut
     cases kq with
     | zero => exact absurd HA.out (by simp [bournelaw09_SpanGrows.j1])
     | succ kj64 =>
      have H := HA.out
      clear HA
      simp only [bournelaw09_SpanGrows.j1] at H
      by_cases c96 : x68_64 = true
      ·
       subst c96
       have H1 : (some false) = some r := by rw [if_pos rfl] at H; exact H
       clear H
       have H := H1
       clear H1
       exact absurd (H.trans (congrArg some hT.out)) (by simp)
      ·
       replace c96 := Bool.eq_false_iff.mpr c96
       subst c96
       have H1 : ((span_Meet.f a0_0 a0_1 a1_0 a1_1).bind fun bt331 => ((span_Meet.f a2_0 a2_1 a3_0 a3_1).bind fun bt335 => ((span_Scale.f kj64 a0_0 a0_1 a4 a5).bind fun bt339 => ((span_Scale.f kj64 a2_0 a2_1 a4 a5).bind fun bt343 => (if bt331.2.2 = true then (if bt335.2.2 = true then ((span_Within.f bt331.1 bt331.2.1 bt335.1 bt335.2.1).bind fun t347 => (if t347 = true then (if bt343.2.2 = true then (if bt339.2.2 = true then ((span_Within.f bt339.1 bt339.2.1 bt343.1 bt343.2.1).bind fun t348 => (bournelaw09_SpanGrows.j2 kj64 t314 (!t348) a0_0 a0_1 a1_0 a1_1 a2_0 a2_1 a3_0 a3_1)) else (bournelaw09_SpanGrows.j2 kj64 t314 true a0_0 a0_1 a1_0 a1_1 a2_0 a2_1 a3_0 a3_1)) else (bournelaw09_SpanGrows.j2 kj64 t314 false a0_0 a0_1 a1_0 a1_1 a2_0 a2_1 a3_0 a3_1)) else (bournelaw09_SpanGrows.j2 kj64 t314 true a0_0 a0_1 a1_0 a1_1 a2_0 a2_1 a3_0 a3_1))) else (bournelaw09_SpanGrows.j2 kj64 t314 true a0_0 a0_1 a1_0 a1_1 a2_0 a2_1 a3_0 a3_1)) else (if bt343.2.2 = true then (if bt339.2.2 = true then ((span_Within.f bt339.1 bt339.2.1 bt343.1 bt343.2.1).bind fun t349 => (bournelaw09_SpanGrows.j2 kj64 t314 (!t349) a0_0 a0_1 a1_0 a1_1 a2_0 a2_1 a3_0 a3_1)) else (bournelaw09_SpanGrows.j2 kj64 t314 true a0_0 a0_1 a1_0 a1_1 a2_0 a2_1 a3_0 a3_1)) else (bournelaw09_SpanGrows.j2 kj64 t314 false a0_0 a0_1 a1_0 a1_1 a2_0 a2_1 a3_0 a3_1))))))) = some r := by rw [if_neg (show ¬ (false = true) by decide)] at H; exact H
       clear H
       have H := H1
       clear H1
       replace H := Option.bind_eq_some_iff.mp H
       obtain ⟨⟨t331, t332, t333⟩, A970, H⟩ := H
       dsimp only at H
       have A97 := Aside0.mk A970
       clear A970
       replace H := Option.bind_eq_some_iff.mp H
       obtain ⟨⟨t335, t336, t337⟩, A980, H⟩ := H
       dsimp only at H
       have A98 := Aside0.mk A980
       clear A980
       replace H := Option.bind_eq_some_iff.mp H
       obtain ⟨⟨t339, t340, t341⟩, A990, H⟩ := H
       dsimp only at H
       have A99 := Aside0.mk A990
       clear A990
       replace H := Option.bind_eq_some_iff.mp H
       obtain ⟨⟨t343, t344, t345⟩, A1000, H⟩ := H
       dsimp only at H
       have A100 := Aside0.mk A1000
       clear A1000
       have HC101 := Aside0.mk H
       clear H
       have hnb102 := NB310_311.out
       have hnc102 := NB311_310.out
       have hnb103 := NB310_312.out
       have hnc103 := NB312_310.out
       have hnb104 := NB310_313.out
       have hnc104 := NB313_310.out
       have hcz105_0 : wc.cell? ⟨gb310, 0, none⟩ = some (.int .i64 a0_0) := (bC BK310.out 0).trans rfl
       have hcz105_1 : wc.cell? ⟨gb310, 1, none⟩ = some (.int .i64 a0_1) := (bC BK310.out 1).trans rfl
       have hfz105_0 := bF BK310.out 0
       have hfz105_1 := bF BK310.out 1
       have hnb106 := NB311_312.out
       have hnc106 := NB312_311.out
       have hnb107 := NB311_313.out
       have hnc107 := NB313_311.out
       have hcz108_0 : wc.cell? ⟨gb311, 0, none⟩ = some (.int .i64 a1_0) := (bC BK311.out 0).trans rfl
       have hcz108_1 : wc.cell? ⟨gb311, 1, none⟩ = some (.int .i64 a1_1) := (bC BK311.out 1).trans rfl
       have hfz108_0 := bF BK311.out 0
       have hfz108_1 := bF BK311.out 1
       go_upto_region 10 with (first | ((with_reducible refine gate_callee (f := 11) rfl ?_); refine goesL_ (some 72) rfl rfl Try.func11 (by kernel_rfl) rfl #[.agg #[.int .i64 a0_0, .int .i64 a0_1], .agg #[.int .i64 a1_0, .int .i64 a1_1]] rfl (by (try simp only [List.map_toArray, List.map_cons, List.map_nil]); first | done | rfl | (simp only [List.length_drop, List.length_take]; rfl)) ?_; (with_reducible refine (span_Meet.calls a0_0 a0_1 a1_0 a1_1 t331 t332 t333 _ A97.out).mono ?_); rintro e w109 ⟨rfl, hb⟩; refine ⟨_, rfl, ?_⟩; have n0_ := Aside0.mk (bB (g := gb310) (o := .cells #[.int .i64 a0_0, .int .i64 a0_1] 23 (0, 0)) (by (with_reducible repeat (first | refine bN ?_ _ | refine bD ?_ | refine bA ?_ _)); exact BK310.out) hb); have n1_ := Aside0.mk (bB (g := gb311) (o := .cells #[.int .i64 a1_0, .int .i64 a1_1] 23 (0, 0)) (by (with_reducible repeat (first | refine bN ?_ _ | refine bD ?_ | refine bA ?_ _)); exact BK311.out) hb); have n2_ := Aside0.mk (bB (g := gb312) (o := .cells #[.int .i64 a2_0, .int .i64 a2_1] 23 (0, 0)) (by (with_reducible repeat (first | refine bN ?_ _ | refine bD ?_ | refine bA ?_ _)); exact BK312.out) hb); have n3_ := Aside0.mk (bB (g := gb313) (o := .cells #[.int .i64 a3_0, .int .i64 a3_1] 23 (0, 0)) (by (with_reducible repeat (first | refine bN ?_ _ | refine bD ?_ | refine bA ?_ _)); exact BK313.out) hb); have n4_ := Aside0.mk (bP (by repeat (first | (with_reducible first | exact HB.out | apply bL | apply bW | apply b1 | refine bS ?_ GE310.out | refine bS ?_ GE311.out | refine bS ?_ GE312.out | refine bS ?_ GE313.out) | exact HB.out)) hb); clear BK310; clear BK311; clear BK312; clear BK313; clear HB; have BK310 := n0_; have BK311 := n1_; have BK312 := n2_; have BK313 := n3_; have HB := n4_; clear n0_ n1_ n2_ n3_ n4_; (try clear hb); (try clear hb2); (try clear hk); (try clear hi)) | ((with_reducible refine gate_dst (N := 14) rfl ?_); refine box_event ?hg (N := 14) ?hd (cs := #[.int .i64 0, .int .i64 0]) (t := 23) ?hr ?_; (case hd => rfl); (case hg => rfl); (case hr => first | (go_simp; done) | (go_simp; rfl)); intro gb334 hg w110 hbox hb; have n0_ := Aside0.mk (bB (g := gb310) (o := .cells #[.int .i64 a0_0, .int .i64 a0_1] 23 (0, 0)) (by (with_reducible repeat (first | refine bN ?_ _ | refine bD ?_ | refine bA ?_ _)); exact BK310.out) hb); have n1_ := Aside0.mk (bB (g := gb311) (o := .cells #[.int .i64 a1_0, .int .i64 a1_1] 23 (0, 0)) (by (with_reducible repeat (first | refine bN ?_ _ | refine bD ?_ | refine bA ?_ _)); exact BK311.out) hb); have n2_ := Aside0.mk (bB (g := gb312) (o := .cells #[.int .i64 a2_0, .int .i64 a2_1] 23 (0, 0)) (by (with_reducible repeat (first | refine bN ?_ _ | refine bD ?_ | refine bA ?_ _)); exact BK312.out) hb); have n3_ := Aside0.mk (bB (g := gb313) (o := .cells #[.int .i64 a3_0, .int .i64 a3_1] 23 (0, 0)) (by (with_reducible repeat (first | refine bN ?_ _ | refine bD ?_ | refine bA ?_ _)); exact BK313.out) hb); have n4_ := Aside0.mk (bP (by repeat (first | (with_reducible first | exact HB.out | apply bL | apply bW | apply b1 | refine bS ?_ GE310.out | refine bS ?_ GE311.out | refine bS ?_ GE312.out | refine bS ?_ GE313.out) | exact HB.out)) hb); have n5_ := Aside0.mk (hbox); have n6_ := Aside0.mk ((by rw [hg]; exact (bZ (by repeat (first | (with_reducible first | exact HB.out | apply bL | apply bW | apply b1 | refine bS ?_ GE310.out | refine bS ?_ GE311.out | refine bS ?_ GE312.out | refine bS ?_ GE313.out) | exact HB.out))) : w.heap.size ≤ gb334)); have n7_ := Aside0.mk ((by rw [hg]; exact (bZ (by repeat (first | (with_reducible first | exact HB.out | apply bL | apply bW | apply b1 | refine bS ?_ GE310.out | refine bS ?_ GE311.out | refine bS ?_ GE312.out | refine bS ?_ GE313.out) | exact HB.out))) : w.heap.size ≤ gb334)); have n8_ := Aside0.mk ((by rw [hg]; exact Nat.ne_of_lt (bT (g := gb310) (o := .cells #[.int .i64 a0_0, .int .i64 a0_1] 23 (0, 0)) (by (with_reducible repeat (first | refine bN ?_ _ | refine bD ?_ | refine bA ?_ _)); exact BK310.out)) : gb310 ≠ gb334)); have n9_ := Aside0.mk ((by rw [hg]; exact Nat.ne_of_gt (bT (g := gb310) (o := .cells #[.int .i64 a0_0, .int .i64 a0_1] 23 (0, 0)) (by (with_reducible repeat (first | refine bN ?_ _ | refine bD ?_ | refine bA ?_ _)); exact BK310.out)) : gb334 ≠ gb310)); have n10_ := Aside0.mk ((by rw [hg]; exact Nat.ne_of_lt (bT (g := gb311) (o := .cells #[.int .i64 a1_0, .int .i64 a1_1] 23 (0, 0)) (by (with_reducible repeat (first | refine bN ?_ _ | refine bD ?_ | refine bA ?_ _)); exact BK311.out)) : gb311 ≠ gb334)); have n11_ := Aside0.mk ((by rw [hg]; exact Nat.ne_of_gt (bT (g := gb311) (o := .cells #[.int .i64 a1_0, .int .i64 a1_1] 23 (0, 0)) (by (with_reducible repeat (first | refine bN ?_ _ | refine bD ?_ | refine bA ?_ _)); exact BK311.out)) : gb334 ≠ gb311)); have n12_ := Aside0.mk ((by rw [hg]; exact Nat.ne_of_lt (bT (g := gb312) (o := .cells #[.int .i64 a2_0, .int .i64 a2_1] 23 (0, 0)) (by (with_reducible repeat (first | refine bN ?_ _ | refine bD ?_ | refine bA ?_ _)); exact BK312.out)) : gb312 ≠ gb334)); have n13_ := Aside0.mk ((by rw [hg]; exact Nat.ne_of_gt (bT (g := gb312) (o := .cells #[.int .i64 a2_0, .int .i64 a2_1] 23 (0, 0)) (by (with_reducible repeat (first | refine bN ?_ _ | refine bD ?_ | refine bA ?_ _)); exact BK312.out)) : gb334 ≠ gb312)); have n14_ := Aside0.mk ((by rw [hg]; exact Nat.ne_of_lt (bT (g := gb313) (o := .cells #[.int .i64 a3_0, .int .i64 a3_1] 23 (0, 0)) (by (with_reducible repeat (first | refine bN ?_ _ | refine bD ?_ | refine bA ?_ _)); exact BK313.out)) : gb313 ≠ gb334)); have n15_ := Aside0.mk ((by rw [hg]; exact Nat.ne_of_gt (bT (g := gb313) (o := .cells #[.int .i64 a3_0, .int .i64 a3_1] 23 (0, 0)) (by (with_reducible repeat (first | refine bN ?_ _ | refine bD ?_ | refine bA ?_ _)); exact BK313.out)) : gb334 ≠ gb313)); clear BK310; clear BK311; clear BK312; clear BK313; clear HB; have BK310 := n0_; have BK311 := n1_; have BK312 := n2_; have BK313 := n3_; have HB := n4_; have BK334 := n5_; have GW334 := n6_; have GE334 := n7_; have NB310_334 := n8_; have NB334_310 := n9_; have NB311_334 := n10_; have NB334_311 := n11_; have NB312_334 := n12_; have NB334_312 := n13_; have NB313_334 := n14_; have NB334_313 := n15_; clear n0_ n1_ n2_ n3_ n4_ n5_ n6_ n7_ n8_ n9_ n10_ n11_ n12_ n13_ n14_ n15_; clear hb hbox hg; have hnb111 := NB334_310.out; have hnc111 := NB310_334.out; have hnb112 := NB334_311.out; have hnc112 := NB311_334.out; have hnb113 := NB334_312.out; have hnc113 := NB312_334.out; have hnb114 := NB334_313.out; have hnc114 := NB313_334.out; have hcz115_0 : w110.cell? ⟨gb334, 0, none⟩ = some (.int .i64 0) := (bC BK334.out 0).trans rfl; have hcz115_1 : w110.cell? ⟨gb334, 1, none⟩ = some (.int .i64 0) := (bC BK334.out 1).trans rfl; have hfz115_0 := bF BK334.out 0; have hfz115_1 := bF BK334.out 1; have hnb116 := NB312_313.out; have hnc116 := NB313_312.out; have hcz117_0 : w110.cell? ⟨gb312, 0, none⟩ = some (.int .i64 a2_0) := (bC BK312.out 0).trans rfl; have hcz117_1 : w110.cell? ⟨gb312, 1, none⟩ = some (.int .i64 a2_1) := (bC BK312.out 1).trans rfl; have hfz117_0 := bF BK312.out 0; have hfz117_1 := bF BK312.out 1; have hcz118_0 : w110.cell? ⟨gb313, 0, none⟩ = some (.int .i64 a3_0) := (bC BK313.out 0).trans rfl; have hcz118_1 : w110.cell? ⟨gb313, 1, none⟩ = some (.int .i64 a3_1) := (bC BK313.out 1).trans rfl; have hfz118_0 := bF BK313.out 0; have hfz118_1 := bF BK313.out 1) | ((with_reducible refine gate_callee (f := 11) rfl ?_); refine goesL_ (some 78) rfl rfl Try.func11 (by kernel_rfl) rfl #[.agg #[.int .i64 a2_0, .int .i64 a2_1], .agg #[.int .i64 a3_0, .int .i64 a3_1]] rfl (by (try simp only [List.map_toArray, List.map_cons, List.map_nil]); first | done | rfl | (simp only [List.length_drop, List.length_take]; rfl)) ?_; (with_reducible refine (span_Meet.calls a2_0 a2_1 a3_0 a3_1 t335 t336 t337 _ A98.out).mono ?_); rintro e w119 ⟨rfl, hb⟩; refine ⟨_, rfl, ?_⟩; have n0_ := Aside0.mk (bB (g := gb310) (o := .cells #[.int .i64 a0_0, .int .i64 a0_1] 23 (0, 0)) (by (with_reducible repeat (first | refine bN ?_ _ | refine bD ?_ | refine bA ?_ _)); refine bR ?_ NB310_334.out _; (with_reducible repeat (first | refine bN ?_ _ | refine bD ?_ | refine bA ?_ _)); refine bR ?_ NB310_334.out _; (with_reducible repeat (first | refine bN ?_ _ | refine bD ?_ | refine bA ?_ _)); exact BK310.out) hb); have n1_ := Aside0.mk (bB (g := gb311) (o := .cells #[.int .i64 a1_0, .int .i64 a1_1] 23 (0, 0)) (by (with_reducible repeat (first | refine bN ?_ _ | refine bD ?_ | refine bA ?_ _)); refine bR ?_ NB311_334.out _; (with_reducible repeat (first | refine bN ?_ _ | refine bD ?_ | refine bA ?_ _)); refine bR ?_ NB311_334.out _; (with_reducible repeat (first | refine bN ?_ _ | refine bD ?_ | refine bA ?_ _)); exact BK311.out) hb); have n2_ := Aside0.mk (bB (g := gb312) (o := .cells #[.int .i64 a2_0, .int .i64 a2_1] 23 (0, 0)) (by (with_reducible repeat (first | refine bN ?_ _ | refine bD ?_ | refine bA ?_ _)); refine bR ?_ NB312_334.out _; (with_reducible repeat (first | refine bN ?_ _ | refine bD ?_ | refine bA ?_ _)); refine bR ?_ NB312_334.out _; (with_reducible repeat (first | refine bN ?_ _ | refine bD ?_ | refine bA ?_ _)); exact BK312.out) hb); have n3_ := Aside0.mk (bB (g := gb313) (o := .cells #[.int .i64 a3_0, .int .i64 a3_1] 23 (0, 0)) (by (with_reducible repeat (first | refine bN ?_ _ | refine bD ?_ | refine bA ?_ _)); refine bR ?_ NB313_334.out _; (with_reducible repeat (first | refine bN ?_ _ | refine bD ?_ | refine bA ?_ _)); refine bR ?_ NB313_334.out _; (with_reducible repeat (first | refine bN ?_ _ | refine bD ?_ | refine bA ?_ _)); exact BK313.out) hb); have n4_ := Aside0.mk (bB (g := gb334) (o := .cells #[.int .i64 t331, .int .i64 t332] 23 (0, 0)) (by (with_reducible repeat (first | refine bN ?_ _ | refine bD ?_ | refine bA ?_ _)); refine bU (cs := #[.int .i64 t331, .int .i64 0]) ?_ 1 _ rfl; (with_reducible repeat (first | refine bN ?_ _ | refine bD ?_ | refine bA ?_ _)); refine bU (cs := #[.int .i64 0, .int .i64 0]) ?_ 0 _ rfl; (with_reducible repeat (first | refine bN ?_ _ | refine bD ?_ | refine bA ?_ _)); exact BK334.out) hb); have n5_ := Aside0.mk (bP (by repeat (first | (with_reducible first | exact HB.out | apply bL | apply bW | apply b1 | refine bS ?_ GE310.out | refine bS ?_ GE311.out | refine bS ?_ GE312.out | refine bS ?_ GE313.out | refine bS ?_ GE334.out) | exact HB.out)) hb); clear BK310; clear BK311; clear BK312; clear BK313; clear BK334; clear HB; have BK310 := n0_; have BK311 := n1_; have BK312 := n2_; have BK313 := n3_; have BK334 := n4_; have HB := n5_; clear n0_ n1_ n2_ n3_ n4_ n5_; (try clear hb); (try clear hb2); (try clear hk); (try clear hi)) | ((with_reducible refine gate_dst (N := 16) rfl ?_); refine box_event ?hg (N := 16) ?hd (cs := #[.int .i64 0, .int .i64 0]) (t := 23) ?hr ?_; (case hd => rfl); (case hg => rfl); (case hr => first | (go_simp; done) | (go_simp; rfl)); intro gb338 hg w120 hbox hb; have n0_ := Aside0.mk (bB (g := gb310) (o := .cells #[.int .i64 a0_0, .int .i64 a0_1] 23 (0, 0)) (by (with_reducible repeat (first | refine bN ?_ _ | refine bD ?_ | refine bA ?_ _)); exact BK310.out) hb); have n1_ := Aside0.mk (bB (g := gb311) (o := .cells #[.int .i64 a1_0, .int .i64 a1_1] 23 (0, 0)) (by (with_reducible repeat (first | refine bN ?_ _ | refine bD ?_ | refine bA ?_ _)); exact BK311.out) hb); have n2_ := Aside0.mk (bB (g := gb312) (o := .cells #[.int .i64 a2_0, .int .i64 a2_1] 23 (0, 0)) (by (with_reducible repeat (first | refine bN ?_ _ | refine bD ?_ | refine bA ?_ _)); exact BK312.out) hb); have n3_ := Aside0.mk (bB (g := gb313) (o := .cells #[.int .i64 a3_0, .int .i64 a3_1] 23 (0, 0)) (by (with_reducible repeat (first | refine bN ?_ _ | refine bD ?_ | refine bA ?_ _)); exact BK313.out) hb); have n4_ := Aside0.mk (bB (g := gb334) (o := .cells #[.int .i64 t331, .int .i64 t332] 23 (0, 0)) (by (with_reducible repeat (first | refine bN ?_ _ | refine bD ?_ | refine bA ?_ _)); exact BK334.out) hb); have n5_ := Aside0.mk (bP (by repeat (first | (with_reducible first | exact HB.out | apply bL | apply bW | apply b1 | refine bS ?_ GE310.out | refine bS ?_ GE311.out | refine bS ?_ GE312.out | refine bS ?_ GE313.out | refine bS ?_ GE334.out) | exact HB.out)) hb); have n6_ := Aside0.mk (hbox); have n7_ := Aside0.mk ((by rw [hg]; exact (bZ (by repeat (first | (with_reducible first | exact HB.out | apply bL | apply bW | apply b1 | refine bS ?_ GE310.out | refine bS ?_ GE311.out | refine bS ?_ GE312.out | refine bS ?_ GE313.out | refine bS ?_ GE334.out) | exact HB.out))) : w.heap.size ≤ gb338)); have n8_ := Aside0.mk ((by rw [hg]; exact (bZ (by repeat (first | (with_reducible first | exact HB.out | apply bL | apply bW | apply b1 | refine bS ?_ GE310.out | refine bS ?_ GE311.out | refine bS ?_ GE312.out | refine bS ?_ GE313.out | refine bS ?_ GE334.out) | exact HB.out))) : w.heap.size ≤ gb338)); have n9_ := Aside0.mk ((by rw [hg]; exact Nat.ne_of_lt (bT (g := gb310) (o := .cells #[.int .i64 a0_0, .int .i64 a0_1] 23 (0, 0)) (by (with_reducible repeat (first | refine bN ?_ _ | refine bD ?_ | refine bA ?_ _)); exact BK310.out)) : gb310 ≠ gb338)); have n10_ := Aside0.mk ((by rw [hg]; exact Nat.ne_of_gt (bT (g := gb310) (o := .cells #[.int .i64 a0_0, .int .i64 a0_1] 23 (0, 0)) (by (with_reducible repeat (first | refine bN ?_ _ | refine bD ?_ | refine bA ?_ _)); exact BK310.out)) : gb338 ≠ gb310)); have n11_ := Aside0.mk ((by rw [hg]; exact Nat.ne_of_lt (bT (g := gb311) (o := .cells #[.int .i64 a1_0, .int .i64 a1_1] 23 (0, 0)) (by (with_reducible repeat (first | refine bN ?_ _ | refine bD ?_ | refine bA ?_ _)); exact BK311.out)) : gb311 ≠ gb338)); have n12_ := Aside0.mk ((by rw [hg]; exact Nat.ne_of_gt (bT (g := gb311) (o := .cells #[.int .i64 a1_0, .int .i64 a1_1] 23 (0, 0)) (by (with_reducible repeat (first | refine bN ?_ _ | refine bD ?_ | refine bA ?_ _)); exact BK311.out)) : gb338 ≠ gb311)); have n13_ := Aside0.mk ((by rw [hg]; exact Nat.ne_of_lt (bT (g := gb312) (o := .cells #[.int .i64 a2_0, .int .i64 a2_1] 23 (0, 0)) (by (with_reducible repeat (first | refine bN ?_ _ | refine bD ?_ | refine bA ?_ _)); exact BK312.out)) : gb312 ≠ gb338)); have n14_ := Aside0.mk ((by rw [hg]; exact Nat.ne_of_gt (bT (g := gb312) (o := .cells #[.int .i64 a2_0, .int .i64 a2_1] 23 (0, 0)) (by (with_reducible repeat (first | refine bN ?_ _ | refine bD ?_ | refine bA ?_ _)); exact BK312.out)) : gb338 ≠ gb312)); have n15_ := Aside0.mk ((by rw [hg]; exact Nat.ne_of_lt (bT (g := gb313) (o := .cells #[.int .i64 a3_0, .int .i64 a3_1] 23 (0, 0)) (by (with_reducible repeat (first | refine bN ?_ _ | refine bD ?_ | refine bA ?_ _)); exact BK313.out)) : gb313 ≠ gb338)); have n16_ := Aside0.mk ((by rw [hg]; exact Nat.ne_of_gt (bT (g := gb313) (o := .cells #[.int .i64 a3_0, .int .i64 a3_1] 23 (0, 0)) (by (with_reducible repeat (first | refine bN ?_ _ | refine bD ?_ | refine bA ?_ _)); exact BK313.out)) : gb338 ≠ gb313)); have n17_ := Aside0.mk ((by rw [hg]; exact Nat.ne_of_lt (bT (g := gb334) (o := .cells #[.int .i64 t331, .int .i64 t332] 23 (0, 0)) (by (with_reducible repeat (first | refine bN ?_ _ | refine bD ?_ | refine bA ?_ _)); exact BK334.out)) : gb334 ≠ gb338)); have n18_ := Aside0.mk ((by rw [hg]; exact Nat.ne_of_gt (bT (g := gb334) (o := .cells #[.int .i64 t331, .int .i64 t332] 23 (0, 0)) (by (with_reducible repeat (first | refine bN ?_ _ | refine bD ?_ | refine bA ?_ _)); exact BK334.out)) : gb338 ≠ gb334)); clear BK310; clear BK311; clear BK312; clear BK313; clear BK334; clear HB; have BK310 := n0_; have BK311 := n1_; have BK312 := n2_; have BK313 := n3_; have BK334 := n4_; have HB := n5_; have BK338 := n6_; have GW338 := n7_; have GE338 := n8_; have NB310_338 := n9_; have NB338_310 := n10_; have NB311_338 := n11_; have NB338_311 := n12_; have NB312_338 := n13_; have NB338_312 := n14_; have NB313_338 := n15_; have NB338_313 := n16_; have NB334_338 := n17_; have NB338_334 := n18_; clear n0_ n1_ n2_ n3_ n4_ n5_ n6_ n7_ n8_ n9_ n10_ n11_ n12_ n13_ n14_ n15_ n16_ n17_ n18_; clear hb hbox hg; have hnb121 := NB338_310.out; have hnc121 := NB310_338.out; have hnb122 := NB338_311.out; have hnc122 := NB311_338.out; have hnb123 := NB338_312.out; have hnc123 := NB312_338.out; have hnb124 := NB338_313.out; have hnc124 := NB313_338.out; have hnb125 := NB338_334.out; have hnc125 := NB334_338.out; have hcz126_0 : w120.cell? ⟨gb338, 0, none⟩ = some (.int .i64 0) := (bC BK338.out 0).trans rfl; have hcz126_1 : w120.cell? ⟨gb338, 1, none⟩ = some (.int .i64 0) := (bC BK338.out 1).trans rfl; have hfz126_0 := bF BK338.out 0; have hfz126_1 := bF BK338.out 1; have hcz127_0 : w120.cell? ⟨gb310, 0, none⟩ = some (.int .i64 a0_0) := (bC BK310.out 0).trans rfl; have hcz127_1 : w120.cell? ⟨gb310, 1, none⟩ = some (.int .i64 a0_1) := (bC BK310.out 1).trans rfl; have hfz127_0 := bF BK310.out 0; have hfz127_1 := bF BK310.out 1) | ((with_reducible refine gate_callee (f := 9) rfl ?_); refine goesL_ (some 85) rfl rfl Try.func9 (by kernel_rfl) rfl #[.agg #[.int .i64 a0_0, .int .i64 a0_1], .int .i64 a4, .int .i64 a5] rfl (by (try simp only [List.map_toArray, List.map_cons, List.map_nil]); first | done | rfl | (simp only [List.length_drop, List.length_take]; rfl)) ?_; (with_reducible refine (span_Scale.calls kj64 a0_0 a0_1 a4 a5 t339 t340 t341 _ A99.out).mono ?_); rintro e w128 ⟨rfl, hb⟩; refine ⟨_, rfl, ?_⟩; have n0_ := Aside0.mk (bB (g := gb310) (o := .cells #[.int .i64 a0_0, .int .i64 a0_1] 23 (0, 0)) (by (with_reducible repeat (first | refine bN ?_ _ | refine bD ?_ | refine bA ?_ _)); refine bR ?_ NB310_338.out _; (with_reducible repeat (first | refine bN ?_ _ | refine bD ?_ | refine bA ?_ _)); refine bR ?_ NB310_338.out _; (with_reducible repeat (first | refine bN ?_ _ | refine bD ?_ | refine bA ?_ _)); exact BK310.out) hb); have n1_ := Aside0.mk (bB (g := gb311) (o := .cells #[.int .i64 a1_0, .int .i64 a1_1] 23 (0, 0)) (by (with_reducible repeat (first | refine bN ?_ _ | refine bD ?_ | refine bA ?_ _)); refine bR ?_ NB311_338.out _; (with_reducible repeat (first | refine bN ?_ _ | refine bD ?_ | refine bA ?_ _)); refine bR ?_ NB311_338.out _; (with_reducible repeat (first | refine bN ?_ _ | refine bD ?_ | refine bA ?_ _)); exact BK311.out) hb); have n2_ := Aside0.mk (bB (g := gb312) (o := .cells #[.int .i64 a2_0, .int .i64 a2_1] 23 (0, 0)) (by (with_reducible repeat (first | refine bN ?_ _ | refine bD ?_ | refine bA ?_ _)); refine bR ?_ NB312_338.out _; (with_reducible repeat (first | refine bN ?_ _ | refine bD ?_ | refine bA ?_ _)); refine bR ?_ NB312_338.out _; (with_reducible repeat (first | refine bN ?_ _ | refine bD ?_ | refine bA ?_ _)); exact BK312.out) hb); have n3_ := Aside0.mk (bB (g := gb313) (o := .cells #[.int .i64 a3_0, .int .i64 a3_1] 23 (0, 0)) (by (with_reducible repeat (first | refine bN ?_ _ | refine bD ?_ | refine bA ?_ _)); refine bR ?_ NB313_338.out _; (with_reducible repeat (first | refine bN ?_ _ | refine bD ?_ | refine bA ?_ _)); refine bR ?_ NB313_338.out _; (with_reducible repeat (first | refine bN ?_ _ | refine bD ?_ | refine bA ?_ _)); exact BK313.out) hb); have n4_ := Aside0.mk (bB (g := gb334) (o := .cells #[.int .i64 t331, .int .i64 t332] 23 (0, 0)) (by (with_reducible repeat (first | refine bN ?_ _ | refine bD ?_ | refine bA ?_ _)); refine bR ?_ NB334_338.out _; (with_reducible repeat (first | refine bN ?_ _ | refine bD ?_ | refine bA ?_ _)); refine bR ?_ NB334_338.out _; (with_reducible repeat (first | refine bN ?_ _ | refine bD ?_ | refine bA ?_ _)); exact BK334.out) hb); have n5_ := Aside0.mk (bB (g := gb338) (o := .cells #[.int .i64 t335, .int .i64 t336] 23 (0, 0)) (by (with_reducible repeat (first | refine bN ?_ _ | refine bD ?_ | refine bA ?_ _)); refine bU (cs := #[.int .i64 t335, .int .i64 0]) ?_ 1 _ rfl; (with_reducible repeat (first | refine bN ?_ _ | refine bD ?_ | refine bA ?_ _)); refine bU (cs := #[.int .i64 0, .int .i64 0]) ?_ 0 _ rfl; (with_reducible repeat (first | refine bN ?_ _ | refine bD ?_ | refine bA ?_ _)); exact BK338.out) hb); have n6_ := Aside0.mk (bP (by repeat (first | (with_reducible first | exact HB.out | apply bL | apply bW | apply b1 | refine bS ?_ GE310.out | refine bS ?_ GE311.out | refine bS ?_ GE312.out | refine bS ?_ GE313.out | refine bS ?_ GE334.out | refine bS ?_ GE338.out) | exact HB.out)) hb); clear BK310; clear BK311; clear BK312; clear BK313; clear BK334; clear BK338; clear HB; have BK310 := n0_; have BK311 := n1_; have BK312 := n2_; have BK313 := n3_; have BK334 := n4_; have BK338 := n5_; have HB := n6_; clear n0_ n1_ n2_ n3_ n4_ n5_ n6_; (try clear hb); (try clear hb2); (try clear hk); (try clear hi)) | ((with_reducible refine gate_dst (N := 18) rfl ?_); refine box_event ?hg (N := 18) ?hd (cs := #[.int .i64 0, .int .i64 0]) (t := 23) ?hr ?_; (case hd => rfl); (case hg => rfl); (case hr => first | (go_simp; done) | (go_simp; rfl)); intro gb342 hg w129 hbox hb; have n0_ := Aside0.mk (bB (g := gb310) (o := .cells #[.int .i64 a0_0, .int .i64 a0_1] 23 (0, 0)) (by (with_reducible repeat (first | refine bN ?_ _ | refine bD ?_ | refine bA ?_ _)); exact BK310.out) hb); have n1_ := Aside0.mk (bB (g := gb311) (o := .cells #[.int .i64 a1_0, .int .i64 a1_1] 23 (0, 0)) (by (with_reducible repeat (first | refine bN ?_ _ | refine bD ?_ | refine bA ?_ _)); exact BK311.out) hb); have n2_ := Aside0.mk (bB (g := gb312) (o := .cells #[.int .i64 a2_0, .int .i64 a2_1] 23 (0, 0)) (by (with_reducible repeat (first | refine bN ?_ _ | refine bD ?_ | refine bA ?_ _)); exact BK312.out) hb); have n3_ := Aside0.mk (bB (g := gb313) (o := .cells #[.int .i64 a3_0, .int .i64 a3_1] 23 (0, 0)) (by (with_reducible repeat (first | refine bN ?_ _ | refine bD ?_ | refine bA ?_ _)); exact BK313.out) hb); have n4_ := Aside0.mk (bB (g := gb334) (o := .cells #[.int .i64 t331, .int .i64 t332] 23 (0, 0)) (by (with_reducible repeat (first | refine bN ?_ _ | refine bD ?_ | refine bA ?_ _)); exact BK334.out) hb); have n5_ := Aside0.mk (bB (g := gb338) (o := .cells #[.int .i64 t335, .int .i64 t336] 23 (0, 0)) (by (with_reducible repeat (first | refine bN ?_ _ | refine bD ?_ | refine bA ?_ _)); exact BK338.out) hb); have n6_ := Aside0.mk (bP (by repeat (first | (with_reducible first | exact HB.out | apply bL | apply bW | apply b1 | refine bS ?_ GE310.out | refine bS ?_ GE311.out | refine bS ?_ GE312.out | refine bS ?_ GE313.out | refine bS ?_ GE334.out | refine bS ?_ GE338.out) | exact HB.out)) hb); have n7_ := Aside0.mk (hbox); have n8_ := Aside0.mk ((by rw [hg]; exact (bZ (by repeat (first | (with_reducible first | exact HB.out | apply bL | apply bW | apply b1 | refine bS ?_ GE310.out | refine bS ?_ GE311.out | refine bS ?_ GE312.out | refine bS ?_ GE313.out | refine bS ?_ GE334.out | refine bS ?_ GE338.out) | exact HB.out))) : w.heap.size ≤ gb342)); have n9_ := Aside0.mk ((by rw [hg]; exact (bZ (by repeat (first | (with_reducible first | exact HB.out | apply bL | apply bW | apply b1 | refine bS ?_ GE310.out | refine bS ?_ GE311.out | refine bS ?_ GE312.out | refine bS ?_ GE313.out | refine bS ?_ GE334.out | refine bS ?_ GE338.out) | exact HB.out))) : w.heap.size ≤ gb342)); have n10_ := Aside0.mk ((by rw [hg]; exact Nat.ne_of_lt (bT (g := gb310) (o := .cells #[.int .i64 a0_0, .int .i64 a0_1] 23 (0, 0)) (by (with_reducible repeat (first | refine bN ?_ _ | refine bD ?_ | refine bA ?_ _)); exact BK310.out)) : gb310 ≠ gb342)); have n11_ := Aside0.mk ((by rw [hg]; exact Nat.ne_of_gt (bT (g := gb310) (o := .cells #[.int .i64 a0_0, .int .i64 a0_1] 23 (0, 0)) (by (with_reducible repeat (first | refine bN ?_ _ | refine bD ?_ | refine bA ?_ _)); exact BK310.out)) : gb342 ≠ gb310)); have n12_ := Aside0.mk ((by rw [hg]; exact Nat.ne_of_lt (bT (g := gb311) (o := .cells #[.int .i64 a1_0, .int .i64 a1_1] 23 (0, 0)) (by (with_reducible repeat (first | refine bN ?_ _ | refine bD ?_ | refine bA ?_ _)); exact BK311.out)) : gb311 ≠ gb342)); have n13_ := Aside0.mk ((by rw [hg]; exact Nat.ne_of_gt (bT (g := gb311) (o := .cells #[.int .i64 a1_0, .int .i64 a1_1] 23 (0, 0)) (by (with_reducible repeat (first | refine bN ?_ _ | refine bD ?_ | refine bA ?_ _)); exact BK311.out)) : gb342 ≠ gb311)); have n14_ := Aside0.mk ((by rw [hg]; exact Nat.ne_of_lt (bT (g := gb312) (o := .cells #[.int .i64 a2_0, .int .i64 a2_1] 23 (0, 0)) (by (with_reducible repeat (first | refine bN ?_ _ | refine bD ?_ | refine bA ?_ _)); exact BK312.out)) : gb312 ≠ gb342)); have n15_ := Aside0.mk ((by rw [hg]; exact Nat.ne_of_gt (bT (g := gb312) (o := .cells #[.int .i64 a2_0, .int .i64 a2_1] 23 (0, 0)) (by (with_reducible repeat (first | refine bN ?_ _ | refine bD ?_ | refine bA ?_ _)); exact BK312.out)) : gb342 ≠ gb312)); have n16_ := Aside0.mk ((by rw [hg]; exact Nat.ne_of_lt (bT (g := gb313) (o := .cells #[.int .i64 a3_0, .int .i64 a3_1] 23 (0, 0)) (by (with_reducible repeat (first | refine bN ?_ _ | refine bD ?_ | refine bA ?_ _)); exact BK313.out)) : gb313 ≠ gb342)); have n17_ := Aside0.mk ((by rw [hg]; exact Nat.ne_of_gt (bT (g := gb313) (o := .cells #[.int .i64 a3_0, .int .i64 a3_1] 23 (0, 0)) (by (with_reducible repeat (first | refine bN ?_ _ | refine bD ?_ | refine bA ?_ _)); exact BK313.out)) : gb342 ≠ gb313)); have n18_ := Aside0.mk ((by rw [hg]; exact Nat.ne_of_lt (bT (g := gb334) (o := .cells #[.int .i64 t331, .int .i64 t332] 23 (0, 0)) (by (with_reducible repeat (first | refine bN ?_ _ | refine bD ?_ | refine bA ?_ _)); exact BK334.out)) : gb334 ≠ gb342)); have n19_ := Aside0.mk ((by rw [hg]; exact Nat.ne_of_gt (bT (g := gb334) (o := .cells #[.int .i64 t331, .int .i64 t332] 23 (0, 0)) (by (with_reducible repeat (first | refine bN ?_ _ | refine bD ?_ | refine bA ?_ _)); exact BK334.out)) : gb342 ≠ gb334)); have n20_ := Aside0.mk ((by rw [hg]; exact Nat.ne_of_lt (bT (g := gb338) (o := .cells #[.int .i64 t335, .int .i64 t336] 23 (0, 0)) (by (with_reducible repeat (first | refine bN ?_ _ | refine bD ?_ | refine bA ?_ _)); exact BK338.out)) : gb338 ≠ gb342)); have n21_ := Aside0.mk ((by rw [hg]; exact Nat.ne_of_gt (bT (g := gb338) (o := .cells #[.int .i64 t335, .int .i64 t336] 23 (0, 0)) (by (with_reducible repeat (first | refine bN ?_ _ | refine bD ?_ | refine bA ?_ _)); exact BK338.out)) : gb342 ≠ gb338)); clear BK310; clear BK311; clear BK312; clear BK313; clear BK334; clear BK338; clear HB; have BK310 := n0_; have BK311 := n1_; have BK312 := n2_; have BK313 := n3_; have BK334 := n4_; have BK338 := n5_; have HB := n6_; have BK342 := n7_; have GW342 := n8_; have GE342 := n9_; have NB310_342 := n10_; have NB342_310 := n11_; have NB311_342 := n12_; have NB342_311 := n13_; have NB312_342 := n14_; have NB342_312 := n15_; have NB313_342 := n16_; have NB342_313 := n17_; have NB334_342 := n18_; have NB342_334 := n19_; have NB338_342 := n20_; have NB342_338 := n21_; clear n0_ n1_ n2_ n3_ n4_ n5_ n6_ n7_ n8_ n9_ n10_ n11_ n12_ n13_ n14_ n15_ n16_ n17_ n18_ n19_ n20_ n21_; clear hb hbox hg; have hnb130 := NB342_310.out; have hnc130 := NB310_342.out; have hnb131 := NB342_311.out; have hnc131 := NB311_342.out; have hnb132 := NB342_312.out; have hnc132 := NB312_342.out; have hnb133 := NB342_313.out; have hnc133 := NB313_342.out; have hnb134 := NB342_334.out; have hnc134 := NB334_342.out; have hnb135 := NB342_338.out; have hnc135 := NB338_342.out; have hcz136_0 : w129.cell? ⟨gb342, 0, none⟩ = some (.int .i64 0) := (bC BK342.out 0).trans rfl; have hcz136_1 : w129.cell? ⟨gb342, 1, none⟩ = some (.int .i64 0) := (bC BK342.out 1).trans rfl; have hfz136_0 := bF BK342.out 0; have hfz136_1 := bF BK342.out 1; have hcz137_0 : w129.cell? ⟨gb312, 0, none⟩ = some (.int .i64 a2_0) := (bC BK312.out 0).trans rfl; have hcz137_1 : w129.cell? ⟨gb312, 1, none⟩ = some (.int .i64 a2_1) := (bC BK312.out 1).trans rfl; have hfz137_0 := bF BK312.out 0; have hfz137_1 := bF BK312.out 1) | ((with_reducible refine gate_callee (f := 9) rfl ?_); refine goesL_ (some 92) rfl rfl Try.func9 (by kernel_rfl) rfl #[.agg #[.int .i64 a2_0, .int .i64 a2_1], .int .i64 a4, .int .i64 a5] rfl (by (try simp only [List.map_toArray, List.map_cons, List.map_nil]); first | done | rfl | (simp only [List.length_drop, List.length_take]; rfl)) ?_; (with_reducible refine (span_Scale.calls kj64 a2_0 a2_1 a4 a5 t343 t344 t345 _ A100.out).mono ?_); rintro e w138 ⟨rfl, hb⟩; refine ⟨_, rfl, ?_⟩; have n0_ := Aside0.mk (bB (g := gb310) (o := .cells #[.int .i64 a0_0, .int .i64 a0_1] 23 (0, 0)) (by (with_reducible repeat (first | refine bN ?_ _ | refine bD ?_ | refine bA ?_ _)); refine bR ?_ NB310_342.out _; (with_reducible repeat (first | refine bN ?_ _ | refine bD ?_ | refine bA ?_ _)); refine bR ?_ NB310_342.out _; (with_reducible repeat (first | refine bN ?_ _ | refine bD ?_ | refine bA ?_ _)); exact BK310.out) hb); have n1_ := Aside0.mk (bB (g := gb311) (o := .cells #[.int .i64 a1_0, .int .i64 a1_1] 23 (0, 0)) (by (with_reducible repeat (first | refine bN ?_ _ | refine bD ?_ | refine bA ?_ _)); refine bR ?_ NB311_342.out _; (with_reducible repeat (first | refine bN ?_ _ | refine bD ?_ | refine bA ?_ _)); refine bR ?_ NB311_342.out _; (with_reducible repeat (first | refine bN ?_ _ | refine bD ?_ | refine bA ?_ _)); exact BK311.out) hb); have n2_ := Aside0.mk (bB (g := gb312) (o := .cells #[.int .i64 a2_0, .int .i64 a2_1] 23 (0, 0)) (by (with_reducible repeat (first | refine bN ?_ _ | refine bD ?_ | refine bA ?_ _)); refine bR ?_ NB312_342.out _; (with_reducible repeat (first | refine bN ?_ _ | refine bD ?_ | refine bA ?_ _)); refine bR ?_ NB312_342.out _; (with_reducible repeat (first | refine bN ?_ _ | refine bD ?_ | refine bA ?_ _)); exact BK312.out) hb); have n3_ := Aside0.mk (bB (g := gb313) (o := .cells #[.int .i64 a3_0, .int .i64 a3_1] 23 (0, 0)) (by (with_reducible repeat (first | refine bN ?_ _ | refine bD ?_ | refine bA ?_ _)); refine bR ?_ NB313_342.out _; (with_reducible repeat (first | refine bN ?_ _ | refine bD ?_ | refine bA ?_ _)); refine bR ?_ NB313_342.out _; (with_reducible repeat (first | refine bN ?_ _ | refine bD ?_ | refine bA ?_ _)); exact BK313.out) hb); have n4_ := Aside0.mk (bB (g := gb334) (o := .cells #[.int .i64 t331, .int .i64 t332] 23 (0, 0)) (by (with_reducible repeat (first | refine bN ?_ _ | refine bD ?_ | refine bA ?_ _)); refine bR ?_ NB334_342.out _; (with_reducible repeat (first | refine bN ?_ _ | refine bD ?_ | refine bA ?_ _)); refine bR ?_ NB334_342.out _; (with_reducible repeat (first | refine bN ?_ _ | refine bD ?_ | refine bA ?_ _)); exact BK334.out) hb); have n5_ := Aside0.mk (bB (g := gb338) (o := .cells #[.int .i64 t335, .int .i64 t336] 23 (0, 0)) (by (with_reducible repeat (first | refine bN ?_ _ | refine bD ?_ | refine bA ?_ _)); refine bR ?_ NB338_342.out _; (with_reducible repeat (first | refine bN ?_ _ | refine bD ?_ | refine bA ?_ _)); refine bR ?_ NB338_342.out _; (with_reducible repeat (first | refine bN ?_ _ | refine bD ?_ | refine bA ?_ _)); exact BK338.out) hb); have n6_ := Aside0.mk (bB (g := gb342) (o := .cells #[.int .i64 t339, .int .i64 t340] 23 (0, 0)) (by (with_reducible repeat (first | refine bN ?_ _ | refine bD ?_ | refine bA ?_ _)); refine bU (cs := #[.int .i64 t339, .int .i64 0]) ?_ 1 _ rfl; (with_reducible repeat (first | refine bN ?_ _ | refine bD ?_ | refine bA ?_ _)); refine bU (cs := #[.int .i64 0, .int .i64 0]) ?_ 0 _ rfl; (with_reducible repeat (first | refine bN ?_ _ | refine bD ?_ | refine bA ?_ _)); exact BK342.out) hb); have n7_ := Aside0.mk (bP (by repeat (first | (with_reducible first | exact HB.out | apply bL | apply bW | apply b1 | refine bS ?_ GE310.out | refine bS ?_ GE311.out | refine bS ?_ GE312.out | refine bS ?_ GE313.out | refine bS ?_ GE334.out | refine bS ?_ GE338.out | refine bS ?_ GE342.out) | exact HB.out)) hb); clear BK310; clear BK311; clear BK312; clear BK313; clear BK334; clear BK338; clear BK342; clear HB; have BK310 := n0_; have BK311 := n1_; have BK312 := n2_; have BK313 := n3_; have BK334 := n4_; have BK338 := n5_; have BK342 := n6_; have HB := n7_; clear n0_ n1_ n2_ n3_ n4_ n5_ n6_ n7_; (try clear hb); (try clear hb2); (try clear hk); (try clear hi)) | ((with_reducible refine gate_dst (N := 20) rfl ?_); refine box_event ?hg (N := 20) ?hd (cs := #[.int .i64 0, .int .i64 0]) (t := 23) ?hr ?_; (case hd => rfl); (case hg => rfl); (case hr => first | (go_simp; done) | (go_simp; rfl)); intro gb346 hg w139 hbox hb; have n0_ := Aside0.mk (bB (g := gb310) (o := .cells #[.int .i64 a0_0, .int .i64 a0_1] 23 (0, 0)) (by (with_reducible repeat (first | refine bN ?_ _ | refine bD ?_ | refine bA ?_ _)); exact BK310.out) hb); have n1_ := Aside0.mk (bB (g := gb311) (o := .cells #[.int .i64 a1_0, .int .i64 a1_1] 23 (0, 0)) (by (with_reducible repeat (first | refine bN ?_ _ | refine bD ?_ | refine bA ?_ _)); exact BK311.out) hb); have n2_ := Aside0.mk (bB (g := gb312) (o := .cells #[.int .i64 a2_0, .int .i64 a2_1] 23 (0, 0)) (by (with_reducible repeat (first | refine bN ?_ _ | refine bD ?_ | refine bA ?_ _)); exact BK312.out) hb); have n3_ := Aside0.mk (bB (g := gb313) (o := .cells #[.int .i64 a3_0, .int .i64 a3_1] 23 (0, 0)) (by (with_reducible repeat (first | refine bN ?_ _ | refine bD ?_ | refine bA ?_ _)); exact BK313.out) hb); have n4_ := Aside0.mk (bB (g := gb334) (o := .cells #[.int .i64 t331, .int .i64 t332] 23 (0, 0)) (by (with_reducible repeat (first | refine bN ?_ _ | refine bD ?_ | refine bA ?_ _)); exact BK334.out) hb); have n5_ := Aside0.mk (bB (g := gb338) (o := .cells #[.int .i64 t335, .int .i64 t336] 23 (0, 0)) (by (with_reducible repeat (first | refine bN ?_ _ | refine bD ?_ | refine bA ?_ _)); exact BK338.out) hb); have n6_ := Aside0.mk (bB (g := gb342) (o := .cells #[.int .i64 t339, .int .i64 t340] 23 (0, 0)) (by (with_reducible repeat (first | refine bN ?_ _ | refine bD ?_ | refine bA ?_ _)); exact BK342.out) hb); have n7_ := Aside0.mk (bP (by repeat (first | (with_reducible first | exact HB.out | apply bL | apply bW | apply b1 | refine bS ?_ GE310.out | refine bS ?_ GE311.out | refine bS ?_ GE312.out | refine bS ?_ GE313.out | refine bS ?_ GE334.out | refine bS ?_ GE338.out | refine bS ?_ GE342.out) | exact HB.out)) hb); have n8_ := Aside0.mk (hbox); have n9_ := Aside0.mk ((by rw [hg]; exact (bZ (by repeat (first | (with_reducible first | exact HB.out | apply bL | apply bW | apply b1 | refine bS ?_ GE310.out | refine bS ?_ GE311.out | refine bS ?_ GE312.out | refine bS ?_ GE313.out | refine bS ?_ GE334.out | refine bS ?_ GE338.out | refine bS ?_ GE342.out) | exact HB.out))) : w.heap.size ≤ gb346)); have n10_ := Aside0.mk ((by rw [hg]; exact (bZ (by repeat (first | (with_reducible first | exact HB.out | apply bL | apply bW | apply b1 | refine bS ?_ GE310.out | refine bS ?_ GE311.out | refine bS ?_ GE312.out | refine bS ?_ GE313.out | refine bS ?_ GE334.out | refine bS ?_ GE338.out | refine bS ?_ GE342.out) | exact HB.out))) : w.heap.size ≤ gb346)); have n11_ := Aside0.mk ((by rw [hg]; exact Nat.ne_of_lt (bT (g := gb310) (o := .cells #[.int .i64 a0_0, .int .i64 a0_1] 23 (0, 0)) (by (with_reducible repeat (first | refine bN ?_ _ | refine bD ?_ | refine bA ?_ _)); exact BK310.out)) : gb310 ≠ gb346)); have n12_ := Aside0.mk ((by rw [hg]; exact Nat.ne_of_gt (bT (g := gb310) (o := .cells #[.int .i64 a0_0, .int .i64 a0_1] 23 (0, 0)) (by (with_reducible repeat (first | refine bN ?_ _ | refine bD ?_ | refine bA ?_ _)); exact BK310.out)) : gb346 ≠ gb310)); have n13_ := Aside0.mk ((by rw [hg]; exact Nat.ne_of_lt (bT (g := gb311) (o := .cells #[.int .i64 a1_0, .int .i64 a1_1] 23 (0, 0)) (by (with_reducible repeat (first | refine bN ?_ _ | refine bD ?_ | refine bA ?_ _)); exact BK311.out)) : gb311 ≠ gb346)); have n14_ := Aside0.mk ((by rw [hg]; exact Nat.ne_of_gt (bT (g := gb311) (o := .cells #[.int .i64 a1_0, .int .i64 a1_1] 23 (0, 0)) (by (with_reducible repeat (first | refine bN ?_ _ | refine bD ?_ | refine bA ?_ _)); exact BK311.out)) : gb346 ≠ gb311)); have n15_ := Aside0.mk ((by rw [hg]; exact Nat.ne_of_lt (bT (g := gb312) (o := .cells #[.int .i64 a2_0, .int .i64 a2_1] 23 (0, 0)) (by (with_reducible repeat (first | refine bN ?_ _ | refine bD ?_ | refine bA ?_ _)); exact BK312.out)) : gb312 ≠ gb346)); have n16_ := Aside0.mk ((by rw [hg]; exact Nat.ne_of_gt (bT (g := gb312) (o := .cells #[.int .i64 a2_0, .int .i64 a2_1] 23 (0, 0)) (by (with_reducible repeat (first | refine bN ?_ _ | refine bD ?_ | refine bA ?_ _)); exact BK312.out)) : gb346 ≠ gb312)); have n17_ := Aside0.mk ((by rw [hg]; exact Nat.ne_of_lt (bT (g := gb313) (o := .cells #[.int .i64 a3_0, .int .i64 a3_1] 23 (0, 0)) (by (with_reducible repeat (first | refine bN ?_ _ | refine bD ?_ | refine bA ?_ _)); exact BK313.out)) : gb313 ≠ gb346)); have n18_ := Aside0.mk ((by rw [hg]; exact Nat.ne_of_gt (bT (g := gb313) (o := .cells #[.int .i64 a3_0, .int .i64 a3_1] 23 (0, 0)) (by (with_reducible repeat (first | refine bN ?_ _ | refine bD ?_ | refine bA ?_ _)); exact BK313.out)) : gb346 ≠ gb313)); have n19_ := Aside0.mk ((by rw [hg]; exact Nat.ne_of_lt (bT (g := gb334) (o := .cells #[.int .i64 t331, .int .i64 t332] 23 (0, 0)) (by (with_reducible repeat (first | refine bN ?_ _ | refine bD ?_ | refine bA ?_ _)); exact BK334.out)) : gb334 ≠ gb346)); have n20_ := Aside0.mk ((by rw [hg]; exact Nat.ne_of_gt (bT (g := gb334) (o := .cells #[.int .i64 t331, .int .i64 t332] 23 (0, 0)) (by (with_reducible repeat (first | refine bN ?_ _ | refine bD ?_ | refine bA ?_ _)); exact BK334.out)) : gb346 ≠ gb334)); have n21_ := Aside0.mk ((by rw [hg]; exact Nat.ne_of_lt (bT (g := gb338) (o := .cells #[.int .i64 t335, .int .i64 t336] 23 (0, 0)) (by (with_reducible repeat (first | refine bN ?_ _ | refine bD ?_ | refine bA ?_ _)); exact BK338.out)) : gb338 ≠ gb346)); have n22_ := Aside0.mk ((by rw [hg]; exact Nat.ne_of_gt (bT (g := gb338) (o := .cells #[.int .i64 t335, .int .i64 t336] 23 (0, 0)) (by (with_reducible repeat (first | refine bN ?_ _ | refine bD ?_ | refine bA ?_ _)); exact BK338.out)) : gb346 ≠ gb338)); have n23_ := Aside0.mk ((by rw [hg]; exact Nat.ne_of_lt (bT (g := gb342) (o := .cells #[.int .i64 t339, .int .i64 t340] 23 (0, 0)) (by (with_reducible repeat (first | refine bN ?_ _ | refine bD ?_ | refine bA ?_ _)); exact BK342.out)) : gb342 ≠ gb346)); have n24_ := Aside0.mk ((by rw [hg]; exact Nat.ne_of_gt (bT (g := gb342) (o := .cells #[.int .i64 t339, .int .i64 t340] 23 (0, 0)) (by (with_reducible repeat (first | refine bN ?_ _ | refine bD ?_ | refine bA ?_ _)); exact BK342.out)) : gb346 ≠ gb342)); clear BK310; clear BK311; clear BK312; clear BK313; clear BK334; clear BK338; clear BK342; clear HB; have BK310 := n0_; have BK311 := n1_; have BK312 := n2_; have BK313 := n3_; have BK334 := n4_; have BK338 := n5_; have BK342 := n6_; have HB := n7_; have BK346 := n8_; have GW346 := n9_; have GE346 := n10_; have NB310_346 := n11_; have NB346_310 := n12_; have NB311_346 := n13_; have NB346_311 := n14_; have NB312_346 := n15_; have NB346_312 := n16_; have NB313_346 := n17_; have NB346_313 := n18_; have NB334_346 := n19_; have NB346_334 := n20_; have NB338_346 := n21_; have NB346_338 := n22_; have NB342_346 := n23_; have NB346_342 := n24_; clear n0_ n1_ n2_ n3_ n4_ n5_ n6_ n7_ n8_ n9_ n10_ n11_ n12_ n13_ n14_ n15_ n16_ n17_ n18_ n19_ n20_ n21_ n22_ n23_ n24_; clear hb hbox hg; have hnb140 := NB346_310.out; have hnc140 := NB310_346.out; have hnb141 := NB346_311.out; have hnc141 := NB311_346.out; have hnb142 := NB346_312.out; have hnc142 := NB312_346.out; have hnb143 := NB346_313.out; have hnc143 := NB313_346.out; have hnb144 := NB346_334.out; have hnc144 := NB334_346.out; have hnb145 := NB346_338.out; have hnc145 := NB338_346.out; have hnb146 := NB346_342.out; have hnc146 := NB342_346.out; have hcz147_0 : w139.cell? ⟨gb346, 0, none⟩ = some (.int .i64 0) := (bC BK346.out 0).trans rfl; have hcz147_1 : w139.cell? ⟨gb346, 1, none⟩ = some (.int .i64 0) := (bC BK346.out 1).trans rfl; have hfz147_0 := bF BK346.out 0; have hfz147_1 := bF BK346.out 1))
       (try simp only [Act.put, List.setIfInBounds_toArray, List.set_cons_zero, List.set_cons_succ])
       go_cut [118] (fun v118 wc => ∃ (kq : Nat) (x118_100 : Bool), v118 = .bool x118_100 ∧ Aside0 (bournelaw09_SpanGrows.j2 kq t314 x118_100 a0_0 a0_1 a1_0 a1_1 a2_0 a2_1 a3_0 a3_1 = some r) ∧ Aside0 (kq ≤ kj64) ∧ Aside0 (wc.heap[gb310]? = some (.cells #[.int .i64 a0_0, .int .i64 a0_1] 23 (0, 0))) ∧ Aside0 (wc.heap[gb311]? = some (.cells #[.int .i64 a1_0, .int .i64 a1_1] 23 (0, 0))) ∧ Aside0 (wc.heap[gb312]? = some (.cells #[.int .i64 a2_0, .int .i64 a2_1] 23 (0, 0))) ∧ Aside0 (wc.heap[gb313]? = some (.cells #[.int .i64 a3_0, .int .i64 a3_1] 23 (0, 0))) ∧ Aside0 (wc.heap[gb334]? = some (.cells #[.int .i64 t331, .int .i64 t332] 23 (0, 0))) ∧ Aside0 (wc.heap[gb338]? = some (.cells #[.int .i64 t335, .int .i64 t336] 23 (0, 0))) ∧ Aside0 (wc.heap[gb342]? = some (.cells #[.int .i64 t339, .int .i64 t340] 23 (0, 0))) ∧ Aside0 (wc.heap[gb346]? = some (.cells #[.int .i64 t343, .int .i64 t344] 23 (0, 0))) ∧ Aside0 (Below w.heap.size w wc))
       case first =>
        have H := HC101.out
        clear HC101
        by_cases c148 : t333 = true
        ·
         subst c148
         have H1 : (if t337 = true then ((span_Within.f t331 t332 t335 t336).bind fun t347 => (if t347 = true then (if t345 = true then (if t341 = true then ((span_Within.f t339 t340 t343 t344).bind fun t348 => (bournelaw09_SpanGrows.j2 kj64 t314 (!t348) a0_0 a0_1 a1_0 a1_1 a2_0 a2_1 a3_0 a3_1)) else (bournelaw09_SpanGrows.j2 kj64 t314 true a0_0 a0_1 a1_0 a1_1 a2_0 a2_1 a3_0 a3_1)) else (bournelaw09_SpanGrows.j2 kj64 t314 false a0_0 a0_1 a1_0 a1_1 a2_0 a2_1 a3_0 a3_1)) else (bournelaw09_SpanGrows.j2 kj64 t314 true a0_0 a0_1 a1_0 a1_1 a2_0 a2_1 a3_0 a3_1))) else (bournelaw09_SpanGrows.j2 kj64 t314 true a0_0 a0_1 a1_0 a1_1 a2_0 a2_1 a3_0 a3_1)) = some r := by rw [if_pos rfl] at H; exact H
         clear H
         have H := H1
         clear H1
         by_cases c149 : t337 = true
         ·
          subst c149
          have H1 : ((span_Within.f t331 t332 t335 t336).bind fun t347 => (if t347 = true then (if t345 = true then (if t341 = true then ((span_Within.f t339 t340 t343 t344).bind fun t348 => (bournelaw09_SpanGrows.j2 kj64 t314 (!t348) a0_0 a0_1 a1_0 a1_1 a2_0 a2_1 a3_0 a3_1)) else (bournelaw09_SpanGrows.j2 kj64 t314 true a0_0 a0_1 a1_0 a1_1 a2_0 a2_1 a3_0 a3_1)) else (bournelaw09_SpanGrows.j2 kj64 t314 false a0_0 a0_1 a1_0 a1_1 a2_0 a2_1 a3_0 a3_1)) else (bournelaw09_SpanGrows.j2 kj64 t314 true a0_0 a0_1 a1_0 a1_1 a2_0 a2_1 a3_0 a3_1))) = some r := by rw [if_pos rfl] at H; exact H
          clear H
          have H := H1
          clear H1
          replace H := Option.bind_eq_some_iff.mp H
          obtain ⟨t347, A1500, H⟩ := H
          have A150 := Aside0.mk A1500
          clear A1500
          by_cases c151 : t347 = true
          ·
           subst c151
           have H1 : (if t345 = true then (if t341 = true then ((span_Within.f t339 t340 t343 t344).bind fun t348 => (bournelaw09_SpanGrows.j2 kj64 t314 (!t348) a0_0 a0_1 a1_0 a1_1 a2_0 a2_1 a3_0 a3_1)) else (bournelaw09_SpanGrows.j2 kj64 t314 true a0_0 a0_1 a1_0 a1_1 a2_0 a2_1 a3_0 a3_1)) else (bournelaw09_SpanGrows.j2 kj64 t314 false a0_0 a0_1 a1_0 a1_1 a2_0 a2_1 a3_0 a3_1)) = some r := by rw [if_pos rfl] at H; exact H
           clear H
           have H := H1
           clear H1
           by_cases c152 : t345 = true
           ·
            subst c152
            have H1 : (if t341 = true then ((span_Within.f t339 t340 t343 t344).bind fun t348 => (bournelaw09_SpanGrows.j2 kj64 t314 (!t348) a0_0 a0_1 a1_0 a1_1 a2_0 a2_1 a3_0 a3_1)) else (bournelaw09_SpanGrows.j2 kj64 t314 true a0_0 a0_1 a1_0 a1_1 a2_0 a2_1 a3_0 a3_1)) = some r := by rw [if_pos rfl] at H; exact H
            clear H
            have H := H1
            clear H1
            by_cases c153 : t341 = true
            ·
             subst c153
             have H1 : ((span_Within.f t339 t340 t343 t344).bind fun t348 => (bournelaw09_SpanGrows.j2 kj64 t314 (!t348) a0_0 a0_1 a1_0 a1_1 a2_0 a2_1 a3_0 a3_1)) = some r := by rw [if_pos rfl] at H; exact H
             clear H
             have H := H1
             clear H1
             replace H := Option.bind_eq_some_iff.mp H
             obtain ⟨t348, A1540, H⟩ := H
             have A154 := Aside0.mk A1540
             clear A1540
             have H' := Aside0.mk H
             clear H
             have hnb155 := NB334_310.out
             have hnc155 := NB310_334.out
             have hnb156 := NB334_311.out
             have hnc156 := NB311_334.out
             have hnb157 := NB334_312.out
             have hnc157 := NB312_334.out
             have hnb158 := NB334_313.out
             have hnc158 := NB313_334.out
             have hnb159 := NB334_338.out
             have hnc159 := NB338_334.out
             have hnb160 := NB334_342.out
             have hnc160 := NB342_334.out
             have hnb161 := NB334_346.out
             have hnc161 := NB346_334.out
             have hcz162_0 : w139.cell? ⟨gb334, 0, none⟩ = some (.int .i64 t331) := (bC BK334.out 0).trans rfl
             have hcz162_1 : w139.cell? ⟨gb334, 1, none⟩ = some (.int .i64 t332) := (bC BK334.out 1).trans rfl
             have hfz162_0 := bF BK334.out 0
             have hfz162_1 := bF BK334.out 1
             have hnb163 := NB338_310.out
             have hnc163 := NB310_338.out
             have hnb164 := NB338_311.out
             have hnc164 := NB311_338.out
             have hnb165 := NB338_312.out
             have hnc165 := NB312_338.out
             have hnb166 := NB338_313.out
             have hnc166 := NB313_338.out
             have hnb167 := NB338_342.out
             have hnc167 := NB342_338.out
             have hnb168 := NB338_346.out
             have hnc168 := NB346_338.out
             have hcz169_0 : w139.cell? ⟨gb338, 0, none⟩ = some (.int .i64 t335) := (bC BK338.out 0).trans rfl
             have hcz169_1 : w139.cell? ⟨gb338, 1, none⟩ = some (.int .i64 t336) := (bC BK338.out 1).trans rfl
             have hfz169_0 := bF BK338.out 0
             have hfz169_1 := bF BK338.out 1
             go_wp2_with (first | (go_at_call 25; (with_reducible refine (span_Within.calls t331 t332 t335 t336 true _ A150.out).mono ?_); rintro e w170 ⟨rfl, hb⟩; (try clear A150); have n0_ := Aside0.mk (bB (g := gb310) (o := .cells #[.int .i64 a0_0, .int .i64 a0_1] 23 (0, 0)) (by (with_reducible repeat (first | refine bN ?_ _ | refine bD ?_ | refine bA ?_ _)); refine bR ?_ NB310_346.out _; (with_reducible repeat (first | refine bN ?_ _ | refine bD ?_ | refine bA ?_ _)); refine bR ?_ NB310_346.out _; (with_reducible repeat (first | refine bN ?_ _ | refine bD ?_ | refine bA ?_ _)); exact BK310.out) hb); have n1_ := Aside0.mk (bB (g := gb311) (o := .cells #[.int .i64 a1_0, .int .i64 a1_1] 23 (0, 0)) (by (with_reducible repeat (first | refine bN ?_ _ | refine bD ?_ | refine bA ?_ _)); refine bR ?_ NB311_346.out _; (with_reducible repeat (first | refine bN ?_ _ | refine bD ?_ | refine bA ?_ _)); refine bR ?_ NB311_346.out _; (with_reducible repeat (first | refine bN ?_ _ | refine bD ?_ | refine bA ?_ _)); exact BK311.out) hb); have n2_ := Aside0.mk (bB (g := gb312) (o := .cells #[.int .i64 a2_0, .int .i64 a2_1] 23 (0, 0)) (by (with_reducible repeat (first | refine bN ?_ _ | refine bD ?_ | refine bA ?_ _)); refine bR ?_ NB312_346.out _; (with_reducible repeat (first | refine bN ?_ _ | refine bD ?_ | refine bA ?_ _)); refine bR ?_ NB312_346.out _; (with_reducible repeat (first | refine bN ?_ _ | refine bD ?_ | refine bA ?_ _)); exact BK312.out) hb); have n3_ := Aside0.mk (bB (g := gb313) (o := .cells #[.int .i64 a3_0, .int .i64 a3_1] 23 (0, 0)) (by (with_reducible repeat (first | refine bN ?_ _ | refine bD ?_ | refine bA ?_ _)); refine bR ?_ NB313_346.out _; (with_reducible repeat (first | refine bN ?_ _ | refine bD ?_ | refine bA ?_ _)); refine bR ?_ NB313_346.out _; (with_reducible repeat (first | refine bN ?_ _ | refine bD ?_ | refine bA ?_ _)); exact BK313.out) hb); have n4_ := Aside0.mk (bB (g := gb334) (o := .cells #[.int .i64 t331, .int .i64 t332] 23 (0, 0)) (by (with_reducible repeat (first | refine bN ?_ _ | refine bD ?_ | refine bA ?_ _)); refine bR ?_ NB334_346.out _; (with_reducible repeat (first | refine bN ?_ _ | refine bD ?_ | refine bA ?_ _)); refine bR ?_ NB334_346.out _; (with_reducible repeat (first | refine bN ?_ _ | refine bD ?_ | refine bA ?_ _)); exact BK334.out) hb); have n5_ := Aside0.mk (bB (g := gb338) (o := .cells #[.int .i64 t335, .int .i64 t336] 23 (0, 0)) (by (with_reducible repeat (first | refine bN ?_ _ | refine bD ?_ | refine bA ?_ _)); refine bR ?_ NB338_346.out _; (with_reducible repeat (first | refine bN ?_ _ | refine bD ?_ | refine bA ?_ _)); refine bR ?_ NB338_346.out _; (with_reducible repeat (first | refine bN ?_ _ | refine bD ?_ | refine bA ?_ _)); exact BK338.out) hb); have n6_ := Aside0.mk (bB (g := gb342) (o := .cells #[.int .i64 t339, .int .i64 t340] 23 (0, 0)) (by (with_reducible repeat (first | refine bN ?_ _ | refine bD ?_ | refine bA ?_ _)); refine bR ?_ NB342_346.out _; (with_reducible repeat (first | refine bN ?_ _ | refine bD ?_ | refine bA ?_ _)); refine bR ?_ NB342_346.out _; (with_reducible repeat (first | refine bN ?_ _ | refine bD ?_ | refine bA ?_ _)); exact BK342.out) hb); have n7_ := Aside0.mk (bB (g := gb346) (o := .cells #[.int .i64 t343, .int .i64 t344] 23 (0, 0)) (by (with_reducible repeat (first | refine bN ?_ _ | refine bD ?_ | refine bA ?_ _)); refine bU (cs := #[.int .i64 t343, .int .i64 0]) ?_ 1 _ rfl; (with_reducible repeat (first | refine bN ?_ _ | refine bD ?_ | refine bA ?_ _)); refine bU (cs := #[.int .i64 0, .int .i64 0]) ?_ 0 _ rfl; (with_reducible repeat (first | refine bN ?_ _ | refine bD ?_ | refine bA ?_ _)); exact BK346.out) hb); have n8_ := Aside0.mk (bP (by repeat (first | (with_reducible first | exact HB.out | apply bL | apply bW | apply b1 | refine bS ?_ GE310.out | refine bS ?_ GE311.out | refine bS ?_ GE312.out | refine bS ?_ GE313.out | refine bS ?_ GE334.out | refine bS ?_ GE338.out | refine bS ?_ GE342.out | refine bS ?_ GE346.out) | exact HB.out)) hb); clear BK310; clear BK311; clear BK312; clear BK313; clear BK334; clear BK338; clear BK342; clear BK346; clear HB; have BK310 := n0_; have BK311 := n1_; have BK312 := n2_; have BK313 := n3_; have BK334 := n4_; have BK338 := n5_; have BK342 := n6_; have BK346 := n7_; have HB := n8_; clear n0_ n1_ n2_ n3_ n4_ n5_ n6_ n7_ n8_; (try clear hb); (try clear hb2); (try clear hk); (try clear hi); have hnb171 := NB342_310.out; have hnc171 := NB310_342.out; have hnb172 := NB342_311.out; have hnc172 := NB311_342.out; have hnb173 := NB342_312.out; have hnc173 := NB312_342.out; have hnb174 := NB342_313.out; have hnc174 := NB313_342.out; have hnb175 := NB342_346.out; have hnc175 := NB346_342.out; have hcz176_0 : w170.cell? ⟨gb342, 0, none⟩ = some (.int .i64 t339) := (bC BK342.out 0).trans rfl; have hcz176_1 : w170.cell? ⟨gb342, 1, none⟩ = some (.int .i64 t340) := (bC BK342.out 1).trans rfl; have hfz176_0 := bF BK342.out 0; have hfz176_1 := bF BK342.out 1; have hnb177 := NB346_310.out; have hnc177 := NB310_346.out; have hnb178 := NB346_311.out; have hnc178 := NB311_346.out; have hnb179 := NB346_312.out; have hnc179 := NB312_346.out; have hnb180 := NB346_313.out; have hnc180 := NB313_346.out; have hcz181_0 : w170.cell? ⟨gb346, 0, none⟩ = some (.int .i64 t343) := (bC BK346.out 0).trans rfl; have hcz181_1 : w170.cell? ⟨gb346, 1, none⟩ = some (.int .i64 t344) := (bC BK346.out 1).trans rfl; have hfz181_0 := bF BK346.out 0; have hfz181_1 := bF BK346.out 1) | (go_at_call 25; (with_reducible refine (span_Within.calls t339 t340 t343 t344 t348 _ A154.out).mono ?_); rintro e w182 ⟨rfl, hb⟩; (try clear A154); have n0_ := Aside0.mk (bB (g := gb310) (o := .cells #[.int .i64 a0_0, .int .i64 a0_1] 23 (0, 0)) (by (with_reducible repeat (first | refine bN ?_ _ | refine bD ?_ | refine bA ?_ _)); exact BK310.out) hb); have n1_ := Aside0.mk (bB (g := gb311) (o := .cells #[.int .i64 a1_0, .int .i64 a1_1] 23 (0, 0)) (by (with_reducible repeat (first | refine bN ?_ _ | refine bD ?_ | refine bA ?_ _)); exact BK311.out) hb); have n2_ := Aside0.mk (bB (g := gb312) (o := .cells #[.int .i64 a2_0, .int .i64 a2_1] 23 (0, 0)) (by (with_reducible repeat (first | refine bN ?_ _ | refine bD ?_ | refine bA ?_ _)); exact BK312.out) hb); have n3_ := Aside0.mk (bB (g := gb313) (o := .cells #[.int .i64 a3_0, .int .i64 a3_1] 23 (0, 0)) (by (with_reducible repeat (first | refine bN ?_ _ | refine bD ?_ | refine bA ?_ _)); exact BK313.out) hb); have n4_ := Aside0.mk (bB (g := gb334) (o := .cells #[.int .i64 t331, .int .i64 t332] 23 (0, 0)) (by (with_reducible repeat (first | refine bN ?_ _ | refine bD ?_ | refine bA ?_ _)); exact BK334.out) hb); have n5_ := Aside0.mk (bB (g := gb338) (o := .cells #[.int .i64 t335, .int .i64 t336] 23 (0, 0)) (by (with_reducible repeat (first | refine bN ?_ _ | refine bD ?_ | refine bA ?_ _)); exact BK338.out) hb); have n6_ := Aside0.mk (bB (g := gb342) (o := .cells #[.int .i64 t339, .int .i64 t340] 23 (0, 0)) (by (with_reducible repeat (first | refine bN ?_ _ | refine bD ?_ | refine bA ?_ _)); exact BK342.out) hb); have n7_ := Aside0.mk (bB (g := gb346) (o := .cells #[.int .i64 t343, .int .i64 t344] 23 (0, 0)) (by (with_reducible repeat (first | refine bN ?_ _ | refine bD ?_ | refine bA ?_ _)); exact BK346.out) hb); have n8_ := Aside0.mk (bP (by repeat (first | (with_reducible first | exact HB.out | apply bL | apply bW | apply b1 | refine bS ?_ GE310.out | refine bS ?_ GE311.out | refine bS ?_ GE312.out | refine bS ?_ GE313.out | refine bS ?_ GE334.out | refine bS ?_ GE338.out | refine bS ?_ GE342.out | refine bS ?_ GE346.out) | exact HB.out)) hb); clear BK310; clear BK311; clear BK312; clear BK313; clear BK334; clear BK338; clear BK342; clear BK346; clear HB; have BK310 := n0_; have BK311 := n1_; have BK312 := n2_; have BK313 := n3_; have BK334 := n4_; have BK338 := n5_; have BK342 := n6_; have BK346 := n7_; have HB := n8_; clear n0_ n1_ n2_ n3_ n4_ n5_ n6_ n7_ n8_; (try clear hb); (try clear hb2); (try clear hk); (try clear hi)))
             go_meet
             case rel => exact ⟨_, (!t348), (by first | rfl | (simp; done) | (simp [*]; done)), H', ⟨by have := HJ7.out; have := HJ64.out; first | omega | exact Nat.le_refl _⟩, ⟨by (with_reducible repeat (first | refine bN ?_ _ | refine bD ?_ | refine bA ?_ _)); exact BK310.out⟩, ⟨by (with_reducible repeat (first | refine bN ?_ _ | refine bD ?_ | refine bA ?_ _)); exact BK311.out⟩, ⟨by (with_reducible repeat (first | refine bN ?_ _ | refine bD ?_ | refine bA ?_ _)); exact BK312.out⟩, ⟨by (with_reducible repeat (first | refine bN ?_ _ | refine bD ?_ | refine bA ?_ _)); exact BK313.out⟩, ⟨by (with_reducible repeat (first | refine bN ?_ _ | refine bD ?_ | refine bA ?_ _)); exact BK334.out⟩, ⟨by (with_reducible repeat (first | refine bN ?_ _ | refine bD ?_ | refine bA ?_ _)); exact BK338.out⟩, ⟨by (with_reducible repeat (first | refine bN ?_ _ | refine bD ?_ | refine bA ?_ _)); exact BK342.out⟩, ⟨by (with_reducible repeat (first | refine bN ?_ _ | refine bD ?_ | refine bA ?_ _)); exact BK346.out⟩, ⟨by repeat (first | (with_reducible first | exact HB.out | apply bL | apply bW | apply b1 | refine bS ?_ GE310.out | refine bS ?_ GE311.out | refine bS ?_ GE312.out | refine bS ?_ GE313.out | refine bS ?_ GE334.out | refine bS ?_ GE338.out | refine bS ?_ GE342.out | refine bS ?_ GE346.out) | exact HB.out)⟩⟩
            ·
             replace c153 := Bool.eq_false_iff.mpr c153
             subst c153
             have H1 : (bournelaw09_SpanGrows.j2 kj64 t314 true a0_0 a0_1 a1_0 a1_1 a2_0 a2_1 a3_0 a3_1) = some r := by rw [if_neg (show ¬ (false = true) by decide)] at H; exact H
             clear H
             have H := H1
             clear H1
             have H' := Aside0.mk H
             clear H
             have hnb183 := NB334_310.out
             have hnc183 := NB310_334.out
             have hnb184 := NB334_311.out
             have hnc184 := NB311_334.out
             have hnb185 := NB334_312.out
             have hnc185 := NB312_334.out
             have hnb186 := NB334_313.out
             have hnc186 := NB313_334.out
             have hnb187 := NB334_338.out
             have hnc187 := NB338_334.out
             have hnb188 := NB334_342.out
             have hnc188 := NB342_334.out
             have hnb189 := NB334_346.out
             have hnc189 := NB346_334.out
             have hcz190_0 : w139.cell? ⟨gb334, 0, none⟩ = some (.int .i64 t331) := (bC BK334.out 0).trans rfl
             have hcz190_1 : w139.cell? ⟨gb334, 1, none⟩ = some (.int .i64 t332) := (bC BK334.out 1).trans rfl
             have hfz190_0 := bF BK334.out 0
             have hfz190_1 := bF BK334.out 1
             have hnb191 := NB338_310.out
             have hnc191 := NB310_338.out
             have hnb192 := NB338_311.out
             have hnc192 := NB311_338.out
             have hnb193 := NB338_312.out
             have hnc193 := NB312_338.out
             have hnb194 := NB338_313.out
             have hnc194 := NB313_338.out
             have hnb195 := NB338_342.out
             have hnc195 := NB342_338.out
             have hnb196 := NB338_346.out
             have hnc196 := NB346_338.out
             have hcz197_0 : w139.cell? ⟨gb338, 0, none⟩ = some (.int .i64 t335) := (bC BK338.out 0).trans rfl
             have hcz197_1 : w139.cell? ⟨gb338, 1, none⟩ = some (.int .i64 t336) := (bC BK338.out 1).trans rfl
             have hfz197_0 := bF BK338.out 0
             have hfz197_1 := bF BK338.out 1
             go_wp2_with (first | (go_at_call 25; (with_reducible refine (span_Within.calls t331 t332 t335 t336 true _ A150.out).mono ?_); rintro e w198 ⟨rfl, hb⟩; (try clear A150); have n0_ := Aside0.mk (bB (g := gb310) (o := .cells #[.int .i64 a0_0, .int .i64 a0_1] 23 (0, 0)) (by (with_reducible repeat (first | refine bN ?_ _ | refine bD ?_ | refine bA ?_ _)); refine bR ?_ NB310_346.out _; (with_reducible repeat (first | refine bN ?_ _ | refine bD ?_ | refine bA ?_ _)); refine bR ?_ NB310_346.out _; (with_reducible repeat (first | refine bN ?_ _ | refine bD ?_ | refine bA ?_ _)); exact BK310.out) hb); have n1_ := Aside0.mk (bB (g := gb311) (o := .cells #[.int .i64 a1_0, .int .i64 a1_1] 23 (0, 0)) (by (with_reducible repeat (first | refine bN ?_ _ | refine bD ?_ | refine bA ?_ _)); refine bR ?_ NB311_346.out _; (with_reducible repeat (first | refine bN ?_ _ | refine bD ?_ | refine bA ?_ _)); refine bR ?_ NB311_346.out _; (with_reducible repeat (first | refine bN ?_ _ | refine bD ?_ | refine bA ?_ _)); exact BK311.out) hb); have n2_ := Aside0.mk (bB (g := gb312) (o := .cells #[.int .i64 a2_0, .int .i64 a2_1] 23 (0, 0)) (by (with_reducible repeat (first | refine bN ?_ _ | refine bD ?_ | refine bA ?_ _)); refine bR ?_ NB312_346.out _; (with_reducible repeat (first | refine bN ?_ _ | refine bD ?_ | refine bA ?_ _)); refine bR ?_ NB312_346.out _; (with_reducible repeat (first | refine bN ?_ _ | refine bD ?_ | refine bA ?_ _)); exact BK312.out) hb); have n3_ := Aside0.mk (bB (g := gb313) (o := .cells #[.int .i64 a3_0, .int .i64 a3_1] 23 (0, 0)) (by (with_reducible repeat (first | refine bN ?_ _ | refine bD ?_ | refine bA ?_ _)); refine bR ?_ NB313_346.out _; (with_reducible repeat (first | refine bN ?_ _ | refine bD ?_ | refine bA ?_ _)); refine bR ?_ NB313_346.out _; (with_reducible repeat (first | refine bN ?_ _ | refine bD ?_ | refine bA ?_ _)); exact BK313.out) hb); have n4_ := Aside0.mk (bB (g := gb334) (o := .cells #[.int .i64 t331, .int .i64 t332] 23 (0, 0)) (by (with_reducible repeat (first | refine bN ?_ _ | refine bD ?_ | refine bA ?_ _)); refine bR ?_ NB334_346.out _; (with_reducible repeat (first | refine bN ?_ _ | refine bD ?_ | refine bA ?_ _)); refine bR ?_ NB334_346.out _; (with_reducible repeat (first | refine bN ?_ _ | refine bD ?_ | refine bA ?_ _)); exact BK334.out) hb); have n5_ := Aside0.mk (bB (g := gb338) (o := .cells #[.int .i64 t335, .int .i64 t336] 23 (0, 0)) (by (with_reducible repeat (first | refine bN ?_ _ | refine bD ?_ | refine bA ?_ _)); refine bR ?_ NB338_346.out _; (with_reducible repeat (first | refine bN ?_ _ | refine bD ?_ | refine bA ?_ _)); refine bR ?_ NB338_346.out _; (with_reducible repeat (first | refine bN ?_ _ | refine bD ?_ | refine bA ?_ _)); exact BK338.out) hb); have n6_ := Aside0.mk (bB (g := gb342) (o := .cells #[.int .i64 t339, .int .i64 t340] 23 (0, 0)) (by (with_reducible repeat (first | refine bN ?_ _ | refine bD ?_ | refine bA ?_ _)); refine bR ?_ NB342_346.out _; (with_reducible repeat (first | refine bN ?_ _ | refine bD ?_ | refine bA ?_ _)); refine bR ?_ NB342_346.out _; (with_reducible repeat (first | refine bN ?_ _ | refine bD ?_ | refine bA ?_ _)); exact BK342.out) hb); have n7_ := Aside0.mk (bB (g := gb346) (o := .cells #[.int .i64 t343, .int .i64 t344] 23 (0, 0)) (by (with_reducible repeat (first | refine bN ?_ _ | refine bD ?_ | refine bA ?_ _)); refine bU (cs := #[.int .i64 t343, .int .i64 0]) ?_ 1 _ rfl; (with_reducible repeat (first | refine bN ?_ _ | refine bD ?_ | refine bA ?_ _)); refine bU (cs := #[.int .i64 0, .int .i64 0]) ?_ 0 _ rfl; (with_reducible repeat (first | refine bN ?_ _ | refine bD ?_ | refine bA ?_ _)); exact BK346.out) hb); have n8_ := Aside0.mk (bP (by repeat (first | (with_reducible first | exact HB.out | apply bL | apply bW | apply b1 | refine bS ?_ GE310.out | refine bS ?_ GE311.out | refine bS ?_ GE312.out | refine bS ?_ GE313.out | refine bS ?_ GE334.out | refine bS ?_ GE338.out | refine bS ?_ GE342.out | refine bS ?_ GE346.out) | exact HB.out)) hb); clear BK310; clear BK311; clear BK312; clear BK313; clear BK334; clear BK338; clear BK342; clear BK346; clear HB; have BK310 := n0_; have BK311 := n1_; have BK312 := n2_; have BK313 := n3_; have BK334 := n4_; have BK338 := n5_; have BK342 := n6_; have BK346 := n7_; have HB := n8_; clear n0_ n1_ n2_ n3_ n4_ n5_ n6_ n7_ n8_; (try clear hb); (try clear hb2); (try clear hk); (try clear hi)))
             go_meet
             case rel => exact ⟨_, (true), (by first | rfl | (simp; done) | (simp [*]; done)), H', ⟨by have := HJ7.out; have := HJ64.out; first | omega | exact Nat.le_refl _⟩, ⟨by (with_reducible repeat (first | refine bN ?_ _ | refine bD ?_ | refine bA ?_ _)); exact BK310.out⟩, ⟨by (with_reducible repeat (first | refine bN ?_ _ | refine bD ?_ | refine bA ?_ _)); exact BK311.out⟩, ⟨by (with_reducible repeat (first | refine bN ?_ _ | refine bD ?_ | refine bA ?_ _)); exact BK312.out⟩, ⟨by (with_reducible repeat (first | refine bN ?_ _ | refine bD ?_ | refine bA ?_ _)); exact BK313.out⟩, ⟨by (with_reducible repeat (first | refine bN ?_ _ | refine bD ?_ | refine bA ?_ _)); exact BK334.out⟩, ⟨by (with_reducible repeat (first | refine bN ?_ _ | refine bD ?_ | refine bA ?_ _)); exact BK338.out⟩, ⟨by (with_reducible repeat (first | refine bN ?_ _ | refine bD ?_ | refine bA ?_ _)); exact BK342.out⟩, ⟨by (with_reducible repeat (first | refine bN ?_ _ | refine bD ?_ | refine bA ?_ _)); exact BK346.out⟩, ⟨by repeat (first | (with_reducible first | exact HB.out | apply bL | apply bW | apply b1 | refine bS ?_ GE310.out | refine bS ?_ GE311.out | refine bS ?_ GE312.out | refine bS ?_ GE313.out | refine bS ?_ GE334.out | refine bS ?_ GE338.out | refine bS ?_ GE342.out | refine bS ?_ GE346.out) | exact HB.out)⟩⟩
           ·
            replace c152 := Bool.eq_false_iff.mpr c152
            subst c152
            have H1 : (bournelaw09_SpanGrows.j2 kj64 t314 false a0_0 a0_1 a1_0 a1_1 a2_0 a2_1 a3_0 a3_1) = some r := by rw [if_neg (show ¬ (false = true) by decide)] at H; exact H
            clear H
            have H := H1
            clear H1
            have H' := Aside0.mk H
            clear H
            have hnb199 := NB334_310.out
            have hnc199 := NB310_334.out
            have hnb200 := NB334_311.out
            have hnc200 := NB311_334.out
            have hnb201 := NB334_312.out
            have hnc201 := NB312_334.out
            have hnb202 := NB334_313.out
            have hnc202 := NB313_334.out
            have hnb203 := NB334_338.out
            have hnc203 := NB338_334.out
            have hnb204 := NB334_342.out
            have hnc204 := NB342_334.out
            have hnb205 := NB334_346.out
            have hnc205 := NB346_334.out
            have hcz206_0 : w139.cell? ⟨gb334, 0, none⟩ = some (.int .i64 t331) := (bC BK334.out 0).trans rfl
            have hcz206_1 : w139.cell? ⟨gb334, 1, none⟩ = some (.int .i64 t332) := (bC BK334.out 1).trans rfl
            have hfz206_0 := bF BK334.out 0
            have hfz206_1 := bF BK334.out 1
            have hnb207 := NB338_310.out
            have hnc207 := NB310_338.out
            have hnb208 := NB338_311.out
            have hnc208 := NB311_338.out
            have hnb209 := NB338_312.out
            have hnc209 := NB312_338.out
            have hnb210 := NB338_313.out
            have hnc210 := NB313_338.out
            have hnb211 := NB338_342.out
            have hnc211 := NB342_338.out
            have hnb212 := NB338_346.out
            have hnc212 := NB346_338.out
            have hcz213_0 : w139.cell? ⟨gb338, 0, none⟩ = some (.int .i64 t335) := (bC BK338.out 0).trans rfl
            have hcz213_1 : w139.cell? ⟨gb338, 1, none⟩ = some (.int .i64 t336) := (bC BK338.out 1).trans rfl
            have hfz213_0 := bF BK338.out 0
            have hfz213_1 := bF BK338.out 1
            go_wp2_with (first | (go_at_call 25; (with_reducible refine (span_Within.calls t331 t332 t335 t336 true _ A150.out).mono ?_); rintro e w214 ⟨rfl, hb⟩; (try clear A150); have n0_ := Aside0.mk (bB (g := gb310) (o := .cells #[.int .i64 a0_0, .int .i64 a0_1] 23 (0, 0)) (by (with_reducible repeat (first | refine bN ?_ _ | refine bD ?_ | refine bA ?_ _)); refine bR ?_ NB310_346.out _; (with_reducible repeat (first | refine bN ?_ _ | refine bD ?_ | refine bA ?_ _)); refine bR ?_ NB310_346.out _; (with_reducible repeat (first | refine bN ?_ _ | refine bD ?_ | refine bA ?_ _)); exact BK310.out) hb); have n1_ := Aside0.mk (bB (g := gb311) (o := .cells #[.int .i64 a1_0, .int .i64 a1_1] 23 (0, 0)) (by (with_reducible repeat (first | refine bN ?_ _ | refine bD ?_ | refine bA ?_ _)); refine bR ?_ NB311_346.out _; (with_reducible repeat (first | refine bN ?_ _ | refine bD ?_ | refine bA ?_ _)); refine bR ?_ NB311_346.out _; (with_reducible repeat (first | refine bN ?_ _ | refine bD ?_ | refine bA ?_ _)); exact BK311.out) hb); have n2_ := Aside0.mk (bB (g := gb312) (o := .cells #[.int .i64 a2_0, .int .i64 a2_1] 23 (0, 0)) (by (with_reducible repeat (first | refine bN ?_ _ | refine bD ?_ | refine bA ?_ _)); refine bR ?_ NB312_346.out _; (with_reducible repeat (first | refine bN ?_ _ | refine bD ?_ | refine bA ?_ _)); refine bR ?_ NB312_346.out _; (with_reducible repeat (first | refine bN ?_ _ | refine bD ?_ | refine bA ?_ _)); exact BK312.out) hb); have n3_ := Aside0.mk (bB (g := gb313) (o := .cells #[.int .i64 a3_0, .int .i64 a3_1] 23 (0, 0)) (by (with_reducible repeat (first | refine bN ?_ _ | refine bD ?_ | refine bA ?_ _)); refine bR ?_ NB313_346.out _; (with_reducible repeat (first | refine bN ?_ _ | refine bD ?_ | refine bA ?_ _)); refine bR ?_ NB313_346.out _; (with_reducible repeat (first | refine bN ?_ _ | refine bD ?_ | refine bA ?_ _)); exact BK313.out) hb); have n4_ := Aside0.mk (bB (g := gb334) (o := .cells #[.int .i64 t331, .int .i64 t332] 23 (0, 0)) (by (with_reducible repeat (first | refine bN ?_ _ | refine bD ?_ | refine bA ?_ _)); refine bR ?_ NB334_346.out _; (with_reducible repeat (first | refine bN ?_ _ | refine bD ?_ | refine bA ?_ _)); refine bR ?_ NB334_346.out _; (with_reducible repeat (first | refine bN ?_ _ | refine bD ?_ | refine bA ?_ _)); exact BK334.out) hb); have n5_ := Aside0.mk (bB (g := gb338) (o := .cells #[.int .i64 t335, .int .i64 t336] 23 (0, 0)) (by (with_reducible repeat (first | refine bN ?_ _ | refine bD ?_ | refine bA ?_ _)); refine bR ?_ NB338_346.out _; (with_reducible repeat (first | refine bN ?_ _ | refine bD ?_ | refine bA ?_ _)); refine bR ?_ NB338_346.out _; (with_reducible repeat (first | refine bN ?_ _ | refine bD ?_ | refine bA ?_ _)); exact BK338.out) hb); have n6_ := Aside0.mk (bB (g := gb342) (o := .cells #[.int .i64 t339, .int .i64 t340] 23 (0, 0)) (by (with_reducible repeat (first | refine bN ?_ _ | refine bD ?_ | refine bA ?_ _)); refine bR ?_ NB342_346.out _; (with_reducible repeat (first | refine bN ?_ _ | refine bD ?_ | refine bA ?_ _)); refine bR ?_ NB342_346.out _; (with_reducible repeat (first | refine bN ?_ _ | refine bD ?_ | refine bA ?_ _)); exact BK342.out) hb); have n7_ := Aside0.mk (bB (g := gb346) (o := .cells #[.int .i64 t343, .int .i64 t344] 23 (0, 0)) (by (with_reducible repeat (first | refine bN ?_ _ | refine bD ?_ | refine bA ?_ _)); refine bU (cs := #[.int .i64 t343, .int .i64 0]) ?_ 1 _ rfl; (with_reducible repeat (first | refine bN ?_ _ | refine bD ?_ | refine bA ?_ _)); refine bU (cs := #[.int .i64 0, .int .i64 0]) ?_ 0 _ rfl; (with_reducible repeat (first | refine bN ?_ _ | refine bD ?_ | refine bA ?_ _)); exact BK346.out) hb); have n8_ := Aside0.mk (bP (by repeat (first | (with_reducible first | exact HB.out | apply bL | apply bW | apply b1 | refine bS ?_ GE310.out | refine bS ?_ GE311.out | refine bS ?_ GE312.out | refine bS ?_ GE313.out | refine bS ?_ GE334.out | refine bS ?_ GE338.out | refine bS ?_ GE342.out | refine bS ?_ GE346.out) | exact HB.out)) hb); clear BK310; clear BK311; clear BK312; clear BK313; clear BK334; clear BK338; clear BK342; clear BK346; clear HB; have BK310 := n0_; have BK311 := n1_; have BK312 := n2_; have BK313 := n3_; have BK334 := n4_; have BK338 := n5_; have BK342 := n6_; have BK346 := n7_; have HB := n8_; clear n0_ n1_ n2_ n3_ n4_ n5_ n6_ n7_ n8_; (try clear hb); (try clear hb2); (try clear hk); (try clear hi)))
            go_meet
            case rel => exact ⟨_, (false), (by first | rfl | (simp; done) | (simp [*]; done)), H', ⟨by have := HJ7.out; have := HJ64.out; first | omega | exact Nat.le_refl _⟩, ⟨by (with_reducible repeat (first | refine bN ?_ _ | refine bD ?_ | refine bA ?_ _)); exact BK310.out⟩, ⟨by (with_reducible repeat (first | refine bN ?_ _ | refine bD ?_ | refine bA ?_ _)); exact BK311.out⟩, ⟨by (with_reducible repeat (first | refine bN ?_ _ | refine bD ?_ | refine bA ?_ _)); exact BK312.out⟩, ⟨by (with_reducible repeat (first | refine bN ?_ _ | refine bD ?_ | refine bA ?_ _)); exact BK313.out⟩, ⟨by (with_reducible repeat (first | refine bN ?_ _ | refine bD ?_ | refine bA ?_ _)); exact BK334.out⟩, ⟨by (with_reducible repeat (first | refine bN ?_ _ | refine bD ?_ | refine bA ?_ _)); exact BK338.out⟩, ⟨by (with_reducible repeat (first | refine bN ?_ _ | refine bD ?_ | refine bA ?_ _)); exact BK342.out⟩, ⟨by (with_reducible repeat (first | refine bN ?_ _ | refine bD ?_ | refine bA ?_ _)); exact BK346.out⟩, ⟨by repeat (first | (with_reducible first | exact HB.out | apply bL | apply bW | apply b1 | refine bS ?_ GE310.out | refine bS ?_ GE311.out | refine bS ?_ GE312.out | refine bS ?_ GE313.out | refine bS ?_ GE334.out | refine bS ?_ GE338.out | refine bS ?_ GE342.out | refine bS ?_ GE346.out) | exact HB.out)⟩⟩
          ·
           replace c151 := Bool.eq_false_iff.mpr c151
           subst c151
           have H1 : (bournelaw09_SpanGrows.j2 kj64 t314 true a0_0 a0_1 a1_0 a1_1 a2_0 a2_1 a3_0 a3_1) = some r := by rw [if_neg (show ¬ (false = true) by decide)] at H; exact H
           clear H
           have H := H1
           clear H1
           have H' := Aside0.mk H
           clear H
           have hnb215 := NB334_310.out
           have hnc215 := NB310_334.out
           have hnb216 := NB334_311.out
           have hnc216 := NB311_334.out
           have hnb217 := NB334_312.out
           have hnc217 := NB312_334.out
           have hnb218 := NB334_313.out
           have hnc218 := NB313_334.out
           have hnb219 := NB334_338.out
           have hnc219 := NB338_334.out
           have hnb220 := NB334_342.out
           have hnc220 := NB342_334.out
           have hnb221 := NB334_346.out
           have hnc221 := NB346_334.out
           have hcz222_0 : w139.cell? ⟨gb334, 0, none⟩ = some (.int .i64 t331) := (bC BK334.out 0).trans rfl
           have hcz222_1 : w139.cell? ⟨gb334, 1, none⟩ = some (.int .i64 t332) := (bC BK334.out 1).trans rfl
           have hfz222_0 := bF BK334.out 0
           have hfz222_1 := bF BK334.out 1
           have hnb223 := NB338_310.out
           have hnc223 := NB310_338.out
           have hnb224 := NB338_311.out
           have hnc224 := NB311_338.out
           have hnb225 := NB338_312.out
           have hnc225 := NB312_338.out
           have hnb226 := NB338_313.out
           have hnc226 := NB313_338.out
           have hnb227 := NB338_342.out
           have hnc227 := NB342_338.out
           have hnb228 := NB338_346.out
           have hnc228 := NB346_338.out
           have hcz229_0 : w139.cell? ⟨gb338, 0, none⟩ = some (.int .i64 t335) := (bC BK338.out 0).trans rfl
           have hcz229_1 : w139.cell? ⟨gb338, 1, none⟩ = some (.int .i64 t336) := (bC BK338.out 1).trans rfl
           have hfz229_0 := bF BK338.out 0
           have hfz229_1 := bF BK338.out 1
           go_wp2_with (first | (go_at_call 25; (with_reducible refine (span_Within.calls t331 t332 t335 t336 false _ A150.out).mono ?_); rintro e w230 ⟨rfl, hb⟩; (try clear A150); have n0_ := Aside0.mk (bB (g := gb310) (o := .cells #[.int .i64 a0_0, .int .i64 a0_1] 23 (0, 0)) (by (with_reducible repeat (first | refine bN ?_ _ | refine bD ?_ | refine bA ?_ _)); refine bR ?_ NB310_346.out _; (with_reducible repeat (first | refine bN ?_ _ | refine bD ?_ | refine bA ?_ _)); refine bR ?_ NB310_346.out _; (with_reducible repeat (first | refine bN ?_ _ | refine bD ?_ | refine bA ?_ _)); exact BK310.out) hb); have n1_ := Aside0.mk (bB (g := gb311) (o := .cells #[.int .i64 a1_0, .int .i64 a1_1] 23 (0, 0)) (by (with_reducible repeat (first | refine bN ?_ _ | refine bD ?_ | refine bA ?_ _)); refine bR ?_ NB311_346.out _; (with_reducible repeat (first | refine bN ?_ _ | refine bD ?_ | refine bA ?_ _)); refine bR ?_ NB311_346.out _; (with_reducible repeat (first | refine bN ?_ _ | refine bD ?_ | refine bA ?_ _)); exact BK311.out) hb); have n2_ := Aside0.mk (bB (g := gb312) (o := .cells #[.int .i64 a2_0, .int .i64 a2_1] 23 (0, 0)) (by (with_reducible repeat (first | refine bN ?_ _ | refine bD ?_ | refine bA ?_ _)); refine bR ?_ NB312_346.out _; (with_reducible repeat (first | refine bN ?_ _ | refine bD ?_ | refine bA ?_ _)); refine bR ?_ NB312_346.out _; (with_reducible repeat (first | refine bN ?_ _ | refine bD ?_ | refine bA ?_ _)); exact BK312.out) hb); have n3_ := Aside0.mk (bB (g := gb313) (o := .cells #[.int .i64 a3_0, .int .i64 a3_1] 23 (0, 0)) (by (with_reducible repeat (first | refine bN ?_ _ | refine bD ?_ | refine bA ?_ _)); refine bR ?_ NB313_346.out _; (with_reducible repeat (first | refine bN ?_ _ | refine bD ?_ | refine bA ?_ _)); refine bR ?_ NB313_346.out _; (with_reducible repeat (first | refine bN ?_ _ | refine bD ?_ | refine bA ?_ _)); exact BK313.out) hb); have n4_ := Aside0.mk (bB (g := gb334) (o := .cells #[.int .i64 t331, .int .i64 t332] 23 (0, 0)) (by (with_reducible repeat (first | refine bN ?_ _ | refine bD ?_ | refine bA ?_ _)); refine bR ?_ NB334_346.out _; (with_reducible repeat (first | refine bN ?_ _ | refine bD ?_ | refine bA ?_ _)); refine bR ?_ NB334_346.out _; (with_reducible repeat (first | refine bN ?_ _ | refine bD ?_ | refine bA ?_ _)); exact BK334.out) hb); have n5_ := Aside0.mk (bB (g := gb338) (o := .cells #[.int .i64 t335, .int .i64 t336] 23 (0, 0)) (by (with_reducible repeat (first | refine bN ?_ _ | refine bD ?_ | refine bA ?_ _)); refine bR ?_ NB338_346.out _; (with_reducible repeat (first | refine bN ?_ _ | refine bD ?_ | refine bA ?_ _)); refine bR ?_ NB338_346.out _; (with_reducible repeat (first | refine bN ?_ _ | refine bD ?_ | refine bA ?_ _)); exact BK338.out) hb); have n6_ := Aside0.mk (bB (g := gb342) (o := .cells #[.int .i64 t339, .int .i64 t340] 23 (0, 0)) (by (with_reducible repeat (first | refine bN ?_ _ | refine bD ?_ | refine bA ?_ _)); refine bR ?_ NB342_346.out _; (with_reducible repeat (first | refine bN ?_ _ | refine bD ?_ | refine bA ?_ _)); refine bR ?_ NB342_346.out _; (with_reducible repeat (first | refine bN ?_ _ | refine bD ?_ | refine bA ?_ _)); exact BK342.out) hb); have n7_ := Aside0.mk (bB (g := gb346) (o := .cells #[.int .i64 t343, .int .i64 t344] 23 (0, 0)) (by (with_reducible repeat (first | refine bN ?_ _ | refine bD ?_ | refine bA ?_ _)); refine bU (cs := #[.int .i64 t343, .int .i64 0]) ?_ 1 _ rfl; (with_reducible repeat (first | refine bN ?_ _ | refine bD ?_ | refine bA ?_ _)); refine bU (cs := #[.int .i64 0, .int .i64 0]) ?_ 0 _ rfl; (with_reducible repeat (first | refine bN ?_ _ | refine bD ?_ | refine bA ?_ _)); exact BK346.out) hb); have n8_ := Aside0.mk (bP (by repeat (first | (with_reducible first | exact HB.out | apply bL | apply bW | apply b1 | refine bS ?_ GE310.out | refine bS ?_ GE311.out | refine bS ?_ GE312.out | refine bS ?_ GE313.out | refine bS ?_ GE334.out | refine bS ?_ GE338.out | refine bS ?_ GE342.out | refine bS ?_ GE346.out) | exact HB.out)) hb); clear BK310; clear BK311; clear BK312; clear BK313; clear BK334; clear BK338; clear BK342; clear BK346; clear HB; have BK310 := n0_; have BK311 := n1_; have BK312 := n2_; have BK313 := n3_; have BK334 := n4_; have BK338 := n5_; have BK342 := n6_; have BK346 := n7_; have HB := n8_; clear n0_ n1_ n2_ n3_ n4_ n5_ n6_ n7_ n8_; (try clear hb); (try clear hb2); (try clear hk); (try clear hi)))
           go_meet
           case rel => exact ⟨_, (true), (by first | rfl | (simp; done) | (simp [*]; done)), H', ⟨by have := HJ7.out; have := HJ64.out; first | omega | exact Nat.le_refl _⟩, ⟨by (with_reducible repeat (first | refine bN ?_ _ | refine bD ?_ | refine bA ?_ _)); exact BK310.out⟩, ⟨by (with_reducible repeat (first | refine bN ?_ _ | refine bD ?_ | refine bA ?_ _)); exact BK311.out⟩, ⟨by (with_reducible repeat (first | refine bN ?_ _ | refine bD ?_ | refine bA ?_ _)); exact BK312.out⟩, ⟨by (with_reducible repeat (first | refine bN ?_ _ | refine bD ?_ | refine bA ?_ _)); exact BK313.out⟩, ⟨by (with_reducible repeat (first | refine bN ?_ _ | refine bD ?_ | refine bA ?_ _)); exact BK334.out⟩, ⟨by (with_reducible repeat (first | refine bN ?_ _ | refine bD ?_ | refine bA ?_ _)); exact BK338.out⟩, ⟨by (with_reducible repeat (first | refine bN ?_ _ | refine bD ?_ | refine bA ?_ _)); exact BK342.out⟩, ⟨by (with_reducible repeat (first | refine bN ?_ _ | refine bD ?_ | refine bA ?_ _)); exact BK346.out⟩, ⟨by repeat (first | (with_reducible first | exact HB.out | apply bL | apply bW | apply b1 | refine bS ?_ GE310.out | refine bS ?_ GE311.out | refine bS ?_ GE312.out | refine bS ?_ GE313.out | refine bS ?_ GE334.out | refine bS ?_ GE338.out | refine bS ?_ GE342.out | refine bS ?_ GE346.out) | exact HB.out)⟩⟩
         ·
          replace c149 := Bool.eq_false_iff.mpr c149
          subst c149
          have H1 : (bournelaw09_SpanGrows.j2 kj64 t314 true a0_0 a0_1 a1_0 a1_1 a2_0 a2_1 a3_0 a3_1) = some r := by rw [if_neg (show ¬ (false = true) by decide)] at H; exact H
          clear H
          have H := H1
          clear H1
          have H' := Aside0.mk H
          clear H
          go_wp2
          go_meet
          case rel => exact ⟨_, (true), (by first | rfl | (simp; done) | (simp [*]; done)), H', ⟨by have := HJ7.out; have := HJ64.out; first | omega | exact Nat.le_refl _⟩, ⟨by (with_reducible repeat (first | refine bN ?_ _ | refine bD ?_ | refine bA ?_ _)); refine bR ?_ NB310_346.out _; (with_reducible repeat (first | refine bN ?_ _ | refine bD ?_ | refine bA ?_ _)); refine bR ?_ NB310_346.out _; (with_reducible repeat (first | refine bN ?_ _ | refine bD ?_ | refine bA ?_ _)); exact BK310.out⟩, ⟨by (with_reducible repeat (first | refine bN ?_ _ | refine bD ?_ | refine bA ?_ _)); refine bR ?_ NB311_346.out _; (with_reducible repeat (first | refine bN ?_ _ | refine bD ?_ | refine bA ?_ _)); refine bR ?_ NB311_346.out _; (with_reducible repeat (first | refine bN ?_ _ | refine bD ?_ | refine bA ?_ _)); exact BK311.out⟩, ⟨by (with_reducible repeat (first | refine bN ?_ _ | refine bD ?_ | refine bA ?_ _)); refine bR ?_ NB312_346.out _; (with_reducible repeat (first | refine bN ?_ _ | refine bD ?_ | refine bA ?_ _)); refine bR ?_ NB312_346.out _; (with_reducible repeat (first | refine bN ?_ _ | refine bD ?_ | refine bA ?_ _)); exact BK312.out⟩, ⟨by (with_reducible repeat (first | refine bN ?_ _ | refine bD ?_ | refine bA ?_ _)); refine bR ?_ NB313_346.out _; (with_reducible repeat (first | refine bN ?_ _ | refine bD ?_ | refine bA ?_ _)); refine bR ?_ NB313_346.out _; (with_reducible repeat (first | refine bN ?_ _ | refine bD ?_ | refine bA ?_ _)); exact BK313.out⟩, ⟨by (with_reducible repeat (first | refine bN ?_ _ | refine bD ?_ | refine bA ?_ _)); refine bR ?_ NB334_346.out _; (with_reducible repeat (first | refine bN ?_ _ | refine bD ?_ | refine bA ?_ _)); refine bR ?_ NB334_346.out _; (with_reducible repeat (first | refine bN ?_ _ | refine bD ?_ | refine bA ?_ _)); exact BK334.out⟩, ⟨by (with_reducible repeat (first | refine bN ?_ _ | refine bD ?_ | refine bA ?_ _)); refine bR ?_ NB338_346.out _; (with_reducible repeat (first | refine bN ?_ _ | refine bD ?_ | refine bA ?_ _)); refine bR ?_ NB338_346.out _; (with_reducible repeat (first | refine bN ?_ _ | refine bD ?_ | refine bA ?_ _)); exact BK338.out⟩, ⟨by (with_reducible repeat (first | refine bN ?_ _ | refine bD ?_ | refine bA ?_ _)); refine bR ?_ NB342_346.out _; (with_reducible repeat (first | refine bN ?_ _ | refine bD ?_ | refine bA ?_ _)); refine bR ?_ NB342_346.out _; (with_reducible repeat (first | refine bN ?_ _ | refine bD ?_ | refine bA ?_ _)); exact BK342.out⟩, ⟨by (with_reducible repeat (first | refine bN ?_ _ | refine bD ?_ | refine bA ?_ _)); refine bU (cs := #[.int .i64 t343, .int .i64 0]) ?_ 1 _ rfl; (with_reducible repeat (first | refine bN ?_ _ | refine bD ?_ | refine bA ?_ _)); refine bU (cs := #[.int .i64 0, .int .i64 0]) ?_ 0 _ rfl; (with_reducible repeat (first | refine bN ?_ _ | refine bD ?_ | refine bA ?_ _)); exact BK346.out⟩, ⟨by repeat (first | (with_reducible first | exact HB.out | apply bL | apply bW | apply b1 | refine bS ?_ GE310.out | refine bS ?_ GE311.out | refine bS ?_ GE312.out | refine bS ?_ GE313.out | refine bS ?_ GE334.out | refine bS ?_ GE338.out | refine bS ?_ GE342.out | refine bS ?_ GE346.out) | exact HB.out)⟩⟩
        ·
         replace c148 := Bool.eq_false_iff.mpr c148
         subst c148
         have H1 : (if t345 = true then (if t341 = true then ((span_Within.f t339 t340 t343 t344).bind fun t349 => (bournelaw09_SpanGrows.j2 kj64 t314 (!t349) a0_0 a0_1 a1_0 a1_1 a2_0 a2_1 a3_0 a3_1)) else (bournelaw09_SpanGrows.j2 kj64 t314 true a0_0 a0_1 a1_0 a1_1 a2_0 a2_1 a3_0 a3_1)) else (bournelaw09_SpanGrows.j2 kj64 t314 false a0_0 a0_1 a1_0 a1_1 a2_0 a2_1 a3_0 a3_1)) = some r := by rw [if_neg (show ¬ (false = true) by decide)] at H; exact H
         clear H
         have H := H1
         clear H1
         by_cases c231 : t345 = true
         ·
          subst c231
          have H1 : (if t341 = true then ((span_Within.f t339 t340 t343 t344).bind fun t349 => (bournelaw09_SpanGrows.j2 kj64 t314 (!t349) a0_0 a0_1 a1_0 a1_1 a2_0 a2_1 a3_0 a3_1)) else (bournelaw09_SpanGrows.j2 kj64 t314 true a0_0 a0_1 a1_0 a1_1 a2_0 a2_1 a3_0 a3_1)) = some r := by rw [if_pos rfl] at H; exact H
          clear H
          have H := H1
          clear H1
          by_cases c232 : t341 = true
          ·
           subst c232
           have H1 : ((span_Within.f t339 t340 t343 t344).bind fun t349 => (bournelaw09_SpanGrows.j2 kj64 t314 (!t349) a0_0 a0_1 a1_0 a1_1 a2_0 a2_1 a3_0 a3_1)) = some r := by rw [if_pos rfl] at H; exact H
           clear H
           have H := H1
           clear H1
           replace H := Option.bind_eq_some_iff.mp H
           obtain ⟨t349, A2330, H⟩ := H
           have A233 := Aside0.mk A2330
           clear A2330
           have H' := Aside0.mk H
           clear H
           have hnb234 := NB342_310.out
           have hnc234 := NB310_342.out
           have hnb235 := NB342_311.out
           have hnc235 := NB311_342.out
           have hnb236 := NB342_312.out
           have hnc236 := NB312_342.out
           have hnb237 := NB342_313.out
           have hnc237 := NB313_342.out
           have hnb238 := NB342_334.out
           have hnc238 := NB334_342.out
           have hnb239 := NB342_338.out
           have hnc239 := NB338_342.out
           have hnb240 := NB342_346.out
           have hnc240 := NB346_342.out
           have hcz241_0 : w139.cell? ⟨gb342, 0, none⟩ = some (.int .i64 t339) := (bC BK342.out 0).trans rfl
           have hcz241_1 : w139.cell? ⟨gb342, 1, none⟩ = some (.int .i64 t340) := (bC BK342.out 1).trans rfl
           have hfz241_0 := bF BK342.out 0
           have hfz241_1 := bF BK342.out 1
           have hnb242 := NB346_310.out
           have hnc242 := NB310_346.out
           have hnb243 := NB346_311.out
           have hnc243 := NB311_346.out
           have hnb244 := NB346_312.out
           have hnc244 := NB312_346.out
           have hnb245 := NB346_313.out
           have hnc245 := NB313_346.out
           have hnb246 := NB346_334.out
           have hnc246 := NB334_346.out
           have hnb247 := NB346_338.out
           have hnc247 := NB338_346.out
           have hcz248_0 : w139.cell? ⟨gb346, 0, none⟩ = some (.int .i64 0) := (bC BK346.out 0).trans rfl
           have hcz248_1 : w139.cell? ⟨gb346, 1, none⟩ = some (.int .i64 0) := (bC BK346.out 1).trans rfl
           have hfz248_0 := bF BK346.out 0
           have hfz248_1 := bF BK346.out 1
           go_wp2_with (first | (go_at_call 25; (with_reducible refine (span_Within.calls t339 t340 t343 t344 t349 _ A233.out).mono ?_); rintro e w249 ⟨rfl, hb⟩; (try clear A233); have n0_ := Aside0.mk (bB (g := gb310) (o := .cells #[.int .i64 a0_0, .int .i64 a0_1] 23 (0, 0)) (by (with_reducible repeat (first | refine bN ?_ _ | refine bD ?_ | refine bA ?_ _)); refine bR ?_ NB310_346.out _; (with_reducible repeat (first | refine bN ?_ _ | refine bD ?_ | refine bA ?_ _)); refine bR ?_ NB310_346.out _; (with_reducible repeat (first | refine bN ?_ _ | refine bD ?_ | refine bA ?_ _)); exact BK310.out) hb); have n1_ := Aside0.mk (bB (g := gb311) (o := .cells #[.int .i64 a1_0, .int .i64 a1_1] 23 (0, 0)) (by (with_reducible repeat (first | refine bN ?_ _ | refine bD ?_ | refine bA ?_ _)); refine bR ?_ NB311_346.out _; (with_reducible repeat (first | refine bN ?_ _ | refine bD ?_ | refine bA ?_ _)); refine bR ?_ NB311_346.out _; (with_reducible repeat (first | refine bN ?_ _ | refine bD ?_ | refine bA ?_ _)); exact BK311.out) hb); have n2_ := Aside0.mk (bB (g := gb312) (o := .cells #[.int .i64 a2_0, .int .i64 a2_1] 23 (0, 0)) (by (with_reducible repeat (first | refine bN ?_ _ | refine bD ?_ | refine bA ?_ _)); refine bR ?_ NB312_346.out _; (with_reducible repeat (first | refine bN ?_ _ | refine bD ?_ | refine bA ?_ _)); refine bR ?_ NB312_346.out _; (with_reducible repeat (first | refine bN ?_ _ | refine bD ?_ | refine bA ?_ _)); exact BK312.out) hb); have n3_ := Aside0.mk (bB (g := gb313) (o := .cells #[.int .i64 a3_0, .int .i64 a3_1] 23 (0, 0)) (by (with_reducible repeat (first | refine bN ?_ _ | refine bD ?_ | refine bA ?_ _)); refine bR ?_ NB313_346.out _; (with_reducible repeat (first | refine bN ?_ _ | refine bD ?_ | refine bA ?_ _)); refine bR ?_ NB313_346.out _; (with_reducible repeat (first | refine bN ?_ _ | refine bD ?_ | refine bA ?_ _)); exact BK313.out) hb); have n4_ := Aside0.mk (bB (g := gb334) (o := .cells #[.int .i64 t331, .int .i64 t332] 23 (0, 0)) (by (with_reducible repeat (first | refine bN ?_ _ | refine bD ?_ | refine bA ?_ _)); refine bR ?_ NB334_346.out _; (with_reducible repeat (first | refine bN ?_ _ | refine bD ?_ | refine bA ?_ _)); refine bR ?_ NB334_346.out _; (with_reducible repeat (first | refine bN ?_ _ | refine bD ?_ | refine bA ?_ _)); exact BK334.out) hb); have n5_ := Aside0.mk (bB (g := gb338) (o := .cells #[.int .i64 t335, .int .i64 t336] 23 (0, 0)) (by (with_reducible repeat (first | refine bN ?_ _ | refine bD ?_ | refine bA ?_ _)); refine bR ?_ NB338_346.out _; (with_reducible repeat (first | refine bN ?_ _ | refine bD ?_ | refine bA ?_ _)); refine bR ?_ NB338_346.out _; (with_reducible repeat (first | refine bN ?_ _ | refine bD ?_ | refine bA ?_ _)); exact BK338.out) hb); have n6_ := Aside0.mk (bB (g := gb342) (o := .cells #[.int .i64 t339, .int .i64 t340] 23 (0, 0)) (by (with_reducible repeat (first | refine bN ?_ _ | refine bD ?_ | refine bA ?_ _)); refine bR ?_ NB342_346.out _; (with_reducible repeat (first | refine bN ?_ _ | refine bD ?_ | refine bA ?_ _)); refine bR ?_ NB342_346.out _; (with_reducible repeat (first | refine bN ?_ _ | refine bD ?_ | refine bA ?_ _)); exact BK342.out) hb); have n7_ := Aside0.mk (bB (g := gb346) (o := .cells #[.int .i64 t343, .int .i64 t344] 23 (0, 0)) (by (with_reducible repeat (first | refine bN ?_ _ | refine bD ?_ | refine bA ?_ _)); refine bU (cs := #[.int .i64 t343, .int .i64 0]) ?_ 1 _ rfl; (with_reducible repeat (first | refine bN ?_ _ | refine bD ?_ | refine bA ?_ _)); refine bU (cs := #[.int .i64 0, .int .i64 0]) ?_ 0 _ rfl; (with_reducible repeat (first | refine bN ?_ _ | refine bD ?_ | refine bA ?_ _)); exact BK346.out) hb); have n8_ := Aside0.mk (bP (by repeat (first | (with_reducible first | exact HB.out | apply bL | apply bW | apply b1 | refine bS ?_ GE310.out | refine bS ?_ GE311.out | refine bS ?_ GE312.out | refine bS ?_ GE313.out | refine bS ?_ GE334.out | refine bS ?_ GE338.out | refine bS ?_ GE342.out | refine bS ?_ GE346.out) | exact HB.out)) hb); clear BK310; clear BK311; clear BK312; clear BK313; clear BK334; clear BK338; clear BK342; clear BK346; clear HB; have BK310 := n0_; have BK311 := n1_; have BK312 := n2_; have BK313 := n3_; have BK334 := n4_; have BK338 := n5_; have BK342 := n6_; have BK346 := n7_; have HB := n8_; clear n0_ n1_ n2_ n3_ n4_ n5_ n6_ n7_ n8_; (try clear hb); (try clear hb2); (try clear hk); (try clear hi)))
           go_meet
           case rel => exact ⟨_, (!t349), (by first | rfl | (simp; done) | (simp [*]; done)), H', ⟨by have := HJ7.out; have := HJ64.out; first | omega | exact Nat.le_refl _⟩, ⟨by (with_reducible repeat (first | refine bN ?_ _ | refine bD ?_ | refine bA ?_ _)); exact BK310.out⟩, ⟨by (with_reducible repeat (first | refine bN ?_ _ | refine bD ?_ | refine bA ?_ _)); exact BK311.out⟩, ⟨by (with_reducible repeat (first | refine bN ?_ _ | refine bD ?_ | refine bA ?_ _)); exact BK312.out⟩, ⟨by (with_reducible repeat (first | refine bN ?_ _ | refine bD ?_ | refine bA ?_ _)); exact BK313.out⟩, ⟨by (with_reducible repeat (first | refine bN ?_ _ | refine bD ?_ | refine bA ?_ _)); exact BK334.out⟩, ⟨by (with_reducible repeat (first | refine bN ?_ _ | refine bD ?_ | refine bA ?_ _)); exact BK338.out⟩, ⟨by (with_reducible repeat (first | refine bN ?_ _ | refine bD ?_ | refine bA ?_ _)); exact BK342.out⟩, ⟨by (with_reducible repeat (first | refine bN ?_ _ | refine bD ?_ | refine bA ?_ _)); exact BK346.out⟩, ⟨by repeat (first | (with_reducible first | exact HB.out | apply bL | apply bW | apply b1 | refine bS ?_ GE310.out | refine bS ?_ GE311.out | refine bS ?_ GE312.out | refine bS ?_ GE313.out | refine bS ?_ GE334.out | refine bS ?_ GE338.out | refine bS ?_ GE342.out | refine bS ?_ GE346.out) | exact HB.out)⟩⟩
          ·
           replace c232 := Bool.eq_false_iff.mpr c232
           subst c232
           have H1 : (bournelaw09_SpanGrows.j2 kj64 t314 true a0_0 a0_1 a1_0 a1_1 a2_0 a2_1 a3_0 a3_1) = some r := by rw [if_neg (show ¬ (false = true) by decide)] at H; exact H
           clear H
           have H := H1
           clear H1
           have H' := Aside0.mk H
           clear H
           go_wp2
           go_meet
           case rel => exact ⟨_, (true), (by first | rfl | (simp; done) | (simp [*]; done)), H', ⟨by have := HJ7.out; have := HJ64.out; first | omega | exact Nat.le_refl _⟩, ⟨by (with_reducible repeat (first | refine bN ?_ _ | refine bD ?_ | refine bA ?_ _)); refine bR ?_ NB310_346.out _; (with_reducible repeat (first | refine bN ?_ _ | refine bD ?_ | refine bA ?_ _)); refine bR ?_ NB310_346.out _; (with_reducible repeat (first | refine bN ?_ _ | refine bD ?_ | refine bA ?_ _)); exact BK310.out⟩, ⟨by (with_reducible repeat (first | refine bN ?_ _ | refine bD ?_ | refine bA ?_ _)); refine bR ?_ NB311_346.out _; (with_reducible repeat (first | refine bN ?_ _ | refine bD ?_ | refine bA ?_ _)); refine bR ?_ NB311_346.out _; (with_reducible repeat (first | refine bN ?_ _ | refine bD ?_ | refine bA ?_ _)); exact BK311.out⟩, ⟨by (with_reducible repeat (first | refine bN ?_ _ | refine bD ?_ | refine bA ?_ _)); refine bR ?_ NB312_346.out _; (with_reducible repeat (first | refine bN ?_ _ | refine bD ?_ | refine bA ?_ _)); refine bR ?_ NB312_346.out _; (with_reducible repeat (first | refine bN ?_ _ | refine bD ?_ | refine bA ?_ _)); exact BK312.out⟩, ⟨by (with_reducible repeat (first | refine bN ?_ _ | refine bD ?_ | refine bA ?_ _)); refine bR ?_ NB313_346.out _; (with_reducible repeat (first | refine bN ?_ _ | refine bD ?_ | refine bA ?_ _)); refine bR ?_ NB313_346.out _; (with_reducible repeat (first | refine bN ?_ _ | refine bD ?_ | refine bA ?_ _)); exact BK313.out⟩, ⟨by (with_reducible repeat (first | refine bN ?_ _ | refine bD ?_ | refine bA ?_ _)); refine bR ?_ NB334_346.out _; (with_reducible repeat (first | refine bN ?_ _ | refine bD ?_ | refine bA ?_ _)); refine bR ?_ NB334_346.out _; (with_reducible repeat (first | refine bN ?_ _ | refine bD ?_ | refine bA ?_ _)); exact BK334.out⟩, ⟨by (with_reducible repeat (first | refine bN ?_ _ | refine bD ?_ | refine bA ?_ _)); refine bR ?_ NB338_346.out _; (with_reducible repeat (first | refine bN ?_ _ | refine bD ?_ | refine bA ?_ _)); refine bR ?_ NB338_346.out _; (with_reducible repeat (first | refine bN ?_ _ | refine bD ?_ | refine bA ?_ _)); exact BK338.out⟩, ⟨by (with_reducible repeat (first | refine bN ?_ _ | refine bD ?_ | refine bA ?_ _)); refine bR ?_ NB342_346.out _; (with_reducible repeat (first | refine bN ?_ _ | refine bD ?_ | refine bA ?_ _)); refine bR ?_ NB342_346.out _; (with_reducible repeat (first | refine bN ?_ _ | refine bD ?_ | refine bA ?_ _)); exact BK342.out⟩, ⟨by (with_reducible repeat (first | refine bN ?_ _ | refine bD ?_ | refine bA ?_ _)); refine bU (cs := #[.int .i64 t343, .int .i64 0]) ?_ 1 _ rfl; (with_reducible repeat (first | refine bN ?_ _ | refine bD ?_ | refine bA ?_ _)); refine bU (cs := #[.int .i64 0, .int .i64 0]) ?_ 0 _ rfl; (with_reducible repeat (first | refine bN ?_ _ | refine bD ?_ | refine bA ?_ _)); exact BK346.out⟩, ⟨by repeat (first | (with_reducible first | exact HB.out | apply bL | apply bW | apply b1 | refine bS ?_ GE310.out | refine bS ?_ GE311.out | refine bS ?_ GE312.out | refine bS ?_ GE313.out | refine bS ?_ GE334.out | refine bS ?_ GE338.out | refine bS ?_ GE342.out | refine bS ?_ GE346.out) | exact HB.out)⟩⟩
         ·
          replace c231 := Bool.eq_false_iff.mpr c231
          subst c231
          have H1 : (bournelaw09_SpanGrows.j2 kj64 t314 false a0_0 a0_1 a1_0 a1_1 a2_0 a2_1 a3_0 a3_1) = some r := by rw [if_neg (show ¬ (false = true) by decide)] at H; exact H
          clear H
          have H := H1
          clear H1
          have H' := Aside0.mk H
          clear H
          go_wp2
          go_meet
          case rel => exact ⟨_, (false), (by first | rfl | (simp; done) | (simp [*]; done)), H', ⟨by have := HJ7.out; have := HJ64.out; first | omega | exact Nat.le_refl _⟩, ⟨by (with_reducible repeat (first | refine bN ?_ _ | refine bD ?_ | refine bA ?_ _)); refine bR ?_ NB310_346.out _; (with_reducible repeat (first | refine bN ?_ _ | refine bD ?_ | refine bA ?_ _)); refine bR ?_ NB310_346.out _; (with_reducible repeat (first | refine bN ?_ _ | refine bD ?_ | refine bA ?_ _)); exact BK310.out⟩, ⟨by (with_reducible repeat (first | refine bN ?_ _ | refine bD ?_ | refine bA ?_ _)); refine bR ?_ NB311_346.out _; (with_reducible repeat (first | refine bN ?_ _ | refine bD ?_ | refine bA ?_ _)); refine bR ?_ NB311_346.out _; (with_reducible repeat (first | refine bN ?_ _ | refine bD ?_ | refine bA ?_ _)); exact BK311.out⟩, ⟨by (with_reducible repeat (first | refine bN ?_ _ | refine bD ?_ | refine bA ?_ _)); refine bR ?_ NB312_346.out _; (with_reducible repeat (first | refine bN ?_ _ | refine bD ?_ | refine bA ?_ _)); refine bR ?_ NB312_346.out _; (with_reducible repeat (first | refine bN ?_ _ | refine bD ?_ | refine bA ?_ _)); exact BK312.out⟩, ⟨by (with_reducible repeat (first | refine bN ?_ _ | refine bD ?_ | refine bA ?_ _)); refine bR ?_ NB313_346.out _; (with_reducible repeat (first | refine bN ?_ _ | refine bD ?_ | refine bA ?_ _)); refine bR ?_ NB313_346.out _; (with_reducible repeat (first | refine bN ?_ _ | refine bD ?_ | refine bA ?_ _)); exact BK313.out⟩, ⟨by (with_reducible repeat (first | refine bN ?_ _ | refine bD ?_ | refine bA ?_ _)); refine bR ?_ NB334_346.out _; (with_reducible repeat (first | refine bN ?_ _ | refine bD ?_ | refine bA ?_ _)); refine bR ?_ NB334_346.out _; (with_reducible repeat (first | refine bN ?_ _ | refine bD ?_ | refine bA ?_ _)); exact BK334.out⟩, ⟨by (with_reducible repeat (first | refine bN ?_ _ | refine bD ?_ | refine bA ?_ _)); refine bR ?_ NB338_346.out _; (with_reducible repeat (first | refine bN ?_ _ | refine bD ?_ | refine bA ?_ _)); refine bR ?_ NB338_346.out _; (with_reducible repeat (first | refine bN ?_ _ | refine bD ?_ | refine bA ?_ _)); exact BK338.out⟩, ⟨by (with_reducible repeat (first | refine bN ?_ _ | refine bD ?_ | refine bA ?_ _)); refine bR ?_ NB342_346.out _; (with_reducible repeat (first | refine bN ?_ _ | refine bD ?_ | refine bA ?_ _)); refine bR ?_ NB342_346.out _; (with_reducible repeat (first | refine bN ?_ _ | refine bD ?_ | refine bA ?_ _)); exact BK342.out⟩, ⟨by (with_reducible repeat (first | refine bN ?_ _ | refine bD ?_ | refine bA ?_ _)); refine bU (cs := #[.int .i64 t343, .int .i64 0]) ?_ 1 _ rfl; (with_reducible repeat (first | refine bN ?_ _ | refine bD ?_ | refine bA ?_ _)); refine bU (cs := #[.int .i64 0, .int .i64 0]) ?_ 0 _ rfl; (with_reducible repeat (first | refine bN ?_ _ | refine bD ?_ | refine bA ?_ _)); exact BK346.out⟩, ⟨by repeat (first | (with_reducible first | exact HB.out | apply bL | apply bW | apply b1 | refine bS ?_ GE310.out | refine bS ?_ GE311.out | refine bS ?_ GE312.out | refine bS ?_ GE313.out | refine bS ?_ GE334.out | refine bS ?_ GE338.out | refine bS ?_ GE342.out | refine bS ?_ GE346.out) | exact HB.out)⟩⟩
       case rest =>
        clear HC101
        try clear c1
        try clear c2
        try clear p2
        try clear c6
        try clear c9
        try clear c10
        try clear c11
        try clear c12
        try clear c13
        try clear c14
        try clear c15
        try clear c16
        try clear c17
        try clear c18
        try clear c19
        try clear c20
        try clear c21
        try clear c22
        try clear c23
        try clear c24
        try clear c25
        try clear c69
        try clear c96
        try clear c102
        try clear c103
        try clear c104
        try clear c106
        try clear c107
        try clear c111
        try clear c112
        try clear c113
        try clear c114
        try clear c116
        try clear c121
        try clear c122
        try clear c123
        try clear c124
        try clear c125
        try clear c130
        try clear c131
        try clear c132
        try clear c133
        try clear c134
        try clear c135
        try clear c140
        try clear c141
        try clear c142
        try clear c143
        try clear c144
        try clear c145
        try clear c146
        try clear c148
        try clear c149
        try clear c151
        try clear c152
        try clear c153
        try clear c155
        try clear c156
        try clear c157
        try clear c158
        try clear c159
        try clear c160
        try clear c161
        try clear c163
        try clear c164
        try clear c165
        try clear c166
        try clear c167
        try clear c168
        try clear c171
        try clear c172
        try clear c173
        try clear c174
        try clear c175
        try clear c177
        try clear c178
        try clear c179
        try clear c180
        try clear c183
        try clear c184
        try clear c185
        try clear c186
        try clear c187
        try clear c188
        try clear c189
        try clear c191
        try clear c192
        try clear c193
        try clear c194
        try clear c195
        try clear c196
        try clear c199
        try clear c200
        try clear c201
        try clear c202
        try clear c203
        try clear c204
        try clear c205
        try clear c207
        try clear c208
        try clear c209
        try clear c210
        try clear c211
        try clear c212
        try clear c215
        try clear c216
        try clear c217
        try clear c218
        try clear c219
        try clear c220
        try clear c221
        try clear c223
        try clear c224
        try clear c225
        try clear c226
        try clear c227
        try clear c228
        try clear c231
        try clear c232
        try clear c234
        try clear c235
        try clear c236
        try clear c237
        try clear c238
        try clear c239
        try clear c240
        try clear c242
        try clear c243
        try clear c244
        try clear c245
        try clear c246
        try clear c247
        try clear hcz105_0
        try clear hcz105_1
        try clear hcz108_0
        try clear hcz108_1
        try clear hcz115_0
        try clear hcz115_1
        try clear hcz117_0
        try clear hcz117_1
        try clear hcz118_0
        try clear hcz118_1
        try clear hcz126_0
        try clear hcz126_1
        try clear hcz127_0
        try clear hcz127_1
        try clear hcz136_0
        try clear hcz136_1
        try clear hcz137_0
        try clear hcz137_1
        try clear hcz147_0
        try clear hcz147_1
        try clear hcz162_0
        try clear hcz162_1
        try clear hcz169_0
        try clear hcz169_1
        try clear hcz176_0
        try clear hcz176_1
        try clear hcz181_0
        try clear hcz181_1
        try clear hcz190_0
        try clear hcz190_1
        try clear hcz197_0
        try clear hcz197_1
        try clear hcz206_0
        try clear hcz206_1
        try clear hcz213_0
        try clear hcz213_1
        try clear hcz222_0
        try clear hcz222_1
        try clear hcz229_0
        try clear hcz229_1
        try clear hcz241_0
        try clear hcz241_1
        try clear hcz248_0
        try clear hcz248_1
        try clear hfz105_0
        try clear hfz105_1
        try clear hfz108_0
        try clear hfz108_1
        try clear hfz115_0
        try clear hfz115_1
        try clear hfz117_0
        try clear hfz117_1
        try clear hfz118_0
        try clear hfz118_1
        try clear hfz126_0
        try clear hfz126_1
        try clear hfz127_0
        try clear hfz127_1
        try clear hfz136_0
        try clear hfz136_1
        try clear hfz137_0
        try clear hfz137_1
        try clear hfz147_0
        try clear hfz147_1
        try clear hfz162_0
        try clear hfz162_1
        try clear hfz169_0
        try clear hfz169_1
        try clear hfz176_0
        try clear hfz176_1
        try clear hfz181_0
        try clear hfz181_1
        try clear hfz190_0
        try clear hfz190_1
        try clear hfz197_0
        try clear hfz197_1
        try clear hfz206_0
        try clear hfz206_1
        try clear hfz213_0
        try clear hfz213_1
        try clear hfz222_0
        try clear hfz222_1
        try clear hfz229_0
        try clear hfz229_1
        try clear hfz241_0
        try clear hfz241_1
        try clear hfz248_0
        try clear hfz248_1
        try clear p2
        obtain ⟨kq, x118_100, rfl, HA, HJ100, BK310, BK311, BK312, BK313, BK334, BK338, BK342, BK346, HB⟩ := hcut
        cases kq with
        | zero => exact absurd HA.out (by simp [bournelaw09_SpanGrows.j2])
        | succ kj100 =>
         have H := HA.out
         clear HA
         simp only [bournelaw09_SpanGrows.j2] at H
         by_cases c250 : x118_100 = true
         ·
          subst c250
          have H1 : (some false) = some r := by rw [if_pos rfl] at H; exact H
          clear H
          have H := H1
          clear H1
          exact absurd (H.trans (congrArg some hT.out)) (by simp)
         ·
          replace c250 := Bool.eq_false_iff.mpr c250
          subst c250
          have H1 : (if t314 = true then ((span_Join.f a0_0 a0_1 a1_0 a1_1).bind fun bt350 => ((span_Join.f a2_0 a2_1 a3_0 a3_1).bind fun bt352 => ((span_Within.f bt350.1 bt350.2 bt352.1 bt352.2).bind fun t354 => (some t354)))) else (some false)) = some r := by rw [if_neg (show ¬ (false = true) by decide)] at H; exact H
          clear H
          have H := H1
          clear H1
          by_cases c251 : t314 = true
          ·
           subst c251
           have H1 : ((span_Join.f a0_0 a0_1 a1_0 a1_1).bind fun bt350 => ((span_Join.f a2_0 a2_1 a3_0 a3_1).bind fun bt352 => ((span_Within.f bt350.1 bt350.2 bt352.1 bt352.2).bind fun t354 => (some t354)))) = some r := by rw [if_pos rfl] at H; exact H
           clear H
           have H := H1
           clear H1
           replace H := Option.bind_eq_some_iff.mp H
           obtain ⟨⟨t350, t351⟩, A2520, H⟩ := H
           dsimp only at H
           have A252 := Aside0.mk A2520
           clear A2520
           replace H := Option.bind_eq_some_iff.mp H
           obtain ⟨⟨t352, t353⟩, A2530, H⟩ := H
           dsimp only at H
           have A253 := Aside0.mk A2530
           clear A2530
           replace H := Option.bind_eq_some_iff.mp H
           obtain ⟨t354, A2540, H⟩ := H
           have A254 := Aside0.mk A2540
           clear A2540
           obtain rfl := Option.some.inj H
           try go_wp2
           have n0_ := Aside0.mk (bD BK310.out)
           have n1_ := Aside0.mk (bD BK311.out)
           have n2_ := Aside0.mk (bD BK312.out)
           have n3_ := Aside0.mk (bD BK313.out)
           have n4_ := Aside0.mk (bD BK334.out)
           have n5_ := Aside0.mk (bD BK338.out)
           have n6_ := Aside0.mk (bD BK342.out)
           have n7_ := Aside0.mk (bD BK346.out)
           have n8_ := Aside0.mk (b1 HB.out)
           clear BK310
           clear BK311
           clear BK312
           clear BK313
           clear BK334
           clear BK338
           clear BK342
           clear BK346
           clear HB
           have BK310 := n0_
           have BK311 := n1_
           have BK312 := n2_
           have BK313 := n3_
           have BK334 := n4_
           have BK338 := n5_
           have BK342 := n6_
           have BK346 := n7_
           have HB := n8_
           clear n0_ n1_ n2_ n3_ n4_ n5_ n6_ n7_ n8_
           refine start_ (n := 11) (S := fun w' => w'.cell? ⟨gb310, 0, none⟩ = some (.int .i64 a0_0) ∧ w'.cell? ⟨gb310, 1, none⟩ = some (.int .i64 a0_1) ∧ w'.cell? ⟨gb311, 0, none⟩ = some (.int .i64 a1_0) ∧ w'.cell? ⟨gb311, 1, none⟩ = some (.int .i64 a1_1) ∧ w'.cell? ⟨gb312, 0, none⟩ = some (.int .i64 a2_0) ∧ w'.cell? ⟨gb312, 1, none⟩ = some (.int .i64 a2_1) ∧ w'.cell? ⟨gb313, 0, none⟩ = some (.int .i64 a3_0) ∧ w'.cell? ⟨gb313, 1, none⟩ = some (.int .i64 a3_1)) (ds := []) #[false, false, false, false, false, false, false, false, false, false, false] (by kernel_rfl) rfl rfl ⟨(bC BK310.out 0).trans rfl, (bC BK310.out 1).trans rfl, (bC BK311.out 0).trans rfl, (bC BK311.out 1).trans rfl, (bC BK312.out 0).trans rfl, (bC BK312.out 1).trans rfl, (bC BK313.out 0).trans rfl, (bC BK313.out 1).trans rfl⟩ (fun hHeld => ?_); refine with_tabW bournelaw09_SpanGrows.tab12 bournelaw09_SpanGrows.bits12 (fun HT_ HW_ => ?_)
           generalize wc.drew = w255 at BK310 BK311 BK312 BK313 BK334 BK338 BK342 BK346 HB hHeld ⊢
           refine pure_ (i := 0) (N := some 119) (v := ?_) (a' := ?_) #[true, false, false, false, false, false, false, false, false, false, false] rfl rfl (any_of HT_.out (by kernel_rfl)) (fun _ _ _ h => h) (Or.inl ⟨by rfl, ?_⟩) ?_ ?_
           rotate_left
           ·
            intro w'
            go_simp
            with_reducible rfl
           rotate_left
           ·
            simp only [Act.put, List.setIfInBounds_toArray, List.set_cons_zero, List.set_cons_succ, i64_w, i32_w]
            rfl
           refine pure_ (i := 1) (N := some 120) (v := ?_) (a' := ?_) #[true, true, false, false, false, false, false, false, false, false, false] rfl rfl (any_of HT_.out (by kernel_rfl)) (fun _ _ _ h => h) (Or.inl ⟨by rfl, ?_⟩) ?_ ?_
           rotate_left
           ·
            intro w'
            go_simp
            with_reducible rfl
           rotate_left
           ·
            simp only [Act.put, List.setIfInBounds_toArray, List.set_cons_zero, List.set_cons_succ, i64_w, i32_w]
            rfl
           refine take_ (i := 2) (N := some 121) (v := ?_) (a' := ?_) #[true, true, true, false, false, false, false, false, false, false, false] rfl rfl (take_ofW HT_.out HW_.out (by kernel_rfl)) (fun _ _ _ h => h) (Or.inl ⟨by rfl, ?_⟩) hHeld ?_ ?_
           rotate_left
           ·
            rintro w' ⟨s0, s1, s2, s3, s4, s5, s6, s7⟩
            go_simp
            with_reducible rfl
           rotate_left
           ·
            simp only [Act.put, List.setIfInBounds_toArray, List.set_cons_zero, List.set_cons_succ, i64_w, i32_w]
            rfl
           refine take_ (i := 3) (N := some 122) (v := ?_) (a' := ?_) #[true, true, true, true, false, false, false, false, false, false, false] rfl rfl (take_ofW HT_.out HW_.out (by kernel_rfl)) (fun _ _ _ h => h) (Or.inl ⟨by rfl, ?_⟩) hHeld ?_ ?_
           rotate_left
           ·
            rintro w' ⟨s0, s1, s2, s3, s4, s5, s6, s7⟩
            go_simp
            with_reducible rfl
           rotate_left
           ·
            simp only [Act.put, List.setIfInBounds_toArray, List.set_cons_zero, List.set_cons_succ, i64_w, i32_w]
            rfl
           refine take_ (i := 5) (N := some 124) (v := ?_) (a' := ?_) #[true, true, true, true, false, true, false, false, false, false, false] rfl rfl (take_ofW HT_.out HW_.out (by kernel_rfl)) (fun _ _ _ h => h) (Or.inl ⟨by rfl, ?_⟩) hHeld ?_ ?_
           rotate_left
           ·
            rintro w' ⟨s0, s1, s2, s3, s4, s5, s6, s7⟩
            go_simp
            with_reducible rfl
           rotate_left
           ·
            simp only [Act.put, List.setIfInBounds_toArray, List.set_cons_zero, List.set_cons_succ, i64_w, i32_w]
            rfl
           refine take_ (i := 6) (N := some 125) (v := ?_) (a' := ?_) #[true, true, true, true, false, true, true, false, false, false, false] rfl rfl (take_ofW HT_.out HW_.out (by kernel_rfl)) (fun _ _ _ h => h) (Or.inl ⟨by rfl, ?_⟩) hHeld ?_ ?_
           rotate_left
           ·
            rintro w' ⟨s0, s1, s2, s3, s4, s5, s6, s7⟩
            go_simp
            with_reducible rfl
           rotate_left
           ·
            simp only [Act.put, List.setIfInBounds_toArray, List.set_cons_zero, List.set_cons_succ, i64_w, i32_w]
            rfl
           refine one_ (i := 4) (N := some 123) #[true, true, true, true, true, true, true, false, false, false, false] rfl rfl (one_of HT_.out (by kernel_rfl)) (by decide) (fun K hK => ?_)
           refine goes_ Try.func23 (by kernel_rfl) rfl #[.agg #[.int .i64 a0_0, .int .i64 a0_1], .agg #[.int .i64 a1_0, .int .i64 a1_1]] (by rfl) rfl rfl (by (try simp only [List.map_toArray, List.map_cons, List.map_nil]); first | done | rfl | (simp only [List.length_drop, List.length_take]; rfl)) ?_
           with_reducible refine (span_Join.calls a0_0 a0_1 a1_0 a1_1 t350 t351 _ A252.out).mono ?_
           rintro e w256 ⟨rfl, hb⟩
           refine ⟨_, rfl, ?_⟩
           have n0_ := Aside0.mk (bB (g := gb310) (o := .cells #[.int .i64 a0_0, .int .i64 a0_1] 23 (0, 0)) (by (with_reducible repeat (first | refine bN ?_ _ | refine bD ?_ | refine bA ?_ _)); exact BK310.out) hb)
           have n1_ := Aside0.mk (bB (g := gb311) (o := .cells #[.int .i64 a1_0, .int .i64 a1_1] 23 (0, 0)) (by (with_reducible repeat (first | refine bN ?_ _ | refine bD ?_ | refine bA ?_ _)); exact BK311.out) hb)
           have n2_ := Aside0.mk (bB (g := gb312) (o := .cells #[.int .i64 a2_0, .int .i64 a2_1] 23 (0, 0)) (by (with_reducible repeat (first | refine bN ?_ _ | refine bD ?_ | refine bA ?_ _)); exact BK312.out) hb)
           have n3_ := Aside0.mk (bB (g := gb313) (o := .cells #[.int .i64 a3_0, .int .i64 a3_1] 23 (0, 0)) (by (with_reducible repeat (first | refine bN ?_ _ | refine bD ?_ | refine bA ?_ _)); exact BK313.out) hb)
           have n4_ := Aside0.mk (bB (g := gb334) (o := .cells #[.int .i64 t331, .int .i64 t332] 23 (0, 0)) (by (with_reducible repeat (first | refine bN ?_ _ | refine bD ?_ | refine bA ?_ _)); exact BK334.out) hb)
           have n5_ := Aside0.mk (bB (g := gb338) (o := .cells #[.int .i64 t335, .int .i64 t336] 23 (0, 0)) (by (with_reducible repeat (first | refine bN ?_ _ | refine bD ?_ | refine bA ?_ _)); exact BK338.out) hb)
           have n6_ := Aside0.mk (bB (g := gb342) (o := .cells #[.int .i64 t339, .int .i64 t340] 23 (0, 0)) (by (with_reducible repeat (first | refine bN ?_ _ | refine bD ?_ | refine bA ?_ _)); exact BK342.out) hb)
           have n7_ := Aside0.mk (bB (g := gb346) (o := .cells #[.int .i64 t343, .int .i64 t344] 23 (0, 0)) (by (with_reducible repeat (first | refine bN ?_ _ | refine bD ?_ | refine bA ?_ _)); exact BK346.out) hb)
           have n8_ := Aside0.mk (bP (by repeat (first | (with_reducible first | exact HB.out | apply bL | apply bW | apply b1 | refine bS ?_ GE310.out | refine bS ?_ GE311.out | refine bS ?_ GE312.out | refine bS ?_ GE313.out | refine bS ?_ GE334.out | refine bS ?_ GE338.out | refine bS ?_ GE342.out | refine bS ?_ GE346.out) | exact HB.out)) hb)
           clear BK310
           clear BK311
           clear BK312
           clear BK313
           clear BK334
           clear BK338
           clear BK342
           clear BK346
           clear HB
           have BK310 := n0_
           have BK311 := n1_
           have BK312 := n2_
           have BK313 := n3_
           have BK334 := n4_
           have BK338 := n5_
           have BK342 := n6_
           have BK346 := n7_
           have HB := n8_
           clear n0_ n1_ n2_ n3_ n4_ n5_ n6_ n7_ n8_
           (try clear hb)
           (try clear hb2)
           (try clear hk)
           (try clear hi)
           refine hK.out _ _ ⟨(bC BK310.out 0).trans rfl, (bC BK310.out 1).trans rfl, (bC BK311.out 0).trans rfl, (bC BK311.out 1).trans rfl, (bC BK312.out 0).trans rfl, (bC BK312.out 1).trans rfl, (bC BK313.out 0).trans rfl, (bC BK313.out 1).trans rfl⟩ (fun hHeld => ?_)
           clear hK K
           refine norm_ (a' := ?_) ?_ ?_
           rotate_left
           ·
            show Act.put _ (some 123) _ = _
            simp only [Act.put, List.setIfInBounds_toArray, List.set_cons_zero, List.set_cons_succ, i64_w, i32_w]
            rfl
           refine one_ (i := 7) (N := some 126) #[true, true, true, true, true, true, true, true, false, false, false] rfl rfl (one_of HT_.out (by kernel_rfl)) (by decide) (fun K hK => ?_)
           refine goes_ Try.func23 (by kernel_rfl) rfl #[.agg #[.int .i64 a2_0, .int .i64 a2_1], .agg #[.int .i64 a3_0, .int .i64 a3_1]] (by rfl) rfl rfl (by (try simp only [List.map_toArray, List.map_cons, List.map_nil]); first | done | rfl | (simp only [List.length_drop, List.length_take]; rfl)) ?_
           with_reducible refine (span_Join.calls a2_0 a2_1 a3_0 a3_1 t352 t353 _ A253.out).mono ?_
           rintro e w257 ⟨rfl, hb⟩
           refine ⟨_, rfl, ?_⟩
           have n0_ := Aside0.mk (bB (g := gb310) (o := .cells #[.int .i64 a0_0, .int .i64 a0_1] 23 (0, 0)) (by (with_reducible repeat (first | refine bN ?_ _ | refine bD ?_ | refine bA ?_ _)); exact BK310.out) hb)
           have n1_ := Aside0.mk (bB (g := gb311) (o := .cells #[.int .i64 a1_0, .int .i64 a1_1] 23 (0, 0)) (by (with_reducible repeat (first | refine bN ?_ _ | refine bD ?_ | refine bA ?_ _)); exact BK311.out) hb)
           have n2_ := Aside0.mk (bB (g := gb312) (o := .cells #[.int .i64 a2_0, .int .i64 a2_1] 23 (0, 0)) (by (with_reducible repeat (first | refine bN ?_ _ | refine bD ?_ | refine bA ?_ _)); exact BK312.out) hb)
           have n3_ := Aside0.mk (bB (g := gb313) (o := .cells #[.int .i64 a3_0, .int .i64 a3_1] 23 (0, 0)) (by (with_reducible repeat (first | refine bN ?_ _ | refine bD ?_ | refine bA ?_ _)); exact BK313.out) hb)
           have n4_ := Aside0.mk (bB (g := gb334) (o := .cells #[.int .i64 t331, .int .i64 t332] 23 (0, 0)) (by (with_reducible repeat (first | refine bN ?_ _ | refine bD ?_ | refine bA ?_ _)); exact BK334.out) hb)
           have n5_ := Aside0.mk (bB (g := gb338) (o := .cells #[.int .i64 t335, .int .i64 t336] 23 (0, 0)) (by (with_reducible repeat (first | refine bN ?_ _ | refine bD ?_ | refine bA ?_ _)); exact BK338.out) hb)
           have n6_ := Aside0.mk (bB (g := gb342) (o := .cells #[.int .i64 t339, .int .i64 t340] 23 (0, 0)) (by (with_reducible repeat (first | refine bN ?_ _ | refine bD ?_ | refine bA ?_ _)); exact BK342.out) hb)
           have n7_ := Aside0.mk (bB (g := gb346) (o := .cells #[.int .i64 t343, .int .i64 t344] 23 (0, 0)) (by (with_reducible repeat (first | refine bN ?_ _ | refine bD ?_ | refine bA ?_ _)); exact BK346.out) hb)
           have n8_ := Aside0.mk (bP (by repeat (first | (with_reducible first | exact HB.out | apply bL | apply bW | apply b1 | refine bS ?_ GE310.out | refine bS ?_ GE311.out | refine bS ?_ GE312.out | refine bS ?_ GE313.out | refine bS ?_ GE334.out | refine bS ?_ GE338.out | refine bS ?_ GE342.out | refine bS ?_ GE346.out) | exact HB.out)) hb)
           clear BK310
           clear BK311
           clear BK312
           clear BK313
           clear BK334
           clear BK338
           clear BK342
           clear BK346
           clear HB
           have BK310 := n0_
           have BK311 := n1_
           have BK312 := n2_
           have BK313 := n3_
           have BK334 := n4_
           have BK338 := n5_
           have BK342 := n6_
           have BK346 := n7_
           have HB := n8_
           clear n0_ n1_ n2_ n3_ n4_ n5_ n6_ n7_ n8_
           (try clear hb)
           (try clear hb2)
           (try clear hk)
           (try clear hi)
           refine hK.out _ _ ⟨(bC BK310.out 0).trans rfl, (bC BK310.out 1).trans rfl, (bC BK311.out 0).trans rfl, (bC BK311.out 1).trans rfl, (bC BK312.out 0).trans rfl, (bC BK312.out 1).trans rfl, (bC BK313.out 0).trans rfl, (bC BK313.out 1).trans rfl⟩ (fun hHeld => ?_)
           clear hK K
           refine norm_ (a' := ?_) ?_ ?_
           rotate_left
           ·
            show Act.put _ (some 126) _ = _
            simp only [Act.put, List.setIfInBounds_toArray, List.set_cons_zero, List.set_cons_succ, i64_w, i32_w]
            rfl
           refine one_ (i := 8) (N := some 127) #[true, true, true, true, true, true, true, true, true, false, false] rfl rfl (one_of HT_.out (by kernel_rfl)) (by decide) (fun K hK => ?_)
           refine goes_ Try.func25 (by kernel_rfl) rfl #[.agg #[.int .i64 t350, .int .i64 t351], .agg #[.int .i64 t352, .int .i64 t353]] (by rfl) rfl rfl (by (try simp only [List.map_toArray, List.map_cons, List.map_nil]); first | done | rfl | (simp only [List.length_drop, List.length_take]; rfl)) ?_
           with_reducible refine (span_Within.calls t350 t351 t352 t353 t354 _ A254.out).mono ?_
           rintro e w258 ⟨rfl, hb⟩
           refine ⟨_, rfl, ?_⟩
           have n0_ := Aside0.mk (bB (g := gb310) (o := .cells #[.int .i64 a0_0, .int .i64 a0_1] 23 (0, 0)) (by (with_reducible repeat (first | refine bN ?_ _ | refine bD ?_ | refine bA ?_ _)); exact BK310.out) hb)
           have n1_ := Aside0.mk (bB (g := gb311) (o := .cells #[.int .i64 a1_0, .int .i64 a1_1] 23 (0, 0)) (by (with_reducible repeat (first | refine bN ?_ _ | refine bD ?_ | refine bA ?_ _)); exact BK311.out) hb)
           have n2_ := Aside0.mk (bB (g := gb312) (o := .cells #[.int .i64 a2_0, .int .i64 a2_1] 23 (0, 0)) (by (with_reducible repeat (first | refine bN ?_ _ | refine bD ?_ | refine bA ?_ _)); exact BK312.out) hb)
           have n3_ := Aside0.mk (bB (g := gb313) (o := .cells #[.int .i64 a3_0, .int .i64 a3_1] 23 (0, 0)) (by (with_reducible repeat (first | refine bN ?_ _ | refine bD ?_ | refine bA ?_ _)); exact BK313.out) hb)
           have n4_ := Aside0.mk (bB (g := gb334) (o := .cells #[.int .i64 t331, .int .i64 t332] 23 (0, 0)) (by (with_reducible repeat (first | refine bN ?_ _ | refine bD ?_ | refine bA ?_ _)); exact BK334.out) hb)
           have n5_ := Aside0.mk (bB (g := gb338) (o := .cells #[.int .i64 t335, .int .i64 t336] 23 (0, 0)) (by (with_reducible repeat (first | refine bN ?_ _ | refine bD ?_ | refine bA ?_ _)); exact BK338.out) hb)
           have n6_ := Aside0.mk (bB (g := gb342) (o := .cells #[.int .i64 t339, .int .i64 t340] 23 (0, 0)) (by (with_reducible repeat (first | refine bN ?_ _ | refine bD ?_ | refine bA ?_ _)); exact BK342.out) hb)
           have n7_ := Aside0.mk (bB (g := gb346) (o := .cells #[.int .i64 t343, .int .i64 t344] 23 (0, 0)) (by (with_reducible repeat (first | refine bN ?_ _ | refine bD ?_ | refine bA ?_ _)); exact BK346.out) hb)
           have n8_ := Aside0.mk (bP (by repeat (first | (with_reducible first | exact HB.out | apply bL | apply bW | apply b1 | refine bS ?_ GE310.out | refine bS ?_ GE311.out | refine bS ?_ GE312.out | refine bS ?_ GE313.out | refine bS ?_ GE334.out | refine bS ?_ GE338.out | refine bS ?_ GE342.out | refine bS ?_ GE346.out) | exact HB.out)) hb)
           clear BK310
           clear BK311
           clear BK312
           clear BK313
           clear BK334
           clear BK338
           clear BK342
           clear BK346
           clear HB
           have BK310 := n0_
           have BK311 := n1_
           have BK312 := n2_
           have BK313 := n3_
           have BK334 := n4_
           have BK338 := n5_
           have BK342 := n6_
           have BK346 := n7_
           have HB := n8_
           clear n0_ n1_ n2_ n3_ n4_ n5_ n6_ n7_ n8_
           (try clear hb)
           (try clear hb2)
           (try clear hk)
           (try clear hi)
           refine hK.out _ _ ⟨(bC BK310.out 0).trans rfl, (bC BK310.out 1).trans rfl, (bC BK311.out 0).trans rfl, (bC BK311.out 1).trans rfl, (bC BK312.out 0).trans rfl, (bC BK312.out 1).trans rfl, (bC BK313.out 0).trans rfl, (bC BK313.out 1).trans rfl⟩ (fun hHeld => ?_)
           clear hK K
           refine norm_ (a' := ?_) ?_ ?_
           rotate_left
           ·
            show Act.put _ (some 127) _ = _
            simp only [Act.put, List.setIfInBounds_toArray, List.set_cons_zero, List.set_cons_succ, i64_w, i32_w]
            rfl
           refine pure_ (i := 9) (N := some 128) (v := ?_) (a' := ?_) #[true, true, true, true, true, true, true, true, true, true, false] rfl rfl (any_of HT_.out (by kernel_rfl)) (fun _ _ _ h => h) (Or.inl ⟨by rfl, ?_⟩) ?_ ?_
           rotate_left
           ·
            intro w'
            go_simp
            with_reducible rfl
           rotate_left
           ·
            simp only [Act.put, List.setIfInBounds_toArray, List.set_cons_zero, List.set_cons_succ, i64_w, i32_w]
            rfl
           refine pure_ (i := 10) (N := some 12) (v := ?_) (a' := ?_) #[true, true, true, true, true, true, true, true, true, true, true] rfl rfl (any_of HT_.out (by kernel_rfl)) (fun _ _ _ h => h) (Or.inl ⟨by rfl, ?_⟩) ?_ ?_
           rotate_left
           ·
            intro w'
            go_simp
            with_reducible rfl
           rotate_left
           ·
            simp only [Act.put, List.setIfInBounds_toArray, List.set_cons_zero, List.set_cons_succ, i64_w, i32_w]
            rfl
           refine done_ (done_of HT_.out (by kernel_rfl)) ?_
           try go_wp2
           go_ret
           exact ⟨by first | rfl | (simp [errW_none, errW_some] <;> rfl) | (simp [*, errW_none, errW_some] <;> rfl), by repeat (first | (with_reducible first | exact HB.out | apply bL | apply bW | apply b1 | refine bS ?_ GE310.out | refine bS ?_ GE311.out | refine bS ?_ GE312.out | refine bS ?_ GE313.out | refine bS ?_ GE334.out | refine bS ?_ GE338.out | refine bS ?_ GE342.out | refine bS ?_ GE346.out) | exact HB.out)⟩
          ·
           replace c251 := Bool.eq_false_iff.mpr c251
           subst c251
           have H1 : (some false) = some r := by rw [if_neg (show ¬ (false = true) by decide)] at H; exact H
           clear H
           have H := H1
           clear H1
           exact absurd (H.trans (congrArg some hT.out)) (by simp)
def bournelaw09_SpanGrows.Pure : Prop := ∀ (a0_0 : Int) (a0_1 : Int) (a1_0 : Int) (a1_1 : Int) (a2_0 : Int) (a2_1 : Int) (a3_0 : Int) (a3_1 : Int) (a4 : Int) (a5 : Int), (Lit.int .i64 a0_0).wf = true → (Lit.int .i64 a0_1).wf = true → (Lit.int .i64 a1_0).wf = true → (Lit.int .i64 a1_1).wf = true → (Lit.int .i64 a2_0).wf = true → (Lit.int .i64 a2_1).wf = true → (Lit.int .i64 a3_0).wf = true → (Lit.int .i64 a3_1).wf = true → (Lit.int .i64 a4).wf = true → (Lit.int .i64 a5).wf = true → ∃ k, bournelaw09_SpanGrows.f k a0_0 a0_1 a1_0 a1_1 a2_0 a2_1 a3_0 a3_1 a4 a5 = some true
theorem bournelaw09_SpanGrows.walk (P_ : bournelaw09_SpanGrows.Pure) (a0_0 : Int) (a0_1 : Int) (a1_0 : Int) (a1_1 : Int) (a2_0 : Int) (a2_1 : Int) (a3_0 : Int) (a3_1 : Int) (a4 : Int) (a5 : Int) (w : World) (y0 : (Lit.int .i64 a0_0).wf = true) (y1 : (Lit.int .i64 a0_1).wf = true) (y2 : (Lit.int .i64 a1_0).wf = true) (y3 : (Lit.int .i64 a1_1).wf = true) (y4 : (Lit.int .i64 a2_0).wf = true) (y5 : (Lit.int .i64 a2_1).wf = true) (y6 : (Lit.int .i64 a3_0).wf = true) (y7 : (Lit.int .i64 a3_1).wf = true) (y8 : (Lit.int .i64 a4).wf = true) (y9 : (Lit.int .i64 a5).wf = true) :
  Calls Try.prog 6 #[.agg #[.int .i64 a0_0, .int .i64 a0_1], .agg #[.int .i64 a1_0, .int .i64 a1_1], .agg #[.int .i64 a2_0, .int .i64 a2_1], .agg #[.int .i64 a3_0, .int .i64 a3_1], .int .i64 a4, .int .i64 a5] w fun e w' => e = .returned (.bool true) ∧ Below w.heap.size w w' := by
 obtain ⟨k, h⟩ := P_ a0_0 a0_1 a1_0 a1_1 a2_0 a2_1 a3_0 a3_1 a4 a5 y0 y1 y2 y3 y4 y5 y6 y7 y8 y9
 refine (bournelaw09_SpanGrows.calls k a0_0 a0_1 a1_0 a1_1 a2_0 a2_1 a3_0 a3_1 a4 a5 true w ⟨rfl⟩ h).mono ?_
 rintro e w' ⟨rfl, hd⟩
 exact ⟨rfl, hd⟩

end Go.Proofs.Ythbdhlcfcfjknaa.Fn
