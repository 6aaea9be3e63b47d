-- written by this session's program myprint.py out of the translation; Lean checks it
import Derived.Test.YthbdhlcfcfjknaaFn0
import Derived.Test.YthbdhlcfcfjknaaFn1
import Derived.Test.YthbdhlcfcfjknaaFn2
import Derived.Test.YthbdhlcfcfjknaaFn4
import Derived.Test.YthbdhlcfcfjknaaFn5
namespace Go.Proofs.Ythbdhlcfcfjknaa.Fn
open Go.RowKit Go.Proofs.YthbdhlcfcfjknaaW.PrintWords Go.Proofs.YthbdhlcfcfjknaaW.PrintLast Go.Proofs.YthbdhlcfcfjknaaW.PrintMore
open Go.Proofs.YthbdhlcfcfjknaaW.PrintWords renaming blk_drewN → bN, blk_drew → bD, blk_alloc → bA, below_set → bS, blk_cell → bC, blk_below → bB, blk_frozen → bF, pw_below_drewN → bW, below_drew1 → b1, below_alloc → bL, below_step → bP, below_size → bZ, blk_lt → bT
attribute [local go_sem] max2_int min2_int max_two min_two max_three min_three max_four min_four   -- for this text's walks alone
set_option linter.unusedVariables false
set_option linter.unusedSimpArgs false

attribute [local go_sem high] eqA23
/-! ### bournelaw09_SpanOrders: function 7 -/
mutual
def bournelaw09_SpanOrders.j0 : Nat → Int → Bool → Bool → Int → Int → Int → Int → Option (Bool)
 | 0, _, _, _, _, _, _, _ => none
 | k + 1, x3, x9, x45, x356000, x356001, x357000, x357001 => if x45 = true then (some false) else ((span_Add.f x356000 x356001 x357000 x357001).bind fun bt369 => ((span_Add.f x357000 x357001 x356000 x356001).bind fun bt371 => (if (!(bt369.1 == bt371.1) || (!(bt369.2 == bt371.2))) = true then (bournelaw09_SpanOrders.j1 k x3 x9 true x356000 x356001 x357000 x357001) else ((span_Join.f x356000 x356001 x357000 x357001).bind fun bt373 => ((span_Join.f x357000 x357001 x356000 x356001).bind fun bt375 => (if (!(bt373.1 == bt375.1) || (!(bt373.2 == bt375.2))) = true then (bournelaw09_SpanOrders.j1 k x3 x9 true x356000 x356001 x357000 x357001) else ((span_Join.f x356000 x356001 x356000 x356001).bind fun bt377 => (bournelaw09_SpanOrders.j1 k x3 x9 (!(bt377.1 == x356000) || (!(bt377.2 == x356001))) x356000 x356001 x357000 x357001))))))))
def bournelaw09_SpanOrders.j1 : Nat → Int → Bool → Bool → Int → Int → Int → Int → Option (Bool)
 | 0, _, _, _, _, _, _, _ => none
 | k + 1, x3, x9, x68, x356000, x356001, x357000, x357001 => if x68 = true then (some false) else ((span_Right.f x356000 x356001).bind fun t379 => (if t379 = true then ((span_Within.f x356000 x356001 x357000 x357001).bind fun t380 => ((span_Has.f x357000 x357001 x356000).bind fun t381 => (if t381 = true then ((span_Has.f x357000 x357001 x356001).bind fun t382 => (bournelaw09_SpanOrders.j2 k x3 x9 (t380 != t382) x356000 x356001 x357000 x357001)) else (bournelaw09_SpanOrders.j2 k x3 x9 (t380 != false) x356000 x356001 x357000 x357001)))) else (bournelaw09_SpanOrders.j2 k x3 x9 false x356000 x356001 x357000 x357001)))
def bournelaw09_SpanOrders.j2 : Nat → Int → Bool → Bool → Int → Int → Int → Int → Option (Bool)
 | 0, _, _, _, _, _, _, _ => none
 | k + 1, x3, x9, x86, x356000, x356001, x357000, x357001 => if x86 = true then (some false) else (if x9 = true then ((span_Within.f x356000 x356001 x357000 x357001).bind fun t383 => (if t383 = true then ((span_Has.f x356000 x356001 x3).bind fun t384 => (if t384 = true then ((span_Has.f x357000 x357001 x3).bind fun t385 => (if t385 = true then ((span_Of.f x3).bind fun bt386 => (if (bt386.1 == x3 && (bt386.2 == x3)) = true then ((span_Of.f x3).bind fun bt388 => ((span_Has.f bt388.1 bt388.2 x3).bind fun t390 => (some t390))) else (some false))) else (some false))) else ((span_Of.f x3).bind fun bt391 => (if (bt391.1 == x3 && (bt391.2 == x3)) = true then ((span_Of.f x3).bind fun bt393 => ((span_Has.f bt393.1 bt393.2 x3).bind fun t395 => (some t395))) else (some false))))) else ((span_Of.f x3).bind fun bt396 => (if (bt396.1 == x3 && (bt396.2 == x3)) = true then ((span_Of.f x3).bind fun bt398 => ((span_Has.f bt398.1 bt398.2 x3).bind fun t400 => (some t400))) else (some false))))) else (some false))
end
def bournelaw09_SpanOrders.f (k : Nat) (a0_0 : Int) (a0_1 : Int) (a1_0 : Int) (a1_1 : Int) (a2_0 : Int) (a2_1 : Int) (a3 : Int) : Option (Bool) := (bournelaw09_small.f k).bind fun t358 => ((span_Within.f a0_0 a0_1 a0_0 a0_1).bind fun t359 => (if t359 = true then ((span_Within.f a0_0 a0_1 a1_0 a1_1).bind fun t360 => (if t360 = true then ((span_Within.f a1_0 a1_1 a2_0 a2_1).bind fun t361 => (if t361 = true then ((span_Within.f a0_0 a0_1 a2_0 a2_1).bind fun t362 => (if t362 = true then ((span_Within.f a0_0 a0_1 a1_0 a1_1).bind fun t363 => (if t363 = true then ((span_Within.f a1_0 a1_1 a0_0 a0_1).bind fun t364 => (if t364 = true then (bournelaw09_SpanOrders.j0 k a3 t358 (!(a0_0 == a1_0) || (!(a0_1 == a1_1))) a0_0 a0_1 a1_0 a1_1) else (bournelaw09_SpanOrders.j0 k a3 t358 false a0_0 a0_1 a1_0 a1_1))) else (bournelaw09_SpanOrders.j0 k a3 t358 false a0_0 a0_1 a1_0 a1_1))) else (bournelaw09_SpanOrders.j0 k a3 t358 true a0_0 a0_1 a1_0 a1_1))) else ((span_Within.f a0_0 a0_1 a1_0 a1_1).bind fun t365 => (if t365 = true then ((span_Within.f a1_0 a1_1 a0_0 a0_1).bind fun t366 => (if t366 = true then (bournelaw09_SpanOrders.j0 k a3 t358 (!(a0_0 == a1_0) || (!(a0_1 == a1_1))) a0_0 a0_1 a1_0 a1_1) else (bournelaw09_SpanOrders.j0 k a3 t358 false a0_0 a0_1 a1_0 a1_1))) else (bournelaw09_SpanOrders.j0 k a3 t358 false a0_0 a0_1 a1_0 a1_1))))) else ((span_Within.f a0_0 a0_1 a1_0 a1_1).bind fun t367 => (if t367 = true then ((span_Within.f a1_0 a1_1 a0_0 a0_1).bind fun t368 => (if t368 = true then (bournelaw09_SpanOrders.j0 k a3 t358 (!(a0_0 == a1_0) || (!(a0_1 == a1_1))) a0_0 a0_1 a1_0 a1_1) else (bournelaw09_SpanOrders.j0 k a3 t358 false a0_0 a0_1 a1_0 a1_1))) else (bournelaw09_SpanOrders.j0 k a3 t358 false a0_0 a0_1 a1_0 a1_1))))) else (bournelaw09_SpanOrders.j0 k a3 t358 true a0_0 a0_1 a1_0 a1_1)))
theorem bournelaw09_SpanOrders.mono_l : ∀ k, (∀ y0 y1 y2 y3 y4 y5 y6, LeO (bournelaw09_SpanOrders.j0 k y0 y1 y2 y3 y4 y5 y6) (bournelaw09_SpanOrders.j0 (k + 1) y0 y1 y2 y3 y4 y5 y6)) ∧ (∀ y0 y1 y2 y3 y4 y5 y6, LeO (bournelaw09_SpanOrders.j1 k y0 y1 y2 y3 y4 y5 y6) (bournelaw09_SpanOrders.j1 (k + 1) y0 y1 y2 y3 y4 y5 y6)) ∧ (∀ y0 y1 y2 y3 y4 y5 y6, LeO (bournelaw09_SpanOrders.j2 k y0 y1 y2 y3 y4 y5 y6) (bournelaw09_SpanOrders.j2 (k + 1) y0 y1 y2 y3 y4 y5 y6))
 | 0 => ⟨fun _ _ _ _ _ _ _ r h => by simp [bournelaw09_SpanOrders.j0] at h, fun _ _ _ _ _ _ _ r h => by simp [bournelaw09_SpanOrders.j1] at h, fun _ _ _ _ _ _ _ r h => by simp [bournelaw09_SpanOrders.j2] at h⟩
 | k + 1 => by
  obtain ⟨ih0, ih1, ih2⟩ := bournelaw09_SpanOrders.mono_l k
  refine ⟨?_, ?_, ?_⟩
  ·
   intro y0 y1 y2 y3 y4 y5 y6
   unfold bournelaw09_SpanOrders.j0
   repeat' first
   | (with_reducible exact ih0 _ _ _ _ _ _ _)
   | (with_reducible exact ih1 _ _ _ _ _ _ _)
   | (with_reducible exact ih2 _ _ _ _ _ _ _)
   | (with_reducible exact bournelaw09_small.mono _)
   | (with_reducible exact LeO.refl _)
   | (with_reducible exact LeO.none _)
   | (with_reducible refine LeO.ite ?_ ?_)
   | (with_reducible refine LeO.bind ?_ (fun _ => ?_))
   | exact ih0 _ _ _ _ _ _ _
   | exact ih1 _ _ _ _ _ _ _
   | exact ih2 _ _ _ _ _ _ _
   | exact bournelaw09_small.mono _
   | exact LeO.none _
   | refine LeO.ite ?_ ?_
   | refine LeO.bind ?_ (fun _ => ?_)
  ·
   intro y0 y1 y2 y3 y4 y5 y6
   unfold bournelaw09_SpanOrders.j1
   repeat' first
   | (with_reducible exact ih0 _ _ _ _ _ _ _)
   | (with_reducible exact ih1 _ _ _ _ _ _ _)
   | (with_reducible exact ih2 _ _ _ _ _ _ _)
   | (with_reducible exact bournelaw09_small.mono _)
   | (with_reducible exact LeO.refl _)
   | (with_reducible exact LeO.none _)
   | (with_reducible refine LeO.ite ?_ ?_)
   | (with_reducible refine LeO.bind ?_ (fun _ => ?_))
   | exact ih0 _ _ _ _ _ _ _
   | exact ih1 _ _ _ _ _ _ _
   | exact ih2 _ _ _ _ _ _ _
   | exact bournelaw09_small.mono _
   | exact LeO.none _
   | refine LeO.ite ?_ ?_
   | refine LeO.bind ?_ (fun _ => ?_)
  ·
   intro y0 y1 y2 y3 y4 y5 y6
   unfold bournelaw09_SpanOrders.j2
   repeat' first
   | (with_reducible exact ih0 _ _ _ _ _ _ _)
   | (with_reducible exact ih1 _ _ _ _ _ _ _)
   | (with_reducible exact ih2 _ _ _ _ _ _ _)
   | (with_reducible exact bournelaw09_small.mono _)
   | (with_reducible exact LeO.refl _)
   | (with_reducible exact LeO.none _)
   | (with_reducible refine LeO.ite ?_ ?_)
   | (with_reducible refine LeO.bind ?_ (fun _ => ?_))
   | exact ih0 _ _ _ _ _ _ _
   | exact ih1 _ _ _ _ _ _ _
   | exact ih2 _ _ _ _ _ _ _
   | exact bournelaw09_small.mono _
   | exact LeO.none _
   | refine LeO.ite ?_ ?_
   | refine LeO.bind ?_ (fun _ => ?_)
theorem bournelaw09_SpanOrders.mono : ∀ a0 a1 a2 a3 a4 a5 a6 k, LeO (bournelaw09_SpanOrders.f k a0 a1 a2 a3 a4 a5 a6) (bournelaw09_SpanOrders.f (k + 1) a0 a1 a2 a3 a4 a5 a6) := by
 intro a0 a1 a2 a3 a4 a5 a6 k
 obtain ⟨ih0, ih1, ih2⟩ := bournelaw09_SpanOrders.mono_l k
 unfold bournelaw09_SpanOrders.f
 repeat' first
   | (with_reducible exact ih0 _ _ _ _ _ _ _)
   | (with_reducible exact ih1 _ _ _ _ _ _ _)
   | (with_reducible exact ih2 _ _ _ _ _ _ _)
   | (with_reducible exact bournelaw09_small.mono _)
   | (with_reducible exact LeO.refl _)
   | (with_reducible exact LeO.none _)
   | (with_reducible refine LeO.ite ?_ ?_)
   | (with_reducible refine LeO.bind ?_ (fun _ => ?_))
   | exact ih0 _ _ _ _ _ _ _
   | exact ih1 _ _ _ _ _ _ _
   | exact ih2 _ _ _ _ _ _ _
   | exact bournelaw09_small.mono _
   | exact LeO.none _
   | refine LeO.ite ?_ ?_
   | refine LeO.bind ?_ (fun _ => ?_)
def bournelaw09_SpanOrders.T4 : Bool × List (List Nat × List Nat) := (true, [([], []), ([], []), ([0, 1], [0, 1]), ([], []), ([], []), ([3, 4, 2], [3, 4]), ([2, 5], [2, 5]), ([6, 5], [6]), ([7], [7]), ([7], [7]), ([8, 9, 7, 7], [7, 8, 9]), ([7], [7]), ([7], [7]), ([11, 12, 10, 7], [7, 11, 12]), ([10, 13, 7], [7, 10, 13]), ([7, 14], [7, 14]), ([15, 13], [15]), ([16], [16]), ([16], [16]), ([17, 18, 16, 16], [16, 17, 18]), ([16], [16]), ([19, 20, 16], [16, 19, 20]), ([16, 21], [16, 21])])
def bournelaw09_SpanOrders.B4 : List Nat := [0, 0, 3, 0, 0, 31, 63, 127, 255, 255, 1023, 255, 255, 8191, 16383, 32767, 65535, 131071, 131071, 524287, 131071, 2097151, 4194303]
theorem bournelaw09_SpanOrders.tab4 : rtab .any (opsOf Try.f7 4) = bournelaw09_SpanOrders.T4 := by kernel_rfl
theorem bournelaw09_SpanOrders.bits4 : waitsOk bournelaw09_SpanOrders.T4.2 bournelaw09_SpanOrders.B4 = true := by kernel_rfl
def bournelaw09_SpanOrders.T6 : Bool × List (List Nat × List Nat) := (true, [([], []), ([0], [0]), ([1, 1], [1]), ([2], [2]), ([2], [2]), ([3, 4, 2, 2], [2, 3, 4]), ([2], [2]), ([2], [2]), ([7, 2], [2, 7]), ([6, 8, 5, 2], [2, 6, 8]), ([9, 9, 2], [2, 9]), ([10], [10]), ([10], [10]), ([12, 10], [10, 12]), ([11, 13, 10, 10], [10, 11, 13]), ([10, 14, 2], [2, 10, 14]), ([5, 15, 2], [2, 5, 15]), ([2, 16], [2, 16])])
def bournelaw09_SpanOrders.B6 : List Nat := [0, 1, 3, 7, 7, 31, 7, 7, 135, 511, 1023, 2047, 2047, 6143, 16383, 32767, 65535, 131071]
theorem bournelaw09_SpanOrders.tab6 : rtab .any (opsOf Try.f7 6) = bournelaw09_SpanOrders.T6 := by kernel_rfl
theorem bournelaw09_SpanOrders.bits6 : waitsOk bournelaw09_SpanOrders.T6.2 bournelaw09_SpanOrders.B6 = true := by kernel_rfl
set_option maxHeartbeats 8000000 in
set_option maxRecDepth 100000 in
theorem bournelaw09_SpanOrders.calls (k : Nat) (a0_0 : Int) (a0_1 : Int) (a1_0 : Int) (a1_1 : Int) (a2_0 : Int) (a2_1 : Int) (a3 : Int) (r : Bool) (w : World) (hT : Aside0 (r = true)) (h : bournelaw09_SpanOrders.f k a0_0 a0_1 a1_0 a1_1 a2_0 a2_1 a3 = some r) :
  Calls Try.prog 7 #[.agg #[.int .i64 a0_0, .int .i64 a0_1], .agg #[.int .i64 a1_0, .int .i64 a1_1], .agg #[.int .i64 a2_0, .int .i64 a2_1], .int .i64 a3] w fun e w' => e = .returned (.bool r) ∧ Below w.heap.size w w' := by
 have hu23 := Try.underlying23
 have HB := Aside0.mk (Below.refl w.heap.size w)
 have H : ((bournelaw09_small.f k).bind fun t358 => ((span_Within.f a0_0 a0_1 a0_0 a0_1).bind fun t359 => (if t359 = true then ((span_Within.f a0_0 a0_1 a1_0 a1_1).bind fun t360 => (if t360 = true then ((span_Within.f a1_0 a1_1 a2_0 a2_1).bind fun t361 => (if t361 = true then ((span_Within.f a0_0 a0_1 a2_0 a2_1).bind fun t362 => (if t362 = true then ((span_Within.f a0_0 a0_1 a1_0 a1_1).bind fun t363 => (if t363 = true then ((span_Within.f a1_0 a1_1 a0_0 a0_1).bind fun t364 => (if t364 = true then (bournelaw09_SpanOrders.j0 k a3 t358 (!(a0_0 == a1_0) || (!(a0_1 == a1_1))) a0_0 a0_1 a1_0 a1_1) else (bournelaw09_SpanOrders.j0 k a3 t358 false a0_0 a0_1 a1_0 a1_1))) else (bournelaw09_SpanOrders.j0 k a3 t358 false a0_0 a0_1 a1_0 a1_1))) else (bournelaw09_SpanOrders.j0 k a3 t358 true a0_0 a0_1 a1_0 a1_1))) else ((span_Within.f a0_0 a0_1 a1_0 a1_1).bind fun t365 => (if t365 = true then ((span_Within.f a1_0 a1_1 a0_0 a0_1).bind fun t366 => (if t366 = true then (bournelaw09_SpanOrders.j0 k a3 t358 (!(a0_0 == a1_0) || (!(a0_1 == a1_1))) a0_0 a0_1 a1_0 a1_1) else (bournelaw09_SpanOrders.j0 k a3 t358 false a0_0 a0_1 a1_0 a1_1))) else (bournelaw09_SpanOrders.j0 k a3 t358 false a0_0 a0_1 a1_0 a1_1))))) else ((span_Within.f a0_0 a0_1 a1_0 a1_1).bind fun t367 => (if t367 = true then ((span_Within.f a1_0 a1_1 a0_0 a0_1).bind fun t368 => (if t368 = true then (bournelaw09_SpanOrders.j0 k a3 t358 (!(a0_0 == a1_0) || (!(a0_1 == a1_1))) a0_0 a0_1 a1_0 a1_1) else (bournelaw09_SpanOrders.j0 k a3 t358 false a0_0 a0_1 a1_0 a1_1))) else (bournelaw09_SpanOrders.j0 k a3 t358 false a0_0 a0_1 a1_0 a1_1))))) else (bournelaw09_SpanOrders.j0 k a3 t358 true a0_0 a0_1 a1_0 a1_1)))) = some r := h
 clear h
 replace H := Option.bind_eq_some_iff.mp H
 obtain ⟨t358, A50, H⟩ := H
 have A5 := Aside0.mk A50
 clear A50
 have HC6 := Aside0.mk H
 clear H
 go_enter Try.func7, Try.ntmps7
 (try simp only [List.append_eq, List.cons_append, List.nil_append])
 go_upto_region 2 with (first | ((with_reducible refine gate_dst (N := 4) rfl ?_); refine box_event ?hg (N := 4) ?hd (cs := #[.int .i64 a0_0, .int .i64 a0_1]) (t := 23) ?hr ?_; (case hd => rfl); (case hg => rfl); (case hr => first | (go_simp; done) | (go_simp; rfl)); intro gb355 hg w7 hbox hb; have n0_ := Aside0.mk (bP (by repeat (first | (with_reducible first | exact HB.out | apply bL | apply bW | apply b1) | exact HB.out)) hb); have n1_ := Aside0.mk (hbox); have n2_ := Aside0.mk ((by rw [hg]; exact (bZ (by repeat (first | (with_reducible first | exact HB.out | apply bL | apply bW | apply b1) | exact HB.out))) : w.heap.size ≤ gb355)); have n3_ := Aside0.mk ((by rw [hg]; exact (bZ (by repeat (first | (with_reducible first | exact HB.out | apply bL | apply bW | apply b1) | exact HB.out))) : w.heap.size ≤ gb355)); clear HB; have HB := n0_; have BK355 := n1_; have GW355 := n2_; have GE355 := n3_; clear n0_ n1_ n2_ n3_; clear hb hbox hg) | ((with_reducible refine gate_dst (N := 5) rfl ?_); refine box_event ?hg (N := 5) ?hd (cs := #[.int .i64 a1_0, .int .i64 a1_1]) (t := 23) ?hr ?_; (case hd => rfl); (case hg => rfl); (case hr => first | (go_simp; done) | (go_simp; rfl)); intro gb356 hg w8 hbox hb; have n0_ := Aside0.mk (bB (g := gb355) (o := .cells #[.int .i64 a0_0, .int .i64 a0_1] 23 (0, 0)) (by (with_reducible repeat (first | refine bN ?_ _ | refine bD ?_ | refine bA ?_ _)); exact BK355.out) hb); have n1_ := Aside0.mk (bP (by repeat (first | (with_reducible first | exact HB.out | apply bL | apply bW | apply b1 | refine bS ?_ GE355.out) | exact HB.out)) hb); have n2_ := Aside0.mk (hbox); have n3_ := Aside0.mk ((by rw [hg]; exact (bZ (by repeat (first | (with_reducible first | exact HB.out | apply bL | apply bW | apply b1 | refine bS ?_ GE355.out) | exact HB.out))) : w.heap.size ≤ gb356)); have n4_ := Aside0.mk ((by rw [hg]; exact (bZ (by repeat (first | (with_reducible first | exact HB.out | apply bL | apply bW | apply b1 | refine bS ?_ GE355.out) | exact HB.out))) : w.heap.size ≤ gb356)); have n5_ := Aside0.mk ((by rw [hg]; exact Nat.ne_of_lt (bT (g := gb355) (o := .cells #[.int .i64 a0_0, .int .i64 a0_1] 23 (0, 0)) (by (with_reducible repeat (first | refine bN ?_ _ | refine bD ?_ | refine bA ?_ _)); exact BK355.out)) : gb355 ≠ gb356)); have n6_ := Aside0.mk ((by rw [hg]; exact Nat.ne_of_gt (bT (g := gb355) (o := .cells #[.int .i64 a0_0, .int .i64 a0_1] 23 (0, 0)) (by (with_reducible repeat (first | refine bN ?_ _ | refine bD ?_ | refine bA ?_ _)); exact BK355.out)) : gb356 ≠ gb355)); clear BK355; clear HB; have BK355 := n0_; have HB := n1_; have BK356 := n2_; have GW356 := n3_; have GE356 := n4_; have NB355_356 := n5_; have NB356_355 := n6_; clear n0_ n1_ n2_ n3_ n4_ n5_ n6_; clear hb hbox hg) | ((with_reducible refine gate_dst (N := 6) rfl ?_); refine box_event ?hg (N := 6) ?hd (cs := #[.int .i64 a2_0, .int .i64 a2_1]) (t := 23) ?hr ?_; (case hd => rfl); (case hg => rfl); (case hr => first | (go_simp; done) | (go_simp; rfl)); intro gb357 hg w9 hbox hb; have n0_ := Aside0.mk (bB (g := gb355) (o := .cells #[.int .i64 a0_0, .int .i64 a0_1] 23 (0, 0)) (by (with_reducible repeat (first | refine bN ?_ _ | refine bD ?_ | refine bA ?_ _)); exact BK355.out) hb); have n1_ := Aside0.mk (bB (g := gb356) (o := .cells #[.int .i64 a1_0, .int .i64 a1_1] 23 (0, 0)) (by (with_reducible repeat (first | refine bN ?_ _ | refine bD ?_ | refine bA ?_ _)); exact BK356.out) hb); have n2_ := Aside0.mk (bP (by repeat (first | (with_reducible first | exact HB.out | apply bL | apply bW | apply b1 | refine bS ?_ GE355.out | refine bS ?_ GE356.out) | exact HB.out)) hb); have n3_ := Aside0.mk (hbox); have n4_ := Aside0.mk ((by rw [hg]; exact (bZ (by repeat (first | (with_reducible first | exact HB.out | apply bL | apply bW | apply b1 | refine bS ?_ GE355.out | refine bS ?_ GE356.out) | exact HB.out))) : w.heap.size ≤ gb357)); have n5_ := Aside0.mk ((by rw [hg]; exact (bZ (by repeat (first | (with_reducible first | exact HB.out | apply bL | apply bW | apply b1 | refine bS ?_ GE355.out | refine bS ?_ GE356.out) | exact HB.out))) : w.heap.size ≤ gb357)); have n6_ := Aside0.mk ((by rw [hg]; exact Nat.ne_of_lt (bT (g := gb355) (o := .cells #[.int .i64 a0_0, .int .i64 a0_1] 23 (0, 0)) (by (with_reducible repeat (first | refine bN ?_ _ | refine bD ?_ | refine bA ?_ _)); exact BK355.out)) : gb355 ≠ gb357)); have n7_ := Aside0.mk ((by rw [hg]; exact Nat.ne_of_gt (bT (g := gb355) (o := .cells #[.int .i64 a0_0, .int .i64 a0_1] 23 (0, 0)) (by (with_reducible repeat (first | refine bN ?_ _ | refine bD ?_ | refine bA ?_ _)); exact BK355.out)) : gb357 ≠ gb355)); have n8_ := Aside0.mk ((by rw [hg]; exact Nat.ne_of_lt (bT (g := gb356) (o := .cells #[.int .i64 a1_0, .int .i64 a1_1] 23 (0, 0)) (by (with_reducible repeat (first | refine bN ?_ _ | refine bD ?_ | refine bA ?_ _)); exact BK356.out)) : gb356 ≠ gb357)); have n9_ := Aside0.mk ((by rw [hg]; exact Nat.ne_of_gt (bT (g := gb356) (o := .cells #[.int .i64 a1_0, .int .i64 a1_1] 23 (0, 0)) (by (with_reducible repeat (first | refine bN ?_ _ | refine bD ?_ | refine bA ?_ _)); exact BK356.out)) : gb357 ≠ gb356)); clear BK355; clear BK356; clear HB; have BK355 := n0_; have BK356 := n1_; have HB := n2_; have BK357 := n3_; have GW357 := n4_; have GE357 := n5_; have NB355_357 := n6_; have NB357_355 := n7_; have NB356_357 := n8_; have NB357_356 := n9_; clear n0_ n1_ n2_ n3_ n4_ n5_ n6_ n7_ n8_ n9_; clear hb hbox hg) | ((with_reducible refine gate_callee (f := 8) rfl ?_); refine goesL_ (some 10) rfl rfl Try.func8 (by kernel_rfl) rfl #[] rfl (by (try simp only [List.map_toArray, List.map_cons, List.map_nil]); first | done | rfl | (simp only [List.length_drop, List.length_take]; rfl)) ?_; (with_reducible refine (bournelaw09_small.calls k  t358 _ A5.out).mono ?_); rintro e w10 ⟨rfl, hb⟩; refine ⟨_, rfl, ?_⟩; have n0_ := Aside0.mk (bB (g := gb355) (o := .cells #[.int .i64 a0_0, .int .i64 a0_1] 23 (0, 0)) (by (with_reducible repeat (first | refine bN ?_ _ | refine bD ?_ | refine bA ?_ _)); exact BK355.out) hb); have n1_ := Aside0.mk (bB (g := gb356) (o := .cells #[.int .i64 a1_0, .int .i64 a1_1] 23 (0, 0)) (by (with_reducible repeat (first | refine bN ?_ _ | refine bD ?_ | refine bA ?_ _)); exact BK356.out) hb); have n2_ := Aside0.mk (bB (g := gb357) (o := .cells #[.int .i64 a2_0, .int .i64 a2_1] 23 (0, 0)) (by (with_reducible repeat (first | refine bN ?_ _ | refine bD ?_ | refine bA ?_ _)); exact BK357.out) hb); have n3_ := Aside0.mk (bP (by repeat (first | (with_reducible first | exact HB.out | apply bL | apply bW | apply b1 | refine bS ?_ GE355.out | refine bS ?_ GE356.out | refine bS ?_ GE357.out) | exact HB.out)) hb); clear BK355; clear BK356; clear BK357; clear HB; have BK355 := n0_; have BK356 := n1_; have BK357 := n2_; have HB := n3_; clear n0_ n1_ n2_ n3_; (try clear hb); (try clear hb2); (try clear hk); (try clear hi)))
 (try simp only [Act.put, List.setIfInBounds_toArray, List.set_cons_zero, List.set_cons_succ])
 go_cut [45] (fun v45 wc => ∃ (kq : Nat) (x45_5 : Bool), v45 = .bool x45_5 ∧ Aside0 (bournelaw09_SpanOrders.j0 kq a3 t358 x45_5 a0_0 a0_1 a1_0 a1_1 = some r) ∧ Aside0 (kq ≤ k) ∧ Aside0 (wc.heap[gb355]? = some (.cells #[.int .i64 a0_0, .int .i64 a0_1] 23 (0, 0))) ∧ Aside0 (wc.heap[gb356]? = some (.cells #[.int .i64 a1_0, .int .i64 a1_1] 23 (0, 0))) ∧ Aside0 (wc.heap[gb357]? = some (.cells #[.int .i64 a2_0, .int .i64 a2_1] 23 (0, 0))) ∧ Aside0 (Below w.heap.size w wc))
 case first =>
  have H := HC6.out
  clear HC6
  replace H := Option.bind_eq_some_iff.mp H
  obtain ⟨t359, A110, H⟩ := H
  have A11 := Aside0.mk A110
  clear A110
  by_cases c12 : t359 = true
  ·
   subst c12
   have H1 : ((span_Within.f a0_0 a0_1 a1_0 a1_1).bind fun t360 => (if t360 = true then ((span_Within.f a1_0 a1_1 a2_0 a2_1).bind fun t361 => (if t361 = true then ((span_Within.f a0_0 a0_1 a2_0 a2_1).bind fun t362 => (if t362 = true then ((span_Within.f a0_0 a0_1 a1_0 a1_1).bind fun t363 => (if t363 = true then ((span_Within.f a1_0 a1_1 a0_0 a0_1).bind fun t364 => (if t364 = true then (bournelaw09_SpanOrders.j0 k a3 t358 (!(a0_0 == a1_0) || (!(a0_1 == a1_1))) a0_0 a0_1 a1_0 a1_1) else (bournelaw09_SpanOrders.j0 k a3 t358 false a0_0 a0_1 a1_0 a1_1))) else (bournelaw09_SpanOrders.j0 k a3 t358 false a0_0 a0_1 a1_0 a1_1))) else (bournelaw09_SpanOrders.j0 k a3 t358 true a0_0 a0_1 a1_0 a1_1))) else ((span_Within.f a0_0 a0_1 a1_0 a1_1).bind fun t365 => (if t365 = true then ((span_Within.f a1_0 a1_1 a0_0 a0_1).bind fun t366 => (if t366 = true then (bournelaw09_SpanOrders.j0 k a3 t358 (!(a0_0 == a1_0) || (!(a0_1 == a1_1))) a0_0 a0_1 a1_0 a1_1) else (bournelaw09_SpanOrders.j0 k a3 t358 false a0_0 a0_1 a1_0 a1_1))) else (bournelaw09_SpanOrders.j0 k a3 t358 false a0_0 a0_1 a1_0 a1_1))))) else ((span_Within.f a0_0 a0_1 a1_0 a1_1).bind fun t367 => (if t367 = true then ((span_Within.f a1_0 a1_1 a0_0 a0_1).bind fun t368 => (if t368 = true then (bournelaw09_SpanOrders.j0 k a3 t358 (!(a0_0 == a1_0) || (!(a0_1 == a1_1))) a0_0 a0_1 a1_0 a1_1) else (bournelaw09_SpanOrders.j0 k a3 t358 false a0_0 a0_1 a1_0 a1_1))) else (bournelaw09_SpanOrders.j0 k a3 t358 false a0_0 a0_1 a1_0 a1_1))))) = some r := by rw [if_pos rfl] at H; exact H
   clear H
   have H := H1
   clear H1
   replace H := Option.bind_eq_some_iff.mp H
   obtain ⟨t360, A130, H⟩ := H
   have A13 := Aside0.mk A130
   clear A130
   by_cases c14 : t360 = true
   ·
    subst c14
    have H1 : ((span_Within.f a1_0 a1_1 a2_0 a2_1).bind fun t361 => (if t361 = true then ((span_Within.f a0_0 a0_1 a2_0 a2_1).bind fun t362 => (if t362 = true then ((span_Within.f a0_0 a0_1 a1_0 a1_1).bind fun t363 => (if t363 = true then ((span_Within.f a1_0 a1_1 a0_0 a0_1).bind fun t364 => (if t364 = true then (bournelaw09_SpanOrders.j0 k a3 t358 (!(a0_0 == a1_0) || (!(a0_1 == a1_1))) a0_0 a0_1 a1_0 a1_1) else (bournelaw09_SpanOrders.j0 k a3 t358 false a0_0 a0_1 a1_0 a1_1))) else (bournelaw09_SpanOrders.j0 k a3 t358 false a0_0 a0_1 a1_0 a1_1))) else (bournelaw09_SpanOrders.j0 k a3 t358 true a0_0 a0_1 a1_0 a1_1))) else ((span_Within.f a0_0 a0_1 a1_0 a1_1).bind fun t365 => (if t365 = true then ((span_Within.f a1_0 a1_1 a0_0 a0_1).bind fun t366 => (if t366 = true then (bournelaw09_SpanOrders.j0 k a3 t358 (!(a0_0 == a1_0) || (!(a0_1 == a1_1))) a0_0 a0_1 a1_0 a1_1) else (bournelaw09_SpanOrders.j0 k a3 t358 false a0_0 a0_1 a1_0 a1_1))) else (bournelaw09_SpanOrders.j0 k a3 t358 false a0_0 a0_1 a1_0 a1_1))))) = some r := by rw [if_pos rfl] at H; exact H
    clear H
    have H := H1
    clear H1
    replace H := Option.bind_eq_some_iff.mp H
    obtain ⟨t361, A150, H⟩ := H
    have A15 := Aside0.mk A150
    clear A150
    by_cases c16 : t361 = true
    ·
     subst c16
     have H1 : ((span_Within.f a0_0 a0_1 a2_0 a2_1).bind fun t362 => (if t362 = true then ((span_Within.f a0_0 a0_1 a1_0 a1_1).bind fun t363 => (if t363 = true then ((span_Within.f a1_0 a1_1 a0_0 a0_1).bind fun t364 => (if t364 = true then (bournelaw09_SpanOrders.j0 k a3 t358 (!(a0_0 == a1_0) || (!(a0_1 == a1_1))) a0_0 a0_1 a1_0 a1_1) else (bournelaw09_SpanOrders.j0 k a3 t358 false a0_0 a0_1 a1_0 a1_1))) else (bournelaw09_SpanOrders.j0 k a3 t358 false a0_0 a0_1 a1_0 a1_1))) else (bournelaw09_SpanOrders.j0 k a3 t358 true a0_0 a0_1 a1_0 a1_1))) = some r := by rw [if_pos rfl] at H; exact H
     clear H
     have H := H1
     clear H1
     replace H := Option.bind_eq_some_iff.mp H
     obtain ⟨t362, A170, H⟩ := H
     have A17 := Aside0.mk A170
     clear A170
     by_cases c18 : t362 = true
     ·
      subst c18
      have H1 : ((span_Within.f a0_0 a0_1 a1_0 a1_1).bind fun t363 => (if t363 = true then ((span_Within.f a1_0 a1_1 a0_0 a0_1).bind fun t364 => (if t364 = true then (bournelaw09_SpanOrders.j0 k a3 t358 (!(a0_0 == a1_0) || (!(a0_1 == a1_1))) a0_0 a0_1 a1_0 a1_1) else (bournelaw09_SpanOrders.j0 k a3 t358 false a0_0 a0_1 a1_0 a1_1))) else (bournelaw09_SpanOrders.j0 k a3 t358 false a0_0 a0_1 a1_0 a1_1))) = some r := by rw [if_pos rfl] at H; exact H
      clear H
      have H := H1
      clear H1
      replace H := Option.bind_eq_some_iff.mp H
      obtain ⟨t363, A190, H⟩ := H
      have A19 := Aside0.mk A190
      clear A190
      by_cases c20 : t363 = true
      ·
       subst c20
       have H1 : ((span_Within.f a1_0 a1_1 a0_0 a0_1).bind fun t364 => (if t364 = true then (bournelaw09_SpanOrders.j0 k a3 t358 (!(a0_0 == a1_0) || (!(a0_1 == a1_1))) a0_0 a0_1 a1_0 a1_1) else (bournelaw09_SpanOrders.j0 k a3 t358 false a0_0 a0_1 a1_0 a1_1))) = some r := by rw [if_pos rfl] at H; exact H
       clear H
       have H := H1
       clear H1
       replace H := Option.bind_eq_some_iff.mp H
       obtain ⟨t364, A210, H⟩ := H
       have A21 := Aside0.mk A210
       clear A210
       by_cases c22 : t364 = true
       ·
        subst c22
        have H1 : (bournelaw09_SpanOrders.j0 k a3 t358 (!(a0_0 == a1_0) || (!(a0_1 == a1_1))) a0_0 a0_1 a1_0 a1_1) = some r := by rw [if_pos rfl] at H; exact H
        clear H
        have H := H1
        clear H1
        have H' := Aside0.mk H
        clear H
        have hnb23 := NB355_356.out
        have hnc23 := NB356_355.out
        have hnb24 := NB355_357.out
        have hnc24 := NB357_355.out
        have hcz25_0 : w10.cell? ⟨gb355, 0, none⟩ = some (.int .i64 a0_0) := (bC BK355.out 0).trans rfl
        have hcz25_1 : w10.cell? ⟨gb355, 1, none⟩ = some (.int .i64 a0_1) := (bC BK355.out 1).trans rfl
        have hfz25_0 := bF BK355.out 0
        have hfz25_1 := bF BK355.out 1
        go_wp2_with (first | ((with_reducible refine gate_callee (f := 25) rfl ?_); refine goesL_ (some 13) rfl rfl Try.func25 (by kernel_rfl) rfl #[.agg #[.int .i64 a0_0, .int .i64 a0_1], .agg #[.int .i64 a0_0, .int .i64 a0_1]] rfl (by (try simp only [List.map_toArray, List.map_cons, List.map_nil]); first | done | rfl | (simp only [List.length_drop, List.length_take]; rfl)) ?_; (with_reducible refine (span_Within.calls a0_0 a0_1 a0_0 a0_1 true _ A11.out).mono ?_); rintro e w26 ⟨rfl, hb⟩; refine ⟨_, rfl, ?_⟩; have n0_ := Aside0.mk (bB (g := gb355) (o := .cells #[.int .i64 a0_0, .int .i64 a0_1] 23 (0, 0)) (by (with_reducible repeat (first | refine bN ?_ _ | refine bD ?_ | refine bA ?_ _)); exact BK355.out) hb); have n1_ := Aside0.mk (bB (g := gb356) (o := .cells #[.int .i64 a1_0, .int .i64 a1_1] 23 (0, 0)) (by (with_reducible repeat (first | refine bN ?_ _ | refine bD ?_ | refine bA ?_ _)); exact BK356.out) hb); have n2_ := Aside0.mk (bB (g := gb357) (o := .cells #[.int .i64 a2_0, .int .i64 a2_1] 23 (0, 0)) (by (with_reducible repeat (first | refine bN ?_ _ | refine bD ?_ | refine bA ?_ _)); exact BK357.out) hb); have n3_ := Aside0.mk (bP (by repeat (first | (with_reducible first | exact HB.out | apply bL | apply bW | apply b1 | refine bS ?_ GE355.out | refine bS ?_ GE356.out | refine bS ?_ GE357.out) | exact HB.out)) hb); clear BK355; clear BK356; clear BK357; clear HB; have BK355 := n0_; have BK356 := n1_; have BK357 := n2_; have HB := n3_; clear n0_ n1_ n2_ n3_; (try clear hb); (try clear hb2); (try clear hk); (try clear hi); have hcz27_0 : w26.cell? ⟨gb355, 0, none⟩ = some (.int .i64 a0_0) := (bC BK355.out 0).trans rfl; have hcz27_1 : w26.cell? ⟨gb355, 1, none⟩ = some (.int .i64 a0_1) := (bC BK355.out 1).trans rfl; have hfz27_0 := bF BK355.out 0; have hfz27_1 := bF BK355.out 1; have hnb28 := NB356_357.out; have hnc28 := NB357_356.out; have hcz29_0 : w26.cell? ⟨gb356, 0, none⟩ = some (.int .i64 a1_0) := (bC BK356.out 0).trans rfl; have hcz29_1 : w26.cell? ⟨gb356, 1, none⟩ = some (.int .i64 a1_1) := (bC BK356.out 1).trans rfl; have hfz29_0 := bF BK356.out 0; have hfz29_1 := bF BK356.out 1) | (go_at_call 25; (with_reducible refine (span_Within.calls a0_0 a0_1 a1_0 a1_1 true _ A13.out).mono ?_); rintro e w30 ⟨rfl, hb⟩; (try clear A13); have n0_ := Aside0.mk (bB (g := gb355) (o := .cells #[.int .i64 a0_0, .int .i64 a0_1] 23 (0, 0)) (by (with_reducible repeat (first | refine bN ?_ _ | refine bD ?_ | refine bA ?_ _)); exact BK355.out) hb); have n1_ := Aside0.mk (bB (g := gb356) (o := .cells #[.int .i64 a1_0, .int .i64 a1_1] 23 (0, 0)) (by (with_reducible repeat (first | refine bN ?_ _ | refine bD ?_ | refine bA ?_ _)); exact BK356.out) hb); have n2_ := Aside0.mk (bB (g := gb357) (o := .cells #[.int .i64 a2_0, .int .i64 a2_1] 23 (0, 0)) (by (with_reducible repeat (first | refine bN ?_ _ | refine bD ?_ | refine bA ?_ _)); exact BK357.out) hb); have n3_ := Aside0.mk (bP (by repeat (first | (with_reducible first | exact HB.out | apply bL | apply bW | apply b1 | refine bS ?_ GE355.out | refine bS ?_ GE356.out | refine bS ?_ GE357.out) | exact HB.out)) hb); clear BK355; clear BK356; clear BK357; clear HB; have BK355 := n0_; have BK356 := n1_; have BK357 := n2_; have HB := n3_; clear n0_ n1_ n2_ n3_; (try clear hb); (try clear hb2); (try clear hk); (try clear hi); have hcz31_0 : w30.cell? ⟨gb356, 0, none⟩ = some (.int .i64 a1_0) := (bC BK356.out 0).trans rfl; have hcz31_1 : w30.cell? ⟨gb356, 1, none⟩ = some (.int .i64 a1_1) := (bC BK356.out 1).trans rfl; have hfz31_0 := bF BK356.out 0; have hfz31_1 := bF BK356.out 1; have hcz32_0 : w30.cell? ⟨gb357, 0, none⟩ = some (.int .i64 a2_0) := (bC BK357.out 0).trans rfl; have hcz32_1 : w30.cell? ⟨gb357, 1, none⟩ = some (.int .i64 a2_1) := (bC BK357.out 1).trans rfl; have hfz32_0 := bF BK357.out 0; have hfz32_1 := bF BK357.out 1) | (go_at_call 25; (with_reducible refine (span_Within.calls a1_0 a1_1 a2_0 a2_1 true _ A15.out).mono ?_); rintro e w33 ⟨rfl, hb⟩; (try clear A15); have n0_ := Aside0.mk (bB (g := gb355) (o := .cells #[.int .i64 a0_0, .int .i64 a0_1] 23 (0, 0)) (by (with_reducible repeat (first | refine bN ?_ _ | refine bD ?_ | refine bA ?_ _)); exact BK355.out) hb); have n1_ := Aside0.mk (bB (g := gb356) (o := .cells #[.int .i64 a1_0, .int .i64 a1_1] 23 (0, 0)) (by (with_reducible repeat (first | refine bN ?_ _ | refine bD ?_ | refine bA ?_ _)); exact BK356.out) hb); have n2_ := Aside0.mk (bB (g := gb357) (o := .cells #[.int .i64 a2_0, .int .i64 a2_1] 23 (0, 0)) (by (with_reducible repeat (first | refine bN ?_ _ | refine bD ?_ | refine bA ?_ _)); exact BK357.out) hb); have n3_ := Aside0.mk (bP (by repeat (first | (with_reducible first | exact HB.out | apply bL | apply bW | apply b1 | refine bS ?_ GE355.out | refine bS ?_ GE356.out | refine bS ?_ GE357.out) | exact HB.out)) hb); clear BK355; clear BK356; clear BK357; clear HB; have BK355 := n0_; have BK356 := n1_; have BK357 := n2_; have HB := n3_; clear n0_ n1_ n2_ n3_; (try clear hb); (try clear hb2); (try clear hk); (try clear hi); have hcz34_0 : w33.cell? ⟨gb355, 0, none⟩ = some (.int .i64 a0_0) := (bC BK355.out 0).trans rfl; have hcz34_1 : w33.cell? ⟨gb355, 1, none⟩ = some (.int .i64 a0_1) := (bC BK355.out 1).trans rfl; have hfz34_0 := bF BK355.out 0; have hfz34_1 := bF BK355.out 1; have hcz35_0 : w33.cell? ⟨gb357, 0, none⟩ = some (.int .i64 a2_0) := (bC BK357.out 0).trans rfl; have hcz35_1 : w33.cell? ⟨gb357, 1, none⟩ = some (.int .i64 a2_1) := (bC BK357.out 1).trans rfl; have hfz35_0 := bF BK357.out 0; have hfz35_1 := bF BK357.out 1) | (go_at_call 25; (with_reducible refine (span_Within.calls a0_0 a0_1 a2_0 a2_1 true _ A17.out).mono ?_); rintro e w36 ⟨rfl, hb⟩; (try clear A17); have n0_ := Aside0.mk (bB (g := gb355) (o := .cells #[.int .i64 a0_0, .int .i64 a0_1] 23 (0, 0)) (by (with_reducible repeat (first | refine bN ?_ _ | refine bD ?_ | refine bA ?_ _)); exact BK355.out) hb); have n1_ := Aside0.mk (bB (g := gb356) (o := .cells #[.int .i64 a1_0, .int .i64 a1_1] 23 (0, 0)) (by (with_reducible repeat (first | refine bN ?_ _ | refine bD ?_ | refine bA ?_ _)); exact BK356.out) hb); have n2_ := Aside0.mk (bB (g := gb357) (o := .cells #[.int .i64 a2_0, .int .i64 a2_1] 23 (0, 0)) (by (with_reducible repeat (first | refine bN ?_ _ | refine bD ?_ | refine bA ?_ _)); exact BK357.out) hb); have n3_ := Aside0.mk (bP (by repeat (first | (with_reducible first | exact HB.out | apply bL | apply bW | apply b1 | refine bS ?_ GE355.out | refine bS ?_ GE356.out | refine bS ?_ GE357.out) | exact HB.out)) hb); clear BK355; clear BK356; clear BK357; clear HB; have BK355 := n0_; have BK356 := n1_; have BK357 := n2_; have HB := n3_; clear n0_ n1_ n2_ n3_; (try clear hb); (try clear hb2); (try clear hk); (try clear hi); have hcz37_0 : w36.cell? ⟨gb355, 0, none⟩ = some (.int .i64 a0_0) := (bC BK355.out 0).trans rfl; have hcz37_1 : w36.cell? ⟨gb355, 1, none⟩ = some (.int .i64 a0_1) := (bC BK355.out 1).trans rfl; have hfz37_0 := bF BK355.out 0; have hfz37_1 := bF BK355.out 1; have hcz38_0 : w36.cell? ⟨gb356, 0, none⟩ = some (.int .i64 a1_0) := (bC BK356.out 0).trans rfl; have hcz38_1 : w36.cell? ⟨gb356, 1, none⟩ = some (.int .i64 a1_1) := (bC BK356.out 1).trans rfl; have hfz38_0 := bF BK356.out 0; have hfz38_1 := bF BK356.out 1) | (go_at_call 25; (with_reducible refine (span_Within.calls a0_0 a0_1 a1_0 a1_1 true _ A19.out).mono ?_); rintro e w39 ⟨rfl, hb⟩; (try clear A19); have n0_ := Aside0.mk (bB (g := gb355) (o := .cells #[.int .i64 a0_0, .int .i64 a0_1] 23 (0, 0)) (by (with_reducible repeat (first | refine bN ?_ _ | refine bD ?_ | refine bA ?_ _)); exact BK355.out) hb); have n1_ := Aside0.mk (bB (g := gb356) (o := .cells #[.int .i64 a1_0, .int .i64 a1_1] 23 (0, 0)) (by (with_reducible repeat (first | refine bN ?_ _ | refine bD ?_ | refine bA ?_ _)); exact BK356.out) hb); have n2_ := Aside0.mk (bB (g := gb357) (o := .cells #[.int .i64 a2_0, .int .i64 a2_1] 23 (0, 0)) (by (with_reducible repeat (first | refine bN ?_ _ | refine bD ?_ | refine bA ?_ _)); exact BK357.out) hb); have n3_ := Aside0.mk (bP (by repeat (first | (with_reducible first | exact HB.out | apply bL | apply bW | apply b1 | refine bS ?_ GE355.out | refine bS ?_ GE356.out | refine bS ?_ GE357.out) | exact HB.out)) hb); clear BK355; clear BK356; clear BK357; clear HB; have BK355 := n0_; have BK356 := n1_; have BK357 := n2_; have HB := n3_; clear n0_ n1_ n2_ n3_; (try clear hb); (try clear hb2); (try clear hk); (try clear hi); have hcz40_0 : w39.cell? ⟨gb356, 0, none⟩ = some (.int .i64 a1_0) := (bC BK356.out 0).trans rfl; have hcz40_1 : w39.cell? ⟨gb356, 1, none⟩ = some (.int .i64 a1_1) := (bC BK356.out 1).trans rfl; have hfz40_0 := bF BK356.out 0; have hfz40_1 := bF BK356.out 1; have hcz41_0 : w39.cell? ⟨gb355, 0, none⟩ = some (.int .i64 a0_0) := (bC BK355.out 0).trans rfl; have hcz41_1 : w39.cell? ⟨gb355, 1, none⟩ = some (.int .i64 a0_1) := (bC BK355.out 1).trans rfl; have hfz41_0 := bF BK355.out 0; have hfz41_1 := bF BK355.out 1) | (go_at_call 25; (with_reducible refine (span_Within.calls a1_0 a1_1 a0_0 a0_1 true _ A21.out).mono ?_); rintro e w42 ⟨rfl, hb⟩; (try clear A21); have n0_ := Aside0.mk (bB (g := gb355) (o := .cells #[.int .i64 a0_0, .int .i64 a0_1] 23 (0, 0)) (by (with_reducible repeat (first | refine bN ?_ _ | refine bD ?_ | refine bA ?_ _)); exact BK355.out) hb); have n1_ := Aside0.mk (bB (g := gb356) (o := .cells #[.int .i64 a1_0, .int .i64 a1_1] 23 (0, 0)) (by (with_reducible repeat (first | refine bN ?_ _ | refine bD ?_ | refine bA ?_ _)); exact BK356.out) hb); have n2_ := Aside0.mk (bB (g := gb357) (o := .cells #[.int .i64 a2_0, .int .i64 a2_1] 23 (0, 0)) (by (with_reducible repeat (first | refine bN ?_ _ | refine bD ?_ | refine bA ?_ _)); exact BK357.out) hb); have n3_ := Aside0.mk (bP (by repeat (first | (with_reducible first | exact HB.out | apply bL | apply bW | apply b1 | refine bS ?_ GE355.out | refine bS ?_ GE356.out | refine bS ?_ GE357.out) | exact HB.out)) hb); clear BK355; clear BK356; clear BK357; clear HB; have BK355 := n0_; have BK356 := n1_; have BK357 := n2_; have HB := n3_; clear n0_ n1_ n2_ n3_; (try clear hb); (try clear hb2); (try clear hk); (try clear hi); have hcz43_0 : w42.cell? ⟨gb355, 0, none⟩ = some (.int .i64 a0_0) := (bC BK355.out 0).trans rfl; have hcz43_1 : w42.cell? ⟨gb355, 1, none⟩ = some (.int .i64 a0_1) := (bC BK355.out 1).trans rfl; have hfz43_0 := bF BK355.out 0; have hfz43_1 := bF BK355.out 1; have hcz44_0 : w42.cell? ⟨gb356, 0, none⟩ = some (.int .i64 a1_0) := (bC BK356.out 0).trans rfl; have hcz44_1 : w42.cell? ⟨gb356, 1, none⟩ = some (.int .i64 a1_1) := (bC BK356.out 1).trans rfl; have hfz44_0 := bF BK356.out 0; have hfz44_1 := bF BK356.out 1))
        go_meet
        case rel => exact ⟨_, ((!(a0_0 == a1_0) || (!(a0_1 == a1_1)))), (by first | rfl | (simp; done) | (simp [*]; done)), H', ⟨by first | omega | exact Nat.le_refl _⟩, ⟨by (with_reducible repeat (first | refine bN ?_ _ | refine bD ?_ | refine bA ?_ _)); exact BK355.out⟩, ⟨by (with_reducible repeat (first | refine bN ?_ _ | refine bD ?_ | refine bA ?_ _)); exact BK356.out⟩, ⟨by (with_reducible repeat (first | refine bN ?_ _ | refine bD ?_ | refine bA ?_ _)); exact BK357.out⟩, ⟨by repeat (first | (with_reducible first | exact HB.out | apply bL | apply bW | apply b1 | refine bS ?_ GE355.out | refine bS ?_ GE356.out | refine bS ?_ GE357.out) | exact HB.out)⟩⟩
       ·
        replace c22 := Bool.eq_false_iff.mpr c22
        subst c22
        have H1 : (bournelaw09_SpanOrders.j0 k a3 t358 false a0_0 a0_1 a1_0 a1_1) = some r := by rw [if_neg (show ¬ (false = true) by decide)] at H; exact H
        clear H
        have H := H1
        clear H1
        have H' := Aside0.mk H
        clear H
        have hnb45 := NB355_356.out
        have hnc45 := NB356_355.out
        have hnb46 := NB355_357.out
        have hnc46 := NB357_355.out
        have hcz47_0 : w10.cell? ⟨gb355, 0, none⟩ = some (.int .i64 a0_0) := (bC BK355.out 0).trans rfl
        have hcz47_1 : w10.cell? ⟨gb355, 1, none⟩ = some (.int .i64 a0_1) := (bC BK355.out 1).trans rfl
        have hfz47_0 := bF BK355.out 0
        have hfz47_1 := bF BK355.out 1
        go_wp2_with (first | ((with_reducible refine gate_callee (f := 25) rfl ?_); refine goesL_ (some 13) rfl rfl Try.func25 (by kernel_rfl) rfl #[.agg #[.int .i64 a0_0, .int .i64 a0_1], .agg #[.int .i64 a0_0, .int .i64 a0_1]] rfl (by (try simp only [List.map_toArray, List.map_cons, List.map_nil]); first | done | rfl | (simp only [List.length_drop, List.length_take]; rfl)) ?_; (with_reducible refine (span_Within.calls a0_0 a0_1 a0_0 a0_1 true _ A11.out).mono ?_); rintro e w48 ⟨rfl, hb⟩; refine ⟨_, rfl, ?_⟩; have n0_ := Aside0.mk (bB (g := gb355) (o := .cells #[.int .i64 a0_0, .int .i64 a0_1] 23 (0, 0)) (by (with_reducible repeat (first | refine bN ?_ _ | refine bD ?_ | refine bA ?_ _)); exact BK355.out) hb); have n1_ := Aside0.mk (bB (g := gb356) (o := .cells #[.int .i64 a1_0, .int .i64 a1_1] 23 (0, 0)) (by (with_reducible repeat (first | refine bN ?_ _ | refine bD ?_ | refine bA ?_ _)); exact BK356.out) hb); have n2_ := Aside0.mk (bB (g := gb357) (o := .cells #[.int .i64 a2_0, .int .i64 a2_1] 23 (0, 0)) (by (with_reducible repeat (first | refine bN ?_ _ | refine bD ?_ | refine bA ?_ _)); exact BK357.out) hb); have n3_ := Aside0.mk (bP (by repeat (first | (with_reducible first | exact HB.out | apply bL | apply bW | apply b1 | refine bS ?_ GE355.out | refine bS ?_ GE356.out | refine bS ?_ GE357.out) | exact HB.out)) hb); clear BK355; clear BK356; clear BK357; clear HB; have BK355 := n0_; have BK356 := n1_; have BK357 := n2_; have HB := n3_; clear n0_ n1_ n2_ n3_; (try clear hb); (try clear hb2); (try clear hk); (try clear hi); have hcz49_0 : w48.cell? ⟨gb355, 0, none⟩ = some (.int .i64 a0_0) := (bC BK355.out 0).trans rfl; have hcz49_1 : w48.cell? ⟨gb355, 1, none⟩ = some (.int .i64 a0_1) := (bC BK355.out 1).trans rfl; have hfz49_0 := bF BK355.out 0; have hfz49_1 := bF BK355.out 1; have hnb50 := NB356_357.out; have hnc50 := NB357_356.out; have hcz51_0 : w48.cell? ⟨gb356, 0, none⟩ = some (.int .i64 a1_0) := (bC BK356.out 0).trans rfl; have hcz51_1 : w48.cell? ⟨gb356, 1, none⟩ = some (.int .i64 a1_1) := (bC BK356.out 1).trans rfl; have hfz51_0 := bF BK356.out 0; have hfz51_1 := bF BK356.out 1) | (go_at_call 25; (with_reducible refine (span_Within.calls a0_0 a0_1 a1_0 a1_1 true _ A13.out).mono ?_); rintro e w52 ⟨rfl, hb⟩; (try clear A13); have n0_ := Aside0.mk (bB (g := gb355) (o := .cells #[.int .i64 a0_0, .int .i64 a0_1] 23 (0, 0)) (by (with_reducible repeat (first | refine bN ?_ _ | refine bD ?_ | refine bA ?_ _)); exact BK355.out) hb); have n1_ := Aside0.mk (bB (g := gb356) (o := .cells #[.int .i64 a1_0, .int .i64 a1_1] 23 (0, 0)) (by (with_reducible repeat (first | refine bN ?_ _ | refine bD ?_ | refine bA ?_ _)); exact BK356.out) hb); have n2_ := Aside0.mk (bB (g := gb357) (o := .cells #[.int .i64 a2_0, .int .i64 a2_1] 23 (0, 0)) (by (with_reducible repeat (first | refine bN ?_ _ | refine bD ?_ | refine bA ?_ _)); exact BK357.out) hb); have n3_ := Aside0.mk (bP (by repeat (first | (with_reducible first | exact HB.out | apply bL | apply bW | apply b1 | refine bS ?_ GE355.out | refine bS ?_ GE356.out | refine bS ?_ GE357.out) | exact HB.out)) hb); clear BK355; clear BK356; clear BK357; clear HB; have BK355 := n0_; have BK356 := n1_; have BK357 := n2_; have HB := n3_; clear n0_ n1_ n2_ n3_; (try clear hb); (try clear hb2); (try clear hk); (try clear hi); have hcz53_0 : w52.cell? ⟨gb356, 0, none⟩ = some (.int .i64 a1_0) := (bC BK356.out 0).trans rfl; have hcz53_1 : w52.cell? ⟨gb356, 1, none⟩ = some (.int .i64 a1_1) := (bC BK356.out 1).trans rfl; have hfz53_0 := bF BK356.out 0; have hfz53_1 := bF BK356.out 1; have hcz54_0 : w52.cell? ⟨gb357, 0, none⟩ = some (.int .i64 a2_0) := (bC BK357.out 0).trans rfl; have hcz54_1 : w52.cell? ⟨gb357, 1, none⟩ = some (.int .i64 a2_1) := (bC BK357.out 1).trans rfl; have hfz54_0 := bF BK357.out 0; have hfz54_1 := bF BK357.out 1) | (go_at_call 25; (with_reducible refine (span_Within.calls a1_0 a1_1 a2_0 a2_1 true _ A15.out).mono ?_); rintro e w55 ⟨rfl, hb⟩; (try clear A15); have n0_ := Aside0.mk (bB (g := gb355) (o := .cells #[.int .i64 a0_0, .int .i64 a0_1] 23 (0, 0)) (by (with_reducible repeat (first | refine bN ?_ _ | refine bD ?_ | refine bA ?_ _)); exact BK355.out) hb); have n1_ := Aside0.mk (bB (g := gb356) (o := .cells #[.int .i64 a1_0, .int .i64 a1_1] 23 (0, 0)) (by (with_reducible repeat (first | refine bN ?_ _ | refine bD ?_ | refine bA ?_ _)); exact BK356.out) hb); have n2_ := Aside0.mk (bB (g := gb357) (o := .cells #[.int .i64 a2_0, .int .i64 a2_1] 23 (0, 0)) (by (with_reducible repeat (first | refine bN ?_ _ | refine bD ?_ | refine bA ?_ _)); exact BK357.out) hb); have n3_ := Aside0.mk (bP (by repeat (first | (with_reducible first | exact HB.out | apply bL | apply bW | apply b1 | refine bS ?_ GE355.out | refine bS ?_ GE356.out | refine bS ?_ GE357.out) | exact HB.out)) hb); clear BK355; clear BK356; clear BK357; clear HB; have BK355 := n0_; have BK356 := n1_; have BK357 := n2_; have HB := n3_; clear n0_ n1_ n2_ n3_; (try clear hb); (try clear hb2); (try clear hk); (try clear hi); have hcz56_0 : w55.cell? ⟨gb355, 0, none⟩ = some (.int .i64 a0_0) := (bC BK355.out 0).trans rfl; have hcz56_1 : w55.cell? ⟨gb355, 1, none⟩ = some (.int .i64 a0_1) := (bC BK355.out 1).trans rfl; have hfz56_0 := bF BK355.out 0; have hfz56_1 := bF BK355.out 1; have hcz57_0 : w55.cell? ⟨gb357, 0, none⟩ = some (.int .i64 a2_0) := (bC BK357.out 0).trans rfl; have hcz57_1 : w55.cell? ⟨gb357, 1, none⟩ = some (.int .i64 a2_1) := (bC BK357.out 1).trans rfl; have hfz57_0 := bF BK357.out 0; have hfz57_1 := bF BK357.out 1) | (go_at_call 25; (with_reducible refine (span_Within.calls a0_0 a0_1 a2_0 a2_1 true _ A17.out).mono ?_); rintro e w58 ⟨rfl, hb⟩; (try clear A17); have n0_ := Aside0.mk (bB (g := gb355) (o := .cells #[.int .i64 a0_0, .int .i64 a0_1] 23 (0, 0)) (by (with_reducible repeat (first | refine bN ?_ _ | refine bD ?_ | refine bA ?_ _)); exact BK355.out) hb); have n1_ := Aside0.mk (bB (g := gb356) (o := .cells #[.int .i64 a1_0, .int .i64 a1_1] 23 (0, 0)) (by (with_reducible repeat (first | refine bN ?_ _ | refine bD ?_ | refine bA ?_ _)); exact BK356.out) hb); have n2_ := Aside0.mk (bB (g := gb357) (o := .cells #[.int .i64 a2_0, .int .i64 a2_1] 23 (0, 0)) (by (with_reducible repeat (first | refine bN ?_ _ | refine bD ?_ | refine bA ?_ _)); exact BK357.out) hb); have n3_ := Aside0.mk (bP (by repeat (first | (with_reducible first | exact HB.out | apply bL | apply bW | apply b1 | refine bS ?_ GE355.out | refine bS ?_ GE356.out | refine bS ?_ GE357.out) | exact HB.out)) hb); clear BK355; clear BK356; clear BK357; clear HB; have BK355 := n0_; have BK356 := n1_; have BK357 := n2_; have HB := n3_; clear n0_ n1_ n2_ n3_; (try clear hb); (try clear hb2); (try clear hk); (try clear hi); have hcz59_0 : w58.cell? ⟨gb355, 0, none⟩ = some (.int .i64 a0_0) := (bC BK355.out 0).trans rfl; have hcz59_1 : w58.cell? ⟨gb355, 1, none⟩ = some (.int .i64 a0_1) := (bC BK355.out 1).trans rfl; have hfz59_0 := bF BK355.out 0; have hfz59_1 := bF BK355.out 1; have hcz60_0 : w58.cell? ⟨gb356, 0, none⟩ = some (.int .i64 a1_0) := (bC BK356.out 0).trans rfl; have hcz60_1 : w58.cell? ⟨gb356, 1, none⟩ = some (.int .i64 a1_1) := (bC BK356.out 1).trans rfl; have hfz60_0 := bF BK356.out 0; have hfz60_1 := bF BK356.out 1) | (go_at_call 25; (with_reducible refine (span_Within.calls a0_0 a0_1 a1_0 a1_1 true _ A19.out).mono ?_); rintro e w61 ⟨rfl, hb⟩; (try clear A19); have n0_ := Aside0.mk (bB (g := gb355) (o := .cells #[.int .i64 a0_0, .int .i64 a0_1] 23 (0, 0)) (by (with_reducible repeat (first | refine bN ?_ _ | refine bD ?_ | refine bA ?_ _)); exact BK355.out) hb); have n1_ := Aside0.mk (bB (g := gb356) (o := .cells #[.int .i64 a1_0, .int .i64 a1_1] 23 (0, 0)) (by (with_reducible repeat (first | refine bN ?_ _ | refine bD ?_ | refine bA ?_ _)); exact BK356.out) hb); have n2_ := Aside0.mk (bB (g := gb357) (o := .cells #[.int .i64 a2_0, .int .i64 a2_1] 23 (0, 0)) (by (with_reducible repeat (first | refine bN ?_ _ | refine bD ?_ | refine bA ?_ _)); exact BK357.out) hb); have n3_ := Aside0.mk (bP (by repeat (first | (with_reducible first | exact HB.out | apply bL | apply bW | apply b1 | refine bS ?_ GE355.out | refine bS ?_ GE356.out | refine bS ?_ GE357.out) | exact HB.out)) hb); clear BK355; clear BK356; clear BK357; clear HB; have BK355 := n0_; have BK356 := n1_; have BK357 := n2_; have HB := n3_; clear n0_ n1_ n2_ n3_; (try clear hb); (try clear hb2); (try clear hk); (try clear hi); have hcz62_0 : w61.cell? ⟨gb356, 0, none⟩ = some (.int .i64 a1_0) := (bC BK356.out 0).trans rfl; have hcz62_1 : w61.cell? ⟨gb356, 1, none⟩ = some (.int .i64 a1_1) := (bC BK356.out 1).trans rfl; have hfz62_0 := bF BK356.out 0; have hfz62_1 := bF BK356.out 1; have hcz63_0 : w61.cell? ⟨gb355, 0, none⟩ = some (.int .i64 a0_0) := (bC BK355.out 0).trans rfl; have hcz63_1 : w61.cell? ⟨gb355, 1, none⟩ = some (.int .i64 a0_1) := (bC BK355.out 1).trans rfl; have hfz63_0 := bF BK355.out 0; have hfz63_1 := bF BK355.out 1) | (go_at_call 25; (with_reducible refine (span_Within.calls a1_0 a1_1 a0_0 a0_1 false _ A21.out).mono ?_); rintro e w64 ⟨rfl, hb⟩; (try clear A21); have n0_ := Aside0.mk (bB (g := gb355) (o := .cells #[.int .i64 a0_0, .int .i64 a0_1] 23 (0, 0)) (by (with_reducible repeat (first | refine bN ?_ _ | refine bD ?_ | refine bA ?_ _)); exact BK355.out) hb); have n1_ := Aside0.mk (bB (g := gb356) (o := .cells #[.int .i64 a1_0, .int .i64 a1_1] 23 (0, 0)) (by (with_reducible repeat (first | refine bN ?_ _ | refine bD ?_ | refine bA ?_ _)); exact BK356.out) hb); have n2_ := Aside0.mk (bB (g := gb357) (o := .cells #[.int .i64 a2_0, .int .i64 a2_1] 23 (0, 0)) (by (with_reducible repeat (first | refine bN ?_ _ | refine bD ?_ | refine bA ?_ _)); exact BK357.out) hb); have n3_ := Aside0.mk (bP (by repeat (first | (with_reducible first | exact HB.out | apply bL | apply bW | apply b1 | refine bS ?_ GE355.out | refine bS ?_ GE356.out | refine bS ?_ GE357.out) | exact HB.out)) hb); clear BK355; clear BK356; clear BK357; clear HB; have BK355 := n0_; have BK356 := n1_; have BK357 := n2_; have HB := n3_; clear n0_ n1_ n2_ n3_; (try clear hb); (try clear hb2); (try clear hk); (try clear hi)))
        go_meet
        case rel => exact ⟨_, (false), (by first | rfl | (simp; done) | (simp [*]; done)), H', ⟨by first | omega | exact Nat.le_refl _⟩, ⟨by (with_reducible repeat (first | refine bN ?_ _ | refine bD ?_ | refine bA ?_ _)); exact BK355.out⟩, ⟨by (with_reducible repeat (first | refine bN ?_ _ | refine bD ?_ | refine bA ?_ _)); exact BK356.out⟩, ⟨by (with_reducible repeat (first | refine bN ?_ _ | refine bD ?_ | refine bA ?_ _)); exact BK357.out⟩, ⟨by repeat (first | (with_reducible first | exact HB.out | apply bL | apply bW | apply b1 | refine bS ?_ GE355.out | refine bS ?_ GE356.out | refine bS ?_ GE357.out) | exact HB.out)⟩⟩
      ·
       replace c20 := Bool.eq_false_iff.mpr c20
       subst c20
       have H1 : (bournelaw09_SpanOrders.j0 k a3 t358 false a0_0 a0_1 a1_0 a1_1) = some r := by rw [if_neg (show ¬ (false = true) by decide)] at H; exact H
       clear H
       have H := H1
       clear H1
       have H' := Aside0.mk H
       clear H
       have hnb65 := NB355_356.out
       have hnc65 := NB356_355.out
       have hnb66 := NB355_357.out
       have hnc66 := NB357_355.out
       have hcz67_0 : w10.cell? ⟨gb355, 0, none⟩ = some (.int .i64 a0_0) := (bC BK355.out 0).trans rfl
       have hcz67_1 : w10.cell? ⟨gb355, 1, none⟩ = some (.int .i64 a0_1) := (bC BK355.out 1).trans rfl
       have hfz67_0 := bF BK355.out 0
       have hfz67_1 := bF BK355.out 1
       go_wp2_with (first | ((with_reducible refine gate_callee (f := 25) rfl ?_); refine goesL_ (some 13) rfl rfl Try.func25 (by kernel_rfl) rfl #[.agg #[.int .i64 a0_0, .int .i64 a0_1], .agg #[.int .i64 a0_0, .int .i64 a0_1]] rfl (by (try simp only [List.map_toArray, List.map_cons, List.map_nil]); first | done | rfl | (simp only [List.length_drop, List.length_take]; rfl)) ?_; (with_reducible refine (span_Within.calls a0_0 a0_1 a0_0 a0_1 true _ A11.out).mono ?_); rintro e w68 ⟨rfl, hb⟩; refine ⟨_, rfl, ?_⟩; have n0_ := Aside0.mk (bB (g := gb355) (o := .cells #[.int .i64 a0_0, .int .i64 a0_1] 23 (0, 0)) (by (with_reducible repeat (first | refine bN ?_ _ | refine bD ?_ | refine bA ?_ _)); exact BK355.out) hb); have n1_ := Aside0.mk (bB (g := gb356) (o := .cells #[.int .i64 a1_0, .int .i64 a1_1] 23 (0, 0)) (by (with_reducible repeat (first | refine bN ?_ _ | refine bD ?_ | refine bA ?_ _)); exact BK356.out) hb); have n2_ := Aside0.mk (bB (g := gb357) (o := .cells #[.int .i64 a2_0, .int .i64 a2_1] 23 (0, 0)) (by (with_reducible repeat (first | refine bN ?_ _ | refine bD ?_ | refine bA ?_ _)); exact BK357.out) hb); have n3_ := Aside0.mk (bP (by repeat (first | (with_reducible first | exact HB.out | apply bL | apply bW | apply b1 | refine bS ?_ GE355.out | refine bS ?_ GE356.out | refine bS ?_ GE357.out) | exact HB.out)) hb); clear BK355; clear BK356; clear BK357; clear HB; have BK355 := n0_; have BK356 := n1_; have BK357 := n2_; have HB := n3_; clear n0_ n1_ n2_ n3_; (try clear hb); (try clear hb2); (try clear hk); (try clear hi); have hcz69_0 : w68.cell? ⟨gb355, 0, none⟩ = some (.int .i64 a0_0) := (bC BK355.out 0).trans rfl; have hcz69_1 : w68.cell? ⟨gb355, 1, none⟩ = some (.int .i64 a0_1) := (bC BK355.out 1).trans rfl; have hfz69_0 := bF BK355.out 0; have hfz69_1 := bF BK355.out 1; have hnb70 := NB356_357.out; have hnc70 := NB357_356.out; have hcz71_0 : w68.cell? ⟨gb356, 0, none⟩ = some (.int .i64 a1_0) := (bC BK356.out 0).trans rfl; have hcz71_1 : w68.cell? ⟨gb356, 1, none⟩ = some (.int .i64 a1_1) := (bC BK356.out 1).trans rfl; have hfz71_0 := bF BK356.out 0; have hfz71_1 := bF BK356.out 1) | (go_at_call 25; (with_reducible refine (span_Within.calls a0_0 a0_1 a1_0 a1_1 true _ A13.out).mono ?_); rintro e w72 ⟨rfl, hb⟩; (try clear A13); have n0_ := Aside0.mk (bB (g := gb355) (o := .cells #[.int .i64 a0_0, .int .i64 a0_1] 23 (0, 0)) (by (with_reducible repeat (first | refine bN ?_ _ | refine bD ?_ | refine bA ?_ _)); exact BK355.out) hb); have n1_ := Aside0.mk (bB (g := gb356) (o := .cells #[.int .i64 a1_0, .int .i64 a1_1] 23 (0, 0)) (by (with_reducible repeat (first | refine bN ?_ _ | refine bD ?_ | refine bA ?_ _)); exact BK356.out) hb); have n2_ := Aside0.mk (bB (g := gb357) (o := .cells #[.int .i64 a2_0, .int .i64 a2_1] 23 (0, 0)) (by (with_reducible repeat (first | refine bN ?_ _ | refine bD ?_ | refine bA ?_ _)); exact BK357.out) hb); have n3_ := Aside0.mk (bP (by repeat (first | (with_reducible first | exact HB.out | apply bL | apply bW | apply b1 | refine bS ?_ GE355.out | refine bS ?_ GE356.out | refine bS ?_ GE357.out) | exact HB.out)) hb); clear BK355; clear BK356; clear BK357; clear HB; have BK355 := n0_; have BK356 := n1_; have BK357 := n2_; have HB := n3_; clear n0_ n1_ n2_ n3_; (try clear hb); (try clear hb2); (try clear hk); (try clear hi); have hcz73_0 : w72.cell? ⟨gb356, 0, none⟩ = some (.int .i64 a1_0) := (bC BK356.out 0).trans rfl; have hcz73_1 : w72.cell? ⟨gb356, 1, none⟩ = some (.int .i64 a1_1) := (bC BK356.out 1).trans rfl; have hfz73_0 := bF BK356.out 0; have hfz73_1 := bF BK356.out 1; have hcz74_0 : w72.cell? ⟨gb357, 0, none⟩ = some (.int .i64 a2_0) := (bC BK357.out 0).trans rfl; have hcz74_1 : w72.cell? ⟨gb357, 1, none⟩ = some (.int .i64 a2_1) := (bC BK357.out 1).trans rfl; have hfz74_0 := bF BK357.out 0; have hfz74_1 := bF BK357.out 1) | (go_at_call 25; (with_reducible refine (span_Within.calls a1_0 a1_1 a2_0 a2_1 true _ A15.out).mono ?_); rintro e w75 ⟨rfl, hb⟩; (try clear A15); have n0_ := Aside0.mk (bB (g := gb355) (o := .cells #[.int .i64 a0_0, .int .i64 a0_1] 23 (0, 0)) (by (with_reducible repeat (first | refine bN ?_ _ | refine bD ?_ | refine bA ?_ _)); exact BK355.out) hb); have n1_ := Aside0.mk (bB (g := gb356) (o := .cells #[.int .i64 a1_0, .int .i64 a1_1] 23 (0, 0)) (by (with_reducible repeat (first | refine bN ?_ _ | refine bD ?_ | refine bA ?_ _)); exact BK356.out) hb); have n2_ := Aside0.mk (bB (g := gb357) (o := .cells #[.int .i64 a2_0, .int .i64 a2_1] 23 (0, 0)) (by (with_reducible repeat (first | refine bN ?_ _ | refine bD ?_ | refine bA ?_ _)); exact BK357.out) hb); have n3_ := Aside0.mk (bP (by repeat (first | (with_reducible first | exact HB.out | apply bL | apply bW | apply b1 | refine bS ?_ GE355.out | refine bS ?_ GE356.out | refine bS ?_ GE357.out) | exact HB.out)) hb); clear BK355; clear BK356; clear BK357; clear HB; have BK355 := n0_; have BK356 := n1_; have BK357 := n2_; have HB := n3_; clear n0_ n1_ n2_ n3_; (try clear hb); (try clear hb2); (try clear hk); (try clear hi); have hcz76_0 : w75.cell? ⟨gb355, 0, none⟩ = some (.int .i64 a0_0) := (bC BK355.out 0).trans rfl; have hcz76_1 : w75.cell? ⟨gb355, 1, none⟩ = some (.int .i64 a0_1) := (bC BK355.out 1).trans rfl; have hfz76_0 := bF BK355.out 0; have hfz76_1 := bF BK355.out 1; have hcz77_0 : w75.cell? ⟨gb357, 0, none⟩ = some (.int .i64 a2_0) := (bC BK357.out 0).trans rfl; have hcz77_1 : w75.cell? ⟨gb357, 1, none⟩ = some (.int .i64 a2_1) := (bC BK357.out 1).trans rfl; have hfz77_0 := bF BK357.out 0; have hfz77_1 := bF BK357.out 1) | (go_at_call 25; (with_reducible refine (span_Within.calls a0_0 a0_1 a2_0 a2_1 true _ A17.out).mono ?_); rintro e w78 ⟨rfl, hb⟩; (try clear A17); have n0_ := Aside0.mk (bB (g := gb355) (o := .cells #[.int .i64 a0_0, .int .i64 a0_1] 23 (0, 0)) (by (with_reducible repeat (first | refine bN ?_ _ | refine bD ?_ | refine bA ?_ _)); exact BK355.out) hb); have n1_ := Aside0.mk (bB (g := gb356) (o := .cells #[.int .i64 a1_0, .int .i64 a1_1] 23 (0, 0)) (by (with_reducible repeat (first | refine bN ?_ _ | refine bD ?_ | refine bA ?_ _)); exact BK356.out) hb); have n2_ := Aside0.mk (bB (g := gb357) (o := .cells #[.int .i64 a2_0, .int .i64 a2_1] 23 (0, 0)) (by (with_reducible repeat (first | refine bN ?_ _ | refine bD ?_ | refine bA ?_ _)); exact BK357.out) hb); have n3_ := Aside0.mk (bP (by repeat (first | (with_reducible first | exact HB.out | apply bL | apply bW | apply b1 | refine bS ?_ GE355.out | refine bS ?_ GE356.out | refine bS ?_ GE357.out) | exact HB.out)) hb); clear BK355; clear BK356; clear BK357; clear HB; have BK355 := n0_; have BK356 := n1_; have BK357 := n2_; have HB := n3_; clear n0_ n1_ n2_ n3_; (try clear hb); (try clear hb2); (try clear hk); (try clear hi); have hcz79_0 : w78.cell? ⟨gb355, 0, none⟩ = some (.int .i64 a0_0) := (bC BK355.out 0).trans rfl; have hcz79_1 : w78.cell? ⟨gb355, 1, none⟩ = some (.int .i64 a0_1) := (bC BK355.out 1).trans rfl; have hfz79_0 := bF BK355.out 0; have hfz79_1 := bF BK355.out 1; have hcz80_0 : w78.cell? ⟨gb356, 0, none⟩ = some (.int .i64 a1_0) := (bC BK356.out 0).trans rfl; have hcz80_1 : w78.cell? ⟨gb356, 1, none⟩ = some (.int .i64 a1_1) := (bC BK356.out 1).trans rfl; have hfz80_0 := bF BK356.out 0; have hfz80_1 := bF BK356.out 1) | (go_at_call 25; (with_reducible refine (span_Within.calls a0_0 a0_1 a1_0 a1_1 false _ A19.out).mono ?_); rintro e w81 ⟨rfl, hb⟩; (try clear A19); have n0_ := Aside0.mk (bB (g := gb355) (o := .cells #[.int .i64 a0_0, .int .i64 a0_1] 23 (0, 0)) (by (with_reducible repeat (first | refine bN ?_ _ | refine bD ?_ | refine bA ?_ _)); exact BK355.out) hb); have n1_ := Aside0.mk (bB (g := gb356) (o := .cells #[.int .i64 a1_0, .int .i64 a1_1] 23 (0, 0)) (by (with_reducible repeat (first | refine bN ?_ _ | refine bD ?_ | refine bA ?_ _)); exact BK356.out) hb); have n2_ := Aside0.mk (bB (g := gb357) (o := .cells #[.int .i64 a2_0, .int .i64 a2_1] 23 (0, 0)) (by (with_reducible repeat (first | refine bN ?_ _ | refine bD ?_ | refine bA ?_ _)); exact BK357.out) hb); have n3_ := Aside0.mk (bP (by repeat (first | (with_reducible first | exact HB.out | apply bL | apply bW | apply b1 | refine bS ?_ GE355.out | refine bS ?_ GE356.out | refine bS ?_ GE357.out) | exact HB.out)) hb); clear BK355; clear BK356; clear BK357; clear HB; have BK355 := n0_; have BK356 := n1_; have BK357 := n2_; have HB := n3_; clear n0_ n1_ n2_ n3_; (try clear hb); (try clear hb2); (try clear hk); (try clear hi)))
       go_meet
       case rel => exact ⟨_, (false), (by first | rfl | (simp; done) | (simp [*]; done)), H', ⟨by first | omega | exact Nat.le_refl _⟩, ⟨by (with_reducible repeat (first | refine bN ?_ _ | refine bD ?_ | refine bA ?_ _)); exact BK355.out⟩, ⟨by (with_reducible repeat (first | refine bN ?_ _ | refine bD ?_ | refine bA ?_ _)); exact BK356.out⟩, ⟨by (with_reducible repeat (first | refine bN ?_ _ | refine bD ?_ | refine bA ?_ _)); exact BK357.out⟩, ⟨by repeat (first | (with_reducible first | exact HB.out | apply bL | apply bW | apply b1 | refine bS ?_ GE355.out | refine bS ?_ GE356.out | refine bS ?_ GE357.out) | exact HB.out)⟩⟩
     ·
      replace c18 := Bool.eq_false_iff.mpr c18
      subst c18
      have H1 : (bournelaw09_SpanOrders.j0 k a3 t358 true a0_0 a0_1 a1_0 a1_1) = some r := by rw [if_neg (show ¬ (false = true) by decide)] at H; exact H
      clear H
      have H := H1
      clear H1
      have H' := Aside0.mk H
      clear H
      have hnb82 := NB355_356.out
      have hnc82 := NB356_355.out
      have hnb83 := NB355_357.out
      have hnc83 := NB357_355.out
      have hcz84_0 : w10.cell? ⟨gb355, 0, none⟩ = some (.int .i64 a0_0) := (bC BK355.out 0).trans rfl
      have hcz84_1 : w10.cell? ⟨gb355, 1, none⟩ = some (.int .i64 a0_1) := (bC BK355.out 1).trans rfl
      have hfz84_0 := bF BK355.out 0
      have hfz84_1 := bF BK355.out 1
      go_wp2_with (first | ((with_reducible refine gate_callee (f := 25) rfl ?_); refine goesL_ (some 13) rfl rfl Try.func25 (by kernel_rfl) rfl #[.agg #[.int .i64 a0_0, .int .i64 a0_1], .agg #[.int .i64 a0_0, .int .i64 a0_1]] rfl (by (try simp only [List.map_toArray, List.map_cons, List.map_nil]); first | done | rfl | (simp only [List.length_drop, List.length_take]; rfl)) ?_; (with_reducible refine (span_Within.calls a0_0 a0_1 a0_0 a0_1 true _ A11.out).mono ?_); rintro e w85 ⟨rfl, hb⟩; refine ⟨_, rfl, ?_⟩; have n0_ := Aside0.mk (bB (g := gb355) (o := .cells #[.int .i64 a0_0, .int .i64 a0_1] 23 (0, 0)) (by (with_reducible repeat (first | refine bN ?_ _ | refine bD ?_ | refine bA ?_ _)); exact BK355.out) hb); have n1_ := Aside0.mk (bB (g := gb356) (o := .cells #[.int .i64 a1_0, .int .i64 a1_1] 23 (0, 0)) (by (with_reducible repeat (first | refine bN ?_ _ | refine bD ?_ | refine bA ?_ _)); exact BK356.out) hb); have n2_ := Aside0.mk (bB (g := gb357) (o := .cells #[.int .i64 a2_0, .int .i64 a2_1] 23 (0, 0)) (by (with_reducible repeat (first | refine bN ?_ _ | refine bD ?_ | refine bA ?_ _)); exact BK357.out) hb); have n3_ := Aside0.mk (bP (by repeat (first | (with_reducible first | exact HB.out | apply bL | apply bW | apply b1 | refine bS ?_ GE355.out | refine bS ?_ GE356.out | refine bS ?_ GE357.out) | exact HB.out)) hb); clear BK355; clear BK356; clear BK357; clear HB; have BK355 := n0_; have BK356 := n1_; have BK357 := n2_; have HB := n3_; clear n0_ n1_ n2_ n3_; (try clear hb); (try clear hb2); (try clear hk); (try clear hi); have hcz86_0 : w85.cell? ⟨gb355, 0, none⟩ = some (.int .i64 a0_0) := (bC BK355.out 0).trans rfl; have hcz86_1 : w85.cell? ⟨gb355, 1, none⟩ = some (.int .i64 a0_1) := (bC BK355.out 1).trans rfl; have hfz86_0 := bF BK355.out 0; have hfz86_1 := bF BK355.out 1; have hnb87 := NB356_357.out; have hnc87 := NB357_356.out; have hcz88_0 : w85.cell? ⟨gb356, 0, none⟩ = some (.int .i64 a1_0) := (bC BK356.out 0).trans rfl; have hcz88_1 : w85.cell? ⟨gb356, 1, none⟩ = some (.int .i64 a1_1) := (bC BK356.out 1).trans rfl; have hfz88_0 := bF BK356.out 0; have hfz88_1 := bF BK356.out 1) | (go_at_call 25; (with_reducible refine (span_Within.calls a0_0 a0_1 a1_0 a1_1 true _ A13.out).mono ?_); rintro e w89 ⟨rfl, hb⟩; (try clear A13); have n0_ := Aside0.mk (bB (g := gb355) (o := .cells #[.int .i64 a0_0, .int .i64 a0_1] 23 (0, 0)) (by (with_reducible repeat (first | refine bN ?_ _ | refine bD ?_ | refine bA ?_ _)); exact BK355.out) hb); have n1_ := Aside0.mk (bB (g := gb356) (o := .cells #[.int .i64 a1_0, .int .i64 a1_1] 23 (0, 0)) (by (with_reducible repeat (first | refine bN ?_ _ | refine bD ?_ | refine bA ?_ _)); exact BK356.out) hb); have n2_ := Aside0.mk (bB (g := gb357) (o := .cells #[.int .i64 a2_0, .int .i64 a2_1] 23 (0, 0)) (by (with_reducible repeat (first | refine bN ?_ _ | refine bD ?_ | refine bA ?_ _)); exact BK357.out) hb); have n3_ := Aside0.mk (bP (by repeat (first | (with_reducible first | exact HB.out | apply bL | apply bW | apply b1 | refine bS ?_ GE355.out | refine bS ?_ GE356.out | refine bS ?_ GE357.out) | exact HB.out)) hb); clear BK355; clear BK356; clear BK357; clear HB; have BK355 := n0_; have BK356 := n1_; have BK357 := n2_; have HB := n3_; clear n0_ n1_ n2_ n3_; (try clear hb); (try clear hb2); (try clear hk); (try clear hi); have hcz90_0 : w89.cell? ⟨gb356, 0, none⟩ = some (.int .i64 a1_0) := (bC BK356.out 0).trans rfl; have hcz90_1 : w89.cell? ⟨gb356, 1, none⟩ = some (.int .i64 a1_1) := (bC BK356.out 1).trans rfl; have hfz90_0 := bF BK356.out 0; have hfz90_1 := bF BK356.out 1; have hcz91_0 : w89.cell? ⟨gb357, 0, none⟩ = some (.int .i64 a2_0) := (bC BK357.out 0).trans rfl; have hcz91_1 : w89.cell? ⟨gb357, 1, none⟩ = some (.int .i64 a2_1) := (bC BK357.out 1).trans rfl; have hfz91_0 := bF BK357.out 0; have hfz91_1 := bF BK357.out 1) | (go_at_call 25; (with_reducible refine (span_Within.calls a1_0 a1_1 a2_0 a2_1 true _ A15.out).mono ?_); rintro e w92 ⟨rfl, hb⟩; (try clear A15); have n0_ := Aside0.mk (bB (g := gb355) (o := .cells #[.int .i64 a0_0, .int .i64 a0_1] 23 (0, 0)) (by (with_reducible repeat (first | refine bN ?_ _ | refine bD ?_ | refine bA ?_ _)); exact BK355.out) hb); have n1_ := Aside0.mk (bB (g := gb356) (o := .cells #[.int .i64 a1_0, .int .i64 a1_1] 23 (0, 0)) (by (with_reducible repeat (first | refine bN ?_ _ | refine bD ?_ | refine bA ?_ _)); exact BK356.out) hb); have n2_ := Aside0.mk (bB (g := gb357) (o := .cells #[.int .i64 a2_0, .int .i64 a2_1] 23 (0, 0)) (by (with_reducible repeat (first | refine bN ?_ _ | refine bD ?_ | refine bA ?_ _)); exact BK357.out) hb); have n3_ := Aside0.mk (bP (by repeat (first | (with_reducible first | exact HB.out | apply bL | apply bW | apply b1 | refine bS ?_ GE355.out | refine bS ?_ GE356.out | refine bS ?_ GE357.out) | exact HB.out)) hb); clear BK355; clear BK356; clear BK357; clear HB; have BK355 := n0_; have BK356 := n1_; have BK357 := n2_; have HB := n3_; clear n0_ n1_ n2_ n3_; (try clear hb); (try clear hb2); (try clear hk); (try clear hi); have hcz93_0 : w92.cell? ⟨gb355, 0, none⟩ = some (.int .i64 a0_0) := (bC BK355.out 0).trans rfl; have hcz93_1 : w92.cell? ⟨gb355, 1, none⟩ = some (.int .i64 a0_1) := (bC BK355.out 1).trans rfl; have hfz93_0 := bF BK355.out 0; have hfz93_1 := bF BK355.out 1; have hcz94_0 : w92.cell? ⟨gb357, 0, none⟩ = some (.int .i64 a2_0) := (bC BK357.out 0).trans rfl; have hcz94_1 : w92.cell? ⟨gb357, 1, none⟩ = some (.int .i64 a2_1) := (bC BK357.out 1).trans rfl; have hfz94_0 := bF BK357.out 0; have hfz94_1 := bF BK357.out 1) | (go_at_call 25; (with_reducible refine (span_Within.calls a0_0 a0_1 a2_0 a2_1 false _ A17.out).mono ?_); rintro e w95 ⟨rfl, hb⟩; (try clear A17); have n0_ := Aside0.mk (bB (g := gb355) (o := .cells #[.int .i64 a0_0, .int .i64 a0_1] 23 (0, 0)) (by (with_reducible repeat (first | refine bN ?_ _ | refine bD ?_ | refine bA ?_ _)); exact BK355.out) hb); have n1_ := Aside0.mk (bB (g := gb356) (o := .cells #[.int .i64 a1_0, .int .i64 a1_1] 23 (0, 0)) (by (with_reducible repeat (first | refine bN ?_ _ | refine bD ?_ | refine bA ?_ _)); exact BK356.out) hb); have n2_ := Aside0.mk (bB (g := gb357) (o := .cells #[.int .i64 a2_0, .int .i64 a2_1] 23 (0, 0)) (by (with_reducible repeat (first | refine bN ?_ _ | refine bD ?_ | refine bA ?_ _)); exact BK357.out) hb); have n3_ := Aside0.mk (bP (by repeat (first | (with_reducible first | exact HB.out | apply bL | apply bW | apply b1 | refine bS ?_ GE355.out | refine bS ?_ GE356.out | refine bS ?_ GE357.out) | exact HB.out)) hb); clear BK355; clear BK356; clear BK357; clear HB; have BK355 := n0_; have BK356 := n1_; have BK357 := n2_; have HB := n3_; clear n0_ n1_ n2_ n3_; (try clear hb); (try clear hb2); (try clear hk); (try clear hi)))
      go_meet
      case rel => exact ⟨_, (true), (by first | rfl | (simp; done) | (simp [*]; done)), H', ⟨by first | omega | exact Nat.le_refl _⟩, ⟨by (with_reducible repeat (first | refine bN ?_ _ | refine bD ?_ | refine bA ?_ _)); exact BK355.out⟩, ⟨by (with_reducible repeat (first | refine bN ?_ _ | refine bD ?_ | refine bA ?_ _)); exact BK356.out⟩, ⟨by (with_reducible repeat (first | refine bN ?_ _ | refine bD ?_ | refine bA ?_ _)); exact BK357.out⟩, ⟨by repeat (first | (with_reducible first | exact HB.out | apply bL | apply bW | apply b1 | refine bS ?_ GE355.out | refine bS ?_ GE356.out | refine bS ?_ GE357.out) | exact HB.out)⟩⟩
    ·
     replace c16 := Bool.eq_false_iff.mpr c16
     subst c16
     have H1 : ((span_Within.f a0_0 a0_1 a1_0 a1_1).bind fun t365 => (if t365 = true then ((span_Within.f a1_0 a1_1 a0_0 a0_1).bind fun t366 => (if t366 = true then (bournelaw09_SpanOrders.j0 k a3 t358 (!(a0_0 == a1_0) || (!(a0_1 == a1_1))) a0_0 a0_1 a1_0 a1_1) else (bournelaw09_SpanOrders.j0 k a3 t358 false a0_0 a0_1 a1_0 a1_1))) else (bournelaw09_SpanOrders.j0 k a3 t358 false a0_0 a0_1 a1_0 a1_1))) = some r := by rw [if_neg (show ¬ (false = true) by decide)] at H; exact H
     clear H
     have H := H1
     clear H1
     replace H := Option.bind_eq_some_iff.mp H
     obtain ⟨t365, A960, H⟩ := H
     have A96 := Aside0.mk A960
     clear A960
     by_cases c97 : t365 = true
     ·
      subst c97
      have H1 : ((span_Within.f a1_0 a1_1 a0_0 a0_1).bind fun t366 => (if t366 = true then (bournelaw09_SpanOrders.j0 k a3 t358 (!(a0_0 == a1_0) || (!(a0_1 == a1_1))) a0_0 a0_1 a1_0 a1_1) else (bournelaw09_SpanOrders.j0 k a3 t358 false a0_0 a0_1 a1_0 a1_1))) = some r := by rw [if_pos rfl] at H; exact H
      clear H
      have H := H1
      clear H1
      replace H := Option.bind_eq_some_iff.mp H
      obtain ⟨t366, A980, H⟩ := H
      have A98 := Aside0.mk A980
      clear A980
      by_cases c99 : t366 = true
      ·
       subst c99
       have H1 : (bournelaw09_SpanOrders.j0 k a3 t358 (!(a0_0 == a1_0) || (!(a0_1 == a1_1))) a0_0 a0_1 a1_0 a1_1) = some r := by rw [if_pos rfl] at H; exact H
       clear H
       have H := H1
       clear H1
       have H' := Aside0.mk H
       clear H
       have hnb100 := NB355_356.out
       have hnc100 := NB356_355.out
       have hnb101 := NB355_357.out
       have hnc101 := NB357_355.out
       have hcz102_0 : w10.cell? ⟨gb355, 0, none⟩ = some (.int .i64 a0_0) := (bC BK355.out 0).trans rfl
       have hcz102_1 : w10.cell? ⟨gb355, 1, none⟩ = some (.int .i64 a0_1) := (bC BK355.out 1).trans rfl
       have hfz102_0 := bF BK355.out 0
       have hfz102_1 := bF BK355.out 1
       go_wp2_with (first | ((with_reducible refine gate_callee (f := 25) rfl ?_); refine goesL_ (some 13) rfl rfl Try.func25 (by kernel_rfl) rfl #[.agg #[.int .i64 a0_0, .int .i64 a0_1], .agg #[.int .i64 a0_0, .int .i64 a0_1]] rfl (by (try simp only [List.map_toArray, List.map_cons, List.map_nil]); first | done | rfl | (simp only [List.length_drop, List.length_take]; rfl)) ?_; (with_reducible refine (span_Within.calls a0_0 a0_1 a0_0 a0_1 true _ A11.out).mono ?_); rintro e w103 ⟨rfl, hb⟩; refine ⟨_, rfl, ?_⟩; have n0_ := Aside0.mk (bB (g := gb355) (o := .cells #[.int .i64 a0_0, .int .i64 a0_1] 23 (0, 0)) (by (with_reducible repeat (first | refine bN ?_ _ | refine bD ?_ | refine bA ?_ _)); exact BK355.out) hb); have n1_ := Aside0.mk (bB (g := gb356) (o := .cells #[.int .i64 a1_0, .int .i64 a1_1] 23 (0, 0)) (by (with_reducible repeat (first | refine bN ?_ _ | refine bD ?_ | refine bA ?_ _)); exact BK356.out) hb); have n2_ := Aside0.mk (bB (g := gb357) (o := .cells #[.int .i64 a2_0, .int .i64 a2_1] 23 (0, 0)) (by (with_reducible repeat (first | refine bN ?_ _ | refine bD ?_ | refine bA ?_ _)); exact BK357.out) hb); have n3_ := Aside0.mk (bP (by repeat (first | (with_reducible first | exact HB.out | apply bL | apply bW | apply b1 | refine bS ?_ GE355.out | refine bS ?_ GE356.out | refine bS ?_ GE357.out) | exact HB.out)) hb); clear BK355; clear BK356; clear BK357; clear HB; have BK355 := n0_; have BK356 := n1_; have BK357 := n2_; have HB := n3_; clear n0_ n1_ n2_ n3_; (try clear hb); (try clear hb2); (try clear hk); (try clear hi); have hcz104_0 : w103.cell? ⟨gb355, 0, none⟩ = some (.int .i64 a0_0) := (bC BK355.out 0).trans rfl; have hcz104_1 : w103.cell? ⟨gb355, 1, none⟩ = some (.int .i64 a0_1) := (bC BK355.out 1).trans rfl; have hfz104_0 := bF BK355.out 0; have hfz104_1 := bF BK355.out 1; have hnb105 := NB356_357.out; have hnc105 := NB357_356.out; have hcz106_0 : w103.cell? ⟨gb356, 0, none⟩ = some (.int .i64 a1_0) := (bC BK356.out 0).trans rfl; have hcz106_1 : w103.cell? ⟨gb356, 1, none⟩ = some (.int .i64 a1_1) := (bC BK356.out 1).trans rfl; have hfz106_0 := bF BK356.out 0; have hfz106_1 := bF BK356.out 1) | (go_at_call 25; (with_reducible refine (span_Within.calls a0_0 a0_1 a1_0 a1_1 true _ A13.out).mono ?_); rintro e w107 ⟨rfl, hb⟩; (try clear A13); have n0_ := Aside0.mk (bB (g := gb355) (o := .cells #[.int .i64 a0_0, .int .i64 a0_1] 23 (0, 0)) (by (with_reducible repeat (first | refine bN ?_ _ | refine bD ?_ | refine bA ?_ _)); exact BK355.out) hb); have n1_ := Aside0.mk (bB (g := gb356) (o := .cells #[.int .i64 a1_0, .int .i64 a1_1] 23 (0, 0)) (by (with_reducible repeat (first | refine bN ?_ _ | refine bD ?_ | refine bA ?_ _)); exact BK356.out) hb); have n2_ := Aside0.mk (bB (g := gb357) (o := .cells #[.int .i64 a2_0, .int .i64 a2_1] 23 (0, 0)) (by (with_reducible repeat (first | refine bN ?_ _ | refine bD ?_ | refine bA ?_ _)); exact BK357.out) hb); have n3_ := Aside0.mk (bP (by repeat (first | (with_reducible first | exact HB.out | apply bL | apply bW | apply b1 | refine bS ?_ GE355.out | refine bS ?_ GE356.out | refine bS ?_ GE357.out) | exact HB.out)) hb); clear BK355; clear BK356; clear BK357; clear HB; have BK355 := n0_; have BK356 := n1_; have BK357 := n2_; have HB := n3_; clear n0_ n1_ n2_ n3_; (try clear hb); (try clear hb2); (try clear hk); (try clear hi); have hcz108_0 : w107.cell? ⟨gb356, 0, none⟩ = some (.int .i64 a1_0) := (bC BK356.out 0).trans rfl; have hcz108_1 : w107.cell? ⟨gb356, 1, none⟩ = some (.int .i64 a1_1) := (bC BK356.out 1).trans rfl; have hfz108_0 := bF BK356.out 0; have hfz108_1 := bF BK356.out 1; have hcz109_0 : w107.cell? ⟨gb357, 0, none⟩ = some (.int .i64 a2_0) := (bC BK357.out 0).trans rfl; have hcz109_1 : w107.cell? ⟨gb357, 1, none⟩ = some (.int .i64 a2_1) := (bC BK357.out 1).trans rfl; have hfz109_0 := bF BK357.out 0; have hfz109_1 := bF BK357.out 1) | (go_at_call 25; (with_reducible refine (span_Within.calls a1_0 a1_1 a2_0 a2_1 false _ A15.out).mono ?_); rintro e w110 ⟨rfl, hb⟩; (try clear A15); have n0_ := Aside0.mk (bB (g := gb355) (o := .cells #[.int .i64 a0_0, .int .i64 a0_1] 23 (0, 0)) (by (with_reducible repeat (first | refine bN ?_ _ | refine bD ?_ | refine bA ?_ _)); exact BK355.out) hb); have n1_ := Aside0.mk (bB (g := gb356) (o := .cells #[.int .i64 a1_0, .int .i64 a1_1] 23 (0, 0)) (by (with_reducible repeat (first | refine bN ?_ _ | refine bD ?_ | refine bA ?_ _)); exact BK356.out) hb); have n2_ := Aside0.mk (bB (g := gb357) (o := .cells #[.int .i64 a2_0, .int .i64 a2_1] 23 (0, 0)) (by (with_reducible repeat (first | refine bN ?_ _ | refine bD ?_ | refine bA ?_ _)); exact BK357.out) hb); have n3_ := Aside0.mk (bP (by repeat (first | (with_reducible first | exact HB.out | apply bL | apply bW | apply b1 | refine bS ?_ GE355.out | refine bS ?_ GE356.out | refine bS ?_ GE357.out) | exact HB.out)) hb); clear BK355; clear BK356; clear BK357; clear HB; have BK355 := n0_; have BK356 := n1_; have BK357 := n2_; have HB := n3_; clear n0_ n1_ n2_ n3_; (try clear hb); (try clear hb2); (try clear hk); (try clear hi); have hcz111_0 : w110.cell? ⟨gb355, 0, none⟩ = some (.int .i64 a0_0) := (bC BK355.out 0).trans rfl; have hcz111_1 : w110.cell? ⟨gb355, 1, none⟩ = some (.int .i64 a0_1) := (bC BK355.out 1).trans rfl; have hfz111_0 := bF BK355.out 0; have hfz111_1 := bF BK355.out 1; have hcz112_0 : w110.cell? ⟨gb356, 0, none⟩ = some (.int .i64 a1_0) := (bC BK356.out 0).trans rfl; have hcz112_1 : w110.cell? ⟨gb356, 1, none⟩ = some (.int .i64 a1_1) := (bC BK356.out 1).trans rfl; have hfz112_0 := bF BK356.out 0; have hfz112_1 := bF BK356.out 1) | (go_at_call 25; (with_reducible refine (span_Within.calls a0_0 a0_1 a1_0 a1_1 true _ A96.out).mono ?_); rintro e w113 ⟨rfl, hb⟩; (try clear A96); have n0_ := Aside0.mk (bB (g := gb355) (o := .cells #[.int .i64 a0_0, .int .i64 a0_1] 23 (0, 0)) (by (with_reducible repeat (first | refine bN ?_ _ | refine bD ?_ | refine bA ?_ _)); exact BK355.out) hb); have n1_ := Aside0.mk (bB (g := gb356) (o := .cells #[.int .i64 a1_0, .int .i64 a1_1] 23 (0, 0)) (by (with_reducible repeat (first | refine bN ?_ _ | refine bD ?_ | refine bA ?_ _)); exact BK356.out) hb); have n2_ := Aside0.mk (bB (g := gb357) (o := .cells #[.int .i64 a2_0, .int .i64 a2_1] 23 (0, 0)) (by (with_reducible repeat (first | refine bN ?_ _ | refine bD ?_ | refine bA ?_ _)); exact BK357.out) hb); have n3_ := Aside0.mk (bP (by repeat (first | (with_reducible first | exact HB.out | apply bL | apply bW | apply b1 | refine bS ?_ GE355.out | refine bS ?_ GE356.out | refine bS ?_ GE357.out) | exact HB.out)) hb); clear BK355; clear BK356; clear BK357; clear HB; have BK355 := n0_; have BK356 := n1_; have BK357 := n2_; have HB := n3_; clear n0_ n1_ n2_ n3_; (try clear hb); (try clear hb2); (try clear hk); (try clear hi); have hcz114_0 : w113.cell? ⟨gb356, 0, none⟩ = some (.int .i64 a1_0) := (bC BK356.out 0).trans rfl; have hcz114_1 : w113.cell? ⟨gb356, 1, none⟩ = some (.int .i64 a1_1) := (bC BK356.out 1).trans rfl; have hfz114_0 := bF BK356.out 0; have hfz114_1 := bF BK356.out 1; have hcz115_0 : w113.cell? ⟨gb355, 0, none⟩ = some (.int .i64 a0_0) := (bC BK355.out 0).trans rfl; have hcz115_1 : w113.cell? ⟨gb355, 1, none⟩ = some (.int .i64 a0_1) := (bC BK355.out 1).trans rfl; have hfz115_0 := bF BK355.out 0; have hfz115_1 := bF BK355.out 1) | (go_at_call 25; (with_reducible refine (span_Within.calls a1_0 a1_1 a0_0 a0_1 true _ A98.out).mono ?_); rintro e w116 ⟨rfl, hb⟩; (try clear A98); have n0_ := Aside0.mk (bB (g := gb355) (o := .cells #[.int .i64 a0_0, .int .i64 a0_1] 23 (0, 0)) (by (with_reducible repeat (first | refine bN ?_ _ | refine bD ?_ | refine bA ?_ _)); exact BK355.out) hb); have n1_ := Aside0.mk (bB (g := gb356) (o := .cells #[.int .i64 a1_0, .int .i64 a1_1] 23 (0, 0)) (by (with_reducible repeat (first | refine bN ?_ _ | refine bD ?_ | refine bA ?_ _)); exact BK356.out) hb); have n2_ := Aside0.mk (bB (g := gb357) (o := .cells #[.int .i64 a2_0, .int .i64 a2_1] 23 (0, 0)) (by (with_reducible repeat (first | refine bN ?_ _ | refine bD ?_ | refine bA ?_ _)); exact BK357.out) hb); have n3_ := Aside0.mk (bP (by repeat (first | (with_reducible first | exact HB.out | apply bL | apply bW | apply b1 | refine bS ?_ GE355.out | refine bS ?_ GE356.out | refine bS ?_ GE357.out) | exact HB.out)) hb); clear BK355; clear BK356; clear BK357; clear HB; have BK355 := n0_; have BK356 := n1_; have BK357 := n2_; have HB := n3_; clear n0_ n1_ n2_ n3_; (try clear hb); (try clear hb2); (try clear hk); (try clear hi); have hcz117_0 : w116.cell? ⟨gb355, 0, none⟩ = some (.int .i64 a0_0) := (bC BK355.out 0).trans rfl; have hcz117_1 : w116.cell? ⟨gb355, 1, none⟩ = some (.int .i64 a0_1) := (bC BK355.out 1).trans rfl; have hfz117_0 := bF BK355.out 0; have hfz117_1 := bF BK355.out 1; have hcz118_0 : w116.cell? ⟨gb356, 0, none⟩ = some (.int .i64 a1_0) := (bC BK356.out 0).trans rfl; have hcz118_1 : w116.cell? ⟨gb356, 1, none⟩ = some (.int .i64 a1_1) := (bC BK356.out 1).trans rfl; have hfz118_0 := bF BK356.out 0; have hfz118_1 := bF BK356.out 1))
       go_meet
       case rel => exact ⟨_, ((!(a0_0 == a1_0) || (!(a0_1 == a1_1)))), (by first | rfl | (simp; done) | (simp [*]; done)), H', ⟨by first | omega | exact Nat.le_refl _⟩, ⟨by (with_reducible repeat (first | refine bN ?_ _ | refine bD ?_ | refine bA ?_ _)); exact BK355.out⟩, ⟨by (with_reducible repeat (first | refine bN ?_ _ | refine bD ?_ | refine bA ?_ _)); exact BK356.out⟩, ⟨by (with_reducible repeat (first | refine bN ?_ _ | refine bD ?_ | refine bA ?_ _)); exact BK357.out⟩, ⟨by repeat (first | (with_reducible first | exact HB.out | apply bL | apply bW | apply b1 | refine bS ?_ GE355.out | refine bS ?_ GE356.out | refine bS ?_ GE357.out) | exact HB.out)⟩⟩
      ·
       replace c99 := Bool.eq_false_iff.mpr c99
       subst c99
       have H1 : (bournelaw09_SpanOrders.j0 k a3 t358 false a0_0 a0_1 a1_0 a1_1) = some r := by rw [if_neg (show ¬ (false = true) by decide)] at H; exact H
       clear H
       have H := H1
       clear H1
       have H' := Aside0.mk H
       clear H
       have hnb119 := NB355_356.out
       have hnc119 := NB356_355.out
       have hnb120 := NB355_357.out
       have hnc120 := NB357_355.out
       have hcz121_0 : w10.cell? ⟨gb355, 0, none⟩ = some (.int .i64 a0_0) := (bC BK355.out 0).trans rfl
       have hcz121_1 : w10.cell? ⟨gb355, 1, none⟩ = some (.int .i64 a0_1) := (bC BK355.out 1).trans rfl
       have hfz121_0 := bF BK355.out 0
       have hfz121_1 := bF BK355.out 1
       go_wp2_with (first | ((with_reducible refine gate_callee (f := 25) rfl ?_); refine goesL_ (some 13) rfl rfl Try.func25 (by kernel_rfl) rfl #[.agg #[.int .i64 a0_0, .int .i64 a0_1], .agg #[.int .i64 a0_0, .int .i64 a0_1]] rfl (by (try simp only [List.map_toArray, List.map_cons, List.map_nil]); first | done | rfl | (simp only [List.length_drop, List.length_take]; rfl)) ?_; (with_reducible refine (span_Within.calls a0_0 a0_1 a0_0 a0_1 true _ A11.out).mono ?_); rintro e w122 ⟨rfl, hb⟩; refine ⟨_, rfl, ?_⟩; have n0_ := Aside0.mk (bB (g := gb355) (o := .cells #[.int .i64 a0_0, .int .i64 a0_1] 23 (0, 0)) (by (with_reducible repeat (first | refine bN ?_ _ | refine bD ?_ | refine bA ?_ _)); exact BK355.out) hb); have n1_ := Aside0.mk (bB (g := gb356) (o := .cells #[.int .i64 a1_0, .int .i64 a1_1] 23 (0, 0)) (by (with_reducible repeat (first | refine bN ?_ _ | refine bD ?_ | refine bA ?_ _)); exact BK356.out) hb); have n2_ := Aside0.mk (bB (g := gb357) (o := .cells #[.int .i64 a2_0, .int .i64 a2_1] 23 (0, 0)) (by (with_reducible repeat (first | refine bN ?_ _ | refine bD ?_ | refine bA ?_ _)); exact BK357.out) hb); have n3_ := Aside0.mk (bP (by repeat (first | (with_reducible first | exact HB.out | apply bL | apply bW | apply b1 | refine bS ?_ GE355.out | refine bS ?_ GE356.out | refine bS ?_ GE357.out) | exact HB.out)) hb); clear BK355; clear BK356; clear BK357; clear HB; have BK355 := n0_; have BK356 := n1_; have BK357 := n2_; have HB := n3_; clear n0_ n1_ n2_ n3_; (try clear hb); (try clear hb2); (try clear hk); (try clear hi); have hcz123_0 : w122.cell? ⟨gb355, 0, none⟩ = some (.int .i64 a0_0) := (bC BK355.out 0).trans rfl; have hcz123_1 : w122.cell? ⟨gb355, 1, none⟩ = some (.int .i64 a0_1) := (bC BK355.out 1).trans rfl; have hfz123_0 := bF BK355.out 0; have hfz123_1 := bF BK355.out 1; have hnb124 := NB356_357.out; have hnc124 := NB357_356.out; have hcz125_0 : w122.cell? ⟨gb356, 0, none⟩ = some (.int .i64 a1_0) := (bC BK356.out 0).trans rfl; have hcz125_1 : w122.cell? ⟨gb356, 1, none⟩ = some (.int .i64 a1_1) := (bC BK356.out 1).trans rfl; have hfz125_0 := bF BK356.out 0; have hfz125_1 := bF BK356.out 1) | (go_at_call 25; (with_reducible refine (span_Within.calls a0_0 a0_1 a1_0 a1_1 true _ A13.out).mono ?_); rintro e w126 ⟨rfl, hb⟩; (try clear A13); have n0_ := Aside0.mk (bB (g := gb355) (o := .cells #[.int .i64 a0_0, .int .i64 a0_1] 23 (0, 0)) (by (with_reducible repeat (first | refine bN ?_ _ | refine bD ?_ | refine bA ?_ _)); exact BK355.out) hb); have n1_ := Aside0.mk (bB (g := gb356) (o := .cells #[.int .i64 a1_0, .int .i64 a1_1] 23 (0, 0)) (by (with_reducible repeat (first | refine bN ?_ _ | refine bD ?_ | refine bA ?_ _)); exact BK356.out) hb); have n2_ := Aside0.mk (bB (g := gb357) (o := .cells #[.int .i64 a2_0, .int .i64 a2_1] 23 (0, 0)) (by (with_reducible repeat (first | refine bN ?_ _ | refine bD ?_ | refine bA ?_ _)); exact BK357.out) hb); have n3_ := Aside0.mk (bP (by repeat (first | (with_reducible first | exact HB.out | apply bL | apply bW | apply b1 | refine bS ?_ GE355.out | refine bS ?_ GE356.out | refine bS ?_ GE357.out) | exact HB.out)) hb); clear BK355; clear BK356; clear BK357; clear HB; have BK355 := n0_; have BK356 := n1_; have BK357 := n2_; have HB := n3_; clear n0_ n1_ n2_ n3_; (try clear hb); (try clear hb2); (try clear hk); (try clear hi); have hcz127_0 : w126.cell? ⟨gb356, 0, none⟩ = some (.int .i64 a1_0) := (bC BK356.out 0).trans rfl; have hcz127_1 : w126.cell? ⟨gb356, 1, none⟩ = some (.int .i64 a1_1) := (bC BK356.out 1).trans rfl; have hfz127_0 := bF BK356.out 0; have hfz127_1 := bF BK356.out 1; have hcz128_0 : w126.cell? ⟨gb357, 0, none⟩ = some (.int .i64 a2_0) := (bC BK357.out 0).trans rfl; have hcz128_1 : w126.cell? ⟨gb357, 1, none⟩ = some (.int .i64 a2_1) := (bC BK357.out 1).trans rfl; have hfz128_0 := bF BK357.out 0; have hfz128_1 := bF BK357.out 1) | (go_at_call 25; (with_reducible refine (span_Within.calls a1_0 a1_1 a2_0 a2_1 false _ A15.out).mono ?_); rintro e w129 ⟨rfl, hb⟩; (try clear A15); have n0_ := Aside0.mk (bB (g := gb355) (o := .cells #[.int .i64 a0_0, .int .i64 a0_1] 23 (0, 0)) (by (with_reducible repeat (first | refine bN ?_ _ | refine bD ?_ | refine bA ?_ _)); exact BK355.out) hb); have n1_ := Aside0.mk (bB (g := gb356) (o := .cells #[.int .i64 a1_0, .int .i64 a1_1] 23 (0, 0)) (by (with_reducible repeat (first | refine bN ?_ _ | refine bD ?_ | refine bA ?_ _)); exact BK356.out) hb); have n2_ := Aside0.mk (bB (g := gb357) (o := .cells #[.int .i64 a2_0, .int .i64 a2_1] 23 (0, 0)) (by (with_reducible repeat (first | refine bN ?_ _ | refine bD ?_ | refine bA ?_ _)); exact BK357.out) hb); have n3_ := Aside0.mk (bP (by repeat (first | (with_reducible first | exact HB.out | apply bL | apply bW | apply b1 | refine bS ?_ GE355.out | refine bS ?_ GE356.out | refine bS ?_ GE357.out) | exact HB.out)) hb); clear BK355; clear BK356; clear BK357; clear HB; have BK355 := n0_; have BK356 := n1_; have BK357 := n2_; have HB := n3_; clear n0_ n1_ n2_ n3_; (try clear hb); (try clear hb2); (try clear hk); (try clear hi); have hcz130_0 : w129.cell? ⟨gb355, 0, none⟩ = some (.int .i64 a0_0) := (bC BK355.out 0).trans rfl; have hcz130_1 : w129.cell? ⟨gb355, 1, none⟩ = some (.int .i64 a0_1) := (bC BK355.out 1).trans rfl; have hfz130_0 := bF BK355.out 0; have hfz130_1 := bF BK355.out 1; have hcz131_0 : w129.cell? ⟨gb356, 0, none⟩ = some (.int .i64 a1_0) := (bC BK356.out 0).trans rfl; have hcz131_1 : w129.cell? ⟨gb356, 1, none⟩ = some (.int .i64 a1_1) := (bC BK356.out 1).trans rfl; have hfz131_0 := bF BK356.out 0; have hfz131_1 := bF BK356.out 1) | (go_at_call 25; (with_reducible refine (span_Within.calls a0_0 a0_1 a1_0 a1_1 true _ A96.out).mono ?_); rintro e w132 ⟨rfl, hb⟩; (try clear A96); have n0_ := Aside0.mk (bB (g := gb355) (o := .cells #[.int .i64 a0_0, .int .i64 a0_1] 23 (0, 0)) (by (with_reducible repeat (first | refine bN ?_ _ | refine bD ?_ | refine bA ?_ _)); exact BK355.out) hb); have n1_ := Aside0.mk (bB (g := gb356) (o := .cells #[.int .i64 a1_0, .int .i64 a1_1] 23 (0, 0)) (by (with_reducible repeat (first | refine bN ?_ _ | refine bD ?_ | refine bA ?_ _)); exact BK356.out) hb); have n2_ := Aside0.mk (bB (g := gb357) (o := .cells #[.int .i64 a2_0, .int .i64 a2_1] 23 (0, 0)) (by (with_reducible repeat (first | refine bN ?_ _ | refine bD ?_ | refine bA ?_ _)); exact BK357.out) hb); have n3_ := Aside0.mk (bP (by repeat (first | (with_reducible first | exact HB.out | apply bL | apply bW | apply b1 | refine bS ?_ GE355.out | refine bS ?_ GE356.out | refine bS ?_ GE357.out) | exact HB.out)) hb); clear BK355; clear BK356; clear BK357; clear HB; have BK355 := n0_; have BK356 := n1_; have BK357 := n2_; have HB := n3_; clear n0_ n1_ n2_ n3_; (try clear hb); (try clear hb2); (try clear hk); (try clear hi); have hcz133_0 : w132.cell? ⟨gb356, 0, none⟩ = some (.int .i64 a1_0) := (bC BK356.out 0).trans rfl; have hcz133_1 : w132.cell? ⟨gb356, 1, none⟩ = some (.int .i64 a1_1) := (bC BK356.out 1).trans rfl; have hfz133_0 := bF BK356.out 0; have hfz133_1 := bF BK356.out 1; have hcz134_0 : w132.cell? ⟨gb355, 0, none⟩ = some (.int .i64 a0_0) := (bC BK355.out 0).trans rfl; have hcz134_1 : w132.cell? ⟨gb355, 1, none⟩ = some (.int .i64 a0_1) := (bC BK355.out 1).trans rfl; have hfz134_0 := bF BK355.out 0; have hfz134_1 := bF BK355.out 1) | (go_at_call 25; (with_reducible refine (span_Within.calls a1_0 a1_1 a0_0 a0_1 false _ A98.out).mono ?_); rintro e w135 ⟨rfl, hb⟩; (try clear A98); have n0_ := Aside0.mk (bB (g := gb355) (o := .cells #[.int .i64 a0_0, .int .i64 a0_1] 23 (0, 0)) (by (with_reducible repeat (first | refine bN ?_ _ | refine bD ?_ | refine bA ?_ _)); exact BK355.out) hb); have n1_ := Aside0.mk (bB (g := gb356) (o := .cells #[.int .i64 a1_0, .int .i64 a1_1] 23 (0, 0)) (by (with_reducible repeat (first | refine bN ?_ _ | refine bD ?_ | refine bA ?_ _)); exact BK356.out) hb); have n2_ := Aside0.mk (bB (g := gb357) (o := .cells #[.int .i64 a2_0, .int .i64 a2_1] 23 (0, 0)) (by (with_reducible repeat (first | refine bN ?_ _ | refine bD ?_ | refine bA ?_ _)); exact BK357.out) hb); have n3_ := Aside0.mk (bP (by repeat (first | (with_reducible first | exact HB.out | apply bL | apply bW | apply b1 | refine bS ?_ GE355.out | refine bS ?_ GE356.out | refine bS ?_ GE357.out) | exact HB.out)) hb); clear BK355; clear BK356; clear BK357; clear HB; have BK355 := n0_; have BK356 := n1_; have BK357 := n2_; have HB := n3_; clear n0_ n1_ n2_ n3_; (try clear hb); (try clear hb2); (try clear hk); (try clear hi)))
       go_meet
       case rel => exact ⟨_, (false), (by first | rfl | (simp; done) | (simp [*]; done)), H', ⟨by first | omega | exact Nat.le_refl _⟩, ⟨by (with_reducible repeat (first | refine bN ?_ _ | refine bD ?_ | refine bA ?_ _)); exact BK355.out⟩, ⟨by (with_reducible repeat (first | refine bN ?_ _ | refine bD ?_ | refine bA ?_ _)); exact BK356.out⟩, ⟨by (with_reducible repeat (first | refine bN ?_ _ | refine bD ?_ | refine bA ?_ _)); exact BK357.out⟩, ⟨by repeat (first | (with_reducible first | exact HB.out | apply bL | apply bW | apply b1 | refine bS ?_ GE355.out | refine bS ?_ GE356.out | refine bS ?_ GE357.out) | exact HB.out)⟩⟩
     ·
      replace c97 := Bool.eq_false_iff.mpr c97
      subst c97
      have H1 : (bournelaw09_SpanOrders.j0 k a3 t358 false a0_0 a0_1 a1_0 a1_1) = some r := by rw [if_neg (show ¬ (false = true) by decide)] at H; exact H
      clear H
      have H := H1
      clear H1
      have H' := Aside0.mk H
      clear H
      have hnb136 := NB355_356.out
      have hnc136 := NB356_355.out
      have hnb137 := NB355_357.out
      have hnc137 := NB357_355.out
      have hcz138_0 : w10.cell? ⟨gb355, 0, none⟩ = some (.int .i64 a0_0) := (bC BK355.out 0).trans rfl
      have hcz138_1 : w10.cell? ⟨gb355, 1, none⟩ = some (.int .i64 a0_1) := (bC BK355.out 1).trans rfl
      have hfz138_0 := bF BK355.out 0
      have hfz138_1 := bF BK355.out 1
      go_wp2_with (first | ((with_reducible refine gate_callee (f := 25) rfl ?_); refine goesL_ (some 13) rfl rfl Try.func25 (by kernel_rfl) rfl #[.agg #[.int .i64 a0_0, .int .i64 a0_1], .agg #[.int .i64 a0_0, .int .i64 a0_1]] rfl (by (try simp only [List.map_toArray, List.map_cons, List.map_nil]); first | done | rfl | (simp only [List.length_drop, List.length_take]; rfl)) ?_; (with_reducible refine (span_Within.calls a0_0 a0_1 a0_0 a0_1 true _ A11.out).mono ?_); rintro e w139 ⟨rfl, hb⟩; refine ⟨_, rfl, ?_⟩; have n0_ := Aside0.mk (bB (g := gb355) (o := .cells #[.int .i64 a0_0, .int .i64 a0_1] 23 (0, 0)) (by (with_reducible repeat (first | refine bN ?_ _ | refine bD ?_ | refine bA ?_ _)); exact BK355.out) hb); have n1_ := Aside0.mk (bB (g := gb356) (o := .cells #[.int .i64 a1_0, .int .i64 a1_1] 23 (0, 0)) (by (with_reducible repeat (first | refine bN ?_ _ | refine bD ?_ | refine bA ?_ _)); exact BK356.out) hb); have n2_ := Aside0.mk (bB (g := gb357) (o := .cells #[.int .i64 a2_0, .int .i64 a2_1] 23 (0, 0)) (by (with_reducible repeat (first | refine bN ?_ _ | refine bD ?_ | refine bA ?_ _)); exact BK357.out) hb); have n3_ := Aside0.mk (bP (by repeat (first | (with_reducible first | exact HB.out | apply bL | apply bW | apply b1 | refine bS ?_ GE355.out | refine bS ?_ GE356.out | refine bS ?_ GE357.out) | exact HB.out)) hb); clear BK355; clear BK356; clear BK357; clear HB; have BK355 := n0_; have BK356 := n1_; have BK357 := n2_; have HB := n3_; clear n0_ n1_ n2_ n3_; (try clear hb); (try clear hb2); (try clear hk); (try clear hi); have hcz140_0 : w139.cell? ⟨gb355, 0, none⟩ = some (.int .i64 a0_0) := (bC BK355.out 0).trans rfl; have hcz140_1 : w139.cell? ⟨gb355, 1, none⟩ = some (.int .i64 a0_1) := (bC BK355.out 1).trans rfl; have hfz140_0 := bF BK355.out 0; have hfz140_1 := bF BK355.out 1; have hnb141 := NB356_357.out; have hnc141 := NB357_356.out; have hcz142_0 : w139.cell? ⟨gb356, 0, none⟩ = some (.int .i64 a1_0) := (bC BK356.out 0).trans rfl; have hcz142_1 : w139.cell? ⟨gb356, 1, none⟩ = some (.int .i64 a1_1) := (bC BK356.out 1).trans rfl; have hfz142_0 := bF BK356.out 0; have hfz142_1 := bF BK356.out 1) | (go_at_call 25; (with_reducible refine (span_Within.calls a0_0 a0_1 a1_0 a1_1 true _ A13.out).mono ?_); rintro e w143 ⟨rfl, hb⟩; (try clear A13); have n0_ := Aside0.mk (bB (g := gb355) (o := .cells #[.int .i64 a0_0, .int .i64 a0_1] 23 (0, 0)) (by (with_reducible repeat (first | refine bN ?_ _ | refine bD ?_ | refine bA ?_ _)); exact BK355.out) hb); have n1_ := Aside0.mk (bB (g := gb356) (o := .cells #[.int .i64 a1_0, .int .i64 a1_1] 23 (0, 0)) (by (with_reducible repeat (first | refine bN ?_ _ | refine bD ?_ | refine bA ?_ _)); exact BK356.out) hb); have n2_ := Aside0.mk (bB (g := gb357) (o := .cells #[.int .i64 a2_0, .int .i64 a2_1] 23 (0, 0)) (by (with_reducible repeat (first | refine bN ?_ _ | refine bD ?_ | refine bA ?_ _)); exact BK357.out) hb); have n3_ := Aside0.mk (bP (by repeat (first | (with_reducible first | exact HB.out | apply bL | apply bW | apply b1 | refine bS ?_ GE355.out | refine bS ?_ GE356.out | refine bS ?_ GE357.out) | exact HB.out)) hb); clear BK355; clear BK356; clear BK357; clear HB; have BK355 := n0_; have BK356 := n1_; have BK357 := n2_; have HB := n3_; clear n0_ n1_ n2_ n3_; (try clear hb); (try clear hb2); (try clear hk); (try clear hi); have hcz144_0 : w143.cell? ⟨gb356, 0, none⟩ = some (.int .i64 a1_0) := (bC BK356.out 0).trans rfl; have hcz144_1 : w143.cell? ⟨gb356, 1, none⟩ = some (.int .i64 a1_1) := (bC BK356.out 1).trans rfl; have hfz144_0 := bF BK356.out 0; have hfz144_1 := bF BK356.out 1; have hcz145_0 : w143.cell? ⟨gb357, 0, none⟩ = some (.int .i64 a2_0) := (bC BK357.out 0).trans rfl; have hcz145_1 : w143.cell? ⟨gb357, 1, none⟩ = some (.int .i64 a2_1) := (bC BK357.out 1).trans rfl; have hfz145_0 := bF BK357.out 0; have hfz145_1 := bF BK357.out 1) | (go_at_call 25; (with_reducible refine (span_Within.calls a1_0 a1_1 a2_0 a2_1 false _ A15.out).mono ?_); rintro e w146 ⟨rfl, hb⟩; (try clear A15); have n0_ := Aside0.mk (bB (g := gb355) (o := .cells #[.int .i64 a0_0, .int .i64 a0_1] 23 (0, 0)) (by (with_reducible repeat (first | refine bN ?_ _ | refine bD ?_ | refine bA ?_ _)); exact BK355.out) hb); have n1_ := Aside0.mk (bB (g := gb356) (o := .cells #[.int .i64 a1_0, .int .i64 a1_1] 23 (0, 0)) (by (with_reducible repeat (first | refine bN ?_ _ | refine bD ?_ | refine bA ?_ _)); exact BK356.out) hb); have n2_ := Aside0.mk (bB (g := gb357) (o := .cells #[.int .i64 a2_0, .int .i64 a2_1] 23 (0, 0)) (by (with_reducible repeat (first | refine bN ?_ _ | refine bD ?_ | refine bA ?_ _)); exact BK357.out) hb); have n3_ := Aside0.mk (bP (by repeat (first | (with_reducible first | exact HB.out | apply bL | apply bW | apply b1 | refine bS ?_ GE355.out | refine bS ?_ GE356.out | refine bS ?_ GE357.out) | exact HB.out)) hb); clear BK355; clear BK356; clear BK357; clear HB; have BK355 := n0_; have BK356 := n1_; have BK357 := n2_; have HB := n3_; clear n0_ n1_ n2_ n3_; (try clear hb); (try clear hb2); (try clear hk); (try clear hi); have hcz147_0 : w146.cell? ⟨gb355, 0, none⟩ = some (.int .i64 a0_0) := (bC BK355.out 0).trans rfl; have hcz147_1 : w146.cell? ⟨gb355, 1, none⟩ = some (.int .i64 a0_1) := (bC BK355.out 1).trans rfl; have hfz147_0 := bF BK355.out 0; have hfz147_1 := bF BK355.out 1; have hcz148_0 : w146.cell? ⟨gb356, 0, none⟩ = some (.int .i64 a1_0) := (bC BK356.out 0).trans rfl; have hcz148_1 : w146.cell? ⟨gb356, 1, none⟩ = some (.int .i64 a1_1) := (bC BK356.out 1).trans rfl; have hfz148_0 := bF BK356.out 0; have hfz148_1 := bF BK356.out 1) | (go_at_call 25; (with_reducible refine (span_Within.calls a0_0 a0_1 a1_0 a1_1 false _ A96.out).mono ?_); rintro e w149 ⟨rfl, hb⟩; (try clear A96); have n0_ := Aside0.mk (bB (g := gb355) (o := .cells #[.int .i64 a0_0, .int .i64 a0_1] 23 (0, 0)) (by (with_reducible repeat (first | refine bN ?_ _ | refine bD ?_ | refine bA ?_ _)); exact BK355.out) hb); have n1_ := Aside0.mk (bB (g := gb356) (o := .cells #[.int .i64 a1_0, .int .i64 a1_1] 23 (0, 0)) (by (with_reducible repeat (first | refine bN ?_ _ | refine bD ?_ | refine bA ?_ _)); exact BK356.out) hb); have n2_ := Aside0.mk (bB (g := gb357) (o := .cells #[.int .i64 a2_0, .int .i64 a2_1] 23 (0, 0)) (by (with_reducible repeat (first | refine bN ?_ _ | refine bD ?_ | refine bA ?_ _)); exact BK357.out) hb); have n3_ := Aside0.mk (bP (by repeat (first | (with_reducible first | exact HB.out | apply bL | apply bW | apply b1 | refine bS ?_ GE355.out | refine bS ?_ GE356.out | refine bS ?_ GE357.out) | exact HB.out)) hb); clear BK355; clear BK356; clear BK357; clear HB; have BK355 := n0_; have BK356 := n1_; have BK357 := n2_; have HB := n3_; clear n0_ n1_ n2_ n3_; (try clear hb); (try clear hb2); (try clear hk); (try clear hi)))
      go_meet
      case rel => exact ⟨_, (false), (by first | rfl | (simp; done) | (simp [*]; done)), H', ⟨by first | omega | exact Nat.le_refl _⟩, ⟨by (with_reducible repeat (first | refine bN ?_ _ | refine bD ?_ | refine bA ?_ _)); exact BK355.out⟩, ⟨by (with_reducible repeat (first | refine bN ?_ _ | refine bD ?_ | refine bA ?_ _)); exact BK356.out⟩, ⟨by (with_reducible repeat (first | refine bN ?_ _ | refine bD ?_ | refine bA ?_ _)); exact BK357.out⟩, ⟨by repeat (first | (with_reducible first | exact HB.out | apply bL | apply bW | apply b1 | refine bS ?_ GE355.out | refine bS ?_ GE356.out | refine bS ?_ GE357.out) | exact HB.out)⟩⟩
   ·
    replace c14 := Bool.eq_false_iff.mpr c14
    subst c14
    have H1 : ((span_Within.f a0_0 a0_1 a1_0 a1_1).bind fun t367 => (if t367 = true then ((span_Within.f a1_0 a1_1 a0_0 a0_1).bind fun t368 => (if t368 = true then (bournelaw09_SpanOrders.j0 k a3 t358 (!(a0_0 == a1_0) || (!(a0_1 == a1_1))) a0_0 a0_1 a1_0 a1_1) else (bournelaw09_SpanOrders.j0 k a3 t358 false a0_0 a0_1 a1_0 a1_1))) else (bournelaw09_SpanOrders.j0 k a3 t358 false a0_0 a0_1 a1_0 a1_1))) = some r := by rw [if_neg (show ¬ (false = true) by decide)] at H; exact H
    clear H
    have H := H1
    clear H1
    replace H := Option.bind_eq_some_iff.mp H
    obtain ⟨t367, A1500, H⟩ := H
    have A150 := Aside0.mk A1500
    clear A1500
    by_cases c151 : t367 = true
    ·
     subst c151
     have H1 : ((span_Within.f a1_0 a1_1 a0_0 a0_1).bind fun t368 => (if t368 = true then (bournelaw09_SpanOrders.j0 k a3 t358 (!(a0_0 == a1_0) || (!(a0_1 == a1_1))) a0_0 a0_1 a1_0 a1_1) else (bournelaw09_SpanOrders.j0 k a3 t358 false a0_0 a0_1 a1_0 a1_1))) = some r := by rw [if_pos rfl] at H; exact H
     clear H
     have H := H1
     clear H1
     replace H := Option.bind_eq_some_iff.mp H
     obtain ⟨t368, A1520, H⟩ := H
     have A152 := Aside0.mk A1520
     clear A1520
     by_cases c153 : t368 = true
     ·
      subst c153
      have H1 : (bournelaw09_SpanOrders.j0 k a3 t358 (!(a0_0 == a1_0) || (!(a0_1 == a1_1))) a0_0 a0_1 a1_0 a1_1) = some r := by rw [if_pos rfl] at H; exact H
      clear H
      have H := H1
      clear H1
      have H' := Aside0.mk H
      clear H
      have hnb154 := NB355_356.out
      have hnc154 := NB356_355.out
      have hnb155 := NB355_357.out
      have hnc155 := NB357_355.out
      have hcz156_0 : w10.cell? ⟨gb355, 0, none⟩ = some (.int .i64 a0_0) := (bC BK355.out 0).trans rfl
      have hcz156_1 : w10.cell? ⟨gb355, 1, none⟩ = some (.int .i64 a0_1) := (bC BK355.out 1).trans rfl
      have hfz156_0 := bF BK355.out 0
      have hfz156_1 := bF BK355.out 1
      go_wp2_with (first | ((with_reducible refine gate_callee (f := 25) rfl ?_); refine goesL_ (some 13) rfl rfl Try.func25 (by kernel_rfl) rfl #[.agg #[.int .i64 a0_0, .int .i64 a0_1], .agg #[.int .i64 a0_0, .int .i64 a0_1]] rfl (by (try simp only [List.map_toArray, List.map_cons, List.map_nil]); first | done | rfl | (simp only [List.length_drop, List.length_take]; rfl)) ?_; (with_reducible refine (span_Within.calls a0_0 a0_1 a0_0 a0_1 true _ A11.out).mono ?_); rintro e w157 ⟨rfl, hb⟩; refine ⟨_, rfl, ?_⟩; have n0_ := Aside0.mk (bB (g := gb355) (o := .cells #[.int .i64 a0_0, .int .i64 a0_1] 23 (0, 0)) (by (with_reducible repeat (first | refine bN ?_ _ | refine bD ?_ | refine bA ?_ _)); exact BK355.out) hb); have n1_ := Aside0.mk (bB (g := gb356) (o := .cells #[.int .i64 a1_0, .int .i64 a1_1] 23 (0, 0)) (by (with_reducible repeat (first | refine bN ?_ _ | refine bD ?_ | refine bA ?_ _)); exact BK356.out) hb); have n2_ := Aside0.mk (bB (g := gb357) (o := .cells #[.int .i64 a2_0, .int .i64 a2_1] 23 (0, 0)) (by (with_reducible repeat (first | refine bN ?_ _ | refine bD ?_ | refine bA ?_ _)); exact BK357.out) hb); have n3_ := Aside0.mk (bP (by repeat (first | (with_reducible first | exact HB.out | apply bL | apply bW | apply b1 | refine bS ?_ GE355.out | refine bS ?_ GE356.out | refine bS ?_ GE357.out) | exact HB.out)) hb); clear BK355; clear BK356; clear BK357; clear HB; have BK355 := n0_; have BK356 := n1_; have BK357 := n2_; have HB := n3_; clear n0_ n1_ n2_ n3_; (try clear hb); (try clear hb2); (try clear hk); (try clear hi); have hcz158_0 : w157.cell? ⟨gb355, 0, none⟩ = some (.int .i64 a0_0) := (bC BK355.out 0).trans rfl; have hcz158_1 : w157.cell? ⟨gb355, 1, none⟩ = some (.int .i64 a0_1) := (bC BK355.out 1).trans rfl; have hfz158_0 := bF BK355.out 0; have hfz158_1 := bF BK355.out 1; have hnb159 := NB356_357.out; have hnc159 := NB357_356.out; have hcz160_0 : w157.cell? ⟨gb356, 0, none⟩ = some (.int .i64 a1_0) := (bC BK356.out 0).trans rfl; have hcz160_1 : w157.cell? ⟨gb356, 1, none⟩ = some (.int .i64 a1_1) := (bC BK356.out 1).trans rfl; have hfz160_0 := bF BK356.out 0; have hfz160_1 := bF BK356.out 1) | (go_at_call 25; (with_reducible refine (span_Within.calls a0_0 a0_1 a1_0 a1_1 false _ A13.out).mono ?_); rintro e w161 ⟨rfl, hb⟩; (try clear A13); have n0_ := Aside0.mk (bB (g := gb355) (o := .cells #[.int .i64 a0_0, .int .i64 a0_1] 23 (0, 0)) (by (with_reducible repeat (first | refine bN ?_ _ | refine bD ?_ | refine bA ?_ _)); exact BK355.out) hb); have n1_ := Aside0.mk (bB (g := gb356) (o := .cells #[.int .i64 a1_0, .int .i64 a1_1] 23 (0, 0)) (by (with_reducible repeat (first | refine bN ?_ _ | refine bD ?_ | refine bA ?_ _)); exact BK356.out) hb); have n2_ := Aside0.mk (bB (g := gb357) (o := .cells #[.int .i64 a2_0, .int .i64 a2_1] 23 (0, 0)) (by (with_reducible repeat (first | refine bN ?_ _ | refine bD ?_ | refine bA ?_ _)); exact BK357.out) hb); have n3_ := Aside0.mk (bP (by repeat (first | (with_reducible first | exact HB.out | apply bL | apply bW | apply b1 | refine bS ?_ GE355.out | refine bS ?_ GE356.out | refine bS ?_ GE357.out) | exact HB.out)) hb); clear BK355; clear BK356; clear BK357; clear HB; have BK355 := n0_; have BK356 := n1_; have BK357 := n2_; have HB := n3_; clear n0_ n1_ n2_ n3_; (try clear hb); (try clear hb2); (try clear hk); (try clear hi); have hcz162_0 : w161.cell? ⟨gb355, 0, none⟩ = some (.int .i64 a0_0) := (bC BK355.out 0).trans rfl; have hcz162_1 : w161.cell? ⟨gb355, 1, none⟩ = some (.int .i64 a0_1) := (bC BK355.out 1).trans rfl; have hfz162_0 := bF BK355.out 0; have hfz162_1 := bF BK355.out 1; have hcz163_0 : w161.cell? ⟨gb356, 0, none⟩ = some (.int .i64 a1_0) := (bC BK356.out 0).trans rfl; have hcz163_1 : w161.cell? ⟨gb356, 1, none⟩ = some (.int .i64 a1_1) := (bC BK356.out 1).trans rfl; have hfz163_0 := bF BK356.out 0; have hfz163_1 := bF BK356.out 1) | (go_at_call 25; (with_reducible refine (span_Within.calls a0_0 a0_1 a1_0 a1_1 true _ A150.out).mono ?_); rintro e w164 ⟨rfl, hb⟩; (try clear A150); have n0_ := Aside0.mk (bB (g := gb355) (o := .cells #[.int .i64 a0_0, .int .i64 a0_1] 23 (0, 0)) (by (with_reducible repeat (first | refine bN ?_ _ | refine bD ?_ | refine bA ?_ _)); exact BK355.out) hb); have n1_ := Aside0.mk (bB (g := gb356) (o := .cells #[.int .i64 a1_0, .int .i64 a1_1] 23 (0, 0)) (by (with_reducible repeat (first | refine bN ?_ _ | refine bD ?_ | refine bA ?_ _)); exact BK356.out) hb); have n2_ := Aside0.mk (bB (g := gb357) (o := .cells #[.int .i64 a2_0, .int .i64 a2_1] 23 (0, 0)) (by (with_reducible repeat (first | refine bN ?_ _ | refine bD ?_ | refine bA ?_ _)); exact BK357.out) hb); have n3_ := Aside0.mk (bP (by repeat (first | (with_reducible first | exact HB.out | apply bL | apply bW | apply b1 | refine bS ?_ GE355.out | refine bS ?_ GE356.out | refine bS ?_ GE357.out) | exact HB.out)) hb); clear BK355; clear BK356; clear BK357; clear HB; have BK355 := n0_; have BK356 := n1_; have BK357 := n2_; have HB := n3_; clear n0_ n1_ n2_ n3_; (try clear hb); (try clear hb2); (try clear hk); (try clear hi); have hcz165_0 : w164.cell? ⟨gb356, 0, none⟩ = some (.int .i64 a1_0) := (bC BK356.out 0).trans rfl; have hcz165_1 : w164.cell? ⟨gb356, 1, none⟩ = some (.int .i64 a1_1) := (bC BK356.out 1).trans rfl; have hfz165_0 := bF BK356.out 0; have hfz165_1 := bF BK356.out 1; have hcz166_0 : w164.cell? ⟨gb355, 0, none⟩ = some (.int .i64 a0_0) := (bC BK355.out 0).trans rfl; have hcz166_1 : w164.cell? ⟨gb355, 1, none⟩ = some (.int .i64 a0_1) := (bC BK355.out 1).trans rfl; have hfz166_0 := bF BK355.out 0; have hfz166_1 := bF BK355.out 1) | (go_at_call 25; (with_reducible refine (span_Within.calls a1_0 a1_1 a0_0 a0_1 true _ A152.out).mono ?_); rintro e w167 ⟨rfl, hb⟩; (try clear A152); have n0_ := Aside0.mk (bB (g := gb355) (o := .cells #[.int .i64 a0_0, .int .i64 a0_1] 23 (0, 0)) (by (with_reducible repeat (first | refine bN ?_ _ | refine bD ?_ | refine bA ?_ _)); exact BK355.out) hb); have n1_ := Aside0.mk (bB (g := gb356) (o := .cells #[.int .i64 a1_0, .int .i64 a1_1] 23 (0, 0)) (by (with_reducible repeat (first | refine bN ?_ _ | refine bD ?_ | refine bA ?_ _)); exact BK356.out) hb); have n2_ := Aside0.mk (bB (g := gb357) (o := .cells #[.int .i64 a2_0, .int .i64 a2_1] 23 (0, 0)) (by (with_reducible repeat (first | refine bN ?_ _ | refine bD ?_ | refine bA ?_ _)); exact BK357.out) hb); have n3_ := Aside0.mk (bP (by repeat (first | (with_reducible first | exact HB.out | apply bL | apply bW | apply b1 | refine bS ?_ GE355.out | refine bS ?_ GE356.out | refine bS ?_ GE357.out) | exact HB.out)) hb); clear BK355; clear BK356; clear BK357; clear HB; have BK355 := n0_; have BK356 := n1_; have BK357 := n2_; have HB := n3_; clear n0_ n1_ n2_ n3_; (try clear hb); (try clear hb2); (try clear hk); (try clear hi); have hcz168_0 : w167.cell? ⟨gb355, 0, none⟩ = some (.int .i64 a0_0) := (bC BK355.out 0).trans rfl; have hcz168_1 : w167.cell? ⟨gb355, 1, none⟩ = some (.int .i64 a0_1) := (bC BK355.out 1).trans rfl; have hfz168_0 := bF BK355.out 0; have hfz168_1 := bF BK355.out 1; have hcz169_0 : w167.cell? ⟨gb356, 0, none⟩ = some (.int .i64 a1_0) := (bC BK356.out 0).trans rfl; have hcz169_1 : w167.cell? ⟨gb356, 1, none⟩ = some (.int .i64 a1_1) := (bC BK356.out 1).trans rfl; have hfz169_0 := bF BK356.out 0; have hfz169_1 := bF BK356.out 1))
      go_meet
      case rel => exact ⟨_, ((!(a0_0 == a1_0) || (!(a0_1 == a1_1)))), (by first | rfl | (simp; done) | (simp [*]; done)), H', ⟨by first | omega | exact Nat.le_refl _⟩, ⟨by (with_reducible repeat (first | refine bN ?_ _ | refine bD ?_ | refine bA ?_ _)); exact BK355.out⟩, ⟨by (with_reducible repeat (first | refine bN ?_ _ | refine bD ?_ | refine bA ?_ _)); exact BK356.out⟩, ⟨by (with_reducible repeat (first | refine bN ?_ _ | refine bD ?_ | refine bA ?_ _)); exact BK357.out⟩, ⟨by repeat (first | (with_reducible first | exact HB.out | apply bL | apply bW | apply b1 | refine bS ?_ GE355.out | refine bS ?_ GE356.out | refine bS ?_ GE357.out) | exact HB.out)⟩⟩
     ·
      replace c153 := Bool.eq_false_iff.mpr c153
      subst c153
      have H1 : (bournelaw09_SpanOrders.j0 k a3 t358 false a0_0 a0_1 a1_0 a1_1) = some r := by rw [if_neg (show ¬ (false = true) by decide)] at H; exact H
      clear H
      have H := H1
      clear H1
      have H' := Aside0.mk H
      clear H
      have hnb170 := NB355_356.out
      have hnc170 := NB356_355.out
      have hnb171 := NB355_357.out
      have hnc171 := NB357_355.out
      have hcz172_0 : w10.cell? ⟨gb355, 0, none⟩ = some (.int .i64 a0_0) := (bC BK355.out 0).trans rfl
      have hcz172_1 : w10.cell? ⟨gb355, 1, none⟩ = some (.int .i64 a0_1) := (bC BK355.out 1).trans rfl
      have hfz172_0 := bF BK355.out 0
      have hfz172_1 := bF BK355.out 1
      go_wp2_with (first | ((with_reducible refine gate_callee (f := 25) rfl ?_); refine goesL_ (some 13) rfl rfl Try.func25 (by kernel_rfl) rfl #[.agg #[.int .i64 a0_0, .int .i64 a0_1], .agg #[.int .i64 a0_0, .int .i64 a0_1]] rfl (by (try simp only [List.map_toArray, List.map_cons, List.map_nil]); first | done | rfl | (simp only [List.length_drop, List.length_take]; rfl)) ?_; (with_reducible refine (span_Within.calls a0_0 a0_1 a0_0 a0_1 true _ A11.out).mono ?_); rintro e w173 ⟨rfl, hb⟩; refine ⟨_, rfl, ?_⟩; have n0_ := Aside0.mk (bB (g := gb355) (o := .cells #[.int .i64 a0_0, .int .i64 a0_1] 23 (0, 0)) (by (with_reducible repeat (first | refine bN ?_ _ | refine bD ?_ | refine bA ?_ _)); exact BK355.out) hb); have n1_ := Aside0.mk (bB (g := gb356) (o := .cells #[.int .i64 a1_0, .int .i64 a1_1] 23 (0, 0)) (by (with_reducible repeat (first | refine bN ?_ _ | refine bD ?_ | refine bA ?_ _)); exact BK356.out) hb); have n2_ := Aside0.mk (bB (g := gb357) (o := .cells #[.int .i64 a2_0, .int .i64 a2_1] 23 (0, 0)) (by (with_reducible repeat (first | refine bN ?_ _ | refine bD ?_ | refine bA ?_ _)); exact BK357.out) hb); have n3_ := Aside0.mk (bP (by repeat (first | (with_reducible first | exact HB.out | apply bL | apply bW | apply b1 | refine bS ?_ GE355.out | refine bS ?_ GE356.out | refine bS ?_ GE357.out) | exact HB.out)) hb); clear BK355; clear BK356; clear BK357; clear HB; have BK355 := n0_; have BK356 := n1_; have BK357 := n2_; have HB := n3_; clear n0_ n1_ n2_ n3_; (try clear hb); (try clear hb2); (try clear hk); (try clear hi); have hcz174_0 : w173.cell? ⟨gb355, 0, none⟩ = some (.int .i64 a0_0) := (bC BK355.out 0).trans rfl; have hcz174_1 : w173.cell? ⟨gb355, 1, none⟩ = some (.int .i64 a0_1) := (bC BK355.out 1).trans rfl; have hfz174_0 := bF BK355.out 0; have hfz174_1 := bF BK355.out 1; have hnb175 := NB356_357.out; have hnc175 := NB357_356.out; have hcz176_0 : w173.cell? ⟨gb356, 0, none⟩ = some (.int .i64 a1_0) := (bC BK356.out 0).trans rfl; have hcz176_1 : w173.cell? ⟨gb356, 1, none⟩ = some (.int .i64 a1_1) := (bC BK356.out 1).trans rfl; have hfz176_0 := bF BK356.out 0; have hfz176_1 := bF BK356.out 1) | (go_at_call 25; (with_reducible refine (span_Within.calls a0_0 a0_1 a1_0 a1_1 false _ A13.out).mono ?_); rintro e w177 ⟨rfl, hb⟩; (try clear A13); have n0_ := Aside0.mk (bB (g := gb355) (o := .cells #[.int .i64 a0_0, .int .i64 a0_1] 23 (0, 0)) (by (with_reducible repeat (first | refine bN ?_ _ | refine bD ?_ | refine bA ?_ _)); exact BK355.out) hb); have n1_ := Aside0.mk (bB (g := gb356) (o := .cells #[.int .i64 a1_0, .int .i64 a1_1] 23 (0, 0)) (by (with_reducible repeat (first | refine bN ?_ _ | refine bD ?_ | refine bA ?_ _)); exact BK356.out) hb); have n2_ := Aside0.mk (bB (g := gb357) (o := .cells #[.int .i64 a2_0, .int .i64 a2_1] 23 (0, 0)) (by (with_reducible repeat (first | refine bN ?_ _ | refine bD ?_ | refine bA ?_ _)); exact BK357.out) hb); have n3_ := Aside0.mk (bP (by repeat (first | (with_reducible first | exact HB.out | apply bL | apply bW | apply b1 | refine bS ?_ GE355.out | refine bS ?_ GE356.out | refine bS ?_ GE357.out) | exact HB.out)) hb); clear BK355; clear BK356; clear BK357; clear HB; have BK355 := n0_; have BK356 := n1_; have BK357 := n2_; have HB := n3_; clear n0_ n1_ n2_ n3_; (try clear hb); (try clear hb2); (try clear hk); (try clear hi); have hcz178_0 : w177.cell? ⟨gb355, 0, none⟩ = some (.int .i64 a0_0) := (bC BK355.out 0).trans rfl; have hcz178_1 : w177.cell? ⟨gb355, 1, none⟩ = some (.int .i64 a0_1) := (bC BK355.out 1).trans rfl; have hfz178_0 := bF BK355.out 0; have hfz178_1 := bF BK355.out 1; have hcz179_0 : w177.cell? ⟨gb356, 0, none⟩ = some (.int .i64 a1_0) := (bC BK356.out 0).trans rfl; have hcz179_1 : w177.cell? ⟨gb356, 1, none⟩ = some (.int .i64 a1_1) := (bC BK356.out 1).trans rfl; have hfz179_0 := bF BK356.out 0; have hfz179_1 := bF BK356.out 1) | (go_at_call 25; (with_reducible refine (span_Within.calls a0_0 a0_1 a1_0 a1_1 true _ A150.out).mono ?_); rintro e w180 ⟨rfl, hb⟩; (try clear A150); have n0_ := Aside0.mk (bB (g := gb355) (o := .cells #[.int .i64 a0_0, .int .i64 a0_1] 23 (0, 0)) (by (with_reducible repeat (first | refine bN ?_ _ | refine bD ?_ | refine bA ?_ _)); exact BK355.out) hb); have n1_ := Aside0.mk (bB (g := gb356) (o := .cells #[.int .i64 a1_0, .int .i64 a1_1] 23 (0, 0)) (by (with_reducible repeat (first | refine bN ?_ _ | refine bD ?_ | refine bA ?_ _)); exact BK356.out) hb); have n2_ := Aside0.mk (bB (g := gb357) (o := .cells #[.int .i64 a2_0, .int .i64 a2_1] 23 (0, 0)) (by (with_reducible repeat (first | refine bN ?_ _ | refine bD ?_ | refine bA ?_ _)); exact BK357.out) hb); have n3_ := Aside0.mk (bP (by repeat (first | (with_reducible first | exact HB.out | apply bL | apply bW | apply b1 | refine bS ?_ GE355.out | refine bS ?_ GE356.out | refine bS ?_ GE357.out) | exact HB.out)) hb); clear BK355; clear BK356; clear BK357; clear HB; have BK355 := n0_; have BK356 := n1_; have BK357 := n2_; have HB := n3_; clear n0_ n1_ n2_ n3_; (try clear hb); (try clear hb2); (try clear hk); (try clear hi); have hcz181_0 : w180.cell? ⟨gb356, 0, none⟩ = some (.int .i64 a1_0) := (bC BK356.out 0).trans rfl; have hcz181_1 : w180.cell? ⟨gb356, 1, none⟩ = some (.int .i64 a1_1) := (bC BK356.out 1).trans rfl; have hfz181_0 := bF BK356.out 0; have hfz181_1 := bF BK356.out 1; have hcz182_0 : w180.cell? ⟨gb355, 0, none⟩ = some (.int .i64 a0_0) := (bC BK355.out 0).trans rfl; have hcz182_1 : w180.cell? ⟨gb355, 1, none⟩ = some (.int .i64 a0_1) := (bC BK355.out 1).trans rfl; have hfz182_0 := bF BK355.out 0; have hfz182_1 := bF BK355.out 1) | (go_at_call 25; (with_reducible refine (span_Within.calls a1_0 a1_1 a0_0 a0_1 false _ A152.out).mono ?_); rintro e w183 ⟨rfl, hb⟩; (try clear A152); have n0_ := Aside0.mk (bB (g := gb355) (o := .cells #[.int .i64 a0_0, .int .i64 a0_1] 23 (0, 0)) (by (with_reducible repeat (first | refine bN ?_ _ | refine bD ?_ | refine bA ?_ _)); exact BK355.out) hb); have n1_ := Aside0.mk (bB (g := gb356) (o := .cells #[.int .i64 a1_0, .int .i64 a1_1] 23 (0, 0)) (by (with_reducible repeat (first | refine bN ?_ _ | refine bD ?_ | refine bA ?_ _)); exact BK356.out) hb); have n2_ := Aside0.mk (bB (g := gb357) (o := .cells #[.int .i64 a2_0, .int .i64 a2_1] 23 (0, 0)) (by (with_reducible repeat (first | refine bN ?_ _ | refine bD ?_ | refine bA ?_ _)); exact BK357.out) hb); have n3_ := Aside0.mk (bP (by repeat (first | (with_reducible first | exact HB.out | apply bL | apply bW | apply b1 | refine bS ?_ GE355.out | refine bS ?_ GE356.out | refine bS ?_ GE357.out) | exact HB.out)) hb); clear BK355; clear BK356; clear BK357; clear HB; have BK355 := n0_; have BK356 := n1_; have BK357 := n2_; have HB := n3_; clear n0_ n1_ n2_ n3_; (try clear hb); (try clear hb2); (try clear hk); (try clear hi)))
      go_meet
      case rel => exact ⟨_, (false), (by first | rfl | (simp; done) | (simp [*]; done)), H', ⟨by first | omega | exact Nat.le_refl _⟩, ⟨by (with_reducible repeat (first | refine bN ?_ _ | refine bD ?_ | refine bA ?_ _)); exact BK355.out⟩, ⟨by (with_reducible repeat (first | refine bN ?_ _ | refine bD ?_ | refine bA ?_ _)); exact BK356.out⟩, ⟨by (with_reducible repeat (first | refine bN ?_ _ | refine bD ?_ | refine bA ?_ _)); exact BK357.out⟩, ⟨by repeat (first | (with_reducible first | exact HB.out | apply bL | apply bW | apply b1 | refine bS ?_ GE355.out | refine bS ?_ GE356.out | refine bS ?_ GE357.out) | exact HB.out)⟩⟩
    ·
     replace c151 := Bool.eq_false_iff.mpr c151
     subst c151
     have H1 : (bournelaw09_SpanOrders.j0 k a3 t358 false a0_0 a0_1 a1_0 a1_1) = some r := by rw [if_neg (show ¬ (false = true) by decide)] at H; exact H
     clear H
     have H := H1
     clear H1
     have H' := Aside0.mk H
     clear H
     have hnb184 := NB355_356.out
     have hnc184 := NB356_355.out
     have hnb185 := NB355_357.out
     have hnc185 := NB357_355.out
     have hcz186_0 : w10.cell? ⟨gb355, 0, none⟩ = some (.int .i64 a0_0) := (bC BK355.out 0).trans rfl
     have hcz186_1 : w10.cell? ⟨gb355, 1, none⟩ = some (.int .i64 a0_1) := (bC BK355.out 1).trans rfl
     have hfz186_0 := bF BK355.out 0
     have hfz186_1 := bF BK355.out 1
     go_wp2_with (first | ((with_reducible refine gate_callee (f := 25) rfl ?_); refine goesL_ (some 13) rfl rfl Try.func25 (by kernel_rfl) rfl #[.agg #[.int .i64 a0_0, .int .i64 a0_1], .agg #[.int .i64 a0_0, .int .i64 a0_1]] rfl (by (try simp only [List.map_toArray, List.map_cons, List.map_nil]); first | done | rfl | (simp only [List.length_drop, List.length_take]; rfl)) ?_; (with_reducible refine (span_Within.calls a0_0 a0_1 a0_0 a0_1 true _ A11.out).mono ?_); rintro e w187 ⟨rfl, hb⟩; refine ⟨_, rfl, ?_⟩; have n0_ := Aside0.mk (bB (g := gb355) (o := .cells #[.int .i64 a0_0, .int .i64 a0_1] 23 (0, 0)) (by (with_reducible repeat (first | refine bN ?_ _ | refine bD ?_ | refine bA ?_ _)); exact BK355.out) hb); have n1_ := Aside0.mk (bB (g := gb356) (o := .cells #[.int .i64 a1_0, .int .i64 a1_1] 23 (0, 0)) (by (with_reducible repeat (first | refine bN ?_ _ | refine bD ?_ | refine bA ?_ _)); exact BK356.out) hb); have n2_ := Aside0.mk (bB (g := gb357) (o := .cells #[.int .i64 a2_0, .int .i64 a2_1] 23 (0, 0)) (by (with_reducible repeat (first | refine bN ?_ _ | refine bD ?_ | refine bA ?_ _)); exact BK357.out) hb); have n3_ := Aside0.mk (bP (by repeat (first | (with_reducible first | exact HB.out | apply bL | apply bW | apply b1 | refine bS ?_ GE355.out | refine bS ?_ GE356.out | refine bS ?_ GE357.out) | exact HB.out)) hb); clear BK355; clear BK356; clear BK357; clear HB; have BK355 := n0_; have BK356 := n1_; have BK357 := n2_; have HB := n3_; clear n0_ n1_ n2_ n3_; (try clear hb); (try clear hb2); (try clear hk); (try clear hi); have hcz188_0 : w187.cell? ⟨gb355, 0, none⟩ = some (.int .i64 a0_0) := (bC BK355.out 0).trans rfl; have hcz188_1 : w187.cell? ⟨gb355, 1, none⟩ = some (.int .i64 a0_1) := (bC BK355.out 1).trans rfl; have hfz188_0 := bF BK355.out 0; have hfz188_1 := bF BK355.out 1; have hnb189 := NB356_357.out; have hnc189 := NB357_356.out; have hcz190_0 : w187.cell? ⟨gb356, 0, none⟩ = some (.int .i64 a1_0) := (bC BK356.out 0).trans rfl; have hcz190_1 : w187.cell? ⟨gb356, 1, none⟩ = some (.int .i64 a1_1) := (bC BK356.out 1).trans rfl; have hfz190_0 := bF BK356.out 0; have hfz190_1 := bF BK356.out 1) | (go_at_call 25; (with_reducible refine (span_Within.calls a0_0 a0_1 a1_0 a1_1 false _ A13.out).mono ?_); rintro e w191 ⟨rfl, hb⟩; (try clear A13); have n0_ := Aside0.mk (bB (g := gb355) (o := .cells #[.int .i64 a0_0, .int .i64 a0_1] 23 (0, 0)) (by (with_reducible repeat (first | refine bN ?_ _ | refine bD ?_ | refine bA ?_ _)); exact BK355.out) hb); have n1_ := Aside0.mk (bB (g := gb356) (o := .cells #[.int .i64 a1_0, .int .i64 a1_1] 23 (0, 0)) (by (with_reducible repeat (first | refine bN ?_ _ | refine bD ?_ | refine bA ?_ _)); exact BK356.out) hb); have n2_ := Aside0.mk (bB (g := gb357) (o := .cells #[.int .i64 a2_0, .int .i64 a2_1] 23 (0, 0)) (by (with_reducible repeat (first | refine bN ?_ _ | refine bD ?_ | refine bA ?_ _)); exact BK357.out) hb); have n3_ := Aside0.mk (bP (by repeat (first | (with_reducible first | exact HB.out | apply bL | apply bW | apply b1 | refine bS ?_ GE355.out | refine bS ?_ GE356.out | refine bS ?_ GE357.out) | exact HB.out)) hb); clear BK355; clear BK356; clear BK357; clear HB; have BK355 := n0_; have BK356 := n1_; have BK357 := n2_; have HB := n3_; clear n0_ n1_ n2_ n3_; (try clear hb); (try clear hb2); (try clear hk); (try clear hi); have hcz192_0 : w191.cell? ⟨gb355, 0, none⟩ = some (.int .i64 a0_0) := (bC BK355.out 0).trans rfl; have hcz192_1 : w191.cell? ⟨gb355, 1, none⟩ = some (.int .i64 a0_1) := (bC BK355.out 1).trans rfl; have hfz192_0 := bF BK355.out 0; have hfz192_1 := bF BK355.out 1; have hcz193_0 : w191.cell? ⟨gb356, 0, none⟩ = some (.int .i64 a1_0) := (bC BK356.out 0).trans rfl; have hcz193_1 : w191.cell? ⟨gb356, 1, none⟩ = some (.int .i64 a1_1) := (bC BK356.out 1).trans rfl; have hfz193_0 := bF BK356.out 0; have hfz193_1 := bF BK356.out 1) | (go_at_call 25; (with_reducible refine (span_Within.calls a0_0 a0_1 a1_0 a1_1 false _ A150.out).mono ?_); rintro e w194 ⟨rfl, hb⟩; (try clear A150); have n0_ := Aside0.mk (bB (g := gb355) (o := .cells #[.int .i64 a0_0, .int .i64 a0_1] 23 (0, 0)) (by (with_reducible repeat (first | refine bN ?_ _ | refine bD ?_ | refine bA ?_ _)); exact BK355.out) hb); have n1_ := Aside0.mk (bB (g := gb356) (o := .cells #[.int .i64 a1_0, .int .i64 a1_1] 23 (0, 0)) (by (with_reducible repeat (first | refine bN ?_ _ | refine bD ?_ | refine bA ?_ _)); exact BK356.out) hb); have n2_ := Aside0.mk (bB (g := gb357) (o := .cells #[.int .i64 a2_0, .int .i64 a2_1] 23 (0, 0)) (by (with_reducible repeat (first | refine bN ?_ _ | refine bD ?_ | refine bA ?_ _)); exact BK357.out) hb); have n3_ := Aside0.mk (bP (by repeat (first | (with_reducible first | exact HB.out | apply bL | apply bW | apply b1 | refine bS ?_ GE355.out | refine bS ?_ GE356.out | refine bS ?_ GE357.out) | exact HB.out)) hb); clear BK355; clear BK356; clear BK357; clear HB; have BK355 := n0_; have BK356 := n1_; have BK357 := n2_; have HB := n3_; clear n0_ n1_ n2_ n3_; (try clear hb); (try clear hb2); (try clear hk); (try clear hi)))
     go_meet
     case rel => exact ⟨_, (false), (by first | rfl | (simp; done) | (simp [*]; done)), H', ⟨by first | omega | exact Nat.le_refl _⟩, ⟨by (with_reducible repeat (first | refine bN ?_ _ | refine bD ?_ | refine bA ?_ _)); exact BK355.out⟩, ⟨by (with_reducible repeat (first | refine bN ?_ _ | refine bD ?_ | refine bA ?_ _)); exact BK356.out⟩, ⟨by (with_reducible repeat (first | refine bN ?_ _ | refine bD ?_ | refine bA ?_ _)); exact BK357.out⟩, ⟨by repeat (first | (with_reducible first | exact HB.out | apply bL | apply bW | apply b1 | refine bS ?_ GE355.out | refine bS ?_ GE356.out | refine bS ?_ GE357.out) | exact HB.out)⟩⟩
  ·
   replace c12 := Bool.eq_false_iff.mpr c12
   subst c12
   have H1 : (bournelaw09_SpanOrders.j0 k a3 t358 true a0_0 a0_1 a1_0 a1_1) = some r := by rw [if_neg (show ¬ (false = true) by decide)] at H; exact H
   clear H
   have H := H1
   clear H1
   have H' := Aside0.mk H
   clear H
   have hnb195 := NB355_356.out
   have hnc195 := NB356_355.out
   have hnb196 := NB355_357.out
   have hnc196 := NB357_355.out
   have hcz197_0 : w10.cell? ⟨gb355, 0, none⟩ = some (.int .i64 a0_0) := (bC BK355.out 0).trans rfl
   have hcz197_1 : w10.cell? ⟨gb355, 1, none⟩ = some (.int .i64 a0_1) := (bC BK355.out 1).trans rfl
   have hfz197_0 := bF BK355.out 0
   have hfz197_1 := bF BK355.out 1
   go_wp2_with (first | ((with_reducible refine gate_callee (f := 25) rfl ?_); refine goesL_ (some 13) rfl rfl Try.func25 (by kernel_rfl) rfl #[.agg #[.int .i64 a0_0, .int .i64 a0_1], .agg #[.int .i64 a0_0, .int .i64 a0_1]] rfl (by (try simp only [List.map_toArray, List.map_cons, List.map_nil]); first | done | rfl | (simp only [List.length_drop, List.length_take]; rfl)) ?_; (with_reducible refine (span_Within.calls a0_0 a0_1 a0_0 a0_1 false _ A11.out).mono ?_); rintro e w198 ⟨rfl, hb⟩; refine ⟨_, rfl, ?_⟩; have n0_ := Aside0.mk (bB (g := gb355) (o := .cells #[.int .i64 a0_0, .int .i64 a0_1] 23 (0, 0)) (by (with_reducible repeat (first | refine bN ?_ _ | refine bD ?_ | refine bA ?_ _)); exact BK355.out) hb); have n1_ := Aside0.mk (bB (g := gb356) (o := .cells #[.int .i64 a1_0, .int .i64 a1_1] 23 (0, 0)) (by (with_reducible repeat (first | refine bN ?_ _ | refine bD ?_ | refine bA ?_ _)); exact BK356.out) hb); have n2_ := Aside0.mk (bB (g := gb357) (o := .cells #[.int .i64 a2_0, .int .i64 a2_1] 23 (0, 0)) (by (with_reducible repeat (first | refine bN ?_ _ | refine bD ?_ | refine bA ?_ _)); exact BK357.out) hb); have n3_ := Aside0.mk (bP (by repeat (first | (with_reducible first | exact HB.out | apply bL | apply bW | apply b1 | refine bS ?_ GE355.out | refine bS ?_ GE356.out | refine bS ?_ GE357.out) | exact HB.out)) hb); clear BK355; clear BK356; clear BK357; clear HB; have BK355 := n0_; have BK356 := n1_; have BK357 := n2_; have HB := n3_; clear n0_ n1_ n2_ n3_; (try clear hb); (try clear hb2); (try clear hk); (try clear hi)))
   go_meet
   case rel => exact ⟨_, (true), (by first | rfl | (simp; done) | (simp [*]; done)), H', ⟨by first | omega | exact Nat.le_refl _⟩, ⟨by (with_reducible repeat (first | refine bN ?_ _ | refine bD ?_ | refine bA ?_ _)); exact BK355.out⟩, ⟨by (with_reducible repeat (first | refine bN ?_ _ | refine bD ?_ | refine bA ?_ _)); exact BK356.out⟩, ⟨by (with_reducible repeat (first | refine bN ?_ _ | refine bD ?_ | refine bA ?_ _)); exact BK357.out⟩, ⟨by repeat (first | (with_reducible first | exact HB.out | apply bL | apply bW | apply b1 | refine bS ?_ GE355.out | refine bS ?_ GE356.out | refine bS ?_ GE357.out) | exact HB.out)⟩⟩
 case rest =>
  clear HC6
  try clear c1
  try clear c2
  try clear p2
  try clear c4
  try clear c5
  try clear c6
  try clear c7
  try clear c8
  try clear c9
  try clear c10
  try clear c11
  try clear c12
  try clear c13
  try clear c14
  try clear c15
  try clear c16
  try clear c17
  try clear c18
  try clear c19
  try clear c20
  try clear c22
  try clear c23
  try clear c24
  try clear c25
  try clear c28
  try clear c45
  try clear c46
  try clear c50
  try clear c65
  try clear c66
  try clear c70
  try clear c82
  try clear c83
  try clear c87
  try clear c97
  try clear c99
  try clear c100
  try clear c101
  try clear c105
  try clear c119
  try clear c120
  try clear c124
  try clear c136
  try clear c137
  try clear c141
  try clear c151
  try clear c153
  try clear c154
  try clear c155
  try clear c159
  try clear c170
  try clear c171
  try clear c175
  try clear c184
  try clear c185
  try clear c189
  try clear c195
  try clear c196
  try clear hcz102_0
  try clear hcz102_1
  try clear hcz104_0
  try clear hcz104_1
  try clear hcz106_0
  try clear hcz106_1
  try clear hcz108_0
  try clear hcz108_1
  try clear hcz109_0
  try clear hcz109_1
  try clear hcz111_0
  try clear hcz111_1
  try clear hcz112_0
  try clear hcz112_1
  try clear hcz114_0
  try clear hcz114_1
  try clear hcz115_0
  try clear hcz115_1
  try clear hcz117_0
  try clear hcz117_1
  try clear hcz118_0
  try clear hcz118_1
  try clear hcz121_0
  try clear hcz121_1
  try clear hcz123_0
  try clear hcz123_1
  try clear hcz125_0
  try clear hcz125_1
  try clear hcz127_0
  try clear hcz127_1
  try clear hcz128_0
  try clear hcz128_1
  try clear hcz130_0
  try clear hcz130_1
  try clear hcz131_0
  try clear hcz131_1
  try clear hcz133_0
  try clear hcz133_1
  try clear hcz134_0
  try clear hcz134_1
  try clear hcz138_0
  try clear hcz138_1
  try clear hcz140_0
  try clear hcz140_1
  try clear hcz142_0
  try clear hcz142_1
  try clear hcz144_0
  try clear hcz144_1
  try clear hcz145_0
  try clear hcz145_1
  try clear hcz147_0
  try clear hcz147_1
  try clear hcz148_0
  try clear hcz148_1
  try clear hcz156_0
  try clear hcz156_1
  try clear hcz158_0
  try clear hcz158_1
  try clear hcz160_0
  try clear hcz160_1
  try clear hcz162_0
  try clear hcz162_1
  try clear hcz163_0
  try clear hcz163_1
  try clear hcz165_0
  try clear hcz165_1
  try clear hcz166_0
  try clear hcz166_1
  try clear hcz168_0
  try clear hcz168_1
  try clear hcz169_0
  try clear hcz169_1
  try clear hcz172_0
  try clear hcz172_1
  try clear hcz174_0
  try clear hcz174_1
  try clear hcz176_0
  try clear hcz176_1
  try clear hcz178_0
  try clear hcz178_1
  try clear hcz179_0
  try clear hcz179_1
  try clear hcz181_0
  try clear hcz181_1
  try clear hcz182_0
  try clear hcz182_1
  try clear hcz186_0
  try clear hcz186_1
  try clear hcz188_0
  try clear hcz188_1
  try clear hcz190_0
  try clear hcz190_1
  try clear hcz192_0
  try clear hcz192_1
  try clear hcz193_0
  try clear hcz193_1
  try clear hcz197_0
  try clear hcz197_1
  try clear hcz25_0
  try clear hcz25_1
  try clear hcz27_0
  try clear hcz27_1
  try clear hcz29_0
  try clear hcz29_1
  try clear hcz31_0
  try clear hcz31_1
  try clear hcz32_0
  try clear hcz32_1
  try clear hcz34_0
  try clear hcz34_1
  try clear hcz35_0
  try clear hcz35_1
  try clear hcz37_0
  try clear hcz37_1
  try clear hcz38_0
  try clear hcz38_1
  try clear hcz40_0
  try clear hcz40_1
  try clear hcz41_0
  try clear hcz41_1
  try clear hcz43_0
  try clear hcz43_1
  try clear hcz44_0
  try clear hcz44_1
  try clear hcz47_0
  try clear hcz47_1
  try clear hcz49_0
  try clear hcz49_1
  try clear hcz51_0
  try clear hcz51_1
  try clear hcz53_0
  try clear hcz53_1
  try clear hcz54_0
  try clear hcz54_1
  try clear hcz56_0
  try clear hcz56_1
  try clear hcz57_0
  try clear hcz57_1
  try clear hcz59_0
  try clear hcz59_1
  try clear hcz60_0
  try clear hcz60_1
  try clear hcz62_0
  try clear hcz62_1
  try clear hcz63_0
  try clear hcz63_1
  try clear hcz67_0
  try clear hcz67_1
  try clear hcz69_0
  try clear hcz69_1
  try clear hcz71_0
  try clear hcz71_1
  try clear hcz73_0
  try clear hcz73_1
  try clear hcz74_0
  try clear hcz74_1
  try clear hcz76_0
  try clear hcz76_1
  try clear hcz77_0
  try clear hcz77_1
  try clear hcz79_0
  try clear hcz79_1
  try clear hcz80_0
  try clear hcz80_1
  try clear hcz84_0
  try clear hcz84_1
  try clear hcz86_0
  try clear hcz86_1
  try clear hcz88_0
  try clear hcz88_1
  try clear hcz90_0
  try clear hcz90_1
  try clear hcz91_0
  try clear hcz91_1
  try clear hcz93_0
  try clear hcz93_1
  try clear hcz94_0
  try clear hcz94_1
  try clear hfz102_0
  try clear hfz102_1
  try clear hfz104_0
  try clear hfz104_1
  try clear hfz106_0
  try clear hfz106_1
  try clear hfz108_0
  try clear hfz108_1
  try clear hfz109_0
  try clear hfz109_1
  try clear hfz111_0
  try clear hfz111_1
  try clear hfz112_0
  try clear hfz112_1
  try clear hfz114_0
  try clear hfz114_1
  try clear hfz115_0
  try clear hfz115_1
  try clear hfz117_0
  try clear hfz117_1
  try clear hfz118_0
  try clear hfz118_1
  try clear hfz121_0
  try clear hfz121_1
  try clear hfz123_0
  try clear hfz123_1
  try clear hfz125_0
  try clear hfz125_1
  try clear hfz127_0
  try clear hfz127_1
  try clear hfz128_0
  try clear hfz128_1
  try clear hfz130_0
  try clear hfz130_1
  try clear hfz131_0
  try clear hfz131_1
  try clear hfz133_0
  try clear hfz133_1
  try clear hfz134_0
  try clear hfz134_1
  try clear hfz138_0
  try clear hfz138_1
  try clear hfz140_0
  try clear hfz140_1
  try clear hfz142_0
  try clear hfz142_1
  try clear hfz144_0
  try clear hfz144_1
  try clear hfz145_0
  try clear hfz145_1
  try clear hfz147_0
  try clear hfz147_1
  try clear hfz148_0
  try clear hfz148_1
  try clear hfz156_0
  try clear hfz156_1
  try clear hfz158_0
  try clear hfz158_1
  try clear hfz160_0
  try clear hfz160_1
  try clear hfz162_0
  try clear hfz162_1
  try clear hfz163_0
  try clear hfz163_1
  try clear hfz165_0
  try clear hfz165_1
  try clear hfz166_0
  try clear hfz166_1
  try clear hfz168_0
  try clear hfz168_1
  try clear hfz169_0
  try clear hfz169_1
  try clear hfz172_0
  try clear hfz172_1
  try clear hfz174_0
  try clear hfz174_1
  try clear hfz176_0
  try clear hfz176_1
  try clear hfz178_0
  try clear hfz178_1
  try clear hfz179_0
  try clear hfz179_1
  try clear hfz181_0
  try clear hfz181_1
  try clear hfz182_0
  try clear hfz182_1
  try clear hfz186_0
  try clear hfz186_1
  try clear hfz188_0
  try clear hfz188_1
  try clear hfz190_0
  try clear hfz190_1
  try clear hfz192_0
  try clear hfz192_1
  try clear hfz193_0
  try clear hfz193_1
  try clear hfz197_0
  try clear hfz197_1
  try clear hfz25_0
  try clear hfz25_1
  try clear hfz27_0
  try clear hfz27_1
  try clear hfz29_0
  try clear hfz29_1
  try clear hfz31_0
  try clear hfz31_1
  try clear hfz32_0
  try clear hfz32_1
  try clear hfz34_0
  try clear hfz34_1
  try clear hfz35_0
  try clear hfz35_1
  try clear hfz37_0
  try clear hfz37_1
  try clear hfz38_0
  try clear hfz38_1
  try clear hfz40_0
  try clear hfz40_1
  try clear hfz41_0
  try clear hfz41_1
  try clear hfz43_0
  try clear hfz43_1
  try clear hfz44_0
  try clear hfz44_1
  try clear hfz47_0
  try clear hfz47_1
  try clear hfz49_0
  try clear hfz49_1
  try clear hfz51_0
  try clear hfz51_1
  try clear hfz53_0
  try clear hfz53_1
  try clear hfz54_0
  try clear hfz54_1
  try clear hfz56_0
  try clear hfz56_1
  try clear hfz57_0
  try clear hfz57_1
  try clear hfz59_0
  try clear hfz59_1
  try clear hfz60_0
  try clear hfz60_1
  try clear hfz62_0
  try clear hfz62_1
  try clear hfz63_0
  try clear hfz63_1
  try clear hfz67_0
  try clear hfz67_1
  try clear hfz69_0
  try clear hfz69_1
  try clear hfz71_0
  try clear hfz71_1
  try clear hfz73_0
  try clear hfz73_1
  try clear hfz74_0
  try clear hfz74_1
  try clear hfz76_0
  try clear hfz76_1
  try clear hfz77_0
  try clear hfz77_1
  try clear hfz79_0
  try clear hfz79_1
  try clear hfz80_0
  try clear hfz80_1
  try clear hfz84_0
  try clear hfz84_1
  try clear hfz86_0
  try clear hfz86_1
  try clear hfz88_0
  try clear hfz88_1
  try clear hfz90_0
  try clear hfz90_1
  try clear hfz91_0
  try clear hfz91_1
  try clear hfz93_0
  try clear hfz93_1
  try clear hfz94_0
  try clear hfz94_1
  obtain ⟨kq, x45_5, rfl, HA, HJ5, BK355, BK356, BK357, HB⟩ := hcut
  cases kq with
  | zero => exact absurd HA.out (by simp [bournelaw09_SpanOrders.j0])
  | succ kj5 =>
   have H := HA.out
   clear HA
   simp only [bournelaw09_SpanOrders.j0] at H
   by_cases c199 : x45_5 = true
   ·
    subst c199
    have H1 : (some false) = some r := by rw [if_pos rfl] at H; exact H
    clear H
    have H := H1
    clear H1
    exact absurd (H.trans (congrArg some hT.out)) (by simp)
   ·
    replace c199 := Bool.eq_false_iff.mpr c199
    subst c199
    have H1 : ((span_Add.f a0_0 a0_1 a1_0 a1_1).bind fun bt369 => ((span_Add.f a1_0 a1_1 a0_0 a0_1).bind fun bt371 => (if (!(bt369.1 == bt371.1) || (!(bt369.2 == bt371.2))) = true then (bournelaw09_SpanOrders.j1 kj5 a3 t358 true a0_0 a0_1 a1_0 a1_1) else ((span_Join.f a0_0 a0_1 a1_0 a1_1).bind fun bt373 => ((span_Join.f a1_0 a1_1 a0_0 a0_1).bind fun bt375 => (if (!(bt373.1 == bt375.1) || (!(bt373.2 == bt375.2))) = true then (bournelaw09_SpanOrders.j1 kj5 a3 t358 true a0_0 a0_1 a1_0 a1_1) else ((span_Join.f a0_0 a0_1 a0_0 a0_1).bind fun bt377 => (bournelaw09_SpanOrders.j1 kj5 a3 t358 (!(bt377.1 == a0_0) || (!(bt377.2 == a0_1))) a0_0 a0_1 a1_0 a1_1)))))))) = some r := by rw [if_neg (show ¬ (false = true) by decide)] at H; exact H
    clear H
    have H := H1
    clear H1
    have HC200 := Aside0.mk H
    clear H
    go_upto_region 4 with (fail)
    go_cut [68] (fun v68 wc => ∃ (kq : Nat) (x68_199 : Bool), v68 = .bool x68_199 ∧ Aside0 (bournelaw09_SpanOrders.j1 kq a3 t358 x68_199 a0_0 a0_1 a1_0 a1_1 = some r) ∧ Aside0 (kq ≤ kj5) ∧ Aside0 (wc.heap[gb355]? = some (.cells #[.int .i64 a0_0, .int .i64 a0_1] 23 (0, 0))) ∧ Aside0 (wc.heap[gb356]? = some (.cells #[.int .i64 a1_0, .int .i64 a1_1] 23 (0, 0))) ∧ Aside0 (wc.heap[gb357]? = some (.cells #[.int .i64 a2_0, .int .i64 a2_1] 23 (0, 0))) ∧ Aside0 (Below w.heap.size w wc))
    case first =>
     have H := HC200.out
     clear HC200
     replace H := Option.bind_eq_some_iff.mp H
     obtain ⟨⟨t369, t370⟩, A2010, H⟩ := H
     dsimp only at H
     have A201 := Aside0.mk A2010
     clear A2010
     replace H := Option.bind_eq_some_iff.mp H
     obtain ⟨⟨t371, t372⟩, A2020, H⟩ := H
     dsimp only at H
     have A202 := Aside0.mk A2020
     clear A2020
     by_cases c203 : (!(t369 == t371) || (!(t370 == t372))) = true
     ·
      rw [if_pos c203] at H
      have c203b0 : (!(t369 == t371) || (!(t370 == t372))) = true := c203
      clear c203
      (first | rw [c203b0] | (simp only [i64_w, i32_w]; rw [c203b0]) | skip)
      have H' := Aside0.mk H
      clear H
      try go_wp2
      have n0_ := Aside0.mk (bD BK355.out)
      have n1_ := Aside0.mk (bD BK356.out)
      have n2_ := Aside0.mk (bD BK357.out)
      have n3_ := Aside0.mk (b1 HB.out)
      clear BK355
      clear BK356
      clear BK357
      clear HB
      have BK355 := n0_
      have BK356 := n1_
      have BK357 := n2_
      have HB := n3_
      clear n0_ n1_ n2_ n3_
      refine start_ (n := 23) (S := fun w' => w'.cell? ⟨gb355, 0, none⟩ = some (.int .i64 a0_0) ∧ w'.cell? ⟨gb355, 1, none⟩ = some (.int .i64 a0_1) ∧ w'.cell? ⟨gb356, 0, none⟩ = some (.int .i64 a1_0) ∧ w'.cell? ⟨gb356, 1, none⟩ = some (.int .i64 a1_1)) (ds := []) #[false, false, false, false, false, false, false, false, false, false, false, false, false, false, false, false, false, false, false, false, false, false, false] (by kernel_rfl) rfl rfl ⟨(bC BK355.out 0).trans rfl, (bC BK355.out 1).trans rfl, (bC BK356.out 0).trans rfl, (bC BK356.out 1).trans rfl⟩ (fun hHeld => ?_); refine with_tabW bournelaw09_SpanOrders.tab4 bournelaw09_SpanOrders.bits4 (fun HT_ HW_ => ?_)
      generalize wc.drew = w204 at BK355 BK356 BK357 HB hHeld ⊢
      refine take_ (i := 0) (N := some 46) (v := ?_) (a' := ?_) #[true, false, false, false, false, false, false, false, false, false, false, false, false, false, false, false, false, false, false, false, false, false, false] rfl rfl (take_ofW HT_.out HW_.out (by kernel_rfl)) (fun _ _ _ h => h) (Or.inl ⟨by rfl, ?_⟩) hHeld ?_ ?_
      rotate_left
      ·
       rintro w' ⟨s0, s1, s2, s3⟩
       go_simp
       with_reducible rfl
      rotate_left
      ·
       simp only [Act.put, List.setIfInBounds_toArray, List.set_cons_zero, List.set_cons_succ, i64_w, i32_w]
       rfl
      refine take_ (i := 1) (N := some 47) (v := ?_) (a' := ?_) #[true, true, false, false, false, false, false, false, false, false, false, false, false, false, false, false, false, false, false, false, false, false, false] rfl rfl (take_ofW HT_.out HW_.out (by kernel_rfl)) (fun _ _ _ h => h) (Or.inl ⟨by rfl, ?_⟩) hHeld ?_ ?_
      rotate_left
      ·
       rintro w' ⟨s0, s1, s2, s3⟩
       go_simp
       with_reducible rfl
      rotate_left
      ·
       simp only [Act.put, List.setIfInBounds_toArray, List.set_cons_zero, List.set_cons_succ, i64_w, i32_w]
       rfl
      refine take_ (i := 3) (N := some 49) (v := ?_) (a' := ?_) #[true, true, false, true, false, false, false, false, false, false, false, false, false, false, false, false, false, false, false, false, false, false, false] rfl rfl (take_ofW HT_.out HW_.out (by kernel_rfl)) (fun _ _ _ h => h) (Or.inl ⟨by rfl, ?_⟩) hHeld ?_ ?_
      rotate_left
      ·
       rintro w' ⟨s0, s1, s2, s3⟩
       go_simp
       with_reducible rfl
      rotate_left
      ·
       simp only [Act.put, List.setIfInBounds_toArray, List.set_cons_zero, List.set_cons_succ, i64_w, i32_w]
       rfl
      refine take_ (i := 4) (N := some 50) (v := ?_) (a' := ?_) #[true, true, false, true, true, false, false, false, false, false, false, false, false, false, false, false, false, false, false, false, false, false, false] rfl rfl (take_ofW HT_.out HW_.out (by kernel_rfl)) (fun _ _ _ h => h) (Or.inl ⟨by rfl, ?_⟩) hHeld ?_ ?_
      rotate_left
      ·
       rintro w' ⟨s0, s1, s2, s3⟩
       go_simp
       with_reducible rfl
      rotate_left
      ·
       simp only [Act.put, List.setIfInBounds_toArray, List.set_cons_zero, List.set_cons_succ, i64_w, i32_w]
       rfl
      refine one_ (i := 2) (N := some 48) #[true, true, true, true, true, false, false, false, false, false, false, false, false, false, false, false, false, false, false, false, false, false, false] rfl rfl (one_of HT_.out (by kernel_rfl)) (by decide) (fun K hK => ?_)
      refine goes_ Try.func19 (by kernel_rfl) rfl #[.agg #[.int .i64 a0_0, .int .i64 a0_1], .agg #[.int .i64 a1_0, .int .i64 a1_1]] (by rfl) rfl rfl (by (try simp only [List.map_toArray, List.map_cons, List.map_nil]); first | done | rfl | (simp only [List.length_drop, List.length_take]; rfl)) ?_
      with_reducible refine (span_Add.calls a0_0 a0_1 a1_0 a1_1 t369 t370 _ A201.out).mono ?_
      rintro e w205 ⟨rfl, hb⟩
      refine ⟨_, rfl, ?_⟩
      have n0_ := Aside0.mk (bB (g := gb355) (o := .cells #[.int .i64 a0_0, .int .i64 a0_1] 23 (0, 0)) (by (with_reducible repeat (first | refine bN ?_ _ | refine bD ?_ | refine bA ?_ _)); exact BK355.out) hb)
      have n1_ := Aside0.mk (bB (g := gb356) (o := .cells #[.int .i64 a1_0, .int .i64 a1_1] 23 (0, 0)) (by (with_reducible repeat (first | refine bN ?_ _ | refine bD ?_ | refine bA ?_ _)); exact BK356.out) hb)
      have n2_ := Aside0.mk (bB (g := gb357) (o := .cells #[.int .i64 a2_0, .int .i64 a2_1] 23 (0, 0)) (by (with_reducible repeat (first | refine bN ?_ _ | refine bD ?_ | refine bA ?_ _)); exact BK357.out) hb)
      have n3_ := Aside0.mk (bP (by repeat (first | (with_reducible first | exact HB.out | apply bL | apply bW | apply b1 | refine bS ?_ GE355.out | refine bS ?_ GE356.out | refine bS ?_ GE357.out) | exact HB.out)) hb)
      clear BK355
      clear BK356
      clear BK357
      clear HB
      have BK355 := n0_
      have BK356 := n1_
      have BK357 := n2_
      have HB := n3_
      clear n0_ n1_ n2_ n3_
      (try clear hb)
      (try clear hb2)
      (try clear hk)
      (try clear hi)
      refine hK.out _ _ ⟨(bC BK355.out 0).trans rfl, (bC BK355.out 1).trans rfl, (bC BK356.out 0).trans rfl, (bC BK356.out 1).trans rfl⟩ (fun hHeld => ?_)
      clear hK K
      refine norm_ (a' := ?_) ?_ ?_
      rotate_left
      ·
       show Act.put _ (some 48) _ = _
       simp only [Act.put, List.setIfInBounds_toArray, List.set_cons_zero, List.set_cons_succ, i64_w, i32_w]
       rfl
      refine one_ (i := 5) (N := some 51) #[true, true, true, true, true, true, false, false, false, false, false, false, false, false, false, false, false, false, false, false, false, false, false] rfl rfl (one_of HT_.out (by kernel_rfl)) (by decide) (fun K hK => ?_)
      refine goes_ Try.func19 (by kernel_rfl) rfl #[.agg #[.int .i64 a1_0, .int .i64 a1_1], .agg #[.int .i64 a0_0, .int .i64 a0_1]] (by rfl) rfl rfl (by (try simp only [List.map_toArray, List.map_cons, List.map_nil]); first | done | rfl | (simp only [List.length_drop, List.length_take]; rfl)) ?_
      with_reducible refine (span_Add.calls a1_0 a1_1 a0_0 a0_1 t371 t372 _ A202.out).mono ?_
      rintro e w206 ⟨rfl, hb⟩
      refine ⟨_, rfl, ?_⟩
      have n0_ := Aside0.mk (bB (g := gb355) (o := .cells #[.int .i64 a0_0, .int .i64 a0_1] 23 (0, 0)) (by (with_reducible repeat (first | refine bN ?_ _ | refine bD ?_ | refine bA ?_ _)); exact BK355.out) hb)
      have n1_ := Aside0.mk (bB (g := gb356) (o := .cells #[.int .i64 a1_0, .int .i64 a1_1] 23 (0, 0)) (by (with_reducible repeat (first | refine bN ?_ _ | refine bD ?_ | refine bA ?_ _)); exact BK356.out) hb)
      have n2_ := Aside0.mk (bB (g := gb357) (o := .cells #[.int .i64 a2_0, .int .i64 a2_1] 23 (0, 0)) (by (with_reducible repeat (first | refine bN ?_ _ | refine bD ?_ | refine bA ?_ _)); exact BK357.out) hb)
      have n3_ := Aside0.mk (bP (by repeat (first | (with_reducible first | exact HB.out | apply bL | apply bW | apply b1 | refine bS ?_ GE355.out | refine bS ?_ GE356.out | refine bS ?_ GE357.out) | exact HB.out)) hb)
      clear BK355
      clear BK356
      clear BK357
      clear HB
      have BK355 := n0_
      have BK356 := n1_
      have BK357 := n2_
      have HB := n3_
      clear n0_ n1_ n2_ n3_
      (try clear hb)
      (try clear hb2)
      (try clear hk)
      (try clear hi)
      refine hK.out _ _ ⟨(bC BK355.out 0).trans rfl, (bC BK355.out 1).trans rfl, (bC BK356.out 0).trans rfl, (bC BK356.out 1).trans rfl⟩ (fun hHeld => ?_)
      clear hK K
      refine norm_ (a' := ?_) ?_ ?_
      rotate_left
      ·
       show Act.put _ (some 51) _ = _
       simp only [Act.put, List.setIfInBounds_toArray, List.set_cons_zero, List.set_cons_succ, i64_w, i32_w]
       rfl
      refine pure_ (i := 6) (N := some 52) (v := ?_) (a' := ?_) #[true, true, true, true, true, true, true, false, false, false, false, false, false, false, false, false, false, false, false, false, false, false, false] rfl rfl (any_of HT_.out (by kernel_rfl)) (fun _ _ _ h => h) (Or.inl ⟨by rfl, ?_⟩) ?_ ?_
      rotate_left
      ·
       intro w'
       go_simp
       with_reducible rfl
      rotate_left
      ·
       simp only [Act.put, List.setIfInBounds_toArray, List.set_cons_zero, List.set_cons_succ, i64_w, i32_w]
       rfl
      refine pure_ (i := 7) (N := some 53) (v := ?_) (a' := ?_) #[true, true, true, true, true, true, true, true, false, false, false, false, false, false, false, false, false, false, false, false, false, false, false] rfl rfl (any_of HT_.out (by kernel_rfl)) (fun _ _ _ h => h) (Or.inl ⟨by rfl, ?_⟩) ?_ ?_
      rotate_left
      ·
       intro w'
       go_simp
       with_reducible rfl
      rotate_left
      ·
       simp only [Act.put, List.setIfInBounds_toArray, List.set_cons_zero, List.set_cons_succ, i64_w, i32_w]
       rfl
      refine pure_ (i := 8) (N := some 54) (v := undef) (a' := ?_) #[true, true, true, true, true, true, true, true, true, false, false, false, false, false, false, false, false, false, false, false, false, false, false] rfl rfl (any_of HT_.out (by kernel_rfl)) (fun _ _ _ h => h) (Or.inr ⟨by rfl, rfl⟩) ?_ ?_
      rotate_left
      ·
       simp only [Act.put, List.setIfInBounds_toArray, List.set_cons_zero, List.set_cons_succ, i64_w, i32_w]
       rfl
      refine pure_ (i := 9) (N := some 55) (v := undef) (a' := ?_) #[true, true, true, true, true, true, true, true, true, true, false, false, false, false, false, false, false, false, false, false, false, false, false] rfl rfl (any_of HT_.out (by kernel_rfl)) (fun _ _ _ h => h) (Or.inr ⟨by rfl, rfl⟩) ?_ ?_
      rotate_left
      ·
       simp only [Act.put, List.setIfInBounds_toArray, List.set_cons_zero, List.set_cons_succ, i64_w, i32_w]
       rfl
      refine pure_ (i := 10) (N := some 56) (v := undef) (a' := ?_) #[true, true, true, true, true, true, true, true, true, true, true, false, false, false, false, false, false, false, false, false, false, false, false] rfl rfl (any_of HT_.out (by kernel_rfl)) (fun _ _ _ h => h) (Or.inr ⟨by rfl, rfl⟩) ?_ ?_
      rotate_left
      ·
       simp only [Act.put, List.setIfInBounds_toArray, List.set_cons_zero, List.set_cons_succ, i64_w, i32_w]
       rfl
      refine pure_ (i := 11) (N := some 57) (v := undef) (a' := ?_) #[true, true, true, true, true, true, true, true, true, true, true, true, false, false, false, false, false, false, false, false, false, false, false] rfl rfl (any_of HT_.out (by kernel_rfl)) (fun _ _ _ h => h) (Or.inr ⟨by rfl, rfl⟩) ?_ ?_
      rotate_left
      ·
       simp only [Act.put, List.setIfInBounds_toArray, List.set_cons_zero, List.set_cons_succ, i64_w, i32_w]
       rfl
      refine pure_ (i := 12) (N := some 58) (v := undef) (a' := ?_) #[true, true, true, true, true, true, true, true, true, true, true, true, true, false, false, false, false, false, false, false, false, false, false] rfl rfl (any_of HT_.out (by kernel_rfl)) (fun _ _ _ h => h) (Or.inr ⟨by rfl, rfl⟩) ?_ ?_
      rotate_left
      ·
       simp only [Act.put, List.setIfInBounds_toArray, List.set_cons_zero, List.set_cons_succ, i64_w, i32_w]
       rfl
      refine pure_ (i := 13) (N := some 59) (v := undef) (a' := ?_) #[true, true, true, true, true, true, true, true, true, true, true, true, true, true, false, false, false, false, false, false, false, false, false] rfl rfl (any_of HT_.out (by kernel_rfl)) (fun _ _ _ h => h) (Or.inr ⟨by rfl, rfl⟩) ?_ ?_
      rotate_left
      ·
       simp only [Act.put, List.setIfInBounds_toArray, List.set_cons_zero, List.set_cons_succ, i64_w, i32_w]
       rfl
      refine pure_ (i := 14) (N := some 60) (v := undef) (a' := ?_) #[true, true, true, true, true, true, true, true, true, true, true, true, true, true, true, false, false, false, false, false, false, false, false] rfl rfl (any_of HT_.out (by kernel_rfl)) (fun _ _ _ h => h) (Or.inr ⟨by rfl, rfl⟩) ?_ ?_
      rotate_left
      ·
       simp only [Act.put, List.setIfInBounds_toArray, List.set_cons_zero, List.set_cons_succ, i64_w, i32_w]
       rfl
      refine pure_ (i := 15) (N := some 61) (v := ?_) (a' := ?_) #[true, true, true, true, true, true, true, true, true, true, true, true, true, true, true, true, false, false, false, false, false, false, false] rfl rfl (any_of HT_.out (by kernel_rfl)) (fun _ _ _ h => h) (Or.inl ⟨by rfl, ?_⟩) ?_ ?_
      rotate_left
      ·
       intro w'
       go_simp
       with_reducible rfl
      rotate_left
      ·
       simp only [Act.put, List.setIfInBounds_toArray, List.set_cons_zero, List.set_cons_succ, i64_w, i32_w]
       rfl
      refine pure_ (i := 16) (N := some 62) (v := ?_) (a' := ?_) #[true, true, true, true, true, true, true, true, true, true, true, true, true, true, true, true, true, false, false, false, false, false, false] rfl rfl (any_of HT_.out (by kernel_rfl)) (fun _ _ _ h => h) (Or.inl ⟨by rfl, ?_⟩) ?_ ?_
      rotate_left
      ·
       intro w'
       go_simp
       with_reducible rfl
      rotate_left
      ·
       simp only [Act.put, List.setIfInBounds_toArray, List.set_cons_zero, List.set_cons_succ, i64_w, i32_w]
       rfl
      refine pure_ (i := 17) (N := some 63) (v := undef) (a' := ?_) #[true, true, true, true, true, true, true, true, true, true, true, true, true, true, true, true, true, true, false, false, false, false, false] rfl rfl (any_of HT_.out (by kernel_rfl)) (fun _ _ _ h => h) (Or.inr ⟨by rfl, rfl⟩) ?_ ?_
      rotate_left
      ·
       simp only [Act.put, List.setIfInBounds_toArray, List.set_cons_zero, List.set_cons_succ, i64_w, i32_w]
       rfl
      refine pure_ (i := 18) (N := some 64) (v := undef) (a' := ?_) #[true, true, true, true, true, true, true, true, true, true, true, true, true, true, true, true, true, true, true, false, false, false, false] rfl rfl (any_of HT_.out (by kernel_rfl)) (fun _ _ _ h => h) (Or.inr ⟨by rfl, rfl⟩) ?_ ?_
      rotate_left
      ·
       simp only [Act.put, List.setIfInBounds_toArray, List.set_cons_zero, List.set_cons_succ, i64_w, i32_w]
       rfl
      refine pure_ (i := 19) (N := some 65) (v := undef) (a' := ?_) #[true, true, true, true, true, true, true, true, true, true, true, true, true, true, true, true, true, true, true, true, false, false, false] rfl rfl (any_of HT_.out (by kernel_rfl)) (fun _ _ _ h => h) (Or.inr ⟨by rfl, rfl⟩) ?_ ?_
      rotate_left
      ·
       simp only [Act.put, List.setIfInBounds_toArray, List.set_cons_zero, List.set_cons_succ, i64_w, i32_w]
       rfl
      refine pure_ (i := 20) (N := some 66) (v := undef) (a' := ?_) #[true, true, true, true, true, true, true, true, true, true, true, true, true, true, true, true, true, true, true, true, true, false, false] rfl rfl (any_of HT_.out (by kernel_rfl)) (fun _ _ _ h => h) (Or.inr ⟨by rfl, rfl⟩) ?_ ?_
      rotate_left
      ·
       simp only [Act.put, List.setIfInBounds_toArray, List.set_cons_zero, List.set_cons_succ, i64_w, i32_w]
       rfl
      refine pure_ (i := 21) (N := some 67) (v := undef) (a' := ?_) #[true, true, true, true, true, true, true, true, true, true, true, true, true, true, true, true, true, true, true, true, true, true, false] rfl rfl (any_of HT_.out (by kernel_rfl)) (fun _ _ _ h => h) (Or.inr ⟨by rfl, rfl⟩) ?_ ?_
      rotate_left
      ·
       simp only [Act.put, List.setIfInBounds_toArray, List.set_cons_zero, List.set_cons_succ, i64_w, i32_w]
       rfl
      refine pure_ (i := 22) (N := some 68) (v := ?_) (a' := ?_) #[true, true, true, true, true, true, true, true, true, true, true, true, true, true, true, true, true, true, true, true, true, true, true] rfl rfl (any_of HT_.out (by kernel_rfl)) (fun _ _ _ h => h) (Or.inl ⟨by rfl, ?_⟩) ?_ ?_
      rotate_left
      ·
       intro w'
       go_simp
       with_reducible rfl
      rotate_left
      ·
       simp only [Act.put, List.setIfInBounds_toArray, List.set_cons_zero, List.set_cons_succ, i64_w, i32_w]
       rfl
      refine done_ (done_of HT_.out (by kernel_rfl)) ?_
      try go_wp2
      go_meet
      case rel => exact ⟨_, (true), (by first | rfl | (simp; done) | (simp [*]; done)), H', ⟨by have := HJ5.out; first | omega | exact Nat.le_refl _⟩, ⟨by (with_reducible repeat (first | refine bN ?_ _ | refine bD ?_ | refine bA ?_ _)); exact BK355.out⟩, ⟨by (with_reducible repeat (first | refine bN ?_ _ | refine bD ?_ | refine bA ?_ _)); exact BK356.out⟩, ⟨by (with_reducible repeat (first | refine bN ?_ _ | refine bD ?_ | refine bA ?_ _)); exact BK357.out⟩, ⟨by repeat (first | (with_reducible first | exact HB.out | apply bL | apply bW | apply b1 | refine bS ?_ GE355.out | refine bS ?_ GE356.out | refine bS ?_ GE357.out) | exact HB.out)⟩⟩
     ·
      rw [if_neg c203] at H
      have c203b0 : (!(t369 == t371) || (!(t370 == t372))) = false := by simpa using c203
      clear c203
      (first | rw [c203b0] | (simp only [i64_w, i32_w]; rw [c203b0]) | skip)
      replace H := Option.bind_eq_some_iff.mp H
      obtain ⟨⟨t373, t374⟩, A2070, H⟩ := H
      dsimp only at H
      have A207 := Aside0.mk A2070
      clear A2070
      replace H := Option.bind_eq_some_iff.mp H
      obtain ⟨⟨t375, t376⟩, A2080, H⟩ := H
      dsimp only at H
      have A208 := Aside0.mk A2080
      clear A2080
      by_cases c209 : (!(t373 == t375) || (!(t374 == t376))) = true
      ·
       rw [if_pos c209] at H
       have c209b0 : (!(t373 == t375) || (!(t374 == t376))) = true := c209
       clear c209
       have H' := Aside0.mk H
       clear H
       try go_wp2
       have n0_ := Aside0.mk (bD BK355.out)
       have n1_ := Aside0.mk (bD BK356.out)
       have n2_ := Aside0.mk (bD BK357.out)
       have n3_ := Aside0.mk (b1 HB.out)
       clear BK355
       clear BK356
       clear BK357
       clear HB
       have BK355 := n0_
       have BK356 := n1_
       have BK357 := n2_
       have HB := n3_
       clear n0_ n1_ n2_ n3_
       refine start_ (n := 23) (S := fun w' => w'.cell? ⟨gb355, 0, none⟩ = some (.int .i64 a0_0) ∧ w'.cell? ⟨gb355, 1, none⟩ = some (.int .i64 a0_1) ∧ w'.cell? ⟨gb356, 0, none⟩ = some (.int .i64 a1_0) ∧ w'.cell? ⟨gb356, 1, none⟩ = some (.int .i64 a1_1)) (ds := []) #[false, false, false, false, false, false, false, false, false, false, false, false, false, false, false, false, false, false, false, false, false, false, false] (by kernel_rfl) rfl rfl ⟨(bC BK355.out 0).trans rfl, (bC BK355.out 1).trans rfl, (bC BK356.out 0).trans rfl, (bC BK356.out 1).trans rfl⟩ (fun hHeld => ?_); refine with_tabW bournelaw09_SpanOrders.tab4 bournelaw09_SpanOrders.bits4 (fun HT_ HW_ => ?_)
       generalize wc.drew = w210 at BK355 BK356 BK357 HB hHeld ⊢
       refine take_ (i := 0) (N := some 46) (v := ?_) (a' := ?_) #[true, false, false, false, false, false, false, false, false, false, false, false, false, false, false, false, false, false, false, false, false, false, false] rfl rfl (take_ofW HT_.out HW_.out (by kernel_rfl)) (fun _ _ _ h => h) (Or.inl ⟨by rfl, ?_⟩) hHeld ?_ ?_
       rotate_left
       ·
        rintro w' ⟨s0, s1, s2, s3⟩
        go_simp
        with_reducible rfl
       rotate_left
       ·
        simp only [Act.put, List.setIfInBounds_toArray, List.set_cons_zero, List.set_cons_succ, i64_w, i32_w]
        rfl
       refine take_ (i := 1) (N := some 47) (v := ?_) (a' := ?_) #[true, true, false, false, false, false, false, false, false, false, false, false, false, false, false, false, false, false, false, false, false, false, false] rfl rfl (take_ofW HT_.out HW_.out (by kernel_rfl)) (fun _ _ _ h => h) (Or.inl ⟨by rfl, ?_⟩) hHeld ?_ ?_
       rotate_left
       ·
        rintro w' ⟨s0, s1, s2, s3⟩
        go_simp
        with_reducible rfl
       rotate_left
       ·
        simp only [Act.put, List.setIfInBounds_toArray, List.set_cons_zero, List.set_cons_succ, i64_w, i32_w]
        rfl
       refine take_ (i := 3) (N := some 49) (v := ?_) (a' := ?_) #[true, true, false, true, false, false, false, false, false, false, false, false, false, false, false, false, false, false, false, false, false, false, false] rfl rfl (take_ofW HT_.out HW_.out (by kernel_rfl)) (fun _ _ _ h => h) (Or.inl ⟨by rfl, ?_⟩) hHeld ?_ ?_
       rotate_left
       ·
        rintro w' ⟨s0, s1, s2, s3⟩
        go_simp
        with_reducible rfl
       rotate_left
       ·
        simp only [Act.put, List.setIfInBounds_toArray, List.set_cons_zero, List.set_cons_succ, i64_w, i32_w]
        rfl
       refine take_ (i := 4) (N := some 50) (v := ?_) (a' := ?_) #[true, true, false, true, true, false, false, false, false, false, false, false, false, false, false, false, false, false, false, false, false, false, false] rfl rfl (take_ofW HT_.out HW_.out (by kernel_rfl)) (fun _ _ _ h => h) (Or.inl ⟨by rfl, ?_⟩) hHeld ?_ ?_
       rotate_left
       ·
        rintro w' ⟨s0, s1, s2, s3⟩
        go_simp
        with_reducible rfl
       rotate_left
       ·
        simp only [Act.put, List.setIfInBounds_toArray, List.set_cons_zero, List.set_cons_succ, i64_w, i32_w]
        rfl
       refine one_ (i := 2) (N := some 48) #[true, true, true, true, true, false, false, false, false, false, false, false, false, false, false, false, false, false, false, false, false, false, false] rfl rfl (one_of HT_.out (by kernel_rfl)) (by decide) (fun K hK => ?_)
       refine goes_ Try.func19 (by kernel_rfl) rfl #[.agg #[.int .i64 a0_0, .int .i64 a0_1], .agg #[.int .i64 a1_0, .int .i64 a1_1]] (by rfl) rfl rfl (by (try simp only [List.map_toArray, List.map_cons, List.map_nil]); first | done | rfl | (simp only [List.length_drop, List.length_take]; rfl)) ?_
       with_reducible refine (span_Add.calls a0_0 a0_1 a1_0 a1_1 t369 t370 _ A201.out).mono ?_
       rintro e w211 ⟨rfl, hb⟩
       refine ⟨_, rfl, ?_⟩
       have n0_ := Aside0.mk (bB (g := gb355) (o := .cells #[.int .i64 a0_0, .int .i64 a0_1] 23 (0, 0)) (by (with_reducible repeat (first | refine bN ?_ _ | refine bD ?_ | refine bA ?_ _)); exact BK355.out) hb)
       have n1_ := Aside0.mk (bB (g := gb356) (o := .cells #[.int .i64 a1_0, .int .i64 a1_1] 23 (0, 0)) (by (with_reducible repeat (first | refine bN ?_ _ | refine bD ?_ | refine bA ?_ _)); exact BK356.out) hb)
       have n2_ := Aside0.mk (bB (g := gb357) (o := .cells #[.int .i64 a2_0, .int .i64 a2_1] 23 (0, 0)) (by (with_reducible repeat (first | refine bN ?_ _ | refine bD ?_ | refine bA ?_ _)); exact BK357.out) hb)
       have n3_ := Aside0.mk (bP (by repeat (first | (with_reducible first | exact HB.out | apply bL | apply bW | apply b1 | refine bS ?_ GE355.out | refine bS ?_ GE356.out | refine bS ?_ GE357.out) | exact HB.out)) hb)
       clear BK355
       clear BK356
       clear BK357
       clear HB
       have BK355 := n0_
       have BK356 := n1_
       have BK357 := n2_
       have HB := n3_
       clear n0_ n1_ n2_ n3_
       (try clear hb)
       (try clear hb2)
       (try clear hk)
       (try clear hi)
       refine hK.out _ _ ⟨(bC BK355.out 0).trans rfl, (bC BK355.out 1).trans rfl, (bC BK356.out 0).trans rfl, (bC BK356.out 1).trans rfl⟩ (fun hHeld => ?_)
       clear hK K
       refine norm_ (a' := ?_) ?_ ?_
       rotate_left
       ·
        show Act.put _ (some 48) _ = _
        simp only [Act.put, List.setIfInBounds_toArray, List.set_cons_zero, List.set_cons_succ, i64_w, i32_w]
        rfl
       refine one_ (i := 5) (N := some 51) #[true, true, true, true, true, true, false, false, false, false, false, false, false, false, false, false, false, false, false, false, false, false, false] rfl rfl (one_of HT_.out (by kernel_rfl)) (by decide) (fun K hK => ?_)
       refine goes_ Try.func19 (by kernel_rfl) rfl #[.agg #[.int .i64 a1_0, .int .i64 a1_1], .agg #[.int .i64 a0_0, .int .i64 a0_1]] (by rfl) rfl rfl (by (try simp only [List.map_toArray, List.map_cons, List.map_nil]); first | done | rfl | (simp only [List.length_drop, List.length_take]; rfl)) ?_
       with_reducible refine (span_Add.calls a1_0 a1_1 a0_0 a0_1 t371 t372 _ A202.out).mono ?_
       rintro e w212 ⟨rfl, hb⟩
       refine ⟨_, rfl, ?_⟩
       have n0_ := Aside0.mk (bB (g := gb355) (o := .cells #[.int .i64 a0_0, .int .i64 a0_1] 23 (0, 0)) (by (with_reducible repeat (first | refine bN ?_ _ | refine bD ?_ | refine bA ?_ _)); exact BK355.out) hb)
       have n1_ := Aside0.mk (bB (g := gb356) (o := .cells #[.int .i64 a1_0, .int .i64 a1_1] 23 (0, 0)) (by (with_reducible repeat (first | refine bN ?_ _ | refine bD ?_ | refine bA ?_ _)); exact BK356.out) hb)
       have n2_ := Aside0.mk (bB (g := gb357) (o := .cells #[.int .i64 a2_0, .int .i64 a2_1] 23 (0, 0)) (by (with_reducible repeat (first | refine bN ?_ _ | refine bD ?_ | refine bA ?_ _)); exact BK357.out) hb)
       have n3_ := Aside0.mk (bP (by repeat (first | (with_reducible first | exact HB.out | apply bL | apply bW | apply b1 | refine bS ?_ GE355.out | refine bS ?_ GE356.out | refine bS ?_ GE357.out) | exact HB.out)) hb)
       clear BK355
       clear BK356
       clear BK357
       clear HB
       have BK355 := n0_
       have BK356 := n1_
       have BK357 := n2_
       have HB := n3_
       clear n0_ n1_ n2_ n3_
       (try clear hb)
       (try clear hb2)
       (try clear hk)
       (try clear hi)
       refine hK.out _ _ ⟨(bC BK355.out 0).trans rfl, (bC BK355.out 1).trans rfl, (bC BK356.out 0).trans rfl, (bC BK356.out 1).trans rfl⟩ (fun hHeld => ?_)
       clear hK K
       refine norm_ (a' := ?_) ?_ ?_
       rotate_left
       ·
        show Act.put _ (some 51) _ = _
        simp only [Act.put, List.setIfInBounds_toArray, List.set_cons_zero, List.set_cons_succ, i64_w, i32_w]
        rfl
       refine pure_ (i := 6) (N := some 52) (v := ?_) (a' := ?_) #[true, true, true, true, true, true, true, false, false, false, false, false, false, false, false, false, false, false, false, false, false, false, false] rfl rfl (any_of HT_.out (by kernel_rfl)) (fun _ _ _ h => h) (Or.inl ⟨by rfl, ?_⟩) ?_ ?_
       rotate_left
       ·
        intro w'
        go_simp
        with_reducible rfl
       rotate_left
       ·
        simp only [Act.put, List.setIfInBounds_toArray, List.set_cons_zero, List.set_cons_succ, i64_w, i32_w]
        rfl
       refine pure_ (i := 7) (N := some 53) (v := ?_) (a' := ?_) #[true, true, true, true, true, true, true, true, false, false, false, false, false, false, false, false, false, false, false, false, false, false, false] rfl rfl (any_of HT_.out (by kernel_rfl)) (fun _ _ _ h => h) (Or.inl ⟨by rfl, ?_⟩) ?_ ?_
       rotate_left
       ·
        intro w'
        go_simp
        with_reducible rfl
       rotate_left
       ·
        simp only [Act.put, List.setIfInBounds_toArray, List.set_cons_zero, List.set_cons_succ, i64_w, i32_w]
        rfl
       refine take_ (i := 8) (N := some 54) (v := ?_) (a' := ?_) #[true, true, true, true, true, true, true, true, true, false, false, false, false, false, false, false, false, false, false, false, false, false, false] rfl rfl (take_ofW HT_.out HW_.out (by kernel_rfl)) (fun _ _ _ h => h) (Or.inl ⟨by rfl, ?_⟩) hHeld ?_ ?_
       rotate_left
       ·
        rintro w' ⟨s0, s1, s2, s3⟩
        go_simp
        with_reducible rfl
       rotate_left
       ·
        simp only [Act.put, List.setIfInBounds_toArray, List.set_cons_zero, List.set_cons_succ, i64_w, i32_w]
        rfl
       refine take_ (i := 9) (N := some 55) (v := ?_) (a' := ?_) #[true, true, true, true, true, true, true, true, true, true, false, false, false, false, false, false, false, false, false, false, false, false, false] rfl rfl (take_ofW HT_.out HW_.out (by kernel_rfl)) (fun _ _ _ h => h) (Or.inl ⟨by rfl, ?_⟩) hHeld ?_ ?_
       rotate_left
       ·
        rintro w' ⟨s0, s1, s2, s3⟩
        go_simp
        with_reducible rfl
       rotate_left
       ·
        simp only [Act.put, List.setIfInBounds_toArray, List.set_cons_zero, List.set_cons_succ, i64_w, i32_w]
        rfl
       refine take_ (i := 11) (N := some 57) (v := ?_) (a' := ?_) #[true, true, true, true, true, true, true, true, true, true, false, true, false, false, false, false, false, false, false, false, false, false, false] rfl rfl (take_ofW HT_.out HW_.out (by kernel_rfl)) (fun _ _ _ h => h) (Or.inl ⟨by rfl, ?_⟩) hHeld ?_ ?_
       rotate_left
       ·
        rintro w' ⟨s0, s1, s2, s3⟩
        go_simp
        with_reducible rfl
       rotate_left
       ·
        simp only [Act.put, List.setIfInBounds_toArray, List.set_cons_zero, List.set_cons_succ, i64_w, i32_w]
        rfl
       refine take_ (i := 12) (N := some 58) (v := ?_) (a' := ?_) #[true, true, true, true, true, true, true, true, true, true, false, true, true, false, false, false, false, false, false, false, false, false, false] rfl rfl (take_ofW HT_.out HW_.out (by kernel_rfl)) (fun _ _ _ h => h) (Or.inl ⟨by rfl, ?_⟩) hHeld ?_ ?_
       rotate_left
       ·
        rintro w' ⟨s0, s1, s2, s3⟩
        go_simp
        with_reducible rfl
       rotate_left
       ·
        simp only [Act.put, List.setIfInBounds_toArray, List.set_cons_zero, List.set_cons_succ, i64_w, i32_w]
        rfl
       refine one_ (i := 10) (N := some 56) #[true, true, true, true, true, true, true, true, true, true, true, true, true, false, false, false, false, false, false, false, false, false, false] rfl rfl (one_of HT_.out (by kernel_rfl)) (by decide) (fun K hK => ?_)
       refine goes_ Try.func23 (by kernel_rfl) rfl #[.agg #[.int .i64 a0_0, .int .i64 a0_1], .agg #[.int .i64 a1_0, .int .i64 a1_1]] (by rfl) rfl rfl (by (try simp only [List.map_toArray, List.map_cons, List.map_nil]); first | done | rfl | (simp only [List.length_drop, List.length_take]; rfl)) ?_
       with_reducible refine (span_Join.calls a0_0 a0_1 a1_0 a1_1 t373 t374 _ A207.out).mono ?_
       rintro e w213 ⟨rfl, hb⟩
       refine ⟨_, rfl, ?_⟩
       have n0_ := Aside0.mk (bB (g := gb355) (o := .cells #[.int .i64 a0_0, .int .i64 a0_1] 23 (0, 0)) (by (with_reducible repeat (first | refine bN ?_ _ | refine bD ?_ | refine bA ?_ _)); exact BK355.out) hb)
       have n1_ := Aside0.mk (bB (g := gb356) (o := .cells #[.int .i64 a1_0, .int .i64 a1_1] 23 (0, 0)) (by (with_reducible repeat (first | refine bN ?_ _ | refine bD ?_ | refine bA ?_ _)); exact BK356.out) hb)
       have n2_ := Aside0.mk (bB (g := gb357) (o := .cells #[.int .i64 a2_0, .int .i64 a2_1] 23 (0, 0)) (by (with_reducible repeat (first | refine bN ?_ _ | refine bD ?_ | refine bA ?_ _)); exact BK357.out) hb)
       have n3_ := Aside0.mk (bP (by repeat (first | (with_reducible first | exact HB.out | apply bL | apply bW | apply b1 | refine bS ?_ GE355.out | refine bS ?_ GE356.out | refine bS ?_ GE357.out) | exact HB.out)) hb)
       clear BK355
       clear BK356
       clear BK357
       clear HB
       have BK355 := n0_
       have BK356 := n1_
       have BK357 := n2_
       have HB := n3_
       clear n0_ n1_ n2_ n3_
       (try clear hb)
       (try clear hb2)
       (try clear hk)
       (try clear hi)
       refine hK.out _ _ ⟨(bC BK355.out 0).trans rfl, (bC BK355.out 1).trans rfl, (bC BK356.out 0).trans rfl, (bC BK356.out 1).trans rfl⟩ (fun hHeld => ?_)
       clear hK K
       refine norm_ (a' := ?_) ?_ ?_
       rotate_left
       ·
        show Act.put _ (some 56) _ = _
        simp only [Act.put, List.setIfInBounds_toArray, List.set_cons_zero, List.set_cons_succ, i64_w, i32_w]
        rfl
       refine one_ (i := 13) (N := some 59) #[true, true, true, true, true, true, true, true, true, true, true, true, true, true, false, false, false, false, false, false, false, false, false] rfl rfl (one_of HT_.out (by kernel_rfl)) (by decide) (fun K hK => ?_)
       refine goes_ Try.func23 (by kernel_rfl) rfl #[.agg #[.int .i64 a1_0, .int .i64 a1_1], .agg #[.int .i64 a0_0, .int .i64 a0_1]] (by rfl) rfl rfl (by (try simp only [List.map_toArray, List.map_cons, List.map_nil]); first | done | rfl | (simp only [List.length_drop, List.length_take]; rfl)) ?_
       with_reducible refine (span_Join.calls a1_0 a1_1 a0_0 a0_1 t375 t376 _ A208.out).mono ?_
       rintro e w214 ⟨rfl, hb⟩
       refine ⟨_, rfl, ?_⟩
       have n0_ := Aside0.mk (bB (g := gb355) (o := .cells #[.int .i64 a0_0, .int .i64 a0_1] 23 (0, 0)) (by (with_reducible repeat (first | refine bN ?_ _ | refine bD ?_ | refine bA ?_ _)); exact BK355.out) hb)
       have n1_ := Aside0.mk (bB (g := gb356) (o := .cells #[.int .i64 a1_0, .int .i64 a1_1] 23 (0, 0)) (by (with_reducible repeat (first | refine bN ?_ _ | refine bD ?_ | refine bA ?_ _)); exact BK356.out) hb)
       have n2_ := Aside0.mk (bB (g := gb357) (o := .cells #[.int .i64 a2_0, .int .i64 a2_1] 23 (0, 0)) (by (with_reducible repeat (first | refine bN ?_ _ | refine bD ?_ | refine bA ?_ _)); exact BK357.out) hb)
       have n3_ := Aside0.mk (bP (by repeat (first | (with_reducible first | exact HB.out | apply bL | apply bW | apply b1 | refine bS ?_ GE355.out | refine bS ?_ GE356.out | refine bS ?_ GE357.out) | exact HB.out)) hb)
       clear BK355
       clear BK356
       clear BK357
       clear HB
       have BK355 := n0_
       have BK356 := n1_
       have BK357 := n2_
       have HB := n3_
       clear n0_ n1_ n2_ n3_
       (try clear hb)
       (try clear hb2)
       (try clear hk)
       (try clear hi)
       refine hK.out _ _ ⟨(bC BK355.out 0).trans rfl, (bC BK355.out 1).trans rfl, (bC BK356.out 0).trans rfl, (bC BK356.out 1).trans rfl⟩ (fun hHeld => ?_)
       clear hK K
       refine norm_ (a' := ?_) ?_ ?_
       rotate_left
       ·
        show Act.put _ (some 59) _ = _
        simp only [Act.put, List.setIfInBounds_toArray, List.set_cons_zero, List.set_cons_succ, i64_w, i32_w]
        rfl
       refine pure_ (i := 14) (N := some 60) (v := ?_) (a' := ?_) #[true, true, true, true, true, true, true, true, true, true, true, true, true, true, true, false, false, false, false, false, false, false, false] rfl rfl (any_of HT_.out (by kernel_rfl)) (fun _ _ _ h => h) (Or.inl ⟨by rfl, ?_⟩) ?_ ?_
       rotate_left
       ·
        intro w'
        go_simp
        with_reducible rfl
       rotate_left
       ·
        simp only [Act.put, List.setIfInBounds_toArray, List.set_cons_zero, List.set_cons_succ, i64_w, i32_w]
        rfl
       refine pure_ (i := 15) (N := some 61) (v := ?_) (a' := ?_) #[true, true, true, true, true, true, true, true, true, true, true, true, true, true, true, true, false, false, false, false, false, false, false] rfl rfl (any_of HT_.out (by kernel_rfl)) (fun _ _ _ h => h) (Or.inl ⟨by rfl, ?_⟩) ?_ ?_
       rotate_left
       ·
        intro w'
        go_simp
        with_reducible rfl
       rotate_left
       ·
        simp only [Act.put, List.setIfInBounds_toArray, List.set_cons_zero, List.set_cons_succ, i64_w, i32_w]
        rfl
       refine pure_ (i := 16) (N := some 62) (v := ?_) (a' := ?_) #[true, true, true, true, true, true, true, true, true, true, true, true, true, true, true, true, true, false, false, false, false, false, false] rfl rfl (any_of HT_.out (by kernel_rfl)) (fun _ _ _ h => h) (Or.inl ⟨by rfl, ?_⟩) ?_ ?_
       rotate_left
       ·
        intro w'
        go_simp
        with_reducible rfl
       rotate_left
       ·
        simp only [Act.put, List.setIfInBounds_toArray, List.set_cons_zero, List.set_cons_succ, i64_w, i32_w]
        rfl
       refine pure_ (i := 17) (N := some 63) (v := undef) (a' := ?_) #[true, true, true, true, true, true, true, true, true, true, true, true, true, true, true, true, true, true, false, false, false, false, false] rfl rfl (any_of HT_.out (by kernel_rfl)) (fun _ _ _ h => h) (Or.inr ⟨by rfl, rfl⟩) ?_ ?_
       rotate_left
       ·
        simp only [Act.put, List.setIfInBounds_toArray, List.set_cons_zero, List.set_cons_succ, i64_w, i32_w]
        rfl
       refine pure_ (i := 18) (N := some 64) (v := undef) (a' := ?_) #[true, true, true, true, true, true, true, true, true, true, true, true, true, true, true, true, true, true, true, false, false, false, false] rfl rfl (any_of HT_.out (by kernel_rfl)) (fun _ _ _ h => h) (Or.inr ⟨by rfl, rfl⟩) ?_ ?_
       rotate_left
       ·
        simp only [Act.put, List.setIfInBounds_toArray, List.set_cons_zero, List.set_cons_succ, i64_w, i32_w]
        rfl
       refine pure_ (i := 19) (N := some 65) (v := undef) (a' := ?_) #[true, true, true, true, true, true, true, true, true, true, true, true, true, true, true, true, true, true, true, true, false, false, false] rfl rfl (any_of HT_.out (by kernel_rfl)) (fun _ _ _ h => h) (Or.inr ⟨by rfl, rfl⟩) ?_ ?_
       rotate_left
       ·
        simp only [Act.put, List.setIfInBounds_toArray, List.set_cons_zero, List.set_cons_succ, i64_w, i32_w]
        rfl
       refine pure_ (i := 20) (N := some 66) (v := undef) (a' := ?_) #[true, true, true, true, true, true, true, true, true, true, true, true, true, true, true, true, true, true, true, true, true, false, false] rfl rfl (any_of HT_.out (by kernel_rfl)) (fun _ _ _ h => h) (Or.inr ⟨by rfl, rfl⟩) ?_ ?_
       rotate_left
       ·
        simp only [Act.put, List.setIfInBounds_toArray, List.set_cons_zero, List.set_cons_succ, i64_w, i32_w]
        rfl
       refine pure_ (i := 21) (N := some 67) (v := undef) (a' := ?_) #[true, true, true, true, true, true, true, true, true, true, true, true, true, true, true, true, true, true, true, true, true, true, false] rfl rfl (any_of HT_.out (by kernel_rfl)) (fun _ _ _ h => h) (Or.inr ⟨by rfl, rfl⟩) ?_ ?_
       rotate_left
       ·
        simp only [Act.put, List.setIfInBounds_toArray, List.set_cons_zero, List.set_cons_succ, i64_w, i32_w]
        rfl
       refine pure_ (i := 22) (N := some 68) (v := ?_) (a' := ?_) #[true, true, true, true, true, true, true, true, true, true, true, true, true, true, true, true, true, true, true, true, true, true, true] rfl rfl (any_of HT_.out (by kernel_rfl)) (fun _ _ _ h => h) (Or.inl ⟨by rfl, ?_⟩) ?_ ?_
       rotate_left
       ·
        intro w'
        go_simp
        with_reducible rfl
       rotate_left
       ·
        simp only [Act.put, List.setIfInBounds_toArray, List.set_cons_zero, List.set_cons_succ, i64_w, i32_w]
        rfl
       refine done_ (done_of HT_.out (by kernel_rfl)) ?_
       try go_wp2
       go_meet
       case rel => exact ⟨_, (true), (by first | rfl | (simp; done) | (simp [*]; done)), H', ⟨by have := HJ5.out; first | omega | exact Nat.le_refl _⟩, ⟨by (with_reducible repeat (first | refine bN ?_ _ | refine bD ?_ | refine bA ?_ _)); exact BK355.out⟩, ⟨by (with_reducible repeat (first | refine bN ?_ _ | refine bD ?_ | refine bA ?_ _)); exact BK356.out⟩, ⟨by (with_reducible repeat (first | refine bN ?_ _ | refine bD ?_ | refine bA ?_ _)); exact BK357.out⟩, ⟨by repeat (first | (with_reducible first | exact HB.out | apply bL | apply bW | apply b1 | refine bS ?_ GE355.out | refine bS ?_ GE356.out | refine bS ?_ GE357.out) | exact HB.out)⟩⟩
      ·
       rw [if_neg c209] at H
       have c209b0 : (!(t373 == t375) || (!(t374 == t376))) = false := by simpa using c209
       clear c209
       replace H := Option.bind_eq_some_iff.mp H
       obtain ⟨⟨t377, t378⟩, A2150, H⟩ := H
       dsimp only at H
       have A215 := Aside0.mk A2150
       clear A2150
       have H' := Aside0.mk H
       clear H
       try go_wp2
       have n0_ := Aside0.mk (bD BK355.out)
       have n1_ := Aside0.mk (bD BK356.out)
       have n2_ := Aside0.mk (bD BK357.out)
       have n3_ := Aside0.mk (b1 HB.out)
       clear BK355
       clear BK356
       clear BK357
       clear HB
       have BK355 := n0_
       have BK356 := n1_
       have BK357 := n2_
       have HB := n3_
       clear n0_ n1_ n2_ n3_
       refine start_ (n := 23) (S := fun w' => w'.cell? ⟨gb355, 0, none⟩ = some (.int .i64 a0_0) ∧ w'.cell? ⟨gb355, 1, none⟩ = some (.int .i64 a0_1) ∧ w'.cell? ⟨gb356, 0, none⟩ = some (.int .i64 a1_0) ∧ w'.cell? ⟨gb356, 1, none⟩ = some (.int .i64 a1_1)) (ds := []) #[false, false, false, false, false, false, false, false, false, false, false, false, false, false, false, false, false, false, false, false, false, false, false] (by kernel_rfl) rfl rfl ⟨(bC BK355.out 0).trans rfl, (bC BK355.out 1).trans rfl, (bC BK356.out 0).trans rfl, (bC BK356.out 1).trans rfl⟩ (fun hHeld => ?_); refine with_tabW bournelaw09_SpanOrders.tab4 bournelaw09_SpanOrders.bits4 (fun HT_ HW_ => ?_)
       generalize wc.drew = w216 at BK355 BK356 BK357 HB hHeld ⊢
       refine take_ (i := 0) (N := some 46) (v := ?_) (a' := ?_) #[true, false, false, false, false, false, false, false, false, false, false, false, false, false, false, false, false, false, false, false, false, false, false] rfl rfl (take_ofW HT_.out HW_.out (by kernel_rfl)) (fun _ _ _ h => h) (Or.inl ⟨by rfl, ?_⟩) hHeld ?_ ?_
       rotate_left
       ·
        rintro w' ⟨s0, s1, s2, s3⟩
        go_simp
        with_reducible rfl
       rotate_left
       ·
        simp only [Act.put, List.setIfInBounds_toArray, List.set_cons_zero, List.set_cons_succ, i64_w, i32_w]
        rfl
       refine take_ (i := 1) (N := some 47) (v := ?_) (a' := ?_) #[true, true, false, false, false, false, false, false, false, false, false, false, false, false, false, false, false, false, false, false, false, false, false] rfl rfl (take_ofW HT_.out HW_.out (by kernel_rfl)) (fun _ _ _ h => h) (Or.inl ⟨by rfl, ?_⟩) hHeld ?_ ?_
       rotate_left
       ·
        rintro w' ⟨s0, s1, s2, s3⟩
        go_simp
        with_reducible rfl
       rotate_left
       ·
        simp only [Act.put, List.setIfInBounds_toArray, List.set_cons_zero, List.set_cons_succ, i64_w, i32_w]
        rfl
       refine take_ (i := 3) (N := some 49) (v := ?_) (a' := ?_) #[true, true, false, true, false, false, false, false, false, false, false, false, false, false, false, false, false, false, false, false, false, false, false] rfl rfl (take_ofW HT_.out HW_.out (by kernel_rfl)) (fun _ _ _ h => h) (Or.inl ⟨by rfl, ?_⟩) hHeld ?_ ?_
       rotate_left
       ·
        rintro w' ⟨s0, s1, s2, s3⟩
        go_simp
        with_reducible rfl
       rotate_left
       ·
        simp only [Act.put, List.setIfInBounds_toArray, List.set_cons_zero, List.set_cons_succ, i64_w, i32_w]
        rfl
       refine take_ (i := 4) (N := some 50) (v := ?_) (a' := ?_) #[true, true, false, true, true, false, false, false, false, false, false, false, false, false, false, false, false, false, false, false, false, false, false] rfl rfl (take_ofW HT_.out HW_.out (by kernel_rfl)) (fun _ _ _ h => h) (Or.inl ⟨by rfl, ?_⟩) hHeld ?_ ?_
       rotate_left
       ·
        rintro w' ⟨s0, s1, s2, s3⟩
        go_simp
        with_reducible rfl
       rotate_left
       ·
        simp only [Act.put, List.setIfInBounds_toArray, List.set_cons_zero, List.set_cons_succ, i64_w, i32_w]
        rfl
       refine one_ (i := 2) (N := some 48) #[true, true, true, true, true, false, false, false, false, false, false, false, false, false, false, false, false, false, false, false, false, false, false] rfl rfl (one_of HT_.out (by kernel_rfl)) (by decide) (fun K hK => ?_)
       refine goes_ Try.func19 (by kernel_rfl) rfl #[.agg #[.int .i64 a0_0, .int .i64 a0_1], .agg #[.int .i64 a1_0, .int .i64 a1_1]] (by rfl) rfl rfl (by (try simp only [List.map_toArray, List.map_cons, List.map_nil]); first | done | rfl | (simp only [List.length_drop, List.length_take]; rfl)) ?_
       with_reducible refine (span_Add.calls a0_0 a0_1 a1_0 a1_1 t369 t370 _ A201.out).mono ?_
       rintro e w217 ⟨rfl, hb⟩
       refine ⟨_, rfl, ?_⟩
       have n0_ := Aside0.mk (bB (g := gb355) (o := .cells #[.int .i64 a0_0, .int .i64 a0_1] 23 (0, 0)) (by (with_reducible repeat (first | refine bN ?_ _ | refine bD ?_ | refine bA ?_ _)); exact BK355.out) hb)
       have n1_ := Aside0.mk (bB (g := gb356) (o := .cells #[.int .i64 a1_0, .int .i64 a1_1] 23 (0, 0)) (by (with_reducible repeat (first | refine bN ?_ _ | refine bD ?_ | refine bA ?_ _)); exact BK356.out) hb)
       have n2_ := Aside0.mk (bB (g := gb357) (o := .cells #[.int .i64 a2_0, .int .i64 a2_1] 23 (0, 0)) (by (with_reducible repeat (first | refine bN ?_ _ | refine bD ?_ | refine bA ?_ _)); exact BK357.out) hb)
       have n3_ := Aside0.mk (bP (by repeat (first | (with_reducible first | exact HB.out | apply bL | apply bW | apply b1 | refine bS ?_ GE355.out | refine bS ?_ GE356.out | refine bS ?_ GE357.out) | exact HB.out)) hb)
       clear BK355
       clear BK356
       clear BK357
       clear HB
       have BK355 := n0_
       have BK356 := n1_
       have BK357 := n2_
       have HB := n3_
       clear n0_ n1_ n2_ n3_
       (try clear hb)
       (try clear hb2)
       (try clear hk)
       (try clear hi)
       refine hK.out _ _ ⟨(bC BK355.out 0).trans rfl, (bC BK355.out 1).trans rfl, (bC BK356.out 0).trans rfl, (bC BK356.out 1).trans rfl⟩ (fun hHeld => ?_)
       clear hK K
       refine norm_ (a' := ?_) ?_ ?_
       rotate_left
       ·
        show Act.put _ (some 48) _ = _
        simp only [Act.put, List.setIfInBounds_toArray, List.set_cons_zero, List.set_cons_succ, i64_w, i32_w]
        rfl
       refine one_ (i := 5) (N := some 51) #[true, true, true, true, true, true, false, false, false, false, false, false, false, false, false, false, false, false, false, false, false, false, false] rfl rfl (one_of HT_.out (by kernel_rfl)) (by decide) (fun K hK => ?_)
       refine goes_ Try.func19 (by kernel_rfl) rfl #[.agg #[.int .i64 a1_0, .int .i64 a1_1], .agg #[.int .i64 a0_0, .int .i64 a0_1]] (by rfl) rfl rfl (by (try simp only [List.map_toArray, List.map_cons, List.map_nil]); first | done | rfl | (simp only [List.length_drop, List.length_take]; rfl)) ?_
       with_reducible refine (span_Add.calls a1_0 a1_1 a0_0 a0_1 t371 t372 _ A202.out).mono ?_
       rintro e w218 ⟨rfl, hb⟩
       refine ⟨_, rfl, ?_⟩
       have n0_ := Aside0.mk (bB (g := gb355) (o := .cells #[.int .i64 a0_0, .int .i64 a0_1] 23 (0, 0)) (by (with_reducible repeat (first | refine bN ?_ _ | refine bD ?_ | refine bA ?_ _)); exact BK355.out) hb)
       have n1_ := Aside0.mk (bB (g := gb356) (o := .cells #[.int .i64 a1_0, .int .i64 a1_1] 23 (0, 0)) (by (with_reducible repeat (first | refine bN ?_ _ | refine bD ?_ | refine bA ?_ _)); exact BK356.out) hb)
       have n2_ := Aside0.mk (bB (g := gb357) (o := .cells #[.int .i64 a2_0, .int .i64 a2_1] 23 (0, 0)) (by (with_reducible repeat (first | refine bN ?_ _ | refine bD ?_ | refine bA ?_ _)); exact BK357.out) hb)
       have n3_ := Aside0.mk (bP (by repeat (first | (with_reducible first | exact HB.out | apply bL | apply bW | apply b1 | refine bS ?_ GE355.out | refine bS ?_ GE356.out | refine bS ?_ GE357.out) | exact HB.out)) hb)
       clear BK355
       clear BK356
       clear BK357
       clear HB
       have BK355 := n0_
       have BK356 := n1_
       have BK357 := n2_
       have HB := n3_
       clear n0_ n1_ n2_ n3_
       (try clear hb)
       (try clear hb2)
       (try clear hk)
       (try clear hi)
       refine hK.out _ _ ⟨(bC BK355.out 0).trans rfl, (bC BK355.out 1).trans rfl, (bC BK356.out 0).trans rfl, (bC BK356.out 1).trans rfl⟩ (fun hHeld => ?_)
       clear hK K
       refine norm_ (a' := ?_) ?_ ?_
       rotate_left
       ·
        show Act.put _ (some 51) _ = _
        simp only [Act.put, List.setIfInBounds_toArray, List.set_cons_zero, List.set_cons_succ, i64_w, i32_w]
        rfl
       refine pure_ (i := 6) (N := some 52) (v := ?_) (a' := ?_) #[true, true, true, true, true, true, true, false, false, false, false, false, false, false, false, false, false, false, false, false, false, false, false] rfl rfl (any_of HT_.out (by kernel_rfl)) (fun _ _ _ h => h) (Or.inl ⟨by rfl, ?_⟩) ?_ ?_
       rotate_left
       ·
        intro w'
        go_simp
        with_reducible rfl
       rotate_left
       ·
        simp only [Act.put, List.setIfInBounds_toArray, List.set_cons_zero, List.set_cons_succ, i64_w, i32_w]
        rfl
       refine pure_ (i := 7) (N := some 53) (v := ?_) (a' := ?_) #[true, true, true, true, true, true, true, true, false, false, false, false, false, false, false, false, false, false, false, false, false, false, false] rfl rfl (any_of HT_.out (by kernel_rfl)) (fun _ _ _ h => h) (Or.inl ⟨by rfl, ?_⟩) ?_ ?_
       rotate_left
       ·
        intro w'
        go_simp
        with_reducible rfl
       rotate_left
       ·
        simp only [Act.put, List.setIfInBounds_toArray, List.set_cons_zero, List.set_cons_succ, i64_w, i32_w]
        rfl
       refine take_ (i := 8) (N := some 54) (v := ?_) (a' := ?_) #[true, true, true, true, true, true, true, true, true, false, false, false, false, false, false, false, false, false, false, false, false, false, false] rfl rfl (take_ofW HT_.out HW_.out (by kernel_rfl)) (fun _ _ _ h => h) (Or.inl ⟨by rfl, ?_⟩) hHeld ?_ ?_
       rotate_left
       ·
        rintro w' ⟨s0, s1, s2, s3⟩
        go_simp
        with_reducible rfl
       rotate_left
       ·
        simp only [Act.put, List.setIfInBounds_toArray, List.set_cons_zero, List.set_cons_succ, i64_w, i32_w]
        rfl
       refine take_ (i := 9) (N := some 55) (v := ?_) (a' := ?_) #[true, true, true, true, true, true, true, true, true, true, false, false, false, false, false, false, false, false, false, false, false, false, false] rfl rfl (take_ofW HT_.out HW_.out (by kernel_rfl)) (fun _ _ _ h => h) (Or.inl ⟨by rfl, ?_⟩) hHeld ?_ ?_
       rotate_left
       ·
        rintro w' ⟨s0, s1, s2, s3⟩
        go_simp
        with_reducible rfl
       rotate_left
       ·
        simp only [Act.put, List.setIfInBounds_toArray, List.set_cons_zero, List.set_cons_succ, i64_w, i32_w]
        rfl
       refine take_ (i := 11) (N := some 57) (v := ?_) (a' := ?_) #[true, true, true, true, true, true, true, true, true, true, false, true, false, false, false, false, false, false, false, false, false, false, false] rfl rfl (take_ofW HT_.out HW_.out (by kernel_rfl)) (fun _ _ _ h => h) (Or.inl ⟨by rfl, ?_⟩) hHeld ?_ ?_
       rotate_left
       ·
        rintro w' ⟨s0, s1, s2, s3⟩
        go_simp
        with_reducible rfl
       rotate_left
       ·
        simp only [Act.put, List.setIfInBounds_toArray, List.set_cons_zero, List.set_cons_succ, i64_w, i32_w]
        rfl
       refine take_ (i := 12) (N := some 58) (v := ?_) (a' := ?_) #[true, true, true, true, true, true, true, true, true, true, false, true, true, false, false, false, false, false, false, false, false, false, false] rfl rfl (take_ofW HT_.out HW_.out (by kernel_rfl)) (fun _ _ _ h => h) (Or.inl ⟨by rfl, ?_⟩) hHeld ?_ ?_
       rotate_left
       ·
        rintro w' ⟨s0, s1, s2, s3⟩
        go_simp
        with_reducible rfl
       rotate_left
       ·
        simp only [Act.put, List.setIfInBounds_toArray, List.set_cons_zero, List.set_cons_succ, i64_w, i32_w]
        rfl
       refine one_ (i := 10) (N := some 56) #[true, true, true, true, true, true, true, true, true, true, true, true, true, false, false, false, false, false, false, false, false, false, false] rfl rfl (one_of HT_.out (by kernel_rfl)) (by decide) (fun K hK => ?_)
       refine goes_ Try.func23 (by kernel_rfl) rfl #[.agg #[.int .i64 a0_0, .int .i64 a0_1], .agg #[.int .i64 a1_0, .int .i64 a1_1]] (by rfl) rfl rfl (by (try simp only [List.map_toArray, List.map_cons, List.map_nil]); first | done | rfl | (simp only [List.length_drop, List.length_take]; rfl)) ?_
       with_reducible refine (span_Join.calls a0_0 a0_1 a1_0 a1_1 t373 t374 _ A207.out).mono ?_
       rintro e w219 ⟨rfl, hb⟩
       refine ⟨_, rfl, ?_⟩
       have n0_ := Aside0.mk (bB (g := gb355) (o := .cells #[.int .i64 a0_0, .int .i64 a0_1] 23 (0, 0)) (by (with_reducible repeat (first | refine bN ?_ _ | refine bD ?_ | refine bA ?_ _)); exact BK355.out) hb)
       have n1_ := Aside0.mk (bB (g := gb356) (o := .cells #[.int .i64 a1_0, .int .i64 a1_1] 23 (0, 0)) (by (with_reducible repeat (first | refine bN ?_ _ | refine bD ?_ | refine bA ?_ _)); exact BK356.out) hb)
       have n2_ := Aside0.mk (bB (g := gb357) (o := .cells #[.int .i64 a2_0, .int .i64 a2_1] 23 (0, 0)) (by (with_reducible repeat (first | refine bN ?_ _ | refine bD ?_ | refine bA ?_ _)); exact BK357.out) hb)
       have n3_ := Aside0.mk (bP (by repeat (first | (with_reducible first | exact HB.out | apply bL | apply bW | apply b1 | refine bS ?_ GE355.out | refine bS ?_ GE356.out | refine bS ?_ GE357.out) | exact HB.out)) hb)
       clear BK355
       clear BK356
       clear BK357
       clear HB
       have BK355 := n0_
       have BK356 := n1_
       have BK357 := n2_
       have HB := n3_
       clear n0_ n1_ n2_ n3_
       (try clear hb)
       (try clear hb2)
       (try clear hk)
       (try clear hi)
       refine hK.out _ _ ⟨(bC BK355.out 0).trans rfl, (bC BK355.out 1).trans rfl, (bC BK356.out 0).trans rfl, (bC BK356.out 1).trans rfl⟩ (fun hHeld => ?_)
       clear hK K
       refine norm_ (a' := ?_) ?_ ?_
       rotate_left
       ·
        show Act.put _ (some 56) _ = _
        simp only [Act.put, List.setIfInBounds_toArray, List.set_cons_zero, List.set_cons_succ, i64_w, i32_w]
        rfl
       refine one_ (i := 13) (N := some 59) #[true, true, true, true, true, true, true, true, true, true, true, true, true, true, false, false, false, false, false, false, false, false, false] rfl rfl (one_of HT_.out (by kernel_rfl)) (by decide) (fun K hK => ?_)
       refine goes_ Try.func23 (by kernel_rfl) rfl #[.agg #[.int .i64 a1_0, .int .i64 a1_1], .agg #[.int .i64 a0_0, .int .i64 a0_1]] (by rfl) rfl rfl (by (try simp only [List.map_toArray, List.map_cons, List.map_nil]); first | done | rfl | (simp only [List.length_drop, List.length_take]; rfl)) ?_
       with_reducible refine (span_Join.calls a1_0 a1_1 a0_0 a0_1 t375 t376 _ A208.out).mono ?_
       rintro e w220 ⟨rfl, hb⟩
       refine ⟨_, rfl, ?_⟩
       have n0_ := Aside0.mk (bB (g := gb355) (o := .cells #[.int .i64 a0_0, .int .i64 a0_1] 23 (0, 0)) (by (with_reducible repeat (first | refine bN ?_ _ | refine bD ?_ | refine bA ?_ _)); exact BK355.out) hb)
       have n1_ := Aside0.mk (bB (g := gb356) (o := .cells #[.int .i64 a1_0, .int .i64 a1_1] 23 (0, 0)) (by (with_reducible repeat (first | refine bN ?_ _ | refine bD ?_ | refine bA ?_ _)); exact BK356.out) hb)
       have n2_ := Aside0.mk (bB (g := gb357) (o := .cells #[.int .i64 a2_0, .int .i64 a2_1] 23 (0, 0)) (by (with_reducible repeat (first | refine bN ?_ _ | refine bD ?_ | refine bA ?_ _)); exact BK357.out) hb)
       have n3_ := Aside0.mk (bP (by repeat (first | (with_reducible first | exact HB.out | apply bL | apply bW | apply b1 | refine bS ?_ GE355.out | refine bS ?_ GE356.out | refine bS ?_ GE357.out) | exact HB.out)) hb)
       clear BK355
       clear BK356
       clear BK357
       clear HB
       have BK355 := n0_
       have BK356 := n1_
       have BK357 := n2_
       have HB := n3_
       clear n0_ n1_ n2_ n3_
       (try clear hb)
       (try clear hb2)
       (try clear hk)
       (try clear hi)
       refine hK.out _ _ ⟨(bC BK355.out 0).trans rfl, (bC BK355.out 1).trans rfl, (bC BK356.out 0).trans rfl, (bC BK356.out 1).trans rfl⟩ (fun hHeld => ?_)
       clear hK K
       refine norm_ (a' := ?_) ?_ ?_
       rotate_left
       ·
        show Act.put _ (some 59) _ = _
        simp only [Act.put, List.setIfInBounds_toArray, List.set_cons_zero, List.set_cons_succ, i64_w, i32_w]
        rfl
       refine pure_ (i := 14) (N := some 60) (v := ?_) (a' := ?_) #[true, true, true, true, true, true, true, true, true, true, true, true, true, true, true, false, false, false, false, false, false, false, false] rfl rfl (any_of HT_.out (by kernel_rfl)) (fun _ _ _ h => h) (Or.inl ⟨by rfl, ?_⟩) ?_ ?_
       rotate_left
       ·
        intro w'
        go_simp
        with_reducible rfl
       rotate_left
       ·
        simp only [Act.put, List.setIfInBounds_toArray, List.set_cons_zero, List.set_cons_succ, i64_w, i32_w]
        rfl
       refine pure_ (i := 15) (N := some 61) (v := ?_) (a' := ?_) #[true, true, true, true, true, true, true, true, true, true, true, true, true, true, true, true, false, false, false, false, false, false, false] rfl rfl (any_of HT_.out (by kernel_rfl)) (fun _ _ _ h => h) (Or.inl ⟨by rfl, ?_⟩) ?_ ?_
       rotate_left
       ·
        intro w'
        go_simp
        with_reducible rfl
       rotate_left
       ·
        simp only [Act.put, List.setIfInBounds_toArray, List.set_cons_zero, List.set_cons_succ, i64_w, i32_w]
        rfl
       refine pure_ (i := 16) (N := some 62) (v := ?_) (a' := ?_) #[true, true, true, true, true, true, true, true, true, true, true, true, true, true, true, true, true, false, false, false, false, false, false] rfl rfl (any_of HT_.out (by kernel_rfl)) (fun _ _ _ h => h) (Or.inl ⟨by rfl, ?_⟩) ?_ ?_
       rotate_left
       ·
        intro w'
        go_simp
        with_reducible rfl
       rotate_left
       ·
        simp only [Act.put, List.setIfInBounds_toArray, List.set_cons_zero, List.set_cons_succ, i64_w, i32_w]
        rfl
       refine take_ (i := 17) (N := some 63) (v := ?_) (a' := ?_) #[true, true, true, true, true, true, true, true, true, true, true, true, true, true, true, true, true, true, false, false, false, false, false] rfl rfl (take_ofW HT_.out HW_.out (by kernel_rfl)) (fun _ _ _ h => h) (Or.inl ⟨by rfl, ?_⟩) hHeld ?_ ?_
       rotate_left
       ·
        rintro w' ⟨s0, s1, s2, s3⟩
        go_simp
        with_reducible rfl
       rotate_left
       ·
        simp only [Act.put, List.setIfInBounds_toArray, List.set_cons_zero, List.set_cons_succ, i64_w, i32_w]
        rfl
       refine take_ (i := 18) (N := some 64) (v := ?_) (a' := ?_) #[true, true, true, true, true, true, true, true, true, true, true, true, true, true, true, true, true, true, true, false, false, false, false] rfl rfl (take_ofW HT_.out HW_.out (by kernel_rfl)) (fun _ _ _ h => h) (Or.inl ⟨by rfl, ?_⟩) hHeld ?_ ?_
       rotate_left
       ·
        rintro w' ⟨s0, s1, s2, s3⟩
        go_simp
        with_reducible rfl
       rotate_left
       ·
        simp only [Act.put, List.setIfInBounds_toArray, List.set_cons_zero, List.set_cons_succ, i64_w, i32_w]
        rfl
       refine take_ (i := 20) (N := some 66) (v := ?_) (a' := ?_) #[true, true, true, true, true, true, true, true, true, true, true, true, true, true, true, true, true, true, true, false, true, false, false] rfl rfl (take_ofW HT_.out HW_.out (by kernel_rfl)) (fun _ _ _ h => h) (Or.inl ⟨by rfl, ?_⟩) hHeld ?_ ?_
       rotate_left
       ·
        rintro w' ⟨s0, s1, s2, s3⟩
        go_simp
        with_reducible rfl
       rotate_left
       ·
        simp only [Act.put, List.setIfInBounds_toArray, List.set_cons_zero, List.set_cons_succ, i64_w, i32_w]
        rfl
       refine one_ (i := 19) (N := some 65) #[true, true, true, true, true, true, true, true, true, true, true, true, true, true, true, true, true, true, true, true, true, false, false] rfl rfl (one_of HT_.out (by kernel_rfl)) (by decide) (fun K hK => ?_)
       refine goes_ Try.func23 (by kernel_rfl) rfl #[.agg #[.int .i64 a0_0, .int .i64 a0_1], .agg #[.int .i64 a0_0, .int .i64 a0_1]] (by rfl) rfl rfl (by (try simp only [List.map_toArray, List.map_cons, List.map_nil]); first | done | rfl | (simp only [List.length_drop, List.length_take]; rfl)) ?_
       with_reducible refine (span_Join.calls a0_0 a0_1 a0_0 a0_1 t377 t378 _ A215.out).mono ?_
       rintro e w221 ⟨rfl, hb⟩
       refine ⟨_, rfl, ?_⟩
       have n0_ := Aside0.mk (bB (g := gb355) (o := .cells #[.int .i64 a0_0, .int .i64 a0_1] 23 (0, 0)) (by (with_reducible repeat (first | refine bN ?_ _ | refine bD ?_ | refine bA ?_ _)); exact BK355.out) hb)
       have n1_ := Aside0.mk (bB (g := gb356) (o := .cells #[.int .i64 a1_0, .int .i64 a1_1] 23 (0, 0)) (by (with_reducible repeat (first | refine bN ?_ _ | refine bD ?_ | refine bA ?_ _)); exact BK356.out) hb)
       have n2_ := Aside0.mk (bB (g := gb357) (o := .cells #[.int .i64 a2_0, .int .i64 a2_1] 23 (0, 0)) (by (with_reducible repeat (first | refine bN ?_ _ | refine bD ?_ | refine bA ?_ _)); exact BK357.out) hb)
       have n3_ := Aside0.mk (bP (by repeat (first | (with_reducible first | exact HB.out | apply bL | apply bW | apply b1 | refine bS ?_ GE355.out | refine bS ?_ GE356.out | refine bS ?_ GE357.out) | exact HB.out)) hb)
       clear BK355
       clear BK356
       clear BK357
       clear HB
       have BK355 := n0_
       have BK356 := n1_
       have BK357 := n2_
       have HB := n3_
       clear n0_ n1_ n2_ n3_
       (try clear hb)
       (try clear hb2)
       (try clear hk)
       (try clear hi)
       refine hK.out _ _ ⟨(bC BK355.out 0).trans rfl, (bC BK355.out 1).trans rfl, (bC BK356.out 0).trans rfl, (bC BK356.out 1).trans rfl⟩ (fun hHeld => ?_)
       clear hK K
       refine norm_ (a' := ?_) ?_ ?_
       rotate_left
       ·
        show Act.put _ (some 65) _ = _
        simp only [Act.put, List.setIfInBounds_toArray, List.set_cons_zero, List.set_cons_succ, i64_w, i32_w]
        rfl
       refine pure_ (i := 21) (N := some 67) (v := ?_) (a' := ?_) #[true, true, true, true, true, true, true, true, true, true, true, true, true, true, true, true, true, true, true, true, true, true, false] rfl rfl (any_of HT_.out (by kernel_rfl)) (fun _ _ _ h => h) (Or.inl ⟨by rfl, ?_⟩) ?_ ?_
       rotate_left
       ·
        intro w'
        go_simp
        with_reducible rfl
       rotate_left
       ·
        simp only [Act.put, List.setIfInBounds_toArray, List.set_cons_zero, List.set_cons_succ, i64_w, i32_w]
        rfl
       refine pure_ (i := 22) (N := some 68) (v := ?_) (a' := ?_) #[true, true, true, true, true, true, true, true, true, true, true, true, true, true, true, true, true, true, true, true, true, true, true] rfl rfl (any_of HT_.out (by kernel_rfl)) (fun _ _ _ h => h) (Or.inl ⟨by rfl, ?_⟩) ?_ ?_
       rotate_left
       ·
        intro w'
        go_simp
        with_reducible rfl
       rotate_left
       ·
        simp only [Act.put, List.setIfInBounds_toArray, List.set_cons_zero, List.set_cons_succ, i64_w, i32_w]
        rfl
       refine done_ (done_of HT_.out (by kernel_rfl)) ?_
       try go_wp2
       go_meet
       case rel => exact ⟨_, ((!(t377 == a0_0) || (!(t378 == a0_1)))), (by first | rfl | (simp; done) | (simp [*]; done)), H', ⟨by have := HJ5.out; first | omega | exact Nat.le_refl _⟩, ⟨by (with_reducible repeat (first | refine bN ?_ _ | refine bD ?_ | refine bA ?_ _)); exact BK355.out⟩, ⟨by (with_reducible repeat (first | refine bN ?_ _ | refine bD ?_ | refine bA ?_ _)); exact BK356.out⟩, ⟨by (with_reducible repeat (first | refine bN ?_ _ | refine bD ?_ | refine bA ?_ _)); exact BK357.out⟩, ⟨by repeat (first | (with_reducible first | exact HB.out | apply bL | apply bW | apply b1 | refine bS ?_ GE355.out | refine bS ?_ GE356.out | refine bS ?_ GE357.out) | exact HB.out)⟩⟩
    case rest =>
     clear HC200
     try clear c1
     try clear c2
     try clear p2
     try clear c19
     try clear c20
     try clear c23
     try clear c209
     try clear c209b0
     obtain ⟨kq, x68_199, rfl, HA, HJ199, BK355, BK356, BK357, HB⟩ := hcut
     cases kq with
     | zero => exact absurd HA.out (by simp [bournelaw09_SpanOrders.j1])
     | succ kj199 =>
      have H := HA.out
      clear HA
      simp only [bournelaw09_SpanOrders.j1] at H
      by_cases c222 : x68_199 = true
      ·
       subst c222
       have H1 : (some false) = some r := by rw [if_pos rfl] at H; exact H
       clear H
       have H := H1
       clear H1
       exact absurd (H.trans (congrArg some hT.out)) (by simp)
      ·
       replace c222 := Bool.eq_false_iff.mpr c222
       subst c222
       have H1 : ((span_Right.f a0_0 a0_1).bind fun t379 => (if t379 = true then ((span_Within.f a0_0 a0_1 a1_0 a1_1).bind fun t380 => ((span_Has.f a1_0 a1_1 a0_0).bind fun t381 => (if t381 = true then ((span_Has.f a1_0 a1_1 a0_1).bind fun t382 => (bournelaw09_SpanOrders.j2 kj199 a3 t358 (t380 != t382) a0_0 a0_1 a1_0 a1_1)) else (bournelaw09_SpanOrders.j2 kj199 a3 t358 (t380 != false) a0_0 a0_1 a1_0 a1_1)))) else (bournelaw09_SpanOrders.j2 kj199 a3 t358 false a0_0 a0_1 a1_0 a1_1))) = some r := by rw [if_neg (show ¬ (false = true) by decide)] at H; exact H
       clear H
       have H := H1
       clear H1
       have HC223 := Aside0.mk H
       clear H
       go_upto_region 6 with (fail)
       go_cut [86] (fun v86 wc => ∃ (kq : Nat) (x86_222 : Bool), v86 = .bool x86_222 ∧ Aside0 (bournelaw09_SpanOrders.j2 kq a3 t358 x86_222 a0_0 a0_1 a1_0 a1_1 = some r) ∧ Aside0 (kq ≤ kj199) ∧ Aside0 (wc.heap[gb355]? = some (.cells #[.int .i64 a0_0, .int .i64 a0_1] 23 (0, 0))) ∧ Aside0 (wc.heap[gb356]? = some (.cells #[.int .i64 a1_0, .int .i64 a1_1] 23 (0, 0))) ∧ Aside0 (wc.heap[gb357]? = some (.cells #[.int .i64 a2_0, .int .i64 a2_1] 23 (0, 0))) ∧ Aside0 (Below w.heap.size w wc))
       case first =>
        have H := HC223.out
        clear HC223
        replace H := Option.bind_eq_some_iff.mp H
        obtain ⟨t379, A2240, H⟩ := H
        have A224 := Aside0.mk A2240
        clear A2240
        by_cases c225 : t379 = true
        ·
         subst c225
         have H1 : ((span_Within.f a0_0 a0_1 a1_0 a1_1).bind fun t380 => ((span_Has.f a1_0 a1_1 a0_0).bind fun t381 => (if t381 = true then ((span_Has.f a1_0 a1_1 a0_1).bind fun t382 => (bournelaw09_SpanOrders.j2 kj199 a3 t358 (t380 != t382) a0_0 a0_1 a1_0 a1_1)) else (bournelaw09_SpanOrders.j2 kj199 a3 t358 (t380 != false) a0_0 a0_1 a1_0 a1_1)))) = some r := by rw [if_pos rfl] at H; exact H
         clear H
         have H := H1
         clear H1
         replace H := Option.bind_eq_some_iff.mp H
         obtain ⟨t380, A2260, H⟩ := H
         have A226 := Aside0.mk A2260
         clear A2260
         replace H := Option.bind_eq_some_iff.mp H
         obtain ⟨t381, A2270, H⟩ := H
         have A227 := Aside0.mk A2270
         clear A2270
         by_cases c228 : t381 = true
         ·
          subst c228
          have H1 : ((span_Has.f a1_0 a1_1 a0_1).bind fun t382 => (bournelaw09_SpanOrders.j2 kj199 a3 t358 (t380 != t382) a0_0 a0_1 a1_0 a1_1)) = some r := by rw [if_pos rfl] at H; exact H
          clear H
          have H := H1
          clear H1
          replace H := Option.bind_eq_some_iff.mp H
          obtain ⟨t382, A2290, H⟩ := H
          have A229 := Aside0.mk A2290
          clear A2290
          have H' := Aside0.mk H
          clear H
          try go_wp2
          have n0_ := Aside0.mk (bD BK355.out)
          have n1_ := Aside0.mk (bD BK356.out)
          have n2_ := Aside0.mk (bD BK357.out)
          have n3_ := Aside0.mk (b1 HB.out)
          clear BK355
          clear BK356
          clear BK357
          clear HB
          have BK355 := n0_
          have BK356 := n1_
          have BK357 := n2_
          have HB := n3_
          clear n0_ n1_ n2_ n3_
          refine start_ (n := 18) (S := fun w' => w'.cell? ⟨gb355, 0, none⟩ = some (.int .i64 a0_0) ∧ w'.cell? ⟨gb355, 1, none⟩ = some (.int .i64 a0_1) ∧ w'.cell? ⟨gb356, 0, none⟩ = some (.int .i64 a1_0) ∧ w'.cell? ⟨gb356, 1, none⟩ = some (.int .i64 a1_1)) (ds := []) #[false, false, false, false, false, false, false, false, false, false, false, false, false, false, false, false, false, false] (by kernel_rfl) rfl rfl ⟨(bC BK355.out 0).trans rfl, (bC BK355.out 1).trans rfl, (bC BK356.out 0).trans rfl, (bC BK356.out 1).trans rfl⟩ (fun hHeld => ?_); refine with_tabW bournelaw09_SpanOrders.tab6 bournelaw09_SpanOrders.bits6 (fun HT_ HW_ => ?_)
          generalize wc.drew = w230 at BK355 BK356 BK357 HB hHeld ⊢
          refine take_ (i := 0) (N := some 69) (v := ?_) (a' := ?_) #[true, false, false, false, false, false, false, false, false, false, false, false, false, false, false, false, false, false] rfl rfl (take_ofW HT_.out HW_.out (by kernel_rfl)) (fun _ _ _ h => h) (Or.inl ⟨by rfl, ?_⟩) hHeld ?_ ?_
          rotate_left
          ·
           rintro w' ⟨s0, s1, s2, s3⟩
           go_simp
           with_reducible rfl
          rotate_left
          ·
           simp only [Act.put, List.setIfInBounds_toArray, List.set_cons_zero, List.set_cons_succ, i64_w, i32_w]
           rfl
          refine one_ (i := 1) (N := some 70) #[true, true, false, false, false, false, false, false, false, false, false, false, false, false, false, false, false, false] rfl rfl (one_of HT_.out (by kernel_rfl)) (by decide) (fun K hK => ?_)
          refine goes_ Try.func13 (by kernel_rfl) rfl #[.agg #[.int .i64 a0_0, .int .i64 a0_1]] (by rfl) rfl rfl (by (try simp only [List.map_toArray, List.map_cons, List.map_nil]); first | done | rfl | (simp only [List.length_drop, List.length_take]; rfl)) ?_
          with_reducible refine (span_Right.calls a0_0 a0_1 true _ A224.out).mono ?_
          rintro e w231 ⟨rfl, hb⟩
          refine ⟨_, rfl, ?_⟩
          have n0_ := Aside0.mk (bB (g := gb355) (o := .cells #[.int .i64 a0_0, .int .i64 a0_1] 23 (0, 0)) (by (with_reducible repeat (first | refine bN ?_ _ | refine bD ?_ | refine bA ?_ _)); exact BK355.out) hb)
          have n1_ := Aside0.mk (bB (g := gb356) (o := .cells #[.int .i64 a1_0, .int .i64 a1_1] 23 (0, 0)) (by (with_reducible repeat (first | refine bN ?_ _ | refine bD ?_ | refine bA ?_ _)); exact BK356.out) hb)
          have n2_ := Aside0.mk (bB (g := gb357) (o := .cells #[.int .i64 a2_0, .int .i64 a2_1] 23 (0, 0)) (by (with_reducible repeat (first | refine bN ?_ _ | refine bD ?_ | refine bA ?_ _)); exact BK357.out) hb)
          have n3_ := Aside0.mk (bP (by repeat (first | (with_reducible first | exact HB.out | apply bL | apply bW | apply b1 | refine bS ?_ GE355.out | refine bS ?_ GE356.out | refine bS ?_ GE357.out) | exact HB.out)) hb)
          clear BK355
          clear BK356
          clear BK357
          clear HB
          have BK355 := n0_
          have BK356 := n1_
          have BK357 := n2_
          have HB := n3_
          clear n0_ n1_ n2_ n3_
          (try clear hb)
          (try clear hb2)
          (try clear hk)
          (try clear hi)
          refine hK.out _ _ ⟨(bC BK355.out 0).trans rfl, (bC BK355.out 1).trans rfl, (bC BK356.out 0).trans rfl, (bC BK356.out 1).trans rfl⟩ (fun hHeld => ?_)
          clear hK K
          refine norm_ (a' := ?_) ?_ ?_
          rotate_left
          ·
           show Act.put _ (some 70) _ = _
           simp only [Act.put, List.setIfInBounds_toArray, List.set_cons_zero, List.set_cons_succ, i64_w, i32_w]
           rfl
          refine pure_ (i := 2) (N := some 71) (v := ?_) (a' := ?_) #[true, true, true, false, false, false, false, false, false, false, false, false, false, false, false, false, false, false] rfl rfl (any_of HT_.out (by kernel_rfl)) (fun _ _ _ h => h) (Or.inl ⟨by rfl, ?_⟩) ?_ ?_
          rotate_left
          ·
           intro w'
           go_simp
           with_reducible rfl
          rotate_left
          ·
           simp only [Act.put, List.setIfInBounds_toArray, List.set_cons_zero, List.set_cons_succ, i64_w, i32_w]
           rfl
          refine pure_ (i := 7) (N := some 76) (v := ?_) (a' := ?_) #[true, true, true, false, false, false, false, true, false, false, false, false, false, false, false, false, false, false] rfl rfl (any_of HT_.out (by kernel_rfl)) (fun _ _ _ h => h) (Or.inl ⟨by rfl, ?_⟩) ?_ ?_
          rotate_left
          ·
           intro w'
           go_simp
           with_reducible rfl
          rotate_left
          ·
           simp only [Act.put, List.setIfInBounds_toArray, List.set_cons_zero, List.set_cons_succ, i64_w, i32_w]
           rfl
          refine take_ (i := 3) (N := some 72) (v := ?_) (a' := ?_) #[true, true, true, true, false, false, false, true, false, false, false, false, false, false, false, false, false, false] rfl rfl (take_ofW HT_.out HW_.out (by kernel_rfl)) (fun _ _ _ h => h) (Or.inl ⟨by rfl, ?_⟩) hHeld ?_ ?_
          rotate_left
          ·
           rintro w' ⟨s0, s1, s2, s3⟩
           go_simp
           with_reducible rfl
          rotate_left
          ·
           simp only [Act.put, List.setIfInBounds_toArray, List.set_cons_zero, List.set_cons_succ, i64_w, i32_w]
           rfl
          refine take_ (i := 4) (N := some 73) (v := ?_) (a' := ?_) #[true, true, true, true, true, false, false, true, false, false, false, false, false, false, false, false, false, false] rfl rfl (take_ofW HT_.out HW_.out (by kernel_rfl)) (fun _ _ _ h => h) (Or.inl ⟨by rfl, ?_⟩) hHeld ?_ ?_
          rotate_left
          ·
           rintro w' ⟨s0, s1, s2, s3⟩
           go_simp
           with_reducible rfl
          rotate_left
          ·
           simp only [Act.put, List.setIfInBounds_toArray, List.set_cons_zero, List.set_cons_succ, i64_w, i32_w]
           rfl
          refine take_ (i := 6) (N := some 75) (v := ?_) (a' := ?_) #[true, true, true, true, true, false, true, true, false, false, false, false, false, false, false, false, false, false] rfl rfl (take_ofW HT_.out HW_.out (by kernel_rfl)) (fun _ _ _ h => h) (Or.inl ⟨by rfl, ?_⟩) hHeld ?_ ?_
          rotate_left
          ·
           rintro w' ⟨s0, s1, s2, s3⟩
           go_simp
           with_reducible rfl
          rotate_left
          ·
           simp only [Act.put, List.setIfInBounds_toArray, List.set_cons_zero, List.set_cons_succ, i64_w, i32_w]
           rfl
          refine take_ (i := 8) (N := some 77) (v := ?_) (a' := ?_) #[true, true, true, true, true, false, true, true, true, false, false, false, false, false, false, false, false, false] rfl rfl (take_ofW HT_.out HW_.out (by kernel_rfl)) (fun _ _ _ h => h) (Or.inl ⟨by rfl, ?_⟩) hHeld ?_ ?_
          rotate_left
          ·
           rintro w' ⟨s0, s1, s2, s3⟩
           go_simp
           with_reducible rfl
          rotate_left
          ·
           simp only [Act.put, List.setIfInBounds_toArray, List.set_cons_zero, List.set_cons_succ, i64_w, i32_w]
           rfl
          refine one_ (i := 5) (N := some 74) #[true, true, true, true, true, true, true, true, true, false, false, false, false, false, false, false, false, false] rfl rfl (one_of HT_.out (by kernel_rfl)) (by decide) (fun K hK => ?_)
          refine goes_ Try.func25 (by kernel_rfl) rfl #[.agg #[.int .i64 a0_0, .int .i64 a0_1], .agg #[.int .i64 a1_0, .int .i64 a1_1]] (by rfl) rfl rfl (by (try simp only [List.map_toArray, List.map_cons, List.map_nil]); first | done | rfl | (simp only [List.length_drop, List.length_take]; rfl)) ?_
          with_reducible refine (span_Within.calls a0_0 a0_1 a1_0 a1_1 t380 _ A226.out).mono ?_
          rintro e w232 ⟨rfl, hb⟩
          refine ⟨_, rfl, ?_⟩
          have n0_ := Aside0.mk (bB (g := gb355) (o := .cells #[.int .i64 a0_0, .int .i64 a0_1] 23 (0, 0)) (by (with_reducible repeat (first | refine bN ?_ _ | refine bD ?_ | refine bA ?_ _)); exact BK355.out) hb)
          have n1_ := Aside0.mk (bB (g := gb356) (o := .cells #[.int .i64 a1_0, .int .i64 a1_1] 23 (0, 0)) (by (with_reducible repeat (first | refine bN ?_ _ | refine bD ?_ | refine bA ?_ _)); exact BK356.out) hb)
          have n2_ := Aside0.mk (bB (g := gb357) (o := .cells #[.int .i64 a2_0, .int .i64 a2_1] 23 (0, 0)) (by (with_reducible repeat (first | refine bN ?_ _ | refine bD ?_ | refine bA ?_ _)); exact BK357.out) hb)
          have n3_ := Aside0.mk (bP (by repeat (first | (with_reducible first | exact HB.out | apply bL | apply bW | apply b1 | refine bS ?_ GE355.out | refine bS ?_ GE356.out | refine bS ?_ GE357.out) | exact HB.out)) hb)
          clear BK355
          clear BK356
          clear BK357
          clear HB
          have BK355 := n0_
          have BK356 := n1_
          have BK357 := n2_
          have HB := n3_
          clear n0_ n1_ n2_ n3_
          (try clear hb)
          (try clear hb2)
          (try clear hk)
          (try clear hi)
          refine hK.out _ _ ⟨(bC BK355.out 0).trans rfl, (bC BK355.out 1).trans rfl, (bC BK356.out 0).trans rfl, (bC BK356.out 1).trans rfl⟩ (fun hHeld => ?_)
          clear hK K
          refine norm_ (a' := ?_) ?_ ?_
          rotate_left
          ·
           show Act.put _ (some 74) _ = _
           simp only [Act.put, List.setIfInBounds_toArray, List.set_cons_zero, List.set_cons_succ, i64_w, i32_w]
           rfl
          refine one_ (i := 9) (N := some 78) #[true, true, true, true, true, true, true, true, true, true, false, false, false, false, false, false, false, false] rfl rfl (one_of HT_.out (by kernel_rfl)) (by decide) (fun K hK => ?_)
          refine goes_ Try.func17 (by kernel_rfl) rfl #[.agg #[.int .i64 a1_0, .int .i64 a1_1], .int .i64 a0_0] (by rfl) rfl rfl (by (try simp only [List.map_toArray, List.map_cons, List.map_nil]); first | done | rfl | (simp only [List.length_drop, List.length_take]; rfl)) ?_
          with_reducible refine (span_Has.calls a1_0 a1_1 a0_0 true _ A227.out).mono ?_
          rintro e w233 ⟨rfl, hb⟩
          refine ⟨_, rfl, ?_⟩
          have n0_ := Aside0.mk (bB (g := gb355) (o := .cells #[.int .i64 a0_0, .int .i64 a0_1] 23 (0, 0)) (by (with_reducible repeat (first | refine bN ?_ _ | refine bD ?_ | refine bA ?_ _)); exact BK355.out) hb)
          have n1_ := Aside0.mk (bB (g := gb356) (o := .cells #[.int .i64 a1_0, .int .i64 a1_1] 23 (0, 0)) (by (with_reducible repeat (first | refine bN ?_ _ | refine bD ?_ | refine bA ?_ _)); exact BK356.out) hb)
          have n2_ := Aside0.mk (bB (g := gb357) (o := .cells #[.int .i64 a2_0, .int .i64 a2_1] 23 (0, 0)) (by (with_reducible repeat (first | refine bN ?_ _ | refine bD ?_ | refine bA ?_ _)); exact BK357.out) hb)
          have n3_ := Aside0.mk (bP (by repeat (first | (with_reducible first | exact HB.out | apply bL | apply bW | apply b1 | refine bS ?_ GE355.out | refine bS ?_ GE356.out | refine bS ?_ GE357.out) | exact HB.out)) hb)
          clear BK355
          clear BK356
          clear BK357
          clear HB
          have BK355 := n0_
          have BK356 := n1_
          have BK357 := n2_
          have HB := n3_
          clear n0_ n1_ n2_ n3_
          (try clear hb)
          (try clear hb2)
          (try clear hk)
          (try clear hi)
          refine hK.out _ _ ⟨(bC BK355.out 0).trans rfl, (bC BK355.out 1).trans rfl, (bC BK356.out 0).trans rfl, (bC BK356.out 1).trans rfl⟩ (fun hHeld => ?_)
          clear hK K
          refine norm_ (a' := ?_) ?_ ?_
          rotate_left
          ·
           show Act.put _ (some 78) _ = _
           simp only [Act.put, List.setIfInBounds_toArray, List.set_cons_zero, List.set_cons_succ, i64_w, i32_w]
           rfl
          refine pure_ (i := 10) (N := some 79) (v := ?_) (a' := ?_) #[true, true, true, true, true, true, true, true, true, true, true, false, false, false, false, false, false, false] rfl rfl (any_of HT_.out (by kernel_rfl)) (fun _ _ _ h => h) (Or.inl ⟨by rfl, ?_⟩) ?_ ?_
          rotate_left
          ·
           intro w'
           go_simp
           with_reducible rfl
          rotate_left
          ·
           simp only [Act.put, List.setIfInBounds_toArray, List.set_cons_zero, List.set_cons_succ, i64_w, i32_w]
           rfl
          refine pure_ (i := 12) (N := some 81) (v := ?_) (a' := ?_) #[true, true, true, true, true, true, true, true, true, true, true, false, true, false, false, false, false, false] rfl rfl (any_of HT_.out (by kernel_rfl)) (fun _ _ _ h => h) (Or.inl ⟨by rfl, ?_⟩) ?_ ?_
          rotate_left
          ·
           intro w'
           go_simp
           with_reducible rfl
          rotate_left
          ·
           simp only [Act.put, List.setIfInBounds_toArray, List.set_cons_zero, List.set_cons_succ, i64_w, i32_w]
           rfl
          refine take_ (i := 11) (N := some 80) (v := ?_) (a' := ?_) #[true, true, true, true, true, true, true, true, true, true, true, true, true, false, false, false, false, false] rfl rfl (take_ofW HT_.out HW_.out (by kernel_rfl)) (fun _ _ _ h => h) (Or.inl ⟨by rfl, ?_⟩) hHeld ?_ ?_
          rotate_left
          ·
           rintro w' ⟨s0, s1, s2, s3⟩
           go_simp
           with_reducible rfl
          rotate_left
          ·
           simp only [Act.put, List.setIfInBounds_toArray, List.set_cons_zero, List.set_cons_succ, i64_w, i32_w]
           rfl
          refine take_ (i := 13) (N := some 82) (v := ?_) (a' := ?_) #[true, true, true, true, true, true, true, true, true, true, true, true, true, true, false, false, false, false] rfl rfl (take_ofW HT_.out HW_.out (by kernel_rfl)) (fun _ _ _ h => h) (Or.inl ⟨by rfl, ?_⟩) hHeld ?_ ?_
          rotate_left
          ·
           rintro w' ⟨s0, s1, s2, s3⟩
           go_simp
           with_reducible rfl
          rotate_left
          ·
           simp only [Act.put, List.setIfInBounds_toArray, List.set_cons_zero, List.set_cons_succ, i64_w, i32_w]
           rfl
          refine one_ (i := 14) (N := some 83) #[true, true, true, true, true, true, true, true, true, true, true, true, true, true, true, false, false, false] rfl rfl (one_of HT_.out (by kernel_rfl)) (by decide) (fun K hK => ?_)
          refine goes_ Try.func17 (by kernel_rfl) rfl #[.agg #[.int .i64 a1_0, .int .i64 a1_1], .int .i64 a0_1] (by rfl) rfl rfl (by (try simp only [List.map_toArray, List.map_cons, List.map_nil]); first | done | rfl | (simp only [List.length_drop, List.length_take]; rfl)) ?_
          with_reducible refine (span_Has.calls a1_0 a1_1 a0_1 t382 _ A229.out).mono ?_
          rintro e w234 ⟨rfl, hb⟩
          refine ⟨_, rfl, ?_⟩
          have n0_ := Aside0.mk (bB (g := gb355) (o := .cells #[.int .i64 a0_0, .int .i64 a0_1] 23 (0, 0)) (by (with_reducible repeat (first | refine bN ?_ _ | refine bD ?_ | refine bA ?_ _)); exact BK355.out) hb)
          have n1_ := Aside0.mk (bB (g := gb356) (o := .cells #[.int .i64 a1_0, .int .i64 a1_1] 23 (0, 0)) (by (with_reducible repeat (first | refine bN ?_ _ | refine bD ?_ | refine bA ?_ _)); exact BK356.out) hb)
          have n2_ := Aside0.mk (bB (g := gb357) (o := .cells #[.int .i64 a2_0, .int .i64 a2_1] 23 (0, 0)) (by (with_reducible repeat (first | refine bN ?_ _ | refine bD ?_ | refine bA ?_ _)); exact BK357.out) hb)
          have n3_ := Aside0.mk (bP (by repeat (first | (with_reducible first | exact HB.out | apply bL | apply bW | apply b1 | refine bS ?_ GE355.out | refine bS ?_ GE356.out | refine bS ?_ GE357.out) | exact HB.out)) hb)
          clear BK355
          clear BK356
          clear BK357
          clear HB
          have BK355 := n0_
          have BK356 := n1_
          have BK357 := n2_
          have HB := n3_
          clear n0_ n1_ n2_ n3_
          (try clear hb)
          (try clear hb2)
          (try clear hk)
          (try clear hi)
          refine hK.out _ _ ⟨(bC BK355.out 0).trans rfl, (bC BK355.out 1).trans rfl, (bC BK356.out 0).trans rfl, (bC BK356.out 1).trans rfl⟩ (fun hHeld => ?_)
          clear hK K
          refine norm_ (a' := ?_) ?_ ?_
          rotate_left
          ·
           show Act.put _ (some 83) _ = _
           simp only [Act.put, List.setIfInBounds_toArray, List.set_cons_zero, List.set_cons_succ, i64_w, i32_w]
           rfl
          refine pure_ (i := 15) (N := some 84) (v := ?_) (a' := ?_) #[true, true, true, true, true, true, true, true, true, true, true, true, true, true, true, true, false, false] rfl rfl (any_of HT_.out (by kernel_rfl)) (fun _ _ _ h => h) (Or.inl ⟨by rfl, ?_⟩) ?_ ?_
          rotate_left
          ·
           intro w'
           go_simp
           with_reducible rfl
          rotate_left
          ·
           simp only [Act.put, List.setIfInBounds_toArray, List.set_cons_zero, List.set_cons_succ, i64_w, i32_w]
           rfl
          refine pure_ (i := 16) (N := some 85) (v := ?_) (a' := ?_) #[true, true, true, true, true, true, true, true, true, true, true, true, true, true, true, true, true, false] rfl rfl (any_of HT_.out (by kernel_rfl)) (fun _ _ _ h => h) (Or.inl ⟨by rfl, ?_⟩) ?_ ?_
          rotate_left
          ·
           intro w'
           go_simp
           with_reducible rfl
          rotate_left
          ·
           simp only [Act.put, List.setIfInBounds_toArray, List.set_cons_zero, List.set_cons_succ, i64_w, i32_w]
           rfl
          refine pure_ (i := 17) (N := some 86) (v := ?_) (a' := ?_) #[true, true, true, true, true, true, true, true, true, true, true, true, true, true, true, true, true, true] rfl rfl (any_of HT_.out (by kernel_rfl)) (fun _ _ _ h => h) (Or.inl ⟨by rfl, ?_⟩) ?_ ?_
          rotate_left
          ·
           intro w'
           go_simp
           with_reducible rfl
          rotate_left
          ·
           simp only [Act.put, List.setIfInBounds_toArray, List.set_cons_zero, List.set_cons_succ, i64_w, i32_w]
           rfl
          refine done_ (done_of HT_.out (by kernel_rfl)) ?_
          try go_wp2
          go_meet
          case rel => exact ⟨_, ((t380 != t382)), (by first | rfl | (simp; done) | (simp [*]; done)), H', ⟨by have := HJ5.out; have := HJ199.out; first | omega | exact Nat.le_refl _⟩, ⟨by (with_reducible repeat (first | refine bN ?_ _ | refine bD ?_ | refine bA ?_ _)); exact BK355.out⟩, ⟨by (with_reducible repeat (first | refine bN ?_ _ | refine bD ?_ | refine bA ?_ _)); exact BK356.out⟩, ⟨by (with_reducible repeat (first | refine bN ?_ _ | refine bD ?_ | refine bA ?_ _)); exact BK357.out⟩, ⟨by repeat (first | (with_reducible first | exact HB.out | apply bL | apply bW | apply b1 | refine bS ?_ GE355.out | refine bS ?_ GE356.out | refine bS ?_ GE357.out) | exact HB.out)⟩⟩
         ·
          replace c228 := Bool.eq_false_iff.mpr c228
          subst c228
          have H1 : (bournelaw09_SpanOrders.j2 kj199 a3 t358 (t380 != false) a0_0 a0_1 a1_0 a1_1) = some r := by rw [if_neg (show ¬ (false = true) by decide)] at H; exact H
          clear H
          have H := H1
          clear H1
          have H' := Aside0.mk H
          clear H
          try go_wp2
          have n0_ := Aside0.mk (bD BK355.out)
          have n1_ := Aside0.mk (bD BK356.out)
          have n2_ := Aside0.mk (bD BK357.out)
          have n3_ := Aside0.mk (b1 HB.out)
          clear BK355
          clear BK356
          clear BK357
          clear HB
          have BK355 := n0_
          have BK356 := n1_
          have BK357 := n2_
          have HB := n3_
          clear n0_ n1_ n2_ n3_
          refine start_ (n := 18) (S := fun w' => w'.cell? ⟨gb355, 0, none⟩ = some (.int .i64 a0_0) ∧ w'.cell? ⟨gb355, 1, none⟩ = some (.int .i64 a0_1) ∧ w'.cell? ⟨gb356, 0, none⟩ = some (.int .i64 a1_0) ∧ w'.cell? ⟨gb356, 1, none⟩ = some (.int .i64 a1_1)) (ds := []) #[false, false, false, false, false, false, false, false, false, false, false, false, false, false, false, false, false, false] (by kernel_rfl) rfl rfl ⟨(bC BK355.out 0).trans rfl, (bC BK355.out 1).trans rfl, (bC BK356.out 0).trans rfl, (bC BK356.out 1).trans rfl⟩ (fun hHeld => ?_); refine with_tabW bournelaw09_SpanOrders.tab6 bournelaw09_SpanOrders.bits6 (fun HT_ HW_ => ?_)
          generalize wc.drew = w235 at BK355 BK356 BK357 HB hHeld ⊢
          refine take_ (i := 0) (N := some 69) (v := ?_) (a' := ?_) #[true, false, false, false, false, false, false, false, false, false, false, false, false, false, false, false, false, false] rfl rfl (take_ofW HT_.out HW_.out (by kernel_rfl)) (fun _ _ _ h => h) (Or.inl ⟨by rfl, ?_⟩) hHeld ?_ ?_
          rotate_left
          ·
           rintro w' ⟨s0, s1, s2, s3⟩
           go_simp
           with_reducible rfl
          rotate_left
          ·
           simp only [Act.put, List.setIfInBounds_toArray, List.set_cons_zero, List.set_cons_succ, i64_w, i32_w]
           rfl
          refine one_ (i := 1) (N := some 70) #[true, true, false, false, false, false, false, false, false, false, false, false, false, false, false, false, false, false] rfl rfl (one_of HT_.out (by kernel_rfl)) (by decide) (fun K hK => ?_)
          refine goes_ Try.func13 (by kernel_rfl) rfl #[.agg #[.int .i64 a0_0, .int .i64 a0_1]] (by rfl) rfl rfl (by (try simp only [List.map_toArray, List.map_cons, List.map_nil]); first | done | rfl | (simp only [List.length_drop, List.length_take]; rfl)) ?_
          with_reducible refine (span_Right.calls a0_0 a0_1 true _ A224.out).mono ?_
          rintro e w236 ⟨rfl, hb⟩
          refine ⟨_, rfl, ?_⟩
          have n0_ := Aside0.mk (bB (g := gb355) (o := .cells #[.int .i64 a0_0, .int .i64 a0_1] 23 (0, 0)) (by (with_reducible repeat (first | refine bN ?_ _ | refine bD ?_ | refine bA ?_ _)); exact BK355.out) hb)
          have n1_ := Aside0.mk (bB (g := gb356) (o := .cells #[.int .i64 a1_0, .int .i64 a1_1] 23 (0, 0)) (by (with_reducible repeat (first | refine bN ?_ _ | refine bD ?_ | refine bA ?_ _)); exact BK356.out) hb)
          have n2_ := Aside0.mk (bB (g := gb357) (o := .cells #[.int .i64 a2_0, .int .i64 a2_1] 23 (0, 0)) (by (with_reducible repeat (first | refine bN ?_ _ | refine bD ?_ | refine bA ?_ _)); exact BK357.out) hb)
          have n3_ := Aside0.mk (bP (by repeat (first | (with_reducible first | exact HB.out | apply bL | apply bW | apply b1 | refine bS ?_ GE355.out | refine bS ?_ GE356.out | refine bS ?_ GE357.out) | exact HB.out)) hb)
          clear BK355
          clear BK356
          clear BK357
          clear HB
          have BK355 := n0_
          have BK356 := n1_
          have BK357 := n2_
          have HB := n3_
          clear n0_ n1_ n2_ n3_
          (try clear hb)
          (try clear hb2)
          (try clear hk)
          (try clear hi)
          refine hK.out _ _ ⟨(bC BK355.out 0).trans rfl, (bC BK355.out 1).trans rfl, (bC BK356.out 0).trans rfl, (bC BK356.out 1).trans rfl⟩ (fun hHeld => ?_)
          clear hK K
          refine norm_ (a' := ?_) ?_ ?_
          rotate_left
          ·
           show Act.put _ (some 70) _ = _
           simp only [Act.put, List.setIfInBounds_toArray, List.set_cons_zero, List.set_cons_succ, i64_w, i32_w]
           rfl
          refine pure_ (i := 2) (N := some 71) (v := ?_) (a' := ?_) #[true, true, true, false, false, false, false, false, false, false, false, false, false, false, false, false, false, false] rfl rfl (any_of HT_.out (by kernel_rfl)) (fun _ _ _ h => h) (Or.inl ⟨by rfl, ?_⟩) ?_ ?_
          rotate_left
          ·
           intro w'
           go_simp
           with_reducible rfl
          rotate_left
          ·
           simp only [Act.put, List.setIfInBounds_toArray, List.set_cons_zero, List.set_cons_succ, i64_w, i32_w]
           rfl
          refine pure_ (i := 7) (N := some 76) (v := ?_) (a' := ?_) #[true, true, true, false, false, false, false, true, false, false, false, false, false, false, false, false, false, false] rfl rfl (any_of HT_.out (by kernel_rfl)) (fun _ _ _ h => h) (Or.inl ⟨by rfl, ?_⟩) ?_ ?_
          rotate_left
          ·
           intro w'
           go_simp
           with_reducible rfl
          rotate_left
          ·
           simp only [Act.put, List.setIfInBounds_toArray, List.set_cons_zero, List.set_cons_succ, i64_w, i32_w]
           rfl
          refine take_ (i := 3) (N := some 72) (v := ?_) (a' := ?_) #[true, true, true, true, false, false, false, true, false, false, false, false, false, false, false, false, false, false] rfl rfl (take_ofW HT_.out HW_.out (by kernel_rfl)) (fun _ _ _ h => h) (Or.inl ⟨by rfl, ?_⟩) hHeld ?_ ?_
          rotate_left
          ·
           rintro w' ⟨s0, s1, s2, s3⟩
           go_simp
           with_reducible rfl
          rotate_left
          ·
           simp only [Act.put, List.setIfInBounds_toArray, List.set_cons_zero, List.set_cons_succ, i64_w, i32_w]
           rfl
          refine take_ (i := 4) (N := some 73) (v := ?_) (a' := ?_) #[true, true, true, true, true, false, false, true, false, false, false, false, false, false, false, false, false, false] rfl rfl (take_ofW HT_.out HW_.out (by kernel_rfl)) (fun _ _ _ h => h) (Or.inl ⟨by rfl, ?_⟩) hHeld ?_ ?_
          rotate_left
          ·
           rintro w' ⟨s0, s1, s2, s3⟩
           go_simp
           with_reducible rfl
          rotate_left
          ·
           simp only [Act.put, List.setIfInBounds_toArray, List.set_cons_zero, List.set_cons_succ, i64_w, i32_w]
           rfl
          refine take_ (i := 6) (N := some 75) (v := ?_) (a' := ?_) #[true, true, true, true, true, false, true, true, false, false, false, false, false, false, false, false, false, false] rfl rfl (take_ofW HT_.out HW_.out (by kernel_rfl)) (fun _ _ _ h => h) (Or.inl ⟨by rfl, ?_⟩) hHeld ?_ ?_
          rotate_left
          ·
           rintro w' ⟨s0, s1, s2, s3⟩
           go_simp
           with_reducible rfl
          rotate_left
          ·
           simp only [Act.put, List.setIfInBounds_toArray, List.set_cons_zero, List.set_cons_succ, i64_w, i32_w]
           rfl
          refine take_ (i := 8) (N := some 77) (v := ?_) (a' := ?_) #[true, true, true, true, true, false, true, true, true, false, false, false, false, false, false, false, false, false] rfl rfl (take_ofW HT_.out HW_.out (by kernel_rfl)) (fun _ _ _ h => h) (Or.inl ⟨by rfl, ?_⟩) hHeld ?_ ?_
          rotate_left
          ·
           rintro w' ⟨s0, s1, s2, s3⟩
           go_simp
           with_reducible rfl
          rotate_left
          ·
           simp only [Act.put, List.setIfInBounds_toArray, List.set_cons_zero, List.set_cons_succ, i64_w, i32_w]
           rfl
          refine one_ (i := 5) (N := some 74) #[true, true, true, true, true, true, true, true, true, false, false, false, false, false, false, false, false, false] rfl rfl (one_of HT_.out (by kernel_rfl)) (by decide) (fun K hK => ?_)
          refine goes_ Try.func25 (by kernel_rfl) rfl #[.agg #[.int .i64 a0_0, .int .i64 a0_1], .agg #[.int .i64 a1_0, .int .i64 a1_1]] (by rfl) rfl rfl (by (try simp only [List.map_toArray, List.map_cons, List.map_nil]); first | done | rfl | (simp only [List.length_drop, List.length_take]; rfl)) ?_
          with_reducible refine (span_Within.calls a0_0 a0_1 a1_0 a1_1 t380 _ A226.out).mono ?_
          rintro e w237 ⟨rfl, hb⟩
          refine ⟨_, rfl, ?_⟩
          have n0_ := Aside0.mk (bB (g := gb355) (o := .cells #[.int .i64 a0_0, .int .i64 a0_1] 23 (0, 0)) (by (with_reducible repeat (first | refine bN ?_ _ | refine bD ?_ | refine bA ?_ _)); exact BK355.out) hb)
          have n1_ := Aside0.mk (bB (g := gb356) (o := .cells #[.int .i64 a1_0, .int .i64 a1_1] 23 (0, 0)) (by (with_reducible repeat (first | refine bN ?_ _ | refine bD ?_ | refine bA ?_ _)); exact BK356.out) hb)
          have n2_ := Aside0.mk (bB (g := gb357) (o := .cells #[.int .i64 a2_0, .int .i64 a2_1] 23 (0, 0)) (by (with_reducible repeat (first | refine bN ?_ _ | refine bD ?_ | refine bA ?_ _)); exact BK357.out) hb)
          have n3_ := Aside0.mk (bP (by repeat (first | (with_reducible first | exact HB.out | apply bL | apply bW | apply b1 | refine bS ?_ GE355.out | refine bS ?_ GE356.out | refine bS ?_ GE357.out) | exact HB.out)) hb)
          clear BK355
          clear BK356
          clear BK357
          clear HB
          have BK355 := n0_
          have BK356 := n1_
          have BK357 := n2_
          have HB := n3_
          clear n0_ n1_ n2_ n3_
          (try clear hb)
          (try clear hb2)
          (try clear hk)
          (try clear hi)
          refine hK.out _ _ ⟨(bC BK355.out 0).trans rfl, (bC BK355.out 1).trans rfl, (bC BK356.out 0).trans rfl, (bC BK356.out 1).trans rfl⟩ (fun hHeld => ?_)
          clear hK K
          refine norm_ (a' := ?_) ?_ ?_
          rotate_left
          ·
           show Act.put _ (some 74) _ = _
           simp only [Act.put, List.setIfInBounds_toArray, List.set_cons_zero, List.set_cons_succ, i64_w, i32_w]
           rfl
          refine one_ (i := 9) (N := some 78) #[true, true, true, true, true, true, true, true, true, true, false, false, false, false, false, false, false, false] rfl rfl (one_of HT_.out (by kernel_rfl)) (by decide) (fun K hK => ?_)
          refine goes_ Try.func17 (by kernel_rfl) rfl #[.agg #[.int .i64 a1_0, .int .i64 a1_1], .int .i64 a0_0] (by rfl) rfl rfl (by (try simp only [List.map_toArray, List.map_cons, List.map_nil]); first | done | rfl | (simp only [List.length_drop, List.length_take]; rfl)) ?_
          with_reducible refine (span_Has.calls a1_0 a1_1 a0_0 false _ A227.out).mono ?_
          rintro e w238 ⟨rfl, hb⟩
          refine ⟨_, rfl, ?_⟩
          have n0_ := Aside0.mk (bB (g := gb355) (o := .cells #[.int .i64 a0_0, .int .i64 a0_1] 23 (0, 0)) (by (with_reducible repeat (first | refine bN ?_ _ | refine bD ?_ | refine bA ?_ _)); exact BK355.out) hb)
          have n1_ := Aside0.mk (bB (g := gb356) (o := .cells #[.int .i64 a1_0, .int .i64 a1_1] 23 (0, 0)) (by (with_reducible repeat (first | refine bN ?_ _ | refine bD ?_ | refine bA ?_ _)); exact BK356.out) hb)
          have n2_ := Aside0.mk (bB (g := gb357) (o := .cells #[.int .i64 a2_0, .int .i64 a2_1] 23 (0, 0)) (by (with_reducible repeat (first | refine bN ?_ _ | refine bD ?_ | refine bA ?_ _)); exact BK357.out) hb)
          have n3_ := Aside0.mk (bP (by repeat (first | (with_reducible first | exact HB.out | apply bL | apply bW | apply b1 | refine bS ?_ GE355.out | refine bS ?_ GE356.out | refine bS ?_ GE357.out) | exact HB.out)) hb)
          clear BK355
          clear BK356
          clear BK357
          clear HB
          have BK355 := n0_
          have BK356 := n1_
          have BK357 := n2_
          have HB := n3_
          clear n0_ n1_ n2_ n3_
          (try clear hb)
          (try clear hb2)
          (try clear hk)
          (try clear hi)
          refine hK.out _ _ ⟨(bC BK355.out 0).trans rfl, (bC BK355.out 1).trans rfl, (bC BK356.out 0).trans rfl, (bC BK356.out 1).trans rfl⟩ (fun hHeld => ?_)
          clear hK K
          refine norm_ (a' := ?_) ?_ ?_
          rotate_left
          ·
           show Act.put _ (some 78) _ = _
           simp only [Act.put, List.setIfInBounds_toArray, List.set_cons_zero, List.set_cons_succ, i64_w, i32_w]
           rfl
          refine pure_ (i := 10) (N := some 79) (v := ?_) (a' := ?_) #[true, true, true, true, true, true, true, true, true, true, true, false, false, false, false, false, false, false] rfl rfl (any_of HT_.out (by kernel_rfl)) (fun _ _ _ h => h) (Or.inl ⟨by rfl, ?_⟩) ?_ ?_
          rotate_left
          ·
           intro w'
           go_simp
           with_reducible rfl
          rotate_left
          ·
           simp only [Act.put, List.setIfInBounds_toArray, List.set_cons_zero, List.set_cons_succ, i64_w, i32_w]
           rfl
          refine pure_ (i := 11) (N := some 80) (v := undef) (a' := ?_) #[true, true, true, true, true, true, true, true, true, true, true, true, false, false, false, false, false, false] rfl rfl (any_of HT_.out (by kernel_rfl)) (fun _ _ _ h => h) (Or.inr ⟨by rfl, rfl⟩) ?_ ?_
          rotate_left
          ·
           simp only [Act.put, List.setIfInBounds_toArray, List.set_cons_zero, List.set_cons_succ, i64_w, i32_w]
           rfl
          refine pure_ (i := 12) (N := some 81) (v := undef) (a' := ?_) #[true, true, true, true, true, true, true, true, true, true, true, true, true, false, false, false, false, false] rfl rfl (any_of HT_.out (by kernel_rfl)) (fun _ _ _ h => h) (Or.inr ⟨by rfl, rfl⟩) ?_ ?_
          rotate_left
          ·
           simp only [Act.put, List.setIfInBounds_toArray, List.set_cons_zero, List.set_cons_succ, i64_w, i32_w]
           rfl
          refine pure_ (i := 13) (N := some 82) (v := undef) (a' := ?_) #[true, true, true, true, true, true, true, true, true, true, true, true, true, true, false, false, false, false] rfl rfl (any_of HT_.out (by kernel_rfl)) (fun _ _ _ h => h) (Or.inr ⟨by rfl, rfl⟩) ?_ ?_
          rotate_left
          ·
           simp only [Act.put, List.setIfInBounds_toArray, List.set_cons_zero, List.set_cons_succ, i64_w, i32_w]
           rfl
          refine pure_ (i := 14) (N := some 83) (v := undef) (a' := ?_) #[true, true, true, true, true, true, true, true, true, true, true, true, true, true, true, false, false, false] rfl rfl (any_of HT_.out (by kernel_rfl)) (fun _ _ _ h => h) (Or.inr ⟨by rfl, rfl⟩) ?_ ?_
          rotate_left
          ·
           simp only [Act.put, List.setIfInBounds_toArray, List.set_cons_zero, List.set_cons_succ, i64_w, i32_w]
           rfl
          refine pure_ (i := 15) (N := some 84) (v := ?_) (a' := ?_) #[true, true, true, true, true, true, true, true, true, true, true, true, true, true, true, true, false, false] rfl rfl (any_of HT_.out (by kernel_rfl)) (fun _ _ _ h => h) (Or.inl ⟨by rfl, ?_⟩) ?_ ?_
          rotate_left
          ·
           intro w'
           go_simp
           with_reducible rfl
          rotate_left
          ·
           simp only [Act.put, List.setIfInBounds_toArray, List.set_cons_zero, List.set_cons_succ, i64_w, i32_w]
           rfl
          refine pure_ (i := 16) (N := some 85) (v := ?_) (a' := ?_) #[true, true, true, true, true, true, true, true, true, true, true, true, true, true, true, true, true, false] rfl rfl (any_of HT_.out (by kernel_rfl)) (fun _ _ _ h => h) (Or.inl ⟨by rfl, ?_⟩) ?_ ?_
          rotate_left
          ·
           intro w'
           go_simp
           with_reducible rfl
          rotate_left
          ·
           simp only [Act.put, List.setIfInBounds_toArray, List.set_cons_zero, List.set_cons_succ, i64_w, i32_w]
           rfl
          refine pure_ (i := 17) (N := some 86) (v := ?_) (a' := ?_) #[true, true, true, true, true, true, true, true, true, true, true, true, true, true, true, true, true, true] rfl rfl (any_of HT_.out (by kernel_rfl)) (fun _ _ _ h => h) (Or.inl ⟨by rfl, ?_⟩) ?_ ?_
          rotate_left
          ·
           intro w'
           go_simp
           with_reducible rfl
          rotate_left
          ·
           simp only [Act.put, List.setIfInBounds_toArray, List.set_cons_zero, List.set_cons_succ, i64_w, i32_w]
           rfl
          refine done_ (done_of HT_.out (by kernel_rfl)) ?_
          try go_wp2
          go_meet
          case rel => exact ⟨_, ((t380 != false)), (by first | rfl | (simp; done) | (simp [*]; done)), H', ⟨by have := HJ5.out; have := HJ199.out; first | omega | exact Nat.le_refl _⟩, ⟨by (with_reducible repeat (first | refine bN ?_ _ | refine bD ?_ | refine bA ?_ _)); exact BK355.out⟩, ⟨by (with_reducible repeat (first | refine bN ?_ _ | refine bD ?_ | refine bA ?_ _)); exact BK356.out⟩, ⟨by (with_reducible repeat (first | refine bN ?_ _ | refine bD ?_ | refine bA ?_ _)); exact BK357.out⟩, ⟨by repeat (first | (with_reducible first | exact HB.out | apply bL | apply bW | apply b1 | refine bS ?_ GE355.out | refine bS ?_ GE356.out | refine bS ?_ GE357.out) | exact HB.out)⟩⟩
        ·
         replace c225 := Bool.eq_false_iff.mpr c225
         subst c225
         have H1 : (bournelaw09_SpanOrders.j2 kj199 a3 t358 false a0_0 a0_1 a1_0 a1_1) = some r := by rw [if_neg (show ¬ (false = true) by decide)] at H; exact H
         clear H
         have H := H1
         clear H1
         have H' := Aside0.mk H
         clear H
         try go_wp2
         have n0_ := Aside0.mk (bD BK355.out)
         have n1_ := Aside0.mk (bD BK356.out)
         have n2_ := Aside0.mk (bD BK357.out)
         have n3_ := Aside0.mk (b1 HB.out)
         clear BK355
         clear BK356
         clear BK357
         clear HB
         have BK355 := n0_
         have BK356 := n1_
         have BK357 := n2_
         have HB := n3_
         clear n0_ n1_ n2_ n3_
         refine start_ (n := 18) (S := fun w' => w'.cell? ⟨gb355, 0, none⟩ = some (.int .i64 a0_0) ∧ w'.cell? ⟨gb355, 1, none⟩ = some (.int .i64 a0_1)) (ds := []) #[false, false, false, false, false, false, false, false, false, false, false, false, false, false, false, false, false, false] (by kernel_rfl) rfl rfl ⟨(bC BK355.out 0).trans rfl, (bC BK355.out 1).trans rfl⟩ (fun hHeld => ?_); refine with_tabW bournelaw09_SpanOrders.tab6 bournelaw09_SpanOrders.bits6 (fun HT_ HW_ => ?_)
         generalize wc.drew = w239 at BK355 BK356 BK357 HB hHeld ⊢
         refine take_ (i := 0) (N := some 69) (v := ?_) (a' := ?_) #[true, false, false, false, false, false, false, false, false, false, false, false, false, false, false, false, false, false] rfl rfl (take_ofW HT_.out HW_.out (by kernel_rfl)) (fun _ _ _ h => h) (Or.inl ⟨by rfl, ?_⟩) hHeld ?_ ?_
         rotate_left
         ·
          rintro w' ⟨s0, s1⟩
          go_simp
          with_reducible rfl
         rotate_left
         ·
          simp only [Act.put, List.setIfInBounds_toArray, List.set_cons_zero, List.set_cons_succ, i64_w, i32_w]
          rfl
         refine one_ (i := 1) (N := some 70) #[true, true, false, false, false, false, false, false, false, false, false, false, false, false, false, false, false, false] rfl rfl (one_of HT_.out (by kernel_rfl)) (by decide) (fun K hK => ?_)
         refine goes_ Try.func13 (by kernel_rfl) rfl #[.agg #[.int .i64 a0_0, .int .i64 a0_1]] (by rfl) rfl rfl (by (try simp only [List.map_toArray, List.map_cons, List.map_nil]); first | done | rfl | (simp only [List.length_drop, List.length_take]; rfl)) ?_
         with_reducible refine (span_Right.calls a0_0 a0_1 false _ A224.out).mono ?_
         rintro e w240 ⟨rfl, hb⟩
         refine ⟨_, rfl, ?_⟩
         have n0_ := Aside0.mk (bB (g := gb355) (o := .cells #[.int .i64 a0_0, .int .i64 a0_1] 23 (0, 0)) (by (with_reducible repeat (first | refine bN ?_ _ | refine bD ?_ | refine bA ?_ _)); exact BK355.out) hb)
         have n1_ := Aside0.mk (bB (g := gb356) (o := .cells #[.int .i64 a1_0, .int .i64 a1_1] 23 (0, 0)) (by (with_reducible repeat (first | refine bN ?_ _ | refine bD ?_ | refine bA ?_ _)); exact BK356.out) hb)
         have n2_ := Aside0.mk (bB (g := gb357) (o := .cells #[.int .i64 a2_0, .int .i64 a2_1] 23 (0, 0)) (by (with_reducible repeat (first | refine bN ?_ _ | refine bD ?_ | refine bA ?_ _)); exact BK357.out) hb)
         have n3_ := Aside0.mk (bP (by repeat (first | (with_reducible first | exact HB.out | apply bL | apply bW | apply b1 | refine bS ?_ GE355.out | refine bS ?_ GE356.out | refine bS ?_ GE357.out) | exact HB.out)) hb)
         clear BK355
         clear BK356
         clear BK357
         clear HB
         have BK355 := n0_
         have BK356 := n1_
         have BK357 := n2_
         have HB := n3_
         clear n0_ n1_ n2_ n3_
         (try clear hb)
         (try clear hb2)
         (try clear hk)
         (try clear hi)
         refine hK.out _ _ ⟨(bC BK355.out 0).trans rfl, (bC BK355.out 1).trans rfl⟩ (fun hHeld => ?_)
         clear hK K
         refine norm_ (a' := ?_) ?_ ?_
         rotate_left
         ·
          show Act.put _ (some 70) _ = _
          simp only [Act.put, List.setIfInBounds_toArray, List.set_cons_zero, List.set_cons_succ, i64_w, i32_w]
          rfl
         refine pure_ (i := 2) (N := some 71) (v := ?_) (a' := ?_) #[true, true, true, false, false, false, false, false, false, false, false, false, false, false, false, false, false, false] rfl rfl (any_of HT_.out (by kernel_rfl)) (fun _ _ _ h => h) (Or.inl ⟨by rfl, ?_⟩) ?_ ?_
         rotate_left
         ·
          intro w'
          go_simp
          with_reducible rfl
         rotate_left
         ·
          simp only [Act.put, List.setIfInBounds_toArray, List.set_cons_zero, List.set_cons_succ, i64_w, i32_w]
          rfl
         refine pure_ (i := 3) (N := some 72) (v := undef) (a' := ?_) #[true, true, true, true, false, false, false, false, false, false, false, false, false, false, false, false, false, false] rfl rfl (any_of HT_.out (by kernel_rfl)) (fun _ _ _ h => h) (Or.inr ⟨by rfl, rfl⟩) ?_ ?_
         rotate_left
         ·
          simp only [Act.put, List.setIfInBounds_toArray, List.set_cons_zero, List.set_cons_succ, i64_w, i32_w]
          rfl
         refine pure_ (i := 4) (N := some 73) (v := undef) (a' := ?_) #[true, true, true, true, true, false, false, false, false, false, false, false, false, false, false, false, false, false] rfl rfl (any_of HT_.out (by kernel_rfl)) (fun _ _ _ h => h) (Or.inr ⟨by rfl, rfl⟩) ?_ ?_
         rotate_left
         ·
          simp only [Act.put, List.setIfInBounds_toArray, List.set_cons_zero, List.set_cons_succ, i64_w, i32_w]
          rfl
         refine pure_ (i := 5) (N := some 74) (v := undef) (a' := ?_) #[true, true, true, true, true, true, false, false, false, false, false, false, false, false, false, false, false, false] rfl rfl (any_of HT_.out (by kernel_rfl)) (fun _ _ _ h => h) (Or.inr ⟨by rfl, rfl⟩) ?_ ?_
         rotate_left
         ·
          simp only [Act.put, List.setIfInBounds_toArray, List.set_cons_zero, List.set_cons_succ, i64_w, i32_w]
          rfl
         refine pure_ (i := 6) (N := some 75) (v := undef) (a' := ?_) #[true, true, true, true, true, true, true, false, false, false, false, false, false, false, false, false, false, false] rfl rfl (any_of HT_.out (by kernel_rfl)) (fun _ _ _ h => h) (Or.inr ⟨by rfl, rfl⟩) ?_ ?_
         rotate_left
         ·
          simp only [Act.put, List.setIfInBounds_toArray, List.set_cons_zero, List.set_cons_succ, i64_w, i32_w]
          rfl
         refine pure_ (i := 7) (N := some 76) (v := undef) (a' := ?_) #[true, true, true, true, true, true, true, true, false, false, false, false, false, false, false, false, false, false] rfl rfl (any_of HT_.out (by kernel_rfl)) (fun _ _ _ h => h) (Or.inr ⟨by rfl, rfl⟩) ?_ ?_
         rotate_left
         ·
          simp only [Act.put, List.setIfInBounds_toArray, List.set_cons_zero, List.set_cons_succ, i64_w, i32_w]
          rfl
         refine pure_ (i := 8) (N := some 77) (v := undef) (a' := ?_) #[true, true, true, true, true, true, true, true, true, false, false, false, false, false, false, false, false, false] rfl rfl (any_of HT_.out (by kernel_rfl)) (fun _ _ _ h => h) (Or.inr ⟨by rfl, rfl⟩) ?_ ?_
         rotate_left
         ·
          simp only [Act.put, List.setIfInBounds_toArray, List.set_cons_zero, List.set_cons_succ, i64_w, i32_w]
          rfl
         refine pure_ (i := 9) (N := some 78) (v := undef) (a' := ?_) #[true, true, true, true, true, true, true, true, true, true, false, false, false, false, false, false, false, false] rfl rfl (any_of HT_.out (by kernel_rfl)) (fun _ _ _ h => h) (Or.inr ⟨by rfl, rfl⟩) ?_ ?_
         rotate_left
         ·
          simp only [Act.put, List.setIfInBounds_toArray, List.set_cons_zero, List.set_cons_succ, i64_w, i32_w]
          rfl
         refine pure_ (i := 10) (N := some 79) (v := undef) (a' := ?_) #[true, true, true, true, true, true, true, true, true, true, true, false, false, false, false, false, false, false] rfl rfl (any_of HT_.out (by kernel_rfl)) (fun _ _ _ h => h) (Or.inr ⟨by rfl, rfl⟩) ?_ ?_
         rotate_left
         ·
          simp only [Act.put, List.setIfInBounds_toArray, List.set_cons_zero, List.set_cons_succ, i64_w, i32_w]
          rfl
         refine pure_ (i := 11) (N := some 80) (v := undef) (a' := ?_) #[true, true, true, true, true, true, true, true, true, true, true, true, false, false, false, false, false, false] rfl rfl (any_of HT_.out (by kernel_rfl)) (fun _ _ _ h => h) (Or.inr ⟨by rfl, rfl⟩) ?_ ?_
         rotate_left
         ·
          simp only [Act.put, List.setIfInBounds_toArray, List.set_cons_zero, List.set_cons_succ, i64_w, i32_w]
          rfl
         refine pure_ (i := 12) (N := some 81) (v := undef) (a' := ?_) #[true, true, true, true, true, true, true, true, true, true, true, true, true, false, false, false, false, false] rfl rfl (any_of HT_.out (by kernel_rfl)) (fun _ _ _ h => h) (Or.inr ⟨by rfl, rfl⟩) ?_ ?_
         rotate_left
         ·
          simp only [Act.put, List.setIfInBounds_toArray, List.set_cons_zero, List.set_cons_succ, i64_w, i32_w]
          rfl
         refine pure_ (i := 13) (N := some 82) (v := undef) (a' := ?_) #[true, true, true, true, true, true, true, true, true, true, true, true, true, true, false, false, false, false] rfl rfl (any_of HT_.out (by kernel_rfl)) (fun _ _ _ h => h) (Or.inr ⟨by rfl, rfl⟩) ?_ ?_
         rotate_left
         ·
          simp only [Act.put, List.setIfInBounds_toArray, List.set_cons_zero, List.set_cons_succ, i64_w, i32_w]
          rfl
         refine pure_ (i := 14) (N := some 83) (v := undef) (a' := ?_) #[true, true, true, true, true, true, true, true, true, true, true, true, true, true, true, false, false, false] rfl rfl (any_of HT_.out (by kernel_rfl)) (fun _ _ _ h => h) (Or.inr ⟨by rfl, rfl⟩) ?_ ?_
         rotate_left
         ·
          simp only [Act.put, List.setIfInBounds_toArray, List.set_cons_zero, List.set_cons_succ, i64_w, i32_w]
          rfl
         refine pure_ (i := 15) (N := some 84) (v := undef) (a' := ?_) #[true, true, true, true, true, true, true, true, true, true, true, true, true, true, true, true, false, false] rfl rfl (any_of HT_.out (by kernel_rfl)) (fun _ _ _ h => h) (Or.inr ⟨by rfl, rfl⟩) ?_ ?_
         rotate_left
         ·
          simp only [Act.put, List.setIfInBounds_toArray, List.set_cons_zero, List.set_cons_succ, i64_w, i32_w]
          rfl
         refine pure_ (i := 16) (N := some 85) (v := undef) (a' := ?_) #[true, true, true, true, true, true, true, true, true, true, true, true, true, true, true, true, true, false] rfl rfl (any_of HT_.out (by kernel_rfl)) (fun _ _ _ h => h) (Or.inr ⟨by rfl, rfl⟩) ?_ ?_
         rotate_left
         ·
          simp only [Act.put, List.setIfInBounds_toArray, List.set_cons_zero, List.set_cons_succ, i64_w, i32_w]
          rfl
         refine pure_ (i := 17) (N := some 86) (v := ?_) (a' := ?_) #[true, true, true, true, true, true, true, true, true, true, true, true, true, true, true, true, true, true] rfl rfl (any_of HT_.out (by kernel_rfl)) (fun _ _ _ h => h) (Or.inl ⟨by rfl, ?_⟩) ?_ ?_
         rotate_left
         ·
          intro w'
          go_simp
          with_reducible rfl
         rotate_left
         ·
          simp only [Act.put, List.setIfInBounds_toArray, List.set_cons_zero, List.set_cons_succ, i64_w, i32_w]
          rfl
         refine done_ (done_of HT_.out (by kernel_rfl)) ?_
         try go_wp2
         go_meet
         case rel => exact ⟨_, (false), (by first | rfl | (simp; done) | (simp [*]; done)), H', ⟨by have := HJ5.out; have := HJ199.out; first | omega | exact Nat.le_refl _⟩, ⟨by (with_reducible repeat (first | refine bN ?_ _ | refine bD ?_ | refine bA ?_ _)); exact BK355.out⟩, ⟨by (with_reducible repeat (first | refine bN ?_ _ | refine bD ?_ | refine bA ?_ _)); exact BK356.out⟩, ⟨by (with_reducible repeat (first | refine bN ?_ _ | refine bD ?_ | refine bA ?_ _)); exact BK357.out⟩, ⟨by repeat (first | (with_reducible first | exact HB.out | apply bL | apply bW | apply b1 | refine bS ?_ GE355.out | refine bS ?_ GE356.out | refine bS ?_ GE357.out) | exact HB.out)⟩⟩
       case rest =>
        clear HC223
        try clear c1
        try clear c2
        try clear p2
        try clear c13
        try clear c17
        try clear c22
        try clear c25
        try clear c225
        try clear c228
        obtain ⟨kq, x86_222, rfl, HA, HJ222, BK355, BK356, BK357, HB⟩ := hcut
        cases kq with
        | zero => exact absurd HA.out (by simp [bournelaw09_SpanOrders.j2])
        | succ kj222 =>
         have H := HA.out
         clear HA
         simp only [bournelaw09_SpanOrders.j2] at H
         by_cases c241 : x86_222 = true
         ·
          subst c241
          have H1 : (some false) = some r := by rw [if_pos rfl] at H; exact H
          clear H
          have H := H1
          clear H1
          exact absurd (H.trans (congrArg some hT.out)) (by simp)
         ·
          replace c241 := Bool.eq_false_iff.mpr c241
          subst c241
          have H1 : (if t358 = true then ((span_Within.f a0_0 a0_1 a1_0 a1_1).bind fun t383 => (if t383 = true then ((span_Has.f a0_0 a0_1 a3).bind fun t384 => (if t384 = true then ((span_Has.f a1_0 a1_1 a3).bind fun t385 => (if t385 = true then ((span_Of.f a3).bind fun bt386 => (if (bt386.1 == a3 && (bt386.2 == a3)) = true then ((span_Of.f a3).bind fun bt388 => ((span_Has.f bt388.1 bt388.2 a3).bind fun t390 => (some t390))) else (some false))) else (some false))) else ((span_Of.f a3).bind fun bt391 => (if (bt391.1 == a3 && (bt391.2 == a3)) = true then ((span_Of.f a3).bind fun bt393 => ((span_Has.f bt393.1 bt393.2 a3).bind fun t395 => (some t395))) else (some false))))) else ((span_Of.f a3).bind fun bt396 => (if (bt396.1 == a3 && (bt396.2 == a3)) = true then ((span_Of.f a3).bind fun bt398 => ((span_Has.f bt398.1 bt398.2 a3).bind fun t400 => (some t400))) else (some false))))) else (some false)) = some r := by rw [if_neg (show ¬ (false = true) by decide)] at H; exact H
          clear H
          have H := H1
          clear H1
          by_cases c242 : t358 = true
          ·
           subst c242
           have H1 : ((span_Within.f a0_0 a0_1 a1_0 a1_1).bind fun t383 => (if t383 = true then ((span_Has.f a0_0 a0_1 a3).bind fun t384 => (if t384 = true then ((span_Has.f a1_0 a1_1 a3).bind fun t385 => (if t385 = true then ((span_Of.f a3).bind fun bt386 => (if (bt386.1 == a3 && (bt386.2 == a3)) = true then ((span_Of.f a3).bind fun bt388 => ((span_Has.f bt388.1 bt388.2 a3).bind fun t390 => (some t390))) else (some false))) else (some false))) else ((span_Of.f a3).bind fun bt391 => (if (bt391.1 == a3 && (bt391.2 == a3)) = true then ((span_Of.f a3).bind fun bt393 => ((span_Has.f bt393.1 bt393.2 a3).bind fun t395 => (some t395))) else (some false))))) else ((span_Of.f a3).bind fun bt396 => (if (bt396.1 == a3 && (bt396.2 == a3)) = true then ((span_Of.f a3).bind fun bt398 => ((span_Has.f bt398.1 bt398.2 a3).bind fun t400 => (some t400))) else (some false))))) = some r := by rw [if_pos rfl] at H; exact H
           clear H
           have H := H1
           clear H1
           replace H := Option.bind_eq_some_iff.mp H
           obtain ⟨t383, A2430, H⟩ := H
           have A243 := Aside0.mk A2430
           clear A2430
           by_cases c244 : t383 = true
           ·
            subst c244
            have H1 : ((span_Has.f a0_0 a0_1 a3).bind fun t384 => (if t384 = true then ((span_Has.f a1_0 a1_1 a3).bind fun t385 => (if t385 = true then ((span_Of.f a3).bind fun bt386 => (if (bt386.1 == a3 && (bt386.2 == a3)) = true then ((span_Of.f a3).bind fun bt388 => ((span_Has.f bt388.1 bt388.2 a3).bind fun t390 => (some t390))) else (some false))) else (some false))) else ((span_Of.f a3).bind fun bt391 => (if (bt391.1 == a3 && (bt391.2 == a3)) = true then ((span_Of.f a3).bind fun bt393 => ((span_Has.f bt393.1 bt393.2 a3).bind fun t395 => (some t395))) else (some false))))) = some r := by rw [if_pos rfl] at H; exact H
            clear H
            have H := H1
            clear H1
            replace H := Option.bind_eq_some_iff.mp H
            obtain ⟨t384, A2450, H⟩ := H
            have A245 := Aside0.mk A2450
            clear A2450
            by_cases c246 : t384 = true
            ·
             subst c246
             have H1 : ((span_Has.f a1_0 a1_1 a3).bind fun t385 => (if t385 = true then ((span_Of.f a3).bind fun bt386 => (if (bt386.1 == a3 && (bt386.2 == a3)) = true then ((span_Of.f a3).bind fun bt388 => ((span_Has.f bt388.1 bt388.2 a3).bind fun t390 => (some t390))) else (some false))) else (some false))) = some r := by rw [if_pos rfl] at H; exact H
             clear H
             have H := H1
             clear H1
             replace H := Option.bind_eq_some_iff.mp H
             obtain ⟨t385, A2470, H⟩ := H
             have A247 := Aside0.mk A2470
             clear A2470
             by_cases c248 : t385 = true
             ·
              subst c248
              have H1 : ((span_Of.f a3).bind fun bt386 => (if (bt386.1 == a3 && (bt386.2 == a3)) = true then ((span_Of.f a3).bind fun bt388 => ((span_Has.f bt388.1 bt388.2 a3).bind fun t390 => (some t390))) else (some false))) = some r := by rw [if_pos rfl] at H; exact H
              clear H
              have H := H1
              clear H1
              replace H := Option.bind_eq_some_iff.mp H
              obtain ⟨⟨t386, t387⟩, A2490, H⟩ := H
              dsimp only at H
              have A249 := Aside0.mk A2490
              clear A2490
              by_cases c250 : (t386 == a3 && (t387 == a3)) = true
              ·
               rw [if_pos c250] at H
               have c250b0 : (t386 == a3 && (t387 == a3)) = true := c250
               (try (have c250b1 : decide (t386 = a3 && (t387 == a3)) = true := by simpa using c250))
               (try (have c250b2 : (t386 == a3 && (t387 == a3)) = true := by simpa using c250))
               clear c250
               replace H := Option.bind_eq_some_iff.mp H
               obtain ⟨⟨t388, t389⟩, A2510, H⟩ := H
               dsimp only at H
               have A251 := Aside0.mk A2510
               clear A2510
               replace H := Option.bind_eq_some_iff.mp H
               obtain ⟨t390, A2520, H⟩ := H
               have A252 := Aside0.mk A2520
               clear A2520
               obtain rfl := Option.some.inj H
               have hnb253 := NB355_356.out
               have hnc253 := NB356_355.out
               have hnb254 := NB355_357.out
               have hnc254 := NB357_355.out
               have hcz255_0 : wc.cell? ⟨gb355, 0, none⟩ = some (.int .i64 a0_0) := (bC BK355.out 0).trans rfl
               have hcz255_1 : wc.cell? ⟨gb355, 1, none⟩ = some (.int .i64 a0_1) := (bC BK355.out 1).trans rfl
               have hfz255_0 := bF BK355.out 0
               have hfz255_1 := bF BK355.out 1
               have hnb256 := NB356_357.out
               have hnc256 := NB357_356.out
               have hcz257_0 : wc.cell? ⟨gb356, 0, none⟩ = some (.int .i64 a1_0) := (bC BK356.out 0).trans rfl
               have hcz257_1 : wc.cell? ⟨gb356, 1, none⟩ = some (.int .i64 a1_1) := (bC BK356.out 1).trans rfl
               have hfz257_0 := bF BK356.out 0
               have hfz257_1 := bF BK356.out 1
               go_wp2_with (first | (go_at_call 25; (with_reducible refine (span_Within.calls a0_0 a0_1 a1_0 a1_1 true _ A243.out).mono ?_); rintro e w258 ⟨rfl, hb⟩; (try clear A243); have n0_ := Aside0.mk (bB (g := gb355) (o := .cells #[.int .i64 a0_0, .int .i64 a0_1] 23 (0, 0)) (by (with_reducible repeat (first | refine bN ?_ _ | refine bD ?_ | refine bA ?_ _)); exact BK355.out) hb); have n1_ := Aside0.mk (bB (g := gb356) (o := .cells #[.int .i64 a1_0, .int .i64 a1_1] 23 (0, 0)) (by (with_reducible repeat (first | refine bN ?_ _ | refine bD ?_ | refine bA ?_ _)); exact BK356.out) hb); have n2_ := Aside0.mk (bB (g := gb357) (o := .cells #[.int .i64 a2_0, .int .i64 a2_1] 23 (0, 0)) (by (with_reducible repeat (first | refine bN ?_ _ | refine bD ?_ | refine bA ?_ _)); exact BK357.out) hb); have n3_ := Aside0.mk (bP (by repeat (first | (with_reducible first | exact HB.out | apply bL | apply bW | apply b1 | refine bS ?_ GE355.out | refine bS ?_ GE356.out | refine bS ?_ GE357.out) | exact HB.out)) hb); clear BK355; clear BK356; clear BK357; clear HB; have BK355 := n0_; have BK356 := n1_; have BK357 := n2_; have HB := n3_; clear n0_ n1_ n2_ n3_; (try clear hb); (try clear hb2); (try clear hk); (try clear hi); have hcz259_0 : w258.cell? ⟨gb355, 0, none⟩ = some (.int .i64 a0_0) := (bC BK355.out 0).trans rfl; have hcz259_1 : w258.cell? ⟨gb355, 1, none⟩ = some (.int .i64 a0_1) := (bC BK355.out 1).trans rfl; have hfz259_0 := bF BK355.out 0; have hfz259_1 := bF BK355.out 1) | (go_at_call 17; (with_reducible refine (span_Has.calls a0_0 a0_1 a3 true _ A245.out).mono ?_); rintro e w260 ⟨rfl, hb⟩; (try clear A245); have n0_ := Aside0.mk (bB (g := gb355) (o := .cells #[.int .i64 a0_0, .int .i64 a0_1] 23 (0, 0)) (by (with_reducible repeat (first | refine bN ?_ _ | refine bD ?_ | refine bA ?_ _)); exact BK355.out) hb); have n1_ := Aside0.mk (bB (g := gb356) (o := .cells #[.int .i64 a1_0, .int .i64 a1_1] 23 (0, 0)) (by (with_reducible repeat (first | refine bN ?_ _ | refine bD ?_ | refine bA ?_ _)); exact BK356.out) hb); have n2_ := Aside0.mk (bB (g := gb357) (o := .cells #[.int .i64 a2_0, .int .i64 a2_1] 23 (0, 0)) (by (with_reducible repeat (first | refine bN ?_ _ | refine bD ?_ | refine bA ?_ _)); exact BK357.out) hb); have n3_ := Aside0.mk (bP (by repeat (first | (with_reducible first | exact HB.out | apply bL | apply bW | apply b1 | refine bS ?_ GE355.out | refine bS ?_ GE356.out | refine bS ?_ GE357.out) | exact HB.out)) hb); clear BK355; clear BK356; clear BK357; clear HB; have BK355 := n0_; have BK356 := n1_; have BK357 := n2_; have HB := n3_; clear n0_ n1_ n2_ n3_; (try clear hb); (try clear hb2); (try clear hk); (try clear hi); have hcz261_0 : w260.cell? ⟨gb356, 0, none⟩ = some (.int .i64 a1_0) := (bC BK356.out 0).trans rfl; have hcz261_1 : w260.cell? ⟨gb356, 1, none⟩ = some (.int .i64 a1_1) := (bC BK356.out 1).trans rfl; have hfz261_0 := bF BK356.out 0; have hfz261_1 := bF BK356.out 1) | (go_at_call 17; (with_reducible refine (span_Has.calls a1_0 a1_1 a3 true _ A247.out).mono ?_); rintro e w262 ⟨rfl, hb⟩; (try clear A247); have n0_ := Aside0.mk (bB (g := gb355) (o := .cells #[.int .i64 a0_0, .int .i64 a0_1] 23 (0, 0)) (by (with_reducible repeat (first | refine bN ?_ _ | refine bD ?_ | refine bA ?_ _)); exact BK355.out) hb); have n1_ := Aside0.mk (bB (g := gb356) (o := .cells #[.int .i64 a1_0, .int .i64 a1_1] 23 (0, 0)) (by (with_reducible repeat (first | refine bN ?_ _ | refine bD ?_ | refine bA ?_ _)); exact BK356.out) hb); have n2_ := Aside0.mk (bB (g := gb357) (o := .cells #[.int .i64 a2_0, .int .i64 a2_1] 23 (0, 0)) (by (with_reducible repeat (first | refine bN ?_ _ | refine bD ?_ | refine bA ?_ _)); exact BK357.out) hb); have n3_ := Aside0.mk (bP (by repeat (first | (with_reducible first | exact HB.out | apply bL | apply bW | apply b1 | refine bS ?_ GE355.out | refine bS ?_ GE356.out | refine bS ?_ GE357.out) | exact HB.out)) hb); clear BK355; clear BK356; clear BK357; clear HB; have BK355 := n0_; have BK356 := n1_; have BK357 := n2_; have HB := n3_; clear n0_ n1_ n2_ n3_; (try clear hb); (try clear hb2); (try clear hk); (try clear hi)) | (go_at_call 15; (with_reducible refine (span_Of.calls a3 t386 t387 _ A249.out).mono ?_); rintro e w263 ⟨rfl, hb⟩; (try clear A249); have n0_ := Aside0.mk (bB (g := gb355) (o := .cells #[.int .i64 a0_0, .int .i64 a0_1] 23 (0, 0)) (by (with_reducible repeat (first | refine bN ?_ _ | refine bD ?_ | refine bA ?_ _)); exact BK355.out) hb); have n1_ := Aside0.mk (bB (g := gb356) (o := .cells #[.int .i64 a1_0, .int .i64 a1_1] 23 (0, 0)) (by (with_reducible repeat (first | refine bN ?_ _ | refine bD ?_ | refine bA ?_ _)); exact BK356.out) hb); have n2_ := Aside0.mk (bB (g := gb357) (o := .cells #[.int .i64 a2_0, .int .i64 a2_1] 23 (0, 0)) (by (with_reducible repeat (first | refine bN ?_ _ | refine bD ?_ | refine bA ?_ _)); exact BK357.out) hb); have n3_ := Aside0.mk (bP (by repeat (first | (with_reducible first | exact HB.out | apply bL | apply bW | apply b1 | refine bS ?_ GE355.out | refine bS ?_ GE356.out | refine bS ?_ GE357.out) | exact HB.out)) hb); clear BK355; clear BK356; clear BK357; clear HB; have BK355 := n0_; have BK356 := n1_; have BK357 := n2_; have HB := n3_; clear n0_ n1_ n2_ n3_; (try clear hb); (try clear hb2); (try clear hk); (try clear hi)) | (go_at_call 15; (with_reducible refine (span_Of.calls a3 t388 t389 _ A251.out).mono ?_); rintro e w264 ⟨rfl, hb⟩; (try clear A251); have n0_ := Aside0.mk (bB (g := gb355) (o := .cells #[.int .i64 a0_0, .int .i64 a0_1] 23 (0, 0)) (by (with_reducible repeat (first | refine bN ?_ _ | refine bD ?_ | refine bA ?_ _)); exact BK355.out) hb); have n1_ := Aside0.mk (bB (g := gb356) (o := .cells #[.int .i64 a1_0, .int .i64 a1_1] 23 (0, 0)) (by (with_reducible repeat (first | refine bN ?_ _ | refine bD ?_ | refine bA ?_ _)); exact BK356.out) hb); have n2_ := Aside0.mk (bB (g := gb357) (o := .cells #[.int .i64 a2_0, .int .i64 a2_1] 23 (0, 0)) (by (with_reducible repeat (first | refine bN ?_ _ | refine bD ?_ | refine bA ?_ _)); exact BK357.out) hb); have n3_ := Aside0.mk (bP (by repeat (first | (with_reducible first | exact HB.out | apply bL | apply bW | apply b1 | refine bS ?_ GE355.out | refine bS ?_ GE356.out | refine bS ?_ GE357.out) | exact HB.out)) hb); clear BK355; clear BK356; clear BK357; clear HB; have BK355 := n0_; have BK356 := n1_; have BK357 := n2_; have HB := n3_; clear n0_ n1_ n2_ n3_; (try clear hb); (try clear hb2); (try clear hk); (try clear hi)) | (go_at_call 17; (with_reducible refine (span_Has.calls t388 t389 a3 t390 _ A252.out).mono ?_); rintro e w265 ⟨rfl, hb⟩; (try clear A252); have n0_ := Aside0.mk (bB (g := gb355) (o := .cells #[.int .i64 a0_0, .int .i64 a0_1] 23 (0, 0)) (by (with_reducible repeat (first | refine bN ?_ _ | refine bD ?_ | refine bA ?_ _)); exact BK355.out) hb); have n1_ := Aside0.mk (bB (g := gb356) (o := .cells #[.int .i64 a1_0, .int .i64 a1_1] 23 (0, 0)) (by (with_reducible repeat (first | refine bN ?_ _ | refine bD ?_ | refine bA ?_ _)); exact BK356.out) hb); have n2_ := Aside0.mk (bB (g := gb357) (o := .cells #[.int .i64 a2_0, .int .i64 a2_1] 23 (0, 0)) (by (with_reducible repeat (first | refine bN ?_ _ | refine bD ?_ | refine bA ?_ _)); exact BK357.out) hb); have n3_ := Aside0.mk (bP (by repeat (first | (with_reducible first | exact HB.out | apply bL | apply bW | apply b1 | refine bS ?_ GE355.out | refine bS ?_ GE356.out | refine bS ?_ GE357.out) | exact HB.out)) hb); clear BK355; clear BK356; clear BK357; clear HB; have BK355 := n0_; have BK356 := n1_; have BK357 := n2_; have HB := n3_; clear n0_ n1_ n2_ n3_; (try clear hb); (try clear hb2); (try clear hk); (try clear hi)))
               go_ret
               exact ⟨by first | rfl | (simp [errW_none, errW_some] <;> rfl) | (simp [*, errW_none, errW_some] <;> rfl), by repeat (first | (with_reducible first | exact HB.out | apply bL | apply bW | apply b1 | refine bS ?_ GE355.out | refine bS ?_ GE356.out | refine bS ?_ GE357.out) | exact HB.out)⟩
              ·
               rw [if_neg c250] at H
               have c250b0 : (t386 == a3 && (t387 == a3)) = false := by simpa using c250
               (try (have c250b1 : decide (t386 = a3 && (t387 == a3)) = false := by simpa using c250))
               (try (have c250b2 : (t386 == a3 && (t387 == a3)) = false := by simpa using c250))
               (try (have c250b3 : ¬ (t386 = a3 && (t387 == a3)) := by simpa using c250))
               clear c250
               exact absurd (H.trans (congrArg some hT.out)) (by simp)
             ·
              replace c248 := Bool.eq_false_iff.mpr c248
              subst c248
              have H1 : (some false) = some r := by rw [if_neg (show ¬ (false = true) by decide)] at H; exact H
              clear H
              have H := H1
              clear H1
              exact absurd (H.trans (congrArg some hT.out)) (by simp)
            ·
             replace c246 := Bool.eq_false_iff.mpr c246
             subst c246
             have H1 : ((span_Of.f a3).bind fun bt391 => (if (bt391.1 == a3 && (bt391.2 == a3)) = true then ((span_Of.f a3).bind fun bt393 => ((span_Has.f bt393.1 bt393.2 a3).bind fun t395 => (some t395))) else (some false))) = some r := by rw [if_neg (show ¬ (false = true) by decide)] at H; exact H
             clear H
             have H := H1
             clear H1
             replace H := Option.bind_eq_some_iff.mp H
             obtain ⟨⟨t391, t392⟩, A2660, H⟩ := H
             dsimp only at H
             have A266 := Aside0.mk A2660
             clear A2660
             by_cases c267 : (t391 == a3 && (t392 == a3)) = true
             ·
              rw [if_pos c267] at H
              have c267b0 : (t391 == a3 && (t392 == a3)) = true := c267
              (try (have c267b1 : decide (t391 = a3 && (t392 == a3)) = true := by simpa using c267))
              (try (have c267b2 : (t391 == a3 && (t392 == a3)) = true := by simpa using c267))
              clear c267
              replace H := Option.bind_eq_some_iff.mp H
              obtain ⟨⟨t393, t394⟩, A2680, H⟩ := H
              dsimp only at H
              have A268 := Aside0.mk A2680
              clear A2680
              replace H := Option.bind_eq_some_iff.mp H
              obtain ⟨t395, A2690, H⟩ := H
              have A269 := Aside0.mk A2690
              clear A2690
              obtain rfl := Option.some.inj H
              have hnb270 := NB355_356.out
              have hnc270 := NB356_355.out
              have hnb271 := NB355_357.out
              have hnc271 := NB357_355.out
              have hcz272_0 : wc.cell? ⟨gb355, 0, none⟩ = some (.int .i64 a0_0) := (bC BK355.out 0).trans rfl
              have hcz272_1 : wc.cell? ⟨gb355, 1, none⟩ = some (.int .i64 a0_1) := (bC BK355.out 1).trans rfl
              have hfz272_0 := bF BK355.out 0
              have hfz272_1 := bF BK355.out 1
              have hnb273 := NB356_357.out
              have hnc273 := NB357_356.out
              have hcz274_0 : wc.cell? ⟨gb356, 0, none⟩ = some (.int .i64 a1_0) := (bC BK356.out 0).trans rfl
              have hcz274_1 : wc.cell? ⟨gb356, 1, none⟩ = some (.int .i64 a1_1) := (bC BK356.out 1).trans rfl
              have hfz274_0 := bF BK356.out 0
              have hfz274_1 := bF BK356.out 1
              go_wp2_with (first | (go_at_call 25; (with_reducible refine (span_Within.calls a0_0 a0_1 a1_0 a1_1 true _ A243.out).mono ?_); rintro e w275 ⟨rfl, hb⟩; (try clear A243); have n0_ := Aside0.mk (bB (g := gb355) (o := .cells #[.int .i64 a0_0, .int .i64 a0_1] 23 (0, 0)) (by (with_reducible repeat (first | refine bN ?_ _ | refine bD ?_ | refine bA ?_ _)); exact BK355.out) hb); have n1_ := Aside0.mk (bB (g := gb356) (o := .cells #[.int .i64 a1_0, .int .i64 a1_1] 23 (0, 0)) (by (with_reducible repeat (first | refine bN ?_ _ | refine bD ?_ | refine bA ?_ _)); exact BK356.out) hb); have n2_ := Aside0.mk (bB (g := gb357) (o := .cells #[.int .i64 a2_0, .int .i64 a2_1] 23 (0, 0)) (by (with_reducible repeat (first | refine bN ?_ _ | refine bD ?_ | refine bA ?_ _)); exact BK357.out) hb); have n3_ := Aside0.mk (bP (by repeat (first | (with_reducible first | exact HB.out | apply bL | apply bW | apply b1 | refine bS ?_ GE355.out | refine bS ?_ GE356.out | refine bS ?_ GE357.out) | exact HB.out)) hb); clear BK355; clear BK356; clear BK357; clear HB; have BK355 := n0_; have BK356 := n1_; have BK357 := n2_; have HB := n3_; clear n0_ n1_ n2_ n3_; (try clear hb); (try clear hb2); (try clear hk); (try clear hi); have hcz276_0 : w275.cell? ⟨gb355, 0, none⟩ = some (.int .i64 a0_0) := (bC BK355.out 0).trans rfl; have hcz276_1 : w275.cell? ⟨gb355, 1, none⟩ = some (.int .i64 a0_1) := (bC BK355.out 1).trans rfl; have hfz276_0 := bF BK355.out 0; have hfz276_1 := bF BK355.out 1) | (go_at_call 17; (with_reducible refine (span_Has.calls a0_0 a0_1 a3 false _ A245.out).mono ?_); rintro e w277 ⟨rfl, hb⟩; (try clear A245); have n0_ := Aside0.mk (bB (g := gb355) (o := .cells #[.int .i64 a0_0, .int .i64 a0_1] 23 (0, 0)) (by (with_reducible repeat (first | refine bN ?_ _ | refine bD ?_ | refine bA ?_ _)); exact BK355.out) hb); have n1_ := Aside0.mk (bB (g := gb356) (o := .cells #[.int .i64 a1_0, .int .i64 a1_1] 23 (0, 0)) (by (with_reducible repeat (first | refine bN ?_ _ | refine bD ?_ | refine bA ?_ _)); exact BK356.out) hb); have n2_ := Aside0.mk (bB (g := gb357) (o := .cells #[.int .i64 a2_0, .int .i64 a2_1] 23 (0, 0)) (by (with_reducible repeat (first | refine bN ?_ _ | refine bD ?_ | refine bA ?_ _)); exact BK357.out) hb); have n3_ := Aside0.mk (bP (by repeat (first | (with_reducible first | exact HB.out | apply bL | apply bW | apply b1 | refine bS ?_ GE355.out | refine bS ?_ GE356.out | refine bS ?_ GE357.out) | exact HB.out)) hb); clear BK355; clear BK356; clear BK357; clear HB; have BK355 := n0_; have BK356 := n1_; have BK357 := n2_; have HB := n3_; clear n0_ n1_ n2_ n3_; (try clear hb); (try clear hb2); (try clear hk); (try clear hi)) | (go_at_call 15; (with_reducible refine (span_Of.calls a3 t391 t392 _ A266.out).mono ?_); rintro e w278 ⟨rfl, hb⟩; (try clear A266); have n0_ := Aside0.mk (bB (g := gb355) (o := .cells #[.int .i64 a0_0, .int .i64 a0_1] 23 (0, 0)) (by (with_reducible repeat (first | refine bN ?_ _ | refine bD ?_ | refine bA ?_ _)); exact BK355.out) hb); have n1_ := Aside0.mk (bB (g := gb356) (o := .cells #[.int .i64 a1_0, .int .i64 a1_1] 23 (0, 0)) (by (with_reducible repeat (first | refine bN ?_ _ | refine bD ?_ | refine bA ?_ _)); exact BK356.out) hb); have n2_ := Aside0.mk (bB (g := gb357) (o := .cells #[.int .i64 a2_0, .int .i64 a2_1] 23 (0, 0)) (by (with_reducible repeat (first | refine bN ?_ _ | refine bD ?_ | refine bA ?_ _)); exact BK357.out) hb); have n3_ := Aside0.mk (bP (by repeat (first | (with_reducible first | exact HB.out | apply bL | apply bW | apply b1 | refine bS ?_ GE355.out | refine bS ?_ GE356.out | refine bS ?_ GE357.out) | exact HB.out)) hb); clear BK355; clear BK356; clear BK357; clear HB; have BK355 := n0_; have BK356 := n1_; have BK357 := n2_; have HB := n3_; clear n0_ n1_ n2_ n3_; (try clear hb); (try clear hb2); (try clear hk); (try clear hi)) | (go_at_call 15; (with_reducible refine (span_Of.calls a3 t393 t394 _ A268.out).mono ?_); rintro e w279 ⟨rfl, hb⟩; (try clear A268); have n0_ := Aside0.mk (bB (g := gb355) (o := .cells #[.int .i64 a0_0, .int .i64 a0_1] 23 (0, 0)) (by (with_reducible repeat (first | refine bN ?_ _ | refine bD ?_ | refine bA ?_ _)); exact BK355.out) hb); have n1_ := Aside0.mk (bB (g := gb356) (o := .cells #[.int .i64 a1_0, .int .i64 a1_1] 23 (0, 0)) (by (with_reducible repeat (first | refine bN ?_ _ | refine bD ?_ | refine bA ?_ _)); exact BK356.out) hb); have n2_ := Aside0.mk (bB (g := gb357) (o := .cells #[.int .i64 a2_0, .int .i64 a2_1] 23 (0, 0)) (by (with_reducible repeat (first | refine bN ?_ _ | refine bD ?_ | refine bA ?_ _)); exact BK357.out) hb); have n3_ := Aside0.mk (bP (by repeat (first | (with_reducible first | exact HB.out | apply bL | apply bW | apply b1 | refine bS ?_ GE355.out | refine bS ?_ GE356.out | refine bS ?_ GE357.out) | exact HB.out)) hb); clear BK355; clear BK356; clear BK357; clear HB; have BK355 := n0_; have BK356 := n1_; have BK357 := n2_; have HB := n3_; clear n0_ n1_ n2_ n3_; (try clear hb); (try clear hb2); (try clear hk); (try clear hi)) | (go_at_call 17; (with_reducible refine (span_Has.calls t393 t394 a3 t395 _ A269.out).mono ?_); rintro e w280 ⟨rfl, hb⟩; (try clear A269); have n0_ := Aside0.mk (bB (g := gb355) (o := .cells #[.int .i64 a0_0, .int .i64 a0_1] 23 (0, 0)) (by (with_reducible repeat (first | refine bN ?_ _ | refine bD ?_ | refine bA ?_ _)); exact BK355.out) hb); have n1_ := Aside0.mk (bB (g := gb356) (o := .cells #[.int .i64 a1_0, .int .i64 a1_1] 23 (0, 0)) (by (with_reducible repeat (first | refine bN ?_ _ | refine bD ?_ | refine bA ?_ _)); exact BK356.out) hb); have n2_ := Aside0.mk (bB (g := gb357) (o := .cells #[.int .i64 a2_0, .int .i64 a2_1] 23 (0, 0)) (by (with_reducible repeat (first | refine bN ?_ _ | refine bD ?_ | refine bA ?_ _)); exact BK357.out) hb); have n3_ := Aside0.mk (bP (by repeat (first | (with_reducible first | exact HB.out | apply bL | apply bW | apply b1 | refine bS ?_ GE355.out | refine bS ?_ GE356.out | refine bS ?_ GE357.out) | exact HB.out)) hb); clear BK355; clear BK356; clear BK357; clear HB; have BK355 := n0_; have BK356 := n1_; have BK357 := n2_; have HB := n3_; clear n0_ n1_ n2_ n3_; (try clear hb); (try clear hb2); (try clear hk); (try clear hi)))
              go_ret
              exact ⟨by first | rfl | (simp [errW_none, errW_some] <;> rfl) | (simp [*, errW_none, errW_some] <;> rfl), by repeat (first | (with_reducible first | exact HB.out | apply bL | apply bW | apply b1 | refine bS ?_ GE355.out | refine bS ?_ GE356.out | refine bS ?_ GE357.out) | exact HB.out)⟩
             ·
              rw [if_neg c267] at H
              have c267b0 : (t391 == a3 && (t392 == a3)) = false := by simpa using c267
              (try (have c267b1 : decide (t391 = a3 && (t392 == a3)) = false := by simpa using c267))
              (try (have c267b2 : (t391 == a3 && (t392 == a3)) = false := by simpa using c267))
              (try (have c267b3 : ¬ (t391 = a3 && (t392 == a3)) := by simpa using c267))
              clear c267
              exact absurd (H.trans (congrArg some hT.out)) (by simp)
           ·
            replace c244 := Bool.eq_false_iff.mpr c244
            subst c244
            have H1 : ((span_Of.f a3).bind fun bt396 => (if (bt396.1 == a3 && (bt396.2 == a3)) = true then ((span_Of.f a3).bind fun bt398 => ((span_Has.f bt398.1 bt398.2 a3).bind fun t400 => (some t400))) else (some false))) = some r := by rw [if_neg (show ¬ (false = true) by decide)] at H; exact H
            clear H
            have H := H1
            clear H1
            replace H := Option.bind_eq_some_iff.mp H
            obtain ⟨⟨t396, t397⟩, A2810, H⟩ := H
            dsimp only at H
            have A281 := Aside0.mk A2810
            clear A2810
            by_cases c282 : (t396 == a3 && (t397 == a3)) = true
            ·
             rw [if_pos c282] at H
             have c282b0 : (t396 == a3 && (t397 == a3)) = true := c282
             (try (have c282b1 : decide (t396 = a3 && (t397 == a3)) = true := by simpa using c282))
             (try (have c282b2 : (t396 == a3 && (t397 == a3)) = true := by simpa using c282))
             clear c282
             replace H := Option.bind_eq_some_iff.mp H
             obtain ⟨⟨t398, t399⟩, A2830, H⟩ := H
             dsimp only at H
             have A283 := Aside0.mk A2830
             clear A2830
             replace H := Option.bind_eq_some_iff.mp H
             obtain ⟨t400, A2840, H⟩ := H
             have A284 := Aside0.mk A2840
             clear A2840
             obtain rfl := Option.some.inj H
             have hnb285 := NB355_356.out
             have hnc285 := NB356_355.out
             have hnb286 := NB355_357.out
             have hnc286 := NB357_355.out
             have hcz287_0 : wc.cell? ⟨gb355, 0, none⟩ = some (.int .i64 a0_0) := (bC BK355.out 0).trans rfl
             have hcz287_1 : wc.cell? ⟨gb355, 1, none⟩ = some (.int .i64 a0_1) := (bC BK355.out 1).trans rfl
             have hfz287_0 := bF BK355.out 0
             have hfz287_1 := bF BK355.out 1
             have hnb288 := NB356_357.out
             have hnc288 := NB357_356.out
             have hcz289_0 : wc.cell? ⟨gb356, 0, none⟩ = some (.int .i64 a1_0) := (bC BK356.out 0).trans rfl
             have hcz289_1 : wc.cell? ⟨gb356, 1, none⟩ = some (.int .i64 a1_1) := (bC BK356.out 1).trans rfl
             have hfz289_0 := bF BK356.out 0
             have hfz289_1 := bF BK356.out 1
             go_wp2_with (first | (go_at_call 25; (with_reducible refine (span_Within.calls a0_0 a0_1 a1_0 a1_1 false _ A243.out).mono ?_); rintro e w290 ⟨rfl, hb⟩; (try clear A243); have n0_ := Aside0.mk (bB (g := gb355) (o := .cells #[.int .i64 a0_0, .int .i64 a0_1] 23 (0, 0)) (by (with_reducible repeat (first | refine bN ?_ _ | refine bD ?_ | refine bA ?_ _)); exact BK355.out) hb); have n1_ := Aside0.mk (bB (g := gb356) (o := .cells #[.int .i64 a1_0, .int .i64 a1_1] 23 (0, 0)) (by (with_reducible repeat (first | refine bN ?_ _ | refine bD ?_ | refine bA ?_ _)); exact BK356.out) hb); have n2_ := Aside0.mk (bB (g := gb357) (o := .cells #[.int .i64 a2_0, .int .i64 a2_1] 23 (0, 0)) (by (with_reducible repeat (first | refine bN ?_ _ | refine bD ?_ | refine bA ?_ _)); exact BK357.out) hb); have n3_ := Aside0.mk (bP (by repeat (first | (with_reducible first | exact HB.out | apply bL | apply bW | apply b1 | refine bS ?_ GE355.out | refine bS ?_ GE356.out | refine bS ?_ GE357.out) | exact HB.out)) hb); clear BK355; clear BK356; clear BK357; clear HB; have BK355 := n0_; have BK356 := n1_; have BK357 := n2_; have HB := n3_; clear n0_ n1_ n2_ n3_; (try clear hb); (try clear hb2); (try clear hk); (try clear hi)) | (go_at_call 15; (with_reducible refine (span_Of.calls a3 t396 t397 _ A281.out).mono ?_); rintro e w291 ⟨rfl, hb⟩; (try clear A281); have n0_ := Aside0.mk (bB (g := gb355) (o := .cells #[.int .i64 a0_0, .int .i64 a0_1] 23 (0, 0)) (by (with_reducible repeat (first | refine bN ?_ _ | refine bD ?_ | refine bA ?_ _)); exact BK355.out) hb); have n1_ := Aside0.mk (bB (g := gb356) (o := .cells #[.int .i64 a1_0, .int .i64 a1_1] 23 (0, 0)) (by (with_reducible repeat (first | refine bN ?_ _ | refine bD ?_ | refine bA ?_ _)); exact BK356.out) hb); have n2_ := Aside0.mk (bB (g := gb357) (o := .cells #[.int .i64 a2_0, .int .i64 a2_1] 23 (0, 0)) (by (with_reducible repeat (first | refine bN ?_ _ | refine bD ?_ | refine bA ?_ _)); exact BK357.out) hb); have n3_ := Aside0.mk (bP (by repeat (first | (with_reducible first | exact HB.out | apply bL | apply bW | apply b1 | refine bS ?_ GE355.out | refine bS ?_ GE356.out | refine bS ?_ GE357.out) | exact HB.out)) hb); clear BK355; clear BK356; clear BK357; clear HB; have BK355 := n0_; have BK356 := n1_; have BK357 := n2_; have HB := n3_; clear n0_ n1_ n2_ n3_; (try clear hb); (try clear hb2); (try clear hk); (try clear hi)) | (go_at_call 15; (with_reducible refine (span_Of.calls a3 t398 t399 _ A283.out).mono ?_); rintro e w292 ⟨rfl, hb⟩; (try clear A283); have n0_ := Aside0.mk (bB (g := gb355) (o := .cells #[.int .i64 a0_0, .int .i64 a0_1] 23 (0, 0)) (by (with_reducible repeat (first | refine bN ?_ _ | refine bD ?_ | refine bA ?_ _)); exact BK355.out) hb); have n1_ := Aside0.mk (bB (g := gb356) (o := .cells #[.int .i64 a1_0, .int .i64 a1_1] 23 (0, 0)) (by (with_reducible repeat (first | refine bN ?_ _ | refine bD ?_ | refine bA ?_ _)); exact BK356.out) hb); have n2_ := Aside0.mk (bB (g := gb357) (o := .cells #[.int .i64 a2_0, .int .i64 a2_1] 23 (0, 0)) (by (with_reducible repeat (first | refine bN ?_ _ | refine bD ?_ | refine bA ?_ _)); exact BK357.out) hb); have n3_ := Aside0.mk (bP (by repeat (first | (with_reducible first | exact HB.out | apply bL | apply bW | apply b1 | refine bS ?_ GE355.out | refine bS ?_ GE356.out | refine bS ?_ GE357.out) | exact HB.out)) hb); clear BK355; clear BK356; clear BK357; clear HB; have BK355 := n0_; have BK356 := n1_; have BK357 := n2_; have HB := n3_; clear n0_ n1_ n2_ n3_; (try clear hb); (try clear hb2); (try clear hk); (try clear hi)) | (go_at_call 17; (with_reducible refine (span_Has.calls t398 t399 a3 t400 _ A284.out).mono ?_); rintro e w293 ⟨rfl, hb⟩; (try clear A284); have n0_ := Aside0.mk (bB (g := gb355) (o := .cells #[.int .i64 a0_0, .int .i64 a0_1] 23 (0, 0)) (by (with_reducible repeat (first | refine bN ?_ _ | refine bD ?_ | refine bA ?_ _)); exact BK355.out) hb); have n1_ := Aside0.mk (bB (g := gb356) (o := .cells #[.int .i64 a1_0, .int .i64 a1_1] 23 (0, 0)) (by (with_reducible repeat (first | refine bN ?_ _ | refine bD ?_ | refine bA ?_ _)); exact BK356.out) hb); have n2_ := Aside0.mk (bB (g := gb357) (o := .cells #[.int .i64 a2_0, .int .i64 a2_1] 23 (0, 0)) (by (with_reducible repeat (first | refine bN ?_ _ | refine bD ?_ | refine bA ?_ _)); exact BK357.out) hb); have n3_ := Aside0.mk (bP (by repeat (first | (with_reducible first | exact HB.out | apply bL | apply bW | apply b1 | refine bS ?_ GE355.out | refine bS ?_ GE356.out | refine bS ?_ GE357.out) | exact HB.out)) hb); clear BK355; clear BK356; clear BK357; clear HB; have BK355 := n0_; have BK356 := n1_; have BK357 := n2_; have HB := n3_; clear n0_ n1_ n2_ n3_; (try clear hb); (try clear hb2); (try clear hk); (try clear hi)))
             go_ret
             exact ⟨by first | rfl | (simp [errW_none, errW_some] <;> rfl) | (simp [*, errW_none, errW_some] <;> rfl), by repeat (first | (with_reducible first | exact HB.out | apply bL | apply bW | apply b1 | refine bS ?_ GE355.out | refine bS ?_ GE356.out | refine bS ?_ GE357.out) | exact HB.out)⟩
            ·
             rw [if_neg c282] at H
             have c282b0 : (t396 == a3 && (t397 == a3)) = false := by simpa using c282
             (try (have c282b1 : decide (t396 = a3 && (t397 == a3)) = false := by simpa using c282))
             (try (have c282b2 : (t396 == a3 && (t397 == a3)) = false := by simpa using c282))
             (try (have c282b3 : ¬ (t396 = a3 && (t397 == a3)) := by simpa using c282))
             clear c282
             exact absurd (H.trans (congrArg some hT.out)) (by simp)
          ·
           replace c242 := Bool.eq_false_iff.mpr c242
           subst c242
           have H1 : (some false) = some r := by rw [if_neg (show ¬ (false = true) by decide)] at H; exact H
           clear H
           have H := H1
           clear H1
           exact absurd (H.trans (congrArg some hT.out)) (by simp)
def bournelaw09_SpanOrders.Pure : Prop := ∀ (a0_0 : Int) (a0_1 : Int) (a1_0 : Int) (a1_1 : Int) (a2_0 : Int) (a2_1 : Int) (a3 : Int), (Lit.int .i64 a0_0).wf = true → (Lit.int .i64 a0_1).wf = true → (Lit.int .i64 a1_0).wf = true → (Lit.int .i64 a1_1).wf = true → (Lit.int .i64 a2_0).wf = true → (Lit.int .i64 a2_1).wf = true → (Lit.int .i64 a3).wf = true → ∃ k, bournelaw09_SpanOrders.f k a0_0 a0_1 a1_0 a1_1 a2_0 a2_1 a3 = some true
theorem bournelaw09_SpanOrders.walk (P_ : bournelaw09_SpanOrders.Pure) (a0_0 : Int) (a0_1 : Int) (a1_0 : Int) (a1_1 : Int) (a2_0 : Int) (a2_1 : Int) (a3 : Int) (w : World) (y0 : (Lit.int .i64 a0_0).wf = true) (y1 : (Lit.int .i64 a0_1).wf = true) (y2 : (Lit.int .i64 a1_0).wf = true) (y3 : (Lit.int .i64 a1_1).wf = true) (y4 : (Lit.int .i64 a2_0).wf = true) (y5 : (Lit.int .i64 a2_1).wf = true) (y6 : (Lit.int .i64 a3).wf = true) :
  Calls Try.prog 7 #[.agg #[.int .i64 a0_0, .int .i64 a0_1], .agg #[.int .i64 a1_0, .int .i64 a1_1], .agg #[.int .i64 a2_0, .int .i64 a2_1], .int .i64 a3] w fun e w' => e = .returned (.bool true) ∧ Below w.heap.size w w' := by
 obtain ⟨k, h⟩ := P_ a0_0 a0_1 a1_0 a1_1 a2_0 a2_1 a3 y0 y1 y2 y3 y4 y5 y6
 refine (bournelaw09_SpanOrders.calls k a0_0 a0_1 a1_0 a1_1 a2_0 a2_1 a3 true w ⟨rfl⟩ h).mono ?_
 rintro e w' ⟨rfl, hd⟩
 exact ⟨rfl, hd⟩

end Go.Proofs.Ythbdhlcfcfjknaa.Fn
