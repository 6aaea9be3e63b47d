-- written by this session's program myprint.py out of the translation; Lean checks it
import Derived.Test.YthbdhlcfcfjknaaFn0
import Derived.Test.YthbdhlcfcfjknaaFn1
import Derived.Test.YthbdhlcfcfjknaaFn2
import Derived.Test.YthbdhlcfcfjknaaFn4
import Derived.Test.YthbdhlcfcfjknaaFn5
import Derived.Test.YthbdhlcfcfjknaaFn6
import Derived.Test.YthbdhlcfcfjknaaFn7
namespace Go.Proofs.Ythbdhlcfcfjknaa.Fn
open Go.RowKit Go.Proofs.YthbdhlcfcfjknaaW.PrintWords Go.Proofs.YthbdhlcfcfjknaaW.PrintLast Go.Proofs.YthbdhlcfcfjknaaW.PrintMore
open Go.Proofs.YthbdhlcfcfjknaaW.PrintWords renaming blk_drewN → bN, blk_drew → bD, blk_alloc → bA, below_set → bS, blk_cell → bC, blk_below → bB, blk_frozen → bF, pw_below_drewN → bW, below_drew1 → b1, below_alloc → bL, below_step → bP, below_size → bZ, blk_far → bR, blk_put → bU, blk_lt → bT
attribute [local go_sem] max2_int min2_int max_two min_two max_three min_three max_four min_four   -- for this text's walks alone
set_option linter.unusedVariables false
set_option linter.unusedSimpArgs false

attribute [local go_sem high] eqA23
/-! ### bournelaw09_SpanTells: function 3 -/
mutual
def bournelaw09_SpanTells.j0 : Nat → Int → Bool → Bool → Int → Int → Int → Int → Option (Bool)
 | 0, _, _, _, _, _, _, _ => none
 | k + 1, x2, x11, x66, x213000, x213001, x214000, x214001 => if x66 = true then (some false) else ((span_Right.f x213000 x213001).bind fun t231 => ((bourneref09_Right.f x213000 x213001).bind fun t232 => (if (t231 == t232) = true then ((span_Of.f x2).bind fun bt233 => ((bourneref09_Of.f x2).bind fun bt235 => (if (bt233.1 == bt235.1 && (bt233.2 == bt235.2)) = true then ((span_Has.f x213000 x213001 x2).bind fun t237 => ((bourneref09_Has.f x213000 x213001 x2).bind fun t238 => (bournelaw09_SpanTells.j1 k x11 (t237 == t238) x213000 x213001 x214000 x214001))) else (bournelaw09_SpanTells.j1 k x11 false x213000 x213001 x214000 x214001)))) else (bournelaw09_SpanTells.j1 k x11 false x213000 x213001 x214000 x214001))))
def bournelaw09_SpanTells.j1 : Nat → Bool → Bool → Int → Int → Int → Int → Option (Bool)
 | 0, _, _, _, _, _, _ => none
 | k + 1, x11, x20, x213000, x213001, x214000, x214001 => (span_Add.f x213000 x213001 x214000 x214001).bind fun bt239 => ((bourneref09_Add.f k x213000 x213001 x214000 x214001).bind fun bt241 => (if (bt239.1 == bt241.1 && (bt239.2 == bt241.2)) = true then ((span_Sub.f x213000 x213001 x214000 x214001).bind fun bt243 => ((bourneref09_Sub.f k x213000 x213001 x214000 x214001).bind fun bt245 => (if (bt243.1 == bt245.1 && (bt243.2 == bt245.2)) = true then ((span_Join.f x213000 x213001 x214000 x214001).bind fun bt247 => ((bourneref09_Join.f k x213000 x213001 x214000 x214001).bind fun bt249 => (bournelaw09_SpanTells.j2 k x11 x20 (bt247.1 == bt249.1 && (bt247.2 == bt249.2)) x213000 x213001 x214000 x214001))) else (bournelaw09_SpanTells.j2 k x11 x20 false x213000 x213001 x214000 x214001)))) else (bournelaw09_SpanTells.j2 k x11 x20 false x213000 x213001 x214000 x214001)))
def bournelaw09_SpanTells.j2 : Nat → Bool → Bool → Bool → Int → Int → Int → Int → Option (Bool)
 | 0, _, _, _, _, _, _, _ => none
 | k + 1, x11, x20, x21, x213000, x213001, x214000, x214001 => if x11 = true then (if x20 = true then (if x21 = true then ((span_Within.f x213000 x213001 x214000 x214001).bind fun t251 => ((bourneref09_Within.f x213000 x213001 x214000 x214001).bind fun t252 => (if (t251 == t252) = true then ((span_Width.f x213000 x213001).bind fun t253 => ((bourneref09_Width.f k x213000 x213001).bind fun t254 => (some (t253 == t254)))) else (some false)))) else (some false)) else (some false)) else (some false)
end
def bournelaw09_SpanTells.f (k : Nat) (a0_0 : Int) (a0_1 : Int) (a1_0 : Int) (a1_1 : Int) (a2 : Int) (a3 : Int) (a4 : Int) : Option (Bool) := (bournelaw09_small.f k).bind fun t214 => ((span_Scale.f k a0_0 a0_1 a3 a4).bind fun bt215 => ((bourneref09_Scale.f k a0_0 a0_1 a3 a4).bind fun bt219 => ((span_Meet.f a0_0 a0_1 a1_0 a1_1).bind fun bt223 => ((bourneref09_Meet.f k a0_0 a0_1 a1_0 a1_1).bind fun bt227 => (if (!(bt215.1 == bt219.1) || (!(bt215.2.1 == bt219.2.1))) = true then (bournelaw09_SpanTells.j0 k a2 t214 true a0_0 a0_1 a1_0 a1_1) else (if (bt215.2.2 != bt219.2.2) = true then (bournelaw09_SpanTells.j0 k a2 t214 true a0_0 a0_1 a1_0 a1_1) else (if (!(bt223.1 == bt227.1) || (!(bt223.2.1 == bt227.2.1))) = true then (bournelaw09_SpanTells.j0 k a2 t214 true a0_0 a0_1 a1_0 a1_1) else (bournelaw09_SpanTells.j0 k a2 t214 (bt223.2.2 != bt227.2.2) a0_0 a0_1 a1_0 a1_1))))))))
theorem bournelaw09_SpanTells.mono_l : ∀ k, (∀ y0 y1 y2 y3 y4 y5 y6, LeO (bournelaw09_SpanTells.j0 k y0 y1 y2 y3 y4 y5 y6) (bournelaw09_SpanTells.j0 (k + 1) y0 y1 y2 y3 y4 y5 y6)) ∧ (∀ y0 y1 y2 y3 y4 y5, LeO (bournelaw09_SpanTells.j1 k y0 y1 y2 y3 y4 y5) (bournelaw09_SpanTells.j1 (k + 1) y0 y1 y2 y3 y4 y5)) ∧ (∀ y0 y1 y2 y3 y4 y5 y6, LeO (bournelaw09_SpanTells.j2 k y0 y1 y2 y3 y4 y5 y6) (bournelaw09_SpanTells.j2 (k + 1) y0 y1 y2 y3 y4 y5 y6))
 | 0 => ⟨fun _ _ _ _ _ _ _ r h => by simp [bournelaw09_SpanTells.j0] at h, fun _ _ _ _ _ _ r h => by simp [bournelaw09_SpanTells.j1] at h, fun _ _ _ _ _ _ _ r h => by simp [bournelaw09_SpanTells.j2] at h⟩
 | k + 1 => by
  obtain ⟨ih0, ih1, ih2⟩ := bournelaw09_SpanTells.mono_l k
  refine ⟨?_, ?_, ?_⟩
  ·
   intro y0 y1 y2 y3 y4 y5 y6
   unfold bournelaw09_SpanTells.j0
   repeat' first
   | (with_reducible exact ih0 _ _ _ _ _ _ _)
   | (with_reducible exact ih1 _ _ _ _ _ _)
   | (with_reducible exact ih2 _ _ _ _ _ _ _)
   | (with_reducible exact bournelaw09_small.mono _)
   | (with_reducible exact bourneref09_Add.mono _ _ _ _ _)
   | (with_reducible exact bourneref09_Join.mono _ _ _ _ _)
   | (with_reducible exact bourneref09_Meet.mono _ _ _ _ _)
   | (with_reducible exact bourneref09_Scale.mono _ _ _ _ _)
   | (with_reducible exact bourneref09_Sub.mono _ _ _ _ _)
   | (with_reducible exact bourneref09_Width.mono _ _ _)
   | (with_reducible exact span_Scale.mono _ _ _ _ _)
   | (with_reducible exact LeO.refl _)
   | (with_reducible exact LeO.none _)
   | (with_reducible refine LeO.ite ?_ ?_)
   | (with_reducible refine LeO.bind ?_ (fun _ => ?_))
   | exact ih0 _ _ _ _ _ _ _
   | exact ih1 _ _ _ _ _ _
   | exact ih2 _ _ _ _ _ _ _
   | exact bournelaw09_small.mono _
   | exact bourneref09_Add.mono _ _ _ _ _
   | exact bourneref09_Join.mono _ _ _ _ _
   | exact bourneref09_Meet.mono _ _ _ _ _
   | exact bourneref09_Scale.mono _ _ _ _ _
   | exact bourneref09_Sub.mono _ _ _ _ _
   | exact bourneref09_Width.mono _ _ _
   | exact span_Scale.mono _ _ _ _ _
   | exact LeO.none _
   | refine LeO.ite ?_ ?_
   | refine LeO.bind ?_ (fun _ => ?_)
  ·
   intro y0 y1 y2 y3 y4 y5
   unfold bournelaw09_SpanTells.j1
   repeat' first
   | (with_reducible exact ih0 _ _ _ _ _ _ _)
   | (with_reducible exact ih1 _ _ _ _ _ _)
   | (with_reducible exact ih2 _ _ _ _ _ _ _)
   | (with_reducible exact bournelaw09_small.mono _)
   | (with_reducible exact bourneref09_Add.mono _ _ _ _ _)
   | (with_reducible exact bourneref09_Join.mono _ _ _ _ _)
   | (with_reducible exact bourneref09_Meet.mono _ _ _ _ _)
   | (with_reducible exact bourneref09_Scale.mono _ _ _ _ _)
   | (with_reducible exact bourneref09_Sub.mono _ _ _ _ _)
   | (with_reducible exact bourneref09_Width.mono _ _ _)
   | (with_reducible exact span_Scale.mono _ _ _ _ _)
   | (with_reducible exact LeO.refl _)
   | (with_reducible exact LeO.none _)
   | (with_reducible refine LeO.ite ?_ ?_)
   | (with_reducible refine LeO.bind ?_ (fun _ => ?_))
   | exact ih0 _ _ _ _ _ _ _
   | exact ih1 _ _ _ _ _ _
   | exact ih2 _ _ _ _ _ _ _
   | exact bournelaw09_small.mono _
   | exact bourneref09_Add.mono _ _ _ _ _
   | exact bourneref09_Join.mono _ _ _ _ _
   | exact bourneref09_Meet.mono _ _ _ _ _
   | exact bourneref09_Scale.mono _ _ _ _ _
   | exact bourneref09_Sub.mono _ _ _ _ _
   | exact bourneref09_Width.mono _ _ _
   | exact span_Scale.mono _ _ _ _ _
   | exact LeO.none _
   | refine LeO.ite ?_ ?_
   | refine LeO.bind ?_ (fun _ => ?_)
  ·
   intro y0 y1 y2 y3 y4 y5 y6
   unfold bournelaw09_SpanTells.j2
   repeat' first
   | (with_reducible exact ih0 _ _ _ _ _ _ _)
   | (with_reducible exact ih1 _ _ _ _ _ _)
   | (with_reducible exact ih2 _ _ _ _ _ _ _)
   | (with_reducible exact bournelaw09_small.mono _)
   | (with_reducible exact bourneref09_Add.mono _ _ _ _ _)
   | (with_reducible exact bourneref09_Join.mono _ _ _ _ _)
   | (with_reducible exact bourneref09_Meet.mono _ _ _ _ _)
   | (with_reducible exact bourneref09_Scale.mono _ _ _ _ _)
   | (with_reducible exact bourneref09_Sub.mono _ _ _ _ _)
   | (with_reducible exact bourneref09_Width.mono _ _ _)
   | (with_reducible exact span_Scale.mono _ _ _ _ _)
   | (with_reducible exact LeO.refl _)
   | (with_reducible exact LeO.none _)
   | (with_reducible refine LeO.ite ?_ ?_)
   | (with_reducible refine LeO.bind ?_ (fun _ => ?_))
   | exact ih0 _ _ _ _ _ _ _
   | exact ih1 _ _ _ _ _ _
   | exact ih2 _ _ _ _ _ _ _
   | exact bournelaw09_small.mono _
   | exact bourneref09_Add.mono _ _ _ _ _
   | exact bourneref09_Join.mono _ _ _ _ _
   | exact bourneref09_Meet.mono _ _ _ _ _
   | exact bourneref09_Scale.mono _ _ _ _ _
   | exact bourneref09_Sub.mono _ _ _ _ _
   | exact bourneref09_Width.mono _ _ _
   | exact span_Scale.mono _ _ _ _ _
   | exact LeO.none _
   | refine LeO.ite ?_ ?_
   | refine LeO.bind ?_ (fun _ => ?_)
theorem bournelaw09_SpanTells.mono : ∀ a0 a1 a2 a3 a4 a5 a6 k, LeO (bournelaw09_SpanTells.f k a0 a1 a2 a3 a4 a5 a6) (bournelaw09_SpanTells.f (k + 1) a0 a1 a2 a3 a4 a5 a6) := by
 intro a0 a1 a2 a3 a4 a5 a6 k
 obtain ⟨ih0, ih1, ih2⟩ := bournelaw09_SpanTells.mono_l k
 unfold bournelaw09_SpanTells.f
 repeat' first
   | (with_reducible exact ih0 _ _ _ _ _ _ _)
   | (with_reducible exact ih1 _ _ _ _ _ _)
   | (with_reducible exact ih2 _ _ _ _ _ _ _)
   | (with_reducible exact bournelaw09_small.mono _)
   | (with_reducible exact bourneref09_Add.mono _ _ _ _ _)
   | (with_reducible exact bourneref09_Join.mono _ _ _ _ _)
   | (with_reducible exact bourneref09_Meet.mono _ _ _ _ _)
   | (with_reducible exact bourneref09_Scale.mono _ _ _ _ _)
   | (with_reducible exact bourneref09_Sub.mono _ _ _ _ _)
   | (with_reducible exact bourneref09_Width.mono _ _ _)
   | (with_reducible exact span_Scale.mono _ _ _ _ _)
   | (with_reducible exact LeO.refl _)
   | (with_reducible exact LeO.none _)
   | (with_reducible refine LeO.ite ?_ ?_)
   | (with_reducible refine LeO.bind ?_ (fun _ => ?_))
   | exact ih0 _ _ _ _ _ _ _
   | exact ih1 _ _ _ _ _ _
   | exact ih2 _ _ _ _ _ _ _
   | exact bournelaw09_small.mono _
   | exact bourneref09_Add.mono _ _ _ _ _
   | exact bourneref09_Join.mono _ _ _ _ _
   | exact bourneref09_Meet.mono _ _ _ _ _
   | exact bourneref09_Scale.mono _ _ _ _ _
   | exact bourneref09_Sub.mono _ _ _ _ _
   | exact bourneref09_Width.mono _ _ _
   | exact span_Scale.mono _ _ _ _ _
   | exact LeO.none _
   | refine LeO.ite ?_ ?_
   | refine LeO.bind ?_ (fun _ => ?_)
def bournelaw09_SpanTells.T8 : Bool × List (List Nat × List Nat) := (true, [([], []), ([0], [0]), ([], []), ([2, 1], [2]), ([1, 3], [1, 3]), ([4, 3], [4]), ([5], [5]), ([6, 5, 5], [5, 6]), ([5], [5]), ([8, 7, 5], [5, 8]), ([7, 9, 5], [5, 7, 9]), ([5, 10], [5, 10]), ([11, 9], [11]), ([12], [12]), ([12], [12]), ([13, 14, 12, 12], [12, 13, 14]), ([12], [12]), ([12], [12]), ([16, 17, 15, 12], [12, 16, 17]), ([15, 18, 12], [12, 15, 18]), ([12, 19], [12, 19]), ([20, 18, 0, 1, 2, 3, 4, 5, 6, 7, 8, 9, 10, 11, 12, 13, 14, 15, 16, 17, 18, 19, 20], [20])])
def bournelaw09_SpanTells.B8 : List Nat := [0, 1, 0, 7, 15, 31, 63, 127, 63, 511, 1023, 2047, 4095, 8191, 8191, 32767, 8191, 8191, 262143, 524287, 1048575, 2097151]
theorem bournelaw09_SpanTells.tab8 : rtab .any (opsOf Try.f3 8) = bournelaw09_SpanTells.T8 := by kernel_rfl
theorem bournelaw09_SpanTells.bits8 : waitsOk bournelaw09_SpanTells.T8.2 bournelaw09_SpanTells.B8 = true := by kernel_rfl
def bournelaw09_SpanTells.T9 : Bool × List (List Nat × List Nat) := (true, [([], []), ([], []), ([0, 1], [0, 1]), ([], []), ([], []), ([3, 4, 2], [3, 4]), ([2, 5], [2, 5]), ([6, 5], [6]), ([7], [7]), ([7], [7]), ([8, 9, 7, 7], [7, 8, 9]), ([7], [7]), ([7], [7]), ([11, 12, 10, 7], [7, 11, 12]), ([10, 13, 7], [7, 10, 13]), ([7, 14], [7, 14]), ([15, 13], [15]), ([16], [16]), ([16], [16]), ([17, 18, 16, 16], [16, 17, 18]), ([16], [16]), ([16], [16]), ([20, 21, 19, 16], [16, 20, 21]), ([19, 22, 16], [16, 19, 22]), ([16, 23], [16, 23]), ([24, 22, 0, 1, 2, 3, 4, 5, 6, 7, 8, 9, 10, 11, 12, 13, 14, 15, 16, 17, 18, 19, 20, 21, 22, 23, 24], [24])])
def bournelaw09_SpanTells.B9 : List Nat := [0, 0, 3, 0, 0, 31, 63, 127, 255, 255, 1023, 255, 255, 8191, 16383, 32767, 65535, 131071, 131071, 524287, 131071, 131071, 4194303, 8388607, 16777215, 33554431]
theorem bournelaw09_SpanTells.tab9 : rtab .any (opsOf Try.f3 9) = bournelaw09_SpanTells.T9 := by kernel_rfl
theorem bournelaw09_SpanTells.bits9 : waitsOk bournelaw09_SpanTells.T9.2 bournelaw09_SpanTells.B9 = true := by kernel_rfl
def bournelaw09_SpanTells.T10 : Bool × List (List Nat × List Nat) := (true, [([], []), ([0], [0]), ([1], [1]), ([1, 2], [1, 2]), ([3, 1], [3]), ([4], [4]), ([4, 5], [4, 5]), ([6, 4], [6]), ([7], [7]), ([7], [7]), ([8, 9, 7, 7], [7, 8, 9]), ([7], [7]), ([7], [7]), ([11, 12, 10, 7], [7, 11, 12]), ([10, 13, 7], [7, 10, 13]), ([7, 14], [7, 14]), ([15, 13], [15]), ([16], [16]), ([17, 16, 16], [16, 17]), ([16], [16]), ([19, 18, 16], [16, 19]), ([18, 20, 16], [16, 18, 20]), ([16, 21], [16, 21]), ([22, 20, 0, 1, 2, 3, 4, 5, 6, 7, 8, 9, 10, 11, 12, 13, 14, 15, 16, 17, 18, 19, 20, 21, 22], [22])])
def bournelaw09_SpanTells.B10 : List Nat := [0, 1, 3, 7, 15, 31, 63, 127, 255, 255, 1023, 255, 255, 8191, 16383, 32767, 65535, 131071, 262143, 131071, 1048575, 2097151, 4194303, 8388607]
theorem bournelaw09_SpanTells.tab10 : rtab .any (opsOf Try.f3 10) = bournelaw09_SpanTells.T10 := by kernel_rfl
theorem bournelaw09_SpanTells.bits10 : waitsOk bournelaw09_SpanTells.T10.2 bournelaw09_SpanTells.B10 = true := by kernel_rfl
set_option maxHeartbeats 8000000 in
set_option maxRecDepth 100000 in
theorem bournelaw09_SpanTells.calls (k : Nat) (a0_0 : Int) (a0_1 : Int) (a1_0 : Int) (a1_1 : Int) (a2 : Int) (a3 : Int) (a4 : Int) (r : Bool) (w : World) (hT : Aside0 (r = true)) (h : bournelaw09_SpanTells.f k a0_0 a0_1 a1_0 a1_1 a2 a3 a4 = some r) :
  Calls Try.prog 3 #[.agg #[.int .i64 a0_0, .int .i64 a0_1], .agg #[.int .i64 a1_0, .int .i64 a1_1], .int .i64 a2, .int .i64 a3, .int .i64 a4] w fun e w' => e = .returned (.bool r) ∧ Below w.heap.size w w' := by
 have hu23 := Try.underlying23
 have HB := Aside0.mk (Below.refl w.heap.size w)
 have H : ((bournelaw09_small.f k).bind fun t214 => ((span_Scale.f k a0_0 a0_1 a3 a4).bind fun bt215 => ((bourneref09_Scale.f k a0_0 a0_1 a3 a4).bind fun bt219 => ((span_Meet.f a0_0 a0_1 a1_0 a1_1).bind fun bt223 => ((bourneref09_Meet.f k a0_0 a0_1 a1_0 a1_1).bind fun bt227 => (if (!(bt215.1 == bt219.1) || (!(bt215.2.1 == bt219.2.1))) = true then (bournelaw09_SpanTells.j0 k a2 t214 true a0_0 a0_1 a1_0 a1_1) else (if (bt215.2.2 != bt219.2.2) = true then (bournelaw09_SpanTells.j0 k a2 t214 true a0_0 a0_1 a1_0 a1_1) else (if (!(bt223.1 == bt227.1) || (!(bt223.2.1 == bt227.2.1))) = true then (bournelaw09_SpanTells.j0 k a2 t214 true a0_0 a0_1 a1_0 a1_1) else (bournelaw09_SpanTells.j0 k a2 t214 (bt223.2.2 != bt227.2.2) a0_0 a0_1 a1_0 a1_1))))))))) = some r := h
 clear h
 replace H := Option.bind_eq_some_iff.mp H
 obtain ⟨t214, A60, H⟩ := H
 have A6 := Aside0.mk A60
 clear A60
 replace H := Option.bind_eq_some_iff.mp H
 obtain ⟨⟨t215, t216, t217⟩, A70, H⟩ := H
 dsimp only at H
 have A7 := Aside0.mk A70
 clear A70
 replace H := Option.bind_eq_some_iff.mp H
 obtain ⟨⟨t219, t220, t221⟩, A80, H⟩ := H
 dsimp only at H
 have A8 := Aside0.mk A80
 clear A80
 replace H := Option.bind_eq_some_iff.mp H
 obtain ⟨⟨t223, t224, t225⟩, A90, H⟩ := H
 dsimp only at H
 have A9 := Aside0.mk A90
 clear A90
 replace H := Option.bind_eq_some_iff.mp H
 obtain ⟨⟨t227, t228, t229⟩, A100, H⟩ := H
 dsimp only at H
 have A10 := Aside0.mk A100
 clear A100
 have HC11 := Aside0.mk H
 clear H
 go_enter Try.func3, Try.ntmps3
 (try simp only [List.append_eq, List.cons_append, List.nil_append])
 go_upto_region 6 with (first | ((with_reducible refine gate_dst (N := 5) rfl ?_); refine box_event ?hg (N := 5) ?hd (cs := #[.int .i64 a0_0, .int .i64 a0_1]) (t := 23) ?hr ?_; (case hd => rfl); (case hg => rfl); (case hr => first | (go_simp; done) | (go_simp; rfl)); intro gb212 hg w12 hbox hb; have n0_ := Aside0.mk (bP (by repeat (first | (with_reducible first | exact HB.out | apply bL | apply bW | apply b1) | exact HB.out)) hb); have n1_ := Aside0.mk (hbox); have n2_ := Aside0.mk ((by rw [hg]; exact (bZ (by repeat (first | (with_reducible first | exact HB.out | apply bL | apply bW | apply b1) | exact HB.out))) : w.heap.size ≤ gb212)); have n3_ := Aside0.mk ((by rw [hg]; exact (bZ (by repeat (first | (with_reducible first | exact HB.out | apply bL | apply bW | apply b1) | exact HB.out))) : w.heap.size ≤ gb212)); clear HB; have HB := n0_; have BK212 := n1_; have GW212 := n2_; have GE212 := n3_; clear n0_ n1_ n2_ n3_; clear hb hbox hg) | ((with_reducible refine gate_dst (N := 6) rfl ?_); refine box_event ?hg (N := 6) ?hd (cs := #[.int .i64 a1_0, .int .i64 a1_1]) (t := 23) ?hr ?_; (case hd => rfl); (case hg => rfl); (case hr => first | (go_simp; done) | (go_simp; rfl)); intro gb213 hg w13 hbox hb; have n0_ := Aside0.mk (bB (g := gb212) (o := .cells #[.int .i64 a0_0, .int .i64 a0_1] 23 (0, 0)) (by (with_reducible repeat (first | refine bN ?_ _ | refine bD ?_ | refine bA ?_ _)); exact BK212.out) hb); have n1_ := Aside0.mk (bP (by repeat (first | (with_reducible first | exact HB.out | apply bL | apply bW | apply b1 | refine bS ?_ GE212.out) | exact HB.out)) hb); have n2_ := Aside0.mk (hbox); have n3_ := Aside0.mk ((by rw [hg]; exact (bZ (by repeat (first | (with_reducible first | exact HB.out | apply bL | apply bW | apply b1 | refine bS ?_ GE212.out) | exact HB.out))) : w.heap.size ≤ gb213)); have n4_ := Aside0.mk ((by rw [hg]; exact (bZ (by repeat (first | (with_reducible first | exact HB.out | apply bL | apply bW | apply b1 | refine bS ?_ GE212.out) | exact HB.out))) : w.heap.size ≤ gb213)); have n5_ := Aside0.mk ((by rw [hg]; exact Nat.ne_of_lt (bT (g := gb212) (o := .cells #[.int .i64 a0_0, .int .i64 a0_1] 23 (0, 0)) (by (with_reducible repeat (first | refine bN ?_ _ | refine bD ?_ | refine bA ?_ _)); exact BK212.out)) : gb212 ≠ gb213)); have n6_ := Aside0.mk ((by rw [hg]; exact Nat.ne_of_gt (bT (g := gb212) (o := .cells #[.int .i64 a0_0, .int .i64 a0_1] 23 (0, 0)) (by (with_reducible repeat (first | refine bN ?_ _ | refine bD ?_ | refine bA ?_ _)); exact BK212.out)) : gb213 ≠ gb212)); clear BK212; clear HB; have BK212 := n0_; have HB := n1_; have BK213 := n2_; have GW213 := n3_; have GE213 := n4_; have NB212_213 := n5_; have NB213_212 := n6_; clear n0_ n1_ n2_ n3_ n4_ n5_ n6_; clear hb hbox hg) | ((with_reducible refine gate_callee (f := 8) rfl ?_); refine goesL_ (some 22) rfl rfl Try.func8 (by kernel_rfl) rfl #[] rfl (by (try simp only [List.map_toArray, List.map_cons, List.map_nil]); first | done | rfl | (simp only [List.length_drop, List.length_take]; rfl)) ?_; (with_reducible refine (bournelaw09_small.calls k  t214 _ A6.out).mono ?_); rintro e w14 ⟨rfl, hb⟩; refine ⟨_, rfl, ?_⟩; have n0_ := Aside0.mk (bB (g := gb212) (o := .cells #[.int .i64 a0_0, .int .i64 a0_1] 23 (0, 0)) (by (with_reducible repeat (first | refine bN ?_ _ | refine bD ?_ | refine bA ?_ _)); exact BK212.out) hb); have n1_ := Aside0.mk (bB (g := gb213) (o := .cells #[.int .i64 a1_0, .int .i64 a1_1] 23 (0, 0)) (by (with_reducible repeat (first | refine bN ?_ _ | refine bD ?_ | refine bA ?_ _)); exact BK213.out) hb); have n2_ := Aside0.mk (bP (by repeat (first | (with_reducible first | exact HB.out | apply bL | apply bW | apply b1 | refine bS ?_ GE212.out | refine bS ?_ GE213.out) | exact HB.out)) hb); clear BK212; clear BK213; clear HB; have BK212 := n0_; have BK213 := n1_; have HB := n2_; clear n0_ n1_ n2_; (try clear hb); (try clear hb2); (try clear hk); (try clear hi); have hnb15 := NB212_213.out; have hnc15 := NB213_212.out; have hcz16_0 : w14.cell? ⟨gb212, 0, none⟩ = some (.int .i64 a0_0) := (bC BK212.out 0).trans rfl; have hcz16_1 : w14.cell? ⟨gb212, 1, none⟩ = some (.int .i64 a0_1) := (bC BK212.out 1).trans rfl; have hfz16_0 := bF BK212.out 0; have hfz16_1 := bF BK212.out 1) | ((with_reducible refine gate_callee (f := 9) rfl ?_); refine goesL_ (some 27) rfl rfl Try.func9 (by kernel_rfl) rfl #[.agg #[.int .i64 a0_0, .int .i64 a0_1], .int .i64 a3, .int .i64 a4] rfl (by (try simp only [List.map_toArray, List.map_cons, List.map_nil]); first | done | rfl | (simp only [List.length_drop, List.length_take]; rfl)) ?_; (with_reducible refine (span_Scale.calls k a0_0 a0_1 a3 a4 t215 t216 t217 _ A7.out).mono ?_); rintro e w17 ⟨rfl, hb⟩; refine ⟨_, rfl, ?_⟩; have n0_ := Aside0.mk (bB (g := gb212) (o := .cells #[.int .i64 a0_0, .int .i64 a0_1] 23 (0, 0)) (by (with_reducible repeat (first | refine bN ?_ _ | refine bD ?_ | refine bA ?_ _)); exact BK212.out) hb); have n1_ := Aside0.mk (bB (g := gb213) (o := .cells #[.int .i64 a1_0, .int .i64 a1_1] 23 (0, 0)) (by (with_reducible repeat (first | refine bN ?_ _ | refine bD ?_ | refine bA ?_ _)); exact BK213.out) hb); have n2_ := Aside0.mk (bP (by repeat (first | (with_reducible first | exact HB.out | apply bL | apply bW | apply b1 | refine bS ?_ GE212.out | refine bS ?_ GE213.out) | exact HB.out)) hb); clear BK212; clear BK213; clear HB; have BK212 := n0_; have BK213 := n1_; have HB := n2_; clear n0_ n1_ n2_; (try clear hb); (try clear hb2); (try clear hk); (try clear hi)) | ((with_reducible refine gate_dst (N := 12) rfl ?_); refine box_event ?hg (N := 12) ?hd (cs := #[.int .i64 0, .int .i64 0]) (t := 23) ?hr ?_; (case hd => rfl); (case hg => rfl); (case hr => first | (go_simp; done) | (go_simp; rfl)); intro gb218 hg w18 hbox hb; have n0_ := Aside0.mk (bB (g := gb212) (o := .cells #[.int .i64 a0_0, .int .i64 a0_1] 23 (0, 0)) (by (with_reducible repeat (first | refine bN ?_ _ | refine bD ?_ | refine bA ?_ _)); exact BK212.out) hb); have n1_ := Aside0.mk (bB (g := gb213) (o := .cells #[.int .i64 a1_0, .int .i64 a1_1] 23 (0, 0)) (by (with_reducible repeat (first | refine bN ?_ _ | refine bD ?_ | refine bA ?_ _)); exact BK213.out) hb); have n2_ := Aside0.mk (bP (by repeat (first | (with_reducible first | exact HB.out | apply bL | apply bW | apply b1 | refine bS ?_ GE212.out | refine bS ?_ GE213.out) | exact HB.out)) hb); have n3_ := Aside0.mk (hbox); have n4_ := Aside0.mk ((by rw [hg]; exact (bZ (by repeat (first | (with_reducible first | exact HB.out | apply bL | apply bW | apply b1 | refine bS ?_ GE212.out | refine bS ?_ GE213.out) | exact HB.out))) : w.heap.size ≤ gb218)); have n5_ := Aside0.mk ((by rw [hg]; exact (bZ (by repeat (first | (with_reducible first | exact HB.out | apply bL | apply bW | apply b1 | refine bS ?_ GE212.out | refine bS ?_ GE213.out) | exact HB.out))) : w.heap.size ≤ gb218)); have n6_ := Aside0.mk ((by rw [hg]; exact Nat.ne_of_lt (bT (g := gb212) (o := .cells #[.int .i64 a0_0, .int .i64 a0_1] 23 (0, 0)) (by (with_reducible repeat (first | refine bN ?_ _ | refine bD ?_ | refine bA ?_ _)); exact BK212.out)) : gb212 ≠ gb218)); have n7_ := Aside0.mk ((by rw [hg]; exact Nat.ne_of_gt (bT (g := gb212) (o := .cells #[.int .i64 a0_0, .int .i64 a0_1] 23 (0, 0)) (by (with_reducible repeat (first | refine bN ?_ _ | refine bD ?_ | refine bA ?_ _)); exact BK212.out)) : gb218 ≠ gb212)); have n8_ := Aside0.mk ((by rw [hg]; exact Nat.ne_of_lt (bT (g := gb213) (o := .cells #[.int .i64 a1_0, .int .i64 a1_1] 23 (0, 0)) (by (with_reducible repeat (first | refine bN ?_ _ | refine bD ?_ | refine bA ?_ _)); exact BK213.out)) : gb213 ≠ gb218)); have n9_ := Aside0.mk ((by rw [hg]; exact Nat.ne_of_gt (bT (g := gb213) (o := .cells #[.int .i64 a1_0, .int .i64 a1_1] 23 (0, 0)) (by (with_reducible repeat (first | refine bN ?_ _ | refine bD ?_ | refine bA ?_ _)); exact BK213.out)) : gb218 ≠ gb213)); clear BK212; clear BK213; clear HB; have BK212 := n0_; have BK213 := n1_; have HB := n2_; have BK218 := n3_; have GW218 := n4_; have GE218 := n5_; have NB212_218 := n6_; have NB218_212 := n7_; have NB213_218 := n8_; have NB218_213 := n9_; clear n0_ n1_ n2_ n3_ n4_ n5_ n6_ n7_ n8_ n9_; clear hb hbox hg; have hnb19 := NB218_212.out; have hnc19 := NB212_218.out; have hnb20 := NB218_213.out; have hnc20 := NB213_218.out; have hcz21_0 : w18.cell? ⟨gb218, 0, none⟩ = some (.int .i64 0) := (bC BK218.out 0).trans rfl; have hcz21_1 : w18.cell? ⟨gb218, 1, none⟩ = some (.int .i64 0) := (bC BK218.out 1).trans rfl; have hfz21_0 := bF BK218.out 0; have hfz21_1 := bF BK218.out 1; have hcz22_0 : w18.cell? ⟨gb212, 0, none⟩ = some (.int .i64 a0_0) := (bC BK212.out 0).trans rfl; have hcz22_1 : w18.cell? ⟨gb212, 1, none⟩ = some (.int .i64 a0_1) := (bC BK212.out 1).trans rfl; have hfz22_0 := bF BK212.out 0; have hfz22_1 := bF BK212.out 1) | ((with_reducible refine gate_callee (f := 10) rfl ?_); refine goesL_ (some 34) rfl rfl Try.func10 (by kernel_rfl) rfl #[.agg #[.int .i64 a0_0, .int .i64 a0_1], .int .i64 a3, .int .i64 a4] rfl (by (try simp only [List.map_toArray, List.map_cons, List.map_nil]); first | done | rfl | (simp only [List.length_drop, List.length_take]; rfl)) ?_; (with_reducible refine (bourneref09_Scale.calls k a0_0 a0_1 a3 a4 t219 t220 t221 _ A8.out).mono ?_); rintro e w23 ⟨rfl, hb⟩; refine ⟨_, rfl, ?_⟩; have n0_ := Aside0.mk (bB (g := gb212) (o := .cells #[.int .i64 a0_0, .int .i64 a0_1] 23 (0, 0)) (by (with_reducible repeat (first | refine bN ?_ _ | refine bD ?_ | refine bA ?_ _)); refine bR ?_ NB212_218.out _; (with_reducible repeat (first | refine bN ?_ _ | refine bD ?_ | refine bA ?_ _)); refine bR ?_ NB212_218.out _; (with_reducible repeat (first | refine bN ?_ _ | refine bD ?_ | refine bA ?_ _)); exact BK212.out) hb); have n1_ := Aside0.mk (bB (g := gb213) (o := .cells #[.int .i64 a1_0, .int .i64 a1_1] 23 (0, 0)) (by (with_reducible repeat (first | refine bN ?_ _ | refine bD ?_ | refine bA ?_ _)); refine bR ?_ NB213_218.out _; (with_reducible repeat (first | refine bN ?_ _ | refine bD ?_ | refine bA ?_ _)); refine bR ?_ NB213_218.out _; (with_reducible repeat (first | refine bN ?_ _ | refine bD ?_ | refine bA ?_ _)); exact BK213.out) hb); have n2_ := Aside0.mk (bB (g := gb218) (o := .cells #[.int .i64 t215, .int .i64 t216] 23 (0, 0)) (by (with_reducible repeat (first | refine bN ?_ _ | refine bD ?_ | refine bA ?_ _)); refine bU (cs := #[.int .i64 t215, .int .i64 0]) ?_ 1 _ rfl; (with_reducible repeat (first | refine bN ?_ _ | refine bD ?_ | refine bA ?_ _)); refine bU (cs := #[.int .i64 0, .int .i64 0]) ?_ 0 _ rfl; (with_reducible repeat (first | refine bN ?_ _ | refine bD ?_ | refine bA ?_ _)); exact BK218.out) hb); have n3_ := Aside0.mk (bP (by repeat (first | (with_reducible first | exact HB.out | apply bL | apply bW | apply b1 | refine bS ?_ GE212.out | refine bS ?_ GE213.out | refine bS ?_ GE218.out) | exact HB.out)) hb); clear BK212; clear BK213; clear BK218; clear HB; have BK212 := n0_; have BK213 := n1_; have BK218 := n2_; have HB := n3_; clear n0_ n1_ n2_ n3_; (try clear hb); (try clear hb2); (try clear hk); (try clear hi)) | ((with_reducible refine gate_dst (N := 14) rfl ?_); refine box_event ?hg (N := 14) ?hd (cs := #[.int .i64 0, .int .i64 0]) (t := 23) ?hr ?_; (case hd => rfl); (case hg => rfl); (case hr => first | (go_simp; done) | (go_simp; rfl)); intro gb222 hg w24 hbox hb; have n0_ := Aside0.mk (bB (g := gb212) (o := .cells #[.int .i64 a0_0, .int .i64 a0_1] 23 (0, 0)) (by (with_reducible repeat (first | refine bN ?_ _ | refine bD ?_ | refine bA ?_ _)); exact BK212.out) hb); have n1_ := Aside0.mk (bB (g := gb213) (o := .cells #[.int .i64 a1_0, .int .i64 a1_1] 23 (0, 0)) (by (with_reducible repeat (first | refine bN ?_ _ | refine bD ?_ | refine bA ?_ _)); exact BK213.out) hb); have n2_ := Aside0.mk (bB (g := gb218) (o := .cells #[.int .i64 t215, .int .i64 t216] 23 (0, 0)) (by (with_reducible repeat (first | refine bN ?_ _ | refine bD ?_ | refine bA ?_ _)); exact BK218.out) hb); have n3_ := Aside0.mk (bP (by repeat (first | (with_reducible first | exact HB.out | apply bL | apply bW | apply b1 | refine bS ?_ GE212.out | refine bS ?_ GE213.out | refine bS ?_ GE218.out) | exact HB.out)) hb); have n4_ := Aside0.mk (hbox); have n5_ := Aside0.mk ((by rw [hg]; exact (bZ (by repeat (first | (with_reducible first | exact HB.out | apply bL | apply bW | apply b1 | refine bS ?_ GE212.out | refine bS ?_ GE213.out | refine bS ?_ GE218.out) | exact HB.out))) : w.heap.size ≤ gb222)); have n6_ := Aside0.mk ((by rw [hg]; exact (bZ (by repeat (first | (with_reducible first | exact HB.out | apply bL | apply bW | apply b1 | refine bS ?_ GE212.out | refine bS ?_ GE213.out | refine bS ?_ GE218.out) | exact HB.out))) : w.heap.size ≤ gb222)); have n7_ := Aside0.mk ((by rw [hg]; exact Nat.ne_of_lt (bT (g := gb212) (o := .cells #[.int .i64 a0_0, .int .i64 a0_1] 23 (0, 0)) (by (with_reducible repeat (first | refine bN ?_ _ | refine bD ?_ | refine bA ?_ _)); exact BK212.out)) : gb212 ≠ gb222)); have n8_ := Aside0.mk ((by rw [hg]; exact Nat.ne_of_gt (bT (g := gb212) (o := .cells #[.int .i64 a0_0, .int .i64 a0_1] 23 (0, 0)) (by (with_reducible repeat (first | refine bN ?_ _ | refine bD ?_ | refine bA ?_ _)); exact BK212.out)) : gb222 ≠ gb212)); have n9_ := Aside0.mk ((by rw [hg]; exact Nat.ne_of_lt (bT (g := gb213) (o := .cells #[.int .i64 a1_0, .int .i64 a1_1] 23 (0, 0)) (by (with_reducible repeat (first | refine bN ?_ _ | refine bD ?_ | refine bA ?_ _)); exact BK213.out)) : gb213 ≠ gb222)); have n10_ := Aside0.mk ((by rw [hg]; exact Nat.ne_of_gt (bT (g := gb213) (o := .cells #[.int .i64 a1_0, .int .i64 a1_1] 23 (0, 0)) (by (with_reducible repeat (first | refine bN ?_ _ | refine bD ?_ | refine bA ?_ _)); exact BK213.out)) : gb222 ≠ gb213)); have n11_ := Aside0.mk ((by rw [hg]; exact Nat.ne_of_lt (bT (g := gb218) (o := .cells #[.int .i64 t215, .int .i64 t216] 23 (0, 0)) (by (with_reducible repeat (first | refine bN ?_ _ | refine bD ?_ | refine bA ?_ _)); exact BK218.out)) : gb218 ≠ gb222)); have n12_ := Aside0.mk ((by rw [hg]; exact Nat.ne_of_gt (bT (g := gb218) (o := .cells #[.int .i64 t215, .int .i64 t216] 23 (0, 0)) (by (with_reducible repeat (first | refine bN ?_ _ | refine bD ?_ | refine bA ?_ _)); exact BK218.out)) : gb222 ≠ gb218)); clear BK212; clear BK213; clear BK218; clear HB; have BK212 := n0_; have BK213 := n1_; have BK218 := n2_; have HB := n3_; have BK222 := n4_; have GW222 := n5_; have GE222 := n6_; have NB212_222 := n7_; have NB222_212 := n8_; have NB213_222 := n9_; have NB222_213 := n10_; have NB218_222 := n11_; have NB222_218 := n12_; clear n0_ n1_ n2_ n3_ n4_ n5_ n6_ n7_ n8_ n9_ n10_ n11_ n12_; clear hb hbox hg; have hnb25 := NB222_212.out; have hnc25 := NB212_222.out; have hnb26 := NB222_213.out; have hnc26 := NB213_222.out; have hnb27 := NB222_218.out; have hnc27 := NB218_222.out; have hcz28_0 : w24.cell? ⟨gb222, 0, none⟩ = some (.int .i64 0) := (bC BK222.out 0).trans rfl; have hcz28_1 : w24.cell? ⟨gb222, 1, none⟩ = some (.int .i64 0) := (bC BK222.out 1).trans rfl; have hfz28_0 := bF BK222.out 0; have hfz28_1 := bF BK222.out 1; have hcz29_0 : w24.cell? ⟨gb212, 0, none⟩ = some (.int .i64 a0_0) := (bC BK212.out 0).trans rfl; have hcz29_1 : w24.cell? ⟨gb212, 1, none⟩ = some (.int .i64 a0_1) := (bC BK212.out 1).trans rfl; have hfz29_0 := bF BK212.out 0; have hfz29_1 := bF BK212.out 1; have hcz30_0 : w24.cell? ⟨gb213, 0, none⟩ = some (.int .i64 a1_0) := (bC BK213.out 0).trans rfl; have hcz30_1 : w24.cell? ⟨gb213, 1, none⟩ = some (.int .i64 a1_1) := (bC BK213.out 1).trans rfl; have hfz30_0 := bF BK213.out 0; have hfz30_1 := bF BK213.out 1) | ((with_reducible refine gate_callee (f := 11) rfl ?_); refine goesL_ (some 40) rfl rfl Try.func11 (by kernel_rfl) rfl #[.agg #[.int .i64 a0_0, .int .i64 a0_1], .agg #[.int .i64 a1_0, .int .i64 a1_1]] rfl (by (try simp only [List.map_toArray, List.map_cons, List.map_nil]); first | done | rfl | (simp only [List.length_drop, List.length_take]; rfl)) ?_; (with_reducible refine (span_Meet.calls a0_0 a0_1 a1_0 a1_1 t223 t224 t225 _ A9.out).mono ?_); rintro e w31 ⟨rfl, hb⟩; refine ⟨_, rfl, ?_⟩; have n0_ := Aside0.mk (bB (g := gb212) (o := .cells #[.int .i64 a0_0, .int .i64 a0_1] 23 (0, 0)) (by (with_reducible repeat (first | refine bN ?_ _ | refine bD ?_ | refine bA ?_ _)); refine bR ?_ NB212_222.out _; (with_reducible repeat (first | refine bN ?_ _ | refine bD ?_ | refine bA ?_ _)); refine bR ?_ NB212_222.out _; (with_reducible repeat (first | refine bN ?_ _ | refine bD ?_ | refine bA ?_ _)); exact BK212.out) hb); have n1_ := Aside0.mk (bB (g := gb213) (o := .cells #[.int .i64 a1_0, .int .i64 a1_1] 23 (0, 0)) (by (with_reducible repeat (first | refine bN ?_ _ | refine bD ?_ | refine bA ?_ _)); refine bR ?_ NB213_222.out _; (with_reducible repeat (first | refine bN ?_ _ | refine bD ?_ | refine bA ?_ _)); refine bR ?_ NB213_222.out _; (with_reducible repeat (first | refine bN ?_ _ | refine bD ?_ | refine bA ?_ _)); exact BK213.out) hb); have n2_ := Aside0.mk (bB (g := gb218) (o := .cells #[.int .i64 t215, .int .i64 t216] 23 (0, 0)) (by (with_reducible repeat (first | refine bN ?_ _ | refine bD ?_ | refine bA ?_ _)); refine bR ?_ NB218_222.out _; (with_reducible repeat (first | refine bN ?_ _ | refine bD ?_ | refine bA ?_ _)); refine bR ?_ NB218_222.out _; (with_reducible repeat (first | refine bN ?_ _ | refine bD ?_ | refine bA ?_ _)); exact BK218.out) hb); have n3_ := Aside0.mk (bB (g := gb222) (o := .cells #[.int .i64 t219, .int .i64 t220] 23 (0, 0)) (by (with_reducible repeat (first | refine bN ?_ _ | refine bD ?_ | refine bA ?_ _)); refine bU (cs := #[.int .i64 t219, .int .i64 0]) ?_ 1 _ rfl; (with_reducible repeat (first | refine bN ?_ _ | refine bD ?_ | refine bA ?_ _)); refine bU (cs := #[.int .i64 0, .int .i64 0]) ?_ 0 _ rfl; (with_reducible repeat (first | refine bN ?_ _ | refine bD ?_ | refine bA ?_ _)); exact BK222.out) hb); have n4_ := Aside0.mk (bP (by repeat (first | (with_reducible first | exact HB.out | apply bL | apply bW | apply b1 | refine bS ?_ GE212.out | refine bS ?_ GE213.out | refine bS ?_ GE218.out | refine bS ?_ GE222.out) | exact HB.out)) hb); clear BK212; clear BK213; clear BK218; clear BK222; clear HB; have BK212 := n0_; have BK213 := n1_; have BK218 := n2_; have BK222 := n3_; have HB := n4_; clear n0_ n1_ n2_ n3_ n4_; (try clear hb); (try clear hb2); (try clear hk); (try clear hi)) | ((with_reducible refine gate_dst (N := 16) rfl ?_); refine box_event ?hg (N := 16) ?hd (cs := #[.int .i64 0, .int .i64 0]) (t := 23) ?hr ?_; (case hd => rfl); (case hg => rfl); (case hr => first | (go_simp; done) | (go_simp; rfl)); intro gb226 hg w32 hbox hb; have n0_ := Aside0.mk (bB (g := gb212) (o := .cells #[.int .i64 a0_0, .int .i64 a0_1] 23 (0, 0)) (by (with_reducible repeat (first | refine bN ?_ _ | refine bD ?_ | refine bA ?_ _)); exact BK212.out) hb); have n1_ := Aside0.mk (bB (g := gb213) (o := .cells #[.int .i64 a1_0, .int .i64 a1_1] 23 (0, 0)) (by (with_reducible repeat (first | refine bN ?_ _ | refine bD ?_ | refine bA ?_ _)); exact BK213.out) hb); have n2_ := Aside0.mk (bB (g := gb218) (o := .cells #[.int .i64 t215, .int .i64 t216] 23 (0, 0)) (by (with_reducible repeat (first | refine bN ?_ _ | refine bD ?_ | refine bA ?_ _)); exact BK218.out) hb); have n3_ := Aside0.mk (bB (g := gb222) (o := .cells #[.int .i64 t219, .int .i64 t220] 23 (0, 0)) (by (with_reducible repeat (first | refine bN ?_ _ | refine bD ?_ | refine bA ?_ _)); exact BK222.out) hb); have n4_ := Aside0.mk (bP (by repeat (first | (with_reducible first | exact HB.out | apply bL | apply bW | apply b1 | refine bS ?_ GE212.out | refine bS ?_ GE213.out | refine bS ?_ GE218.out | refine bS ?_ GE222.out) | exact HB.out)) hb); have n5_ := Aside0.mk (hbox); have n6_ := Aside0.mk ((by rw [hg]; exact (bZ (by repeat (first | (with_reducible first | exact HB.out | apply bL | apply bW | apply b1 | refine bS ?_ GE212.out | refine bS ?_ GE213.out | refine bS ?_ GE218.out | refine bS ?_ GE222.out) | exact HB.out))) : w.heap.size ≤ gb226)); have n7_ := Aside0.mk ((by rw [hg]; exact (bZ (by repeat (first | (with_reducible first | exact HB.out | apply bL | apply bW | apply b1 | refine bS ?_ GE212.out | refine bS ?_ GE213.out | refine bS ?_ GE218.out | refine bS ?_ GE222.out) | exact HB.out))) : w.heap.size ≤ gb226)); have n8_ := Aside0.mk ((by rw [hg]; exact Nat.ne_of_lt (bT (g := gb212) (o := .cells #[.int .i64 a0_0, .int .i64 a0_1] 23 (0, 0)) (by (with_reducible repeat (first | refine bN ?_ _ | refine bD ?_ | refine bA ?_ _)); exact BK212.out)) : gb212 ≠ gb226)); have n9_ := Aside0.mk ((by rw [hg]; exact Nat.ne_of_gt (bT (g := gb212) (o := .cells #[.int .i64 a0_0, .int .i64 a0_1] 23 (0, 0)) (by (with_reducible repeat (first | refine bN ?_ _ | refine bD ?_ | refine bA ?_ _)); exact BK212.out)) : gb226 ≠ gb212)); have n10_ := Aside0.mk ((by rw [hg]; exact Nat.ne_of_lt (bT (g := gb213) (o := .cells #[.int .i64 a1_0, .int .i64 a1_1] 23 (0, 0)) (by (with_reducible repeat (first | refine bN ?_ _ | refine bD ?_ | refine bA ?_ _)); exact BK213.out)) : gb213 ≠ gb226)); have n11_ := Aside0.mk ((by rw [hg]; exact Nat.ne_of_gt (bT (g := gb213) (o := .cells #[.int .i64 a1_0, .int .i64 a1_1] 23 (0, 0)) (by (with_reducible repeat (first | refine bN ?_ _ | refine bD ?_ | refine bA ?_ _)); exact BK213.out)) : gb226 ≠ gb213)); have n12_ := Aside0.mk ((by rw [hg]; exact Nat.ne_of_lt (bT (g := gb218) (o := .cells #[.int .i64 t215, .int .i64 t216] 23 (0, 0)) (by (with_reducible repeat (first | refine bN ?_ _ | refine bD ?_ | refine bA ?_ _)); exact BK218.out)) : gb218 ≠ gb226)); have n13_ := Aside0.mk ((by rw [hg]; exact Nat.ne_of_gt (bT (g := gb218) (o := .cells #[.int .i64 t215, .int .i64 t216] 23 (0, 0)) (by (with_reducible repeat (first | refine bN ?_ _ | refine bD ?_ | refine bA ?_ _)); exact BK218.out)) : gb226 ≠ gb218)); have n14_ := Aside0.mk ((by rw [hg]; exact Nat.ne_of_lt (bT (g := gb222) (o := .cells #[.int .i64 t219, .int .i64 t220] 23 (0, 0)) (by (with_reducible repeat (first | refine bN ?_ _ | refine bD ?_ | refine bA ?_ _)); exact BK222.out)) : gb222 ≠ gb226)); have n15_ := Aside0.mk ((by rw [hg]; exact Nat.ne_of_gt (bT (g := gb222) (o := .cells #[.int .i64 t219, .int .i64 t220] 23 (0, 0)) (by (with_reducible repeat (first | refine bN ?_ _ | refine bD ?_ | refine bA ?_ _)); exact BK222.out)) : gb226 ≠ gb222)); clear BK212; clear BK213; clear BK218; clear BK222; clear HB; have BK212 := n0_; have BK213 := n1_; have BK218 := n2_; have BK222 := n3_; have HB := n4_; have BK226 := n5_; have GW226 := n6_; have GE226 := n7_; have NB212_226 := n8_; have NB226_212 := n9_; have NB213_226 := n10_; have NB226_213 := n11_; have NB218_226 := n12_; have NB226_218 := n13_; have NB222_226 := n14_; have NB226_222 := n15_; clear n0_ n1_ n2_ n3_ n4_ n5_ n6_ n7_ n8_ n9_ n10_ n11_ n12_ n13_ n14_ n15_; clear hb hbox hg; have hnb33 := NB226_212.out; have hnc33 := NB212_226.out; have hnb34 := NB226_213.out; have hnc34 := NB213_226.out; have hnb35 := NB226_218.out; have hnc35 := NB218_226.out; have hnb36 := NB226_222.out; have hnc36 := NB222_226.out; have hcz37_0 : w32.cell? ⟨gb226, 0, none⟩ = some (.int .i64 0) := (bC BK226.out 0).trans rfl; have hcz37_1 : w32.cell? ⟨gb226, 1, none⟩ = some (.int .i64 0) := (bC BK226.out 1).trans rfl; have hfz37_0 := bF BK226.out 0; have hfz37_1 := bF BK226.out 1; have hcz38_0 : w32.cell? ⟨gb212, 0, none⟩ = some (.int .i64 a0_0) := (bC BK212.out 0).trans rfl; have hcz38_1 : w32.cell? ⟨gb212, 1, none⟩ = some (.int .i64 a0_1) := (bC BK212.out 1).trans rfl; have hfz38_0 := bF BK212.out 0; have hfz38_1 := bF BK212.out 1; have hcz39_0 : w32.cell? ⟨gb213, 0, none⟩ = some (.int .i64 a1_0) := (bC BK213.out 0).trans rfl; have hcz39_1 : w32.cell? ⟨gb213, 1, none⟩ = some (.int .i64 a1_1) := (bC BK213.out 1).trans rfl; have hfz39_0 := bF BK213.out 0; have hfz39_1 := bF BK213.out 1) | ((with_reducible refine gate_callee (f := 12) rfl ?_); refine goesL_ (some 46) rfl rfl Try.func12 (by kernel_rfl) rfl #[.agg #[.int .i64 a0_0, .int .i64 a0_1], .agg #[.int .i64 a1_0, .int .i64 a1_1]] rfl (by (try simp only [List.map_toArray, List.map_cons, List.map_nil]); first | done | rfl | (simp only [List.length_drop, List.length_take]; rfl)) ?_; (with_reducible refine (bourneref09_Meet.calls k a0_0 a0_1 a1_0 a1_1 t227 t228 t229 _ A10.out).mono ?_); rintro e w40 ⟨rfl, hb⟩; refine ⟨_, rfl, ?_⟩; have n0_ := Aside0.mk (bB (g := gb212) (o := .cells #[.int .i64 a0_0, .int .i64 a0_1] 23 (0, 0)) (by (with_reducible repeat (first | refine bN ?_ _ | refine bD ?_ | refine bA ?_ _)); refine bR ?_ NB212_226.out _; (with_reducible repeat (first | refine bN ?_ _ | refine bD ?_ | refine bA ?_ _)); refine bR ?_ NB212_226.out _; (with_reducible repeat (first | refine bN ?_ _ | refine bD ?_ | refine bA ?_ _)); exact BK212.out) hb); have n1_ := Aside0.mk (bB (g := gb213) (o := .cells #[.int .i64 a1_0, .int .i64 a1_1] 23 (0, 0)) (by (with_reducible repeat (first | refine bN ?_ _ | refine bD ?_ | refine bA ?_ _)); refine bR ?_ NB213_226.out _; (with_reducible repeat (first | refine bN ?_ _ | refine bD ?_ | refine bA ?_ _)); refine bR ?_ NB213_226.out _; (with_reducible repeat (first | refine bN ?_ _ | refine bD ?_ | refine bA ?_ _)); exact BK213.out) hb); have n2_ := Aside0.mk (bB (g := gb218) (o := .cells #[.int .i64 t215, .int .i64 t216] 23 (0, 0)) (by (with_reducible repeat (first | refine bN ?_ _ | refine bD ?_ | refine bA ?_ _)); refine bR ?_ NB218_226.out _; (with_reducible repeat (first | refine bN ?_ _ | refine bD ?_ | refine bA ?_ _)); refine bR ?_ NB218_226.out _; (with_reducible repeat (first | refine bN ?_ _ | refine bD ?_ | refine bA ?_ _)); exact BK218.out) hb); have n3_ := Aside0.mk (bB (g := gb222) (o := .cells #[.int .i64 t219, .int .i64 t220] 23 (0, 0)) (by (with_reducible repeat (first | refine bN ?_ _ | refine bD ?_ | refine bA ?_ _)); refine bR ?_ NB222_226.out _; (with_reducible repeat (first | refine bN ?_ _ | refine bD ?_ | refine bA ?_ _)); refine bR ?_ NB222_226.out _; (with_reducible repeat (first | refine bN ?_ _ | refine bD ?_ | refine bA ?_ _)); exact BK222.out) hb); have n4_ := Aside0.mk (bB (g := gb226) (o := .cells #[.int .i64 t223, .int .i64 t224] 23 (0, 0)) (by (with_reducible repeat (first | refine bN ?_ _ | refine bD ?_ | refine bA ?_ _)); refine bU (cs := #[.int .i64 t223, .int .i64 0]) ?_ 1 _ rfl; (with_reducible repeat (first | refine bN ?_ _ | refine bD ?_ | refine bA ?_ _)); refine bU (cs := #[.int .i64 0, .int .i64 0]) ?_ 0 _ rfl; (with_reducible repeat (first | refine bN ?_ _ | refine bD ?_ | refine bA ?_ _)); exact BK226.out) hb); have n5_ := Aside0.mk (bP (by repeat (first | (with_reducible first | exact HB.out | apply bL | apply bW | apply b1 | refine bS ?_ GE212.out | refine bS ?_ GE213.out | refine bS ?_ GE218.out | refine bS ?_ GE222.out | refine bS ?_ GE226.out) | exact HB.out)) hb); clear BK212; clear BK213; clear BK218; clear BK222; clear BK226; clear HB; have BK212 := n0_; have BK213 := n1_; have BK218 := n2_; have BK222 := n3_; have BK226 := n4_; have HB := n5_; clear n0_ n1_ n2_ n3_ n4_ n5_; (try clear hb); (try clear hb2); (try clear hk); (try clear hi)) | ((with_reducible refine gate_dst (N := 18) rfl ?_); refine box_event ?hg (N := 18) ?hd (cs := #[.int .i64 0, .int .i64 0]) (t := 23) ?hr ?_; (case hd => rfl); (case hg => rfl); (case hr => first | (go_simp; done) | (go_simp; rfl)); intro gb230 hg w41 hbox hb; have n0_ := Aside0.mk (bB (g := gb212) (o := .cells #[.int .i64 a0_0, .int .i64 a0_1] 23 (0, 0)) (by (with_reducible repeat (first | refine bN ?_ _ | refine bD ?_ | refine bA ?_ _)); exact BK212.out) hb); have n1_ := Aside0.mk (bB (g := gb213) (o := .cells #[.int .i64 a1_0, .int .i64 a1_1] 23 (0, 0)) (by (with_reducible repeat (first | refine bN ?_ _ | refine bD ?_ | refine bA ?_ _)); exact BK213.out) hb); have n2_ := Aside0.mk (bB (g := gb218) (o := .cells #[.int .i64 t215, .int .i64 t216] 23 (0, 0)) (by (with_reducible repeat (first | refine bN ?_ _ | refine bD ?_ | refine bA ?_ _)); exact BK218.out) hb); have n3_ := Aside0.mk (bB (g := gb222) (o := .cells #[.int .i64 t219, .int .i64 t220] 23 (0, 0)) (by (with_reducible repeat (first | refine bN ?_ _ | refine bD ?_ | refine bA ?_ _)); exact BK222.out) hb); have n4_ := Aside0.mk (bB (g := gb226) (o := .cells #[.int .i64 t223, .int .i64 t224] 23 (0, 0)) (by (with_reducible repeat (first | refine bN ?_ _ | refine bD ?_ | refine bA ?_ _)); exact BK226.out) hb); have n5_ := Aside0.mk (bP (by repeat (first | (with_reducible first | exact HB.out | apply bL | apply bW | apply b1 | refine bS ?_ GE212.out | refine bS ?_ GE213.out | refine bS ?_ GE218.out | refine bS ?_ GE222.out | refine bS ?_ GE226.out) | exact HB.out)) hb); have n6_ := Aside0.mk (hbox); have n7_ := Aside0.mk ((by rw [hg]; exact (bZ (by repeat (first | (with_reducible first | exact HB.out | apply bL | apply bW | apply b1 | refine bS ?_ GE212.out | refine bS ?_ GE213.out | refine bS ?_ GE218.out | refine bS ?_ GE222.out | refine bS ?_ GE226.out) | exact HB.out))) : w.heap.size ≤ gb230)); have n8_ := Aside0.mk ((by rw [hg]; exact (bZ (by repeat (first | (with_reducible first | exact HB.out | apply bL | apply bW | apply b1 | refine bS ?_ GE212.out | refine bS ?_ GE213.out | refine bS ?_ GE218.out | refine bS ?_ GE222.out | refine bS ?_ GE226.out) | exact HB.out))) : w.heap.size ≤ gb230)); have n9_ := Aside0.mk ((by rw [hg]; exact Nat.ne_of_lt (bT (g := gb212) (o := .cells #[.int .i64 a0_0, .int .i64 a0_1] 23 (0, 0)) (by (with_reducible repeat (first | refine bN ?_ _ | refine bD ?_ | refine bA ?_ _)); exact BK212.out)) : gb212 ≠ gb230)); have n10_ := Aside0.mk ((by rw [hg]; exact Nat.ne_of_gt (bT (g := gb212) (o := .cells #[.int .i64 a0_0, .int .i64 a0_1] 23 (0, 0)) (by (with_reducible repeat (first | refine bN ?_ _ | refine bD ?_ | refine bA ?_ _)); exact BK212.out)) : gb230 ≠ gb212)); have n11_ := Aside0.mk ((by rw [hg]; exact Nat.ne_of_lt (bT (g := gb213) (o := .cells #[.int .i64 a1_0, .int .i64 a1_1] 23 (0, 0)) (by (with_reducible repeat (first | refine bN ?_ _ | refine bD ?_ | refine bA ?_ _)); exact BK213.out)) : gb213 ≠ gb230)); have n12_ := Aside0.mk ((by rw [hg]; exact Nat.ne_of_gt (bT (g := gb213) (o := .cells #[.int .i64 a1_0, .int .i64 a1_1] 23 (0, 0)) (by (with_reducible repeat (first | refine bN ?_ _ | refine bD ?_ | refine bA ?_ _)); exact BK213.out)) : gb230 ≠ gb213)); have n13_ := Aside0.mk ((by rw [hg]; exact Nat.ne_of_lt (bT (g := gb218) (o := .cells #[.int .i64 t215, .int .i64 t216] 23 (0, 0)) (by (with_reducible repeat (first | refine bN ?_ _ | refine bD ?_ | refine bA ?_ _)); exact BK218.out)) : gb218 ≠ gb230)); have n14_ := Aside0.mk ((by rw [hg]; exact Nat.ne_of_gt (bT (g := gb218) (o := .cells #[.int .i64 t215, .int .i64 t216] 23 (0, 0)) (by (with_reducible repeat (first | refine bN ?_ _ | refine bD ?_ | refine bA ?_ _)); exact BK218.out)) : gb230 ≠ gb218)); have n15_ := Aside0.mk ((by rw [hg]; exact Nat.ne_of_lt (bT (g := gb222) (o := .cells #[.int .i64 t219, .int .i64 t220] 23 (0, 0)) (by (with_reducible repeat (first | refine bN ?_ _ | refine bD ?_ | refine bA ?_ _)); exact BK222.out)) : gb222 ≠ gb230)); have n16_ := Aside0.mk ((by rw [hg]; exact Nat.ne_of_gt (bT (g := gb222) (o := .cells #[.int .i64 t219, .int .i64 t220] 23 (0, 0)) (by (with_reducible repeat (first | refine bN ?_ _ | refine bD ?_ | refine bA ?_ _)); exact BK222.out)) : gb230 ≠ gb222)); have n17_ := Aside0.mk ((by rw [hg]; exact Nat.ne_of_lt (bT (g := gb226) (o := .cells #[.int .i64 t223, .int .i64 t224] 23 (0, 0)) (by (with_reducible repeat (first | refine bN ?_ _ | refine bD ?_ | refine bA ?_ _)); exact BK226.out)) : gb226 ≠ gb230)); have n18_ := Aside0.mk ((by rw [hg]; exact Nat.ne_of_gt (bT (g := gb226) (o := .cells #[.int .i64 t223, .int .i64 t224] 23 (0, 0)) (by (with_reducible repeat (first | refine bN ?_ _ | refine bD ?_ | refine bA ?_ _)); exact BK226.out)) : gb230 ≠ gb226)); clear BK212; clear BK213; clear BK218; clear BK222; clear BK226; clear HB; have BK212 := n0_; have BK213 := n1_; have BK218 := n2_; have BK222 := n3_; have BK226 := n4_; have HB := n5_; have BK230 := n6_; have GW230 := n7_; have GE230 := n8_; have NB212_230 := n9_; have NB230_212 := n10_; have NB213_230 := n11_; have NB230_213 := n12_; have NB218_230 := n13_; have NB230_218 := n14_; have NB222_230 := n15_; have NB230_222 := n16_; have NB226_230 := n17_; have NB230_226 := n18_; clear n0_ n1_ n2_ n3_ n4_ n5_ n6_ n7_ n8_ n9_ n10_ n11_ n12_ n13_ n14_ n15_ n16_ n17_ n18_; clear hb hbox hg; have hnb42 := NB230_212.out; have hnc42 := NB212_230.out; have hnb43 := NB230_213.out; have hnc43 := NB213_230.out; have hnb44 := NB230_218.out; have hnc44 := NB218_230.out; have hnb45 := NB230_222.out; have hnc45 := NB222_230.out; have hnb46 := NB230_226.out; have hnc46 := NB226_230.out; have hcz47_0 : w41.cell? ⟨gb230, 0, none⟩ = some (.int .i64 0) := (bC BK230.out 0).trans rfl; have hcz47_1 : w41.cell? ⟨gb230, 1, none⟩ = some (.int .i64 0) := (bC BK230.out 1).trans rfl; have hfz47_0 := bF BK230.out 0; have hfz47_1 := bF BK230.out 1))
 (try simp only [Act.put, List.setIfInBounds_toArray, List.set_cons_zero, List.set_cons_succ])
 go_cut [66] (fun v66 wc => ∃ (kq : Nat) (x66_10 : Bool), v66 = .bool x66_10 ∧ Aside0 (bournelaw09_SpanTells.j0 kq a2 t214 x66_10 a0_0 a0_1 a1_0 a1_1 = some r) ∧ Aside0 (kq ≤ k) ∧ Aside0 (wc.heap[gb212]? = some (.cells #[.int .i64 a0_0, .int .i64 a0_1] 23 (0, 0))) ∧ Aside0 (wc.heap[gb213]? = some (.cells #[.int .i64 a1_0, .int .i64 a1_1] 23 (0, 0))) ∧ Aside0 (wc.heap[gb218]? = some (.cells #[.int .i64 t215, .int .i64 t216] 23 (0, 0))) ∧ Aside0 (wc.heap[gb222]? = some (.cells #[.int .i64 t219, .int .i64 t220] 23 (0, 0))) ∧ Aside0 (wc.heap[gb226]? = some (.cells #[.int .i64 t223, .int .i64 t224] 23 (0, 0))) ∧ Aside0 (wc.heap[gb230]? = some (.cells #[.int .i64 t227, .int .i64 t228] 23 (0, 0))) ∧ Aside0 (Below w.heap.size w wc))
 case first =>
  have H := HC11.out
  clear HC11
  by_cases c48 : (!(t215 == t219) || (!(t216 == t220))) = true
  ·
   rw [if_pos c48] at H
   have c48b0 : (!(t215 == t219) || (!(t216 == t220))) = true := c48
   clear c48
   (first | rw [c48b0] | (simp only [i64_w, i32_w]; rw [c48b0]) | skip)
   have H' := Aside0.mk H
   clear H
   have hnb49 := NB218_212.out
   have hnc49 := NB212_218.out
   have hnb50 := NB218_213.out
   have hnc50 := NB213_218.out
   have hnb51 := NB218_222.out
   have hnc51 := NB222_218.out
   have hnb52 := NB218_226.out
   have hnc52 := NB226_218.out
   have hnb53 := NB218_230.out
   have hnc53 := NB230_218.out
   have hcz54_0 : w41.cell? ⟨gb218, 0, none⟩ = some (.int .i64 t215) := (bC BK218.out 0).trans rfl
   have hcz54_1 : w41.cell? ⟨gb218, 1, none⟩ = some (.int .i64 t216) := (bC BK218.out 1).trans rfl
   have hfz54_0 := bF BK218.out 0
   have hfz54_1 := bF BK218.out 1
   have hnb55 := NB222_212.out
   have hnc55 := NB212_222.out
   have hnb56 := NB222_213.out
   have hnc56 := NB213_222.out
   have hnb57 := NB222_226.out
   have hnc57 := NB226_222.out
   have hnb58 := NB222_230.out
   have hnc58 := NB230_222.out
   have hcz59_0 : w41.cell? ⟨gb222, 0, none⟩ = some (.int .i64 t219) := (bC BK222.out 0).trans rfl
   have hcz59_1 : w41.cell? ⟨gb222, 1, none⟩ = some (.int .i64 t220) := (bC BK222.out 1).trans rfl
   have hfz59_0 := bF BK222.out 0
   have hfz59_1 := bF BK222.out 1
   go_wp2
   go_meet
   case rel => exact ⟨_, (true), (by first | rfl | (simp; done) | (simp [*]; done)), H', ⟨by first | omega | exact Nat.le_refl _⟩, ⟨by (with_reducible repeat (first | refine bN ?_ _ | refine bD ?_ | refine bA ?_ _)); refine bR ?_ NB212_230.out _; (with_reducible repeat (first | refine bN ?_ _ | refine bD ?_ | refine bA ?_ _)); refine bR ?_ NB212_230.out _; (with_reducible repeat (first | refine bN ?_ _ | refine bD ?_ | refine bA ?_ _)); exact BK212.out⟩, ⟨by (with_reducible repeat (first | refine bN ?_ _ | refine bD ?_ | refine bA ?_ _)); refine bR ?_ NB213_230.out _; (with_reducible repeat (first | refine bN ?_ _ | refine bD ?_ | refine bA ?_ _)); refine bR ?_ NB213_230.out _; (with_reducible repeat (first | refine bN ?_ _ | refine bD ?_ | refine bA ?_ _)); exact BK213.out⟩, ⟨by (with_reducible repeat (first | refine bN ?_ _ | refine bD ?_ | refine bA ?_ _)); refine bR ?_ NB218_230.out _; (with_reducible repeat (first | refine bN ?_ _ | refine bD ?_ | refine bA ?_ _)); refine bR ?_ NB218_230.out _; (with_reducible repeat (first | refine bN ?_ _ | refine bD ?_ | refine bA ?_ _)); exact BK218.out⟩, ⟨by (with_reducible repeat (first | refine bN ?_ _ | refine bD ?_ | refine bA ?_ _)); refine bR ?_ NB222_230.out _; (with_reducible repeat (first | refine bN ?_ _ | refine bD ?_ | refine bA ?_ _)); refine bR ?_ NB222_230.out _; (with_reducible repeat (first | refine bN ?_ _ | refine bD ?_ | refine bA ?_ _)); exact BK222.out⟩, ⟨by (with_reducible repeat (first | refine bN ?_ _ | refine bD ?_ | refine bA ?_ _)); refine bR ?_ NB226_230.out _; (with_reducible repeat (first | refine bN ?_ _ | refine bD ?_ | refine bA ?_ _)); refine bR ?_ NB226_230.out _; (with_reducible repeat (first | refine bN ?_ _ | refine bD ?_ | refine bA ?_ _)); exact BK226.out⟩, ⟨by (with_reducible repeat (first | refine bN ?_ _ | refine bD ?_ | refine bA ?_ _)); refine bU (cs := #[.int .i64 t227, .int .i64 0]) ?_ 1 _ rfl; (with_reducible repeat (first | refine bN ?_ _ | refine bD ?_ | refine bA ?_ _)); refine bU (cs := #[.int .i64 0, .int .i64 0]) ?_ 0 _ rfl; (with_reducible repeat (first | refine bN ?_ _ | refine bD ?_ | refine bA ?_ _)); exact BK230.out⟩, ⟨by repeat (first | (with_reducible first | exact HB.out | apply bL | apply bW | apply b1 | refine bS ?_ GE212.out | refine bS ?_ GE213.out | refine bS ?_ GE218.out | refine bS ?_ GE222.out | refine bS ?_ GE226.out | refine bS ?_ GE230.out) | exact HB.out)⟩⟩
  ·
   rw [if_neg c48] at H
   have c48b0 : (!(t215 == t219) || (!(t216 == t220))) = false := by simpa using c48
   clear c48
   (first | rw [c48b0] | (simp only [i64_w, i32_w]; rw [c48b0]) | skip)
   by_cases c60 : (t217 != t221) = true
   ·
    rw [if_pos c60] at H
    have c60b0 : (t217 != t221) = true := c60
    (try (have c60b1 : decide (t217 = t221) = false := by simpa using c60))
    (try (have c60b2 : (t217 == t221) = false := by simpa using c60))
    (try (have c60b3 : ¬ (t217 = t221) := by simpa using c60))
    clear c60
    have H' := Aside0.mk H
    clear H
    have hnb61 := NB218_212.out
    have hnc61 := NB212_218.out
    have hnb62 := NB218_213.out
    have hnc62 := NB213_218.out
    have hnb63 := NB218_222.out
    have hnc63 := NB222_218.out
    have hnb64 := NB218_226.out
    have hnc64 := NB226_218.out
    have hnb65 := NB218_230.out
    have hnc65 := NB230_218.out
    have hcz66_0 : w41.cell? ⟨gb218, 0, none⟩ = some (.int .i64 t215) := (bC BK218.out 0).trans rfl
    have hcz66_1 : w41.cell? ⟨gb218, 1, none⟩ = some (.int .i64 t216) := (bC BK218.out 1).trans rfl
    have hfz66_0 := bF BK218.out 0
    have hfz66_1 := bF BK218.out 1
    have hnb67 := NB222_212.out
    have hnc67 := NB212_222.out
    have hnb68 := NB222_213.out
    have hnc68 := NB213_222.out
    have hnb69 := NB222_226.out
    have hnc69 := NB226_222.out
    have hnb70 := NB222_230.out
    have hnc70 := NB230_222.out
    have hcz71_0 : w41.cell? ⟨gb222, 0, none⟩ = some (.int .i64 t219) := (bC BK222.out 0).trans rfl
    have hcz71_1 : w41.cell? ⟨gb222, 1, none⟩ = some (.int .i64 t220) := (bC BK222.out 1).trans rfl
    have hfz71_0 := bF BK222.out 0
    have hfz71_1 := bF BK222.out 1
    go_wp2
    go_meet
    case rel => exact ⟨_, (true), (by first | rfl | (simp; done) | (simp [*]; done)), H', ⟨by first | omega | exact Nat.le_refl _⟩, ⟨by (with_reducible repeat (first | refine bN ?_ _ | refine bD ?_ | refine bA ?_ _)); refine bR ?_ NB212_230.out _; (with_reducible repeat (first | refine bN ?_ _ | refine bD ?_ | refine bA ?_ _)); refine bR ?_ NB212_230.out _; (with_reducible repeat (first | refine bN ?_ _ | refine bD ?_ | refine bA ?_ _)); exact BK212.out⟩, ⟨by (with_reducible repeat (first | refine bN ?_ _ | refine bD ?_ | refine bA ?_ _)); refine bR ?_ NB213_230.out _; (with_reducible repeat (first | refine bN ?_ _ | refine bD ?_ | refine bA ?_ _)); refine bR ?_ NB213_230.out _; (with_reducible repeat (first | refine bN ?_ _ | refine bD ?_ | refine bA ?_ _)); exact BK213.out⟩, ⟨by (with_reducible repeat (first | refine bN ?_ _ | refine bD ?_ | refine bA ?_ _)); refine bR ?_ NB218_230.out _; (with_reducible repeat (first | refine bN ?_ _ | refine bD ?_ | refine bA ?_ _)); refine bR ?_ NB218_230.out _; (with_reducible repeat (first | refine bN ?_ _ | refine bD ?_ | refine bA ?_ _)); exact BK218.out⟩, ⟨by (with_reducible repeat (first | refine bN ?_ _ | refine bD ?_ | refine bA ?_ _)); refine bR ?_ NB222_230.out _; (with_reducible repeat (first | refine bN ?_ _ | refine bD ?_ | refine bA ?_ _)); refine bR ?_ NB222_230.out _; (with_reducible repeat (first | refine bN ?_ _ | refine bD ?_ | refine bA ?_ _)); exact BK222.out⟩, ⟨by (with_reducible repeat (first | refine bN ?_ _ | refine bD ?_ | refine bA ?_ _)); refine bR ?_ NB226_230.out _; (with_reducible repeat (first | refine bN ?_ _ | refine bD ?_ | refine bA ?_ _)); refine bR ?_ NB226_230.out _; (with_reducible repeat (first | refine bN ?_ _ | refine bD ?_ | refine bA ?_ _)); exact BK226.out⟩, ⟨by (with_reducible repeat (first | refine bN ?_ _ | refine bD ?_ | refine bA ?_ _)); refine bU (cs := #[.int .i64 t227, .int .i64 0]) ?_ 1 _ rfl; (with_reducible repeat (first | refine bN ?_ _ | refine bD ?_ | refine bA ?_ _)); refine bU (cs := #[.int .i64 0, .int .i64 0]) ?_ 0 _ rfl; (with_reducible repeat (first | refine bN ?_ _ | refine bD ?_ | refine bA ?_ _)); exact BK230.out⟩, ⟨by repeat (first | (with_reducible first | exact HB.out | apply bL | apply bW | apply b1 | refine bS ?_ GE212.out | refine bS ?_ GE213.out | refine bS ?_ GE218.out | refine bS ?_ GE222.out | refine bS ?_ GE226.out | refine bS ?_ GE230.out) | exact HB.out)⟩⟩
   ·
    rw [if_neg c60] at H
    have c60b0 : (t217 != t221) = false := by simpa using c60
    (try (have c60b1 : decide (t217 = t221) = true := by simpa using c60))
    (try (have c60b2 : (t217 == t221) = true := by simpa using c60))
    clear c60
    by_cases c72 : (!(t223 == t227) || (!(t224 == t228))) = true
    ·
     rw [if_pos c72] at H
     have c72b0 : (!(t223 == t227) || (!(t224 == t228))) = true := c72
     clear c72
     have H' := Aside0.mk H
     clear H
     have hnb73 := NB218_212.out
     have hnc73 := NB212_218.out
     have hnb74 := NB218_213.out
     have hnc74 := NB213_218.out
     have hnb75 := NB218_222.out
     have hnc75 := NB222_218.out
     have hnb76 := NB218_226.out
     have hnc76 := NB226_218.out
     have hnb77 := NB218_230.out
     have hnc77 := NB230_218.out
     have hcz78_0 : w41.cell? ⟨gb218, 0, none⟩ = some (.int .i64 t215) := (bC BK218.out 0).trans rfl
     have hcz78_1 : w41.cell? ⟨gb218, 1, none⟩ = some (.int .i64 t216) := (bC BK218.out 1).trans rfl
     have hfz78_0 := bF BK218.out 0
     have hfz78_1 := bF BK218.out 1
     have hnb79 := NB222_212.out
     have hnc79 := NB212_222.out
     have hnb80 := NB222_213.out
     have hnc80 := NB213_222.out
     have hnb81 := NB222_226.out
     have hnc81 := NB226_222.out
     have hnb82 := NB222_230.out
     have hnc82 := NB230_222.out
     have hcz83_0 : w41.cell? ⟨gb222, 0, none⟩ = some (.int .i64 t219) := (bC BK222.out 0).trans rfl
     have hcz83_1 : w41.cell? ⟨gb222, 1, none⟩ = some (.int .i64 t220) := (bC BK222.out 1).trans rfl
     have hfz83_0 := bF BK222.out 0
     have hfz83_1 := bF BK222.out 1
     have hnb84 := NB226_212.out
     have hnc84 := NB212_226.out
     have hnb85 := NB226_213.out
     have hnc85 := NB213_226.out
     have hnb86 := NB226_230.out
     have hnc86 := NB230_226.out
     have hcz87_0 : w41.cell? ⟨gb226, 0, none⟩ = some (.int .i64 t223) := (bC BK226.out 0).trans rfl
     have hcz87_1 : w41.cell? ⟨gb226, 1, none⟩ = some (.int .i64 t224) := (bC BK226.out 1).trans rfl
     have hfz87_0 := bF BK226.out 0
     have hfz87_1 := bF BK226.out 1
     have hnb88 := NB230_212.out
     have hnc88 := NB212_230.out
     have hnb89 := NB230_213.out
     have hnc89 := NB213_230.out
     have hcz90_0 : w41.cell? ⟨gb230, 0, none⟩ = some (.int .i64 0) := (bC BK230.out 0).trans rfl
     have hcz90_1 : w41.cell? ⟨gb230, 1, none⟩ = some (.int .i64 0) := (bC BK230.out 1).trans rfl
     have hfz90_0 := bF BK230.out 0
     have hfz90_1 := bF BK230.out 1
     go_wp2
     go_meet
     case rel => exact ⟨_, (true), (by first | rfl | (simp; done) | (simp [*]; done)), H', ⟨by first | omega | exact Nat.le_refl _⟩, ⟨by (with_reducible repeat (first | refine bN ?_ _ | refine bD ?_ | refine bA ?_ _)); refine bR ?_ NB212_230.out _; (with_reducible repeat (first | refine bN ?_ _ | refine bD ?_ | refine bA ?_ _)); refine bR ?_ NB212_230.out _; (with_reducible repeat (first | refine bN ?_ _ | refine bD ?_ | refine bA ?_ _)); exact BK212.out⟩, ⟨by (with_reducible repeat (first | refine bN ?_ _ | refine bD ?_ | refine bA ?_ _)); refine bR ?_ NB213_230.out _; (with_reducible repeat (first | refine bN ?_ _ | refine bD ?_ | refine bA ?_ _)); refine bR ?_ NB213_230.out _; (with_reducible repeat (first | refine bN ?_ _ | refine bD ?_ | refine bA ?_ _)); exact BK213.out⟩, ⟨by (with_reducible repeat (first | refine bN ?_ _ | refine bD ?_ | refine bA ?_ _)); refine bR ?_ NB218_230.out _; (with_reducible repeat (first | refine bN ?_ _ | refine bD ?_ | refine bA ?_ _)); refine bR ?_ NB218_230.out _; (with_reducible repeat (first | refine bN ?_ _ | refine bD ?_ | refine bA ?_ _)); exact BK218.out⟩, ⟨by (with_reducible repeat (first | refine bN ?_ _ | refine bD ?_ | refine bA ?_ _)); refine bR ?_ NB222_230.out _; (with_reducible repeat (first | refine bN ?_ _ | refine bD ?_ | refine bA ?_ _)); refine bR ?_ NB222_230.out _; (with_reducible repeat (first | refine bN ?_ _ | refine bD ?_ | refine bA ?_ _)); exact BK222.out⟩, ⟨by (with_reducible repeat (first | refine bN ?_ _ | refine bD ?_ | refine bA ?_ _)); refine bR ?_ NB226_230.out _; (with_reducible repeat (first | refine bN ?_ _ | refine bD ?_ | refine bA ?_ _)); refine bR ?_ NB226_230.out _; (with_reducible repeat (first | refine bN ?_ _ | refine bD ?_ | refine bA ?_ _)); exact BK226.out⟩, ⟨by (with_reducible repeat (first | refine bN ?_ _ | refine bD ?_ | refine bA ?_ _)); refine bU (cs := #[.int .i64 t227, .int .i64 0]) ?_ 1 _ rfl; (with_reducible repeat (first | refine bN ?_ _ | refine bD ?_ | refine bA ?_ _)); refine bU (cs := #[.int .i64 0, .int .i64 0]) ?_ 0 _ rfl; (with_reducible repeat (first | refine bN ?_ _ | refine bD ?_ | refine bA ?_ _)); exact BK230.out⟩, ⟨by repeat (first | (with_reducible first | exact HB.out | apply bL | apply bW | apply b1 | refine bS ?_ GE212.out | refine bS ?_ GE213.out | refine bS ?_ GE218.out | refine bS ?_ GE222.out | refine bS ?_ GE226.out | refine bS ?_ GE230.out) | exact HB.out)⟩⟩
    ·
     rw [if_neg c72] at H
     have c72b0 : (!(t223 == t227) || (!(t224 == t228))) = false := by simpa using c72
     clear c72
     have H' := Aside0.mk H
     clear H
     have hnb91 := NB218_212.out
     have hnc91 := NB212_218.out
     have hnb92 := NB218_213.out
     have hnc92 := NB213_218.out
     have hnb93 := NB218_222.out
     have hnc93 := NB222_218.out
     have hnb94 := NB218_226.out
     have hnc94 := NB226_218.out
     have hnb95 := NB218_230.out
     have hnc95 := NB230_218.out
     have hcz96_0 : w41.cell? ⟨gb218, 0, none⟩ = some (.int .i64 t215) := (bC BK218.out 0).trans rfl
     have hcz96_1 : w41.cell? ⟨gb218, 1, none⟩ = some (.int .i64 t216) := (bC BK218.out 1).trans rfl
     have hfz96_0 := bF BK218.out 0
     have hfz96_1 := bF BK218.out 1
     have hnb97 := NB222_212.out
     have hnc97 := NB212_222.out
     have hnb98 := NB222_213.out
     have hnc98 := NB213_222.out
     have hnb99 := NB222_226.out
     have hnc99 := NB226_222.out
     have hnb100 := NB222_230.out
     have hnc100 := NB230_222.out
     have hcz101_0 : w41.cell? ⟨gb222, 0, none⟩ = some (.int .i64 t219) := (bC BK222.out 0).trans rfl
     have hcz101_1 : w41.cell? ⟨gb222, 1, none⟩ = some (.int .i64 t220) := (bC BK222.out 1).trans rfl
     have hfz101_0 := bF BK222.out 0
     have hfz101_1 := bF BK222.out 1
     have hnb102 := NB226_212.out
     have hnc102 := NB212_226.out
     have hnb103 := NB226_213.out
     have hnc103 := NB213_226.out
     have hnb104 := NB226_230.out
     have hnc104 := NB230_226.out
     have hcz105_0 : w41.cell? ⟨gb226, 0, none⟩ = some (.int .i64 t223) := (bC BK226.out 0).trans rfl
     have hcz105_1 : w41.cell? ⟨gb226, 1, none⟩ = some (.int .i64 t224) := (bC BK226.out 1).trans rfl
     have hfz105_0 := bF BK226.out 0
     have hfz105_1 := bF BK226.out 1
     have hnb106 := NB230_212.out
     have hnc106 := NB212_230.out
     have hnb107 := NB230_213.out
     have hnc107 := NB213_230.out
     have hcz108_0 : w41.cell? ⟨gb230, 0, none⟩ = some (.int .i64 0) := (bC BK230.out 0).trans rfl
     have hcz108_1 : w41.cell? ⟨gb230, 1, none⟩ = some (.int .i64 0) := (bC BK230.out 1).trans rfl
     have hfz108_0 := bF BK230.out 0
     have hfz108_1 := bF BK230.out 1
     go_wp2
     go_meet
     case rel => exact ⟨_, ((t225 != t229)), (by first | rfl | (simp; done) | (simp [*]; done)), H', ⟨by first | omega | exact Nat.le_refl _⟩, ⟨by (with_reducible repeat (first | refine bN ?_ _ | refine bD ?_ | refine bA ?_ _)); refine bR ?_ NB212_230.out _; (with_reducible repeat (first | refine bN ?_ _ | refine bD ?_ | refine bA ?_ _)); refine bR ?_ NB212_230.out _; (with_reducible repeat (first | refine bN ?_ _ | refine bD ?_ | refine bA ?_ _)); exact BK212.out⟩, ⟨by (with_reducible repeat (first | refine bN ?_ _ | refine bD ?_ | refine bA ?_ _)); refine bR ?_ NB213_230.out _; (with_reducible repeat (first | refine bN ?_ _ | refine bD ?_ | refine bA ?_ _)); refine bR ?_ NB213_230.out _; (with_reducible repeat (first | refine bN ?_ _ | refine bD ?_ | refine bA ?_ _)); exact BK213.out⟩, ⟨by (with_reducible repeat (first | refine bN ?_ _ | refine bD ?_ | refine bA ?_ _)); refine bR ?_ NB218_230.out _; (with_reducible repeat (first | refine bN ?_ _ | refine bD ?_ | refine bA ?_ _)); refine bR ?_ NB218_230.out _; (with_reducible repeat (first | refine bN ?_ _ | refine bD ?_ | refine bA ?_ _)); exact BK218.out⟩, ⟨by (with_reducible repeat (first | refine bN ?_ _ | refine bD ?_ | refine bA ?_ _)); refine bR ?_ NB222_230.out _; (with_reducible repeat (first | refine bN ?_ _ | refine bD ?_ | refine bA ?_ _)); refine bR ?_ NB222_230.out _; (with_reducible repeat (first | refine bN ?_ _ | refine bD ?_ | refine bA ?_ _)); exact BK222.out⟩, ⟨by (with_reducible repeat (first | refine bN ?_ _ | refine bD ?_ | refine bA ?_ _)); refine bR ?_ NB226_230.out _; (with_reducible repeat (first | refine bN ?_ _ | refine bD ?_ | refine bA ?_ _)); refine bR ?_ NB226_230.out _; (with_reducible repeat (first | refine bN ?_ _ | refine bD ?_ | refine bA ?_ _)); exact BK226.out⟩, ⟨by (with_reducible repeat (first | refine bN ?_ _ | refine bD ?_ | refine bA ?_ _)); refine bU (cs := #[.int .i64 t227, .int .i64 0]) ?_ 1 _ rfl; (with_reducible repeat (first | refine bN ?_ _ | refine bD ?_ | refine bA ?_ _)); refine bU (cs := #[.int .i64 0, .int .i64 0]) ?_ 0 _ rfl; (with_reducible repeat (first | refine bN ?_ _ | refine bD ?_ | refine bA ?_ _)); exact BK230.out⟩, ⟨by repeat (first | (with_reducible first | exact HB.out | apply bL | apply bW | apply b1 | refine bS ?_ GE212.out | refine bS ?_ GE213.out | refine bS ?_ GE218.out | refine bS ?_ GE222.out | refine bS ?_ GE226.out | refine bS ?_ GE230.out) | exact HB.out)⟩⟩
 case rest =>
  clear HC11
  try clear c1
  try clear c2
  try clear p2
  try clear c3
  try clear c4
  try clear c5
  try clear c6
  try clear c7
  try clear c8
  try clear c9
  try clear c10
  try clear c11
  try clear c12
  try clear c15
  try clear c19
  try clear c20
  try clear c25
  try clear c26
  try clear c27
  try clear c33
  try clear c34
  try clear c35
  try clear c36
  try clear c42
  try clear c43
  try clear c44
  try clear c45
  try clear c46
  try clear c48
  try clear c48b0
  try clear c49
  try clear c50
  try clear c51
  try clear c52
  try clear c53
  try clear c55
  try clear c56
  try clear c57
  try clear c58
  try clear c60
  try clear c60b0
  try clear c60b1
  try clear c60b2
  try clear c61
  try clear c62
  try clear c63
  try clear c64
  try clear c65
  try clear c67
  try clear c68
  try clear c69
  try clear c70
  try clear c72
  try clear c72b0
  try clear c73
  try clear c74
  try clear c75
  try clear c76
  try clear c77
  try clear c79
  try clear c80
  try clear c81
  try clear c82
  try clear c84
  try clear c85
  try clear c86
  try clear c88
  try clear c89
  try clear c91
  try clear c92
  try clear c93
  try clear c94
  try clear c95
  try clear c97
  try clear c98
  try clear c99
  try clear c100
  try clear c102
  try clear c103
  try clear c104
  try clear c106
  try clear c107
  try clear hcz101_0
  try clear hcz101_1
  try clear hcz105_0
  try clear hcz105_1
  try clear hcz108_0
  try clear hcz108_1
  try clear hcz16_0
  try clear hcz16_1
  try clear hcz21_0
  try clear hcz21_1
  try clear hcz22_0
  try clear hcz22_1
  try clear hcz28_0
  try clear hcz28_1
  try clear hcz29_0
  try clear hcz29_1
  try clear hcz30_0
  try clear hcz30_1
  try clear hcz37_0
  try clear hcz37_1
  try clear hcz38_0
  try clear hcz38_1
  try clear hcz39_0
  try clear hcz39_1
  try clear hcz47_0
  try clear hcz47_1
  try clear hcz54_0
  try clear hcz54_1
  try clear hcz59_0
  try clear hcz59_1
  try clear hcz66_0
  try clear hcz66_1
  try clear hcz71_0
  try clear hcz71_1
  try clear hcz78_0
  try clear hcz78_1
  try clear hcz83_0
  try clear hcz83_1
  try clear hcz87_0
  try clear hcz87_1
  try clear hcz90_0
  try clear hcz90_1
  try clear hcz96_0
  try clear hcz96_1
  try clear hfz101_0
  try clear hfz101_1
  try clear hfz105_0
  try clear hfz105_1
  try clear hfz108_0
  try clear hfz108_1
  try clear hfz16_0
  try clear hfz16_1
  try clear hfz21_0
  try clear hfz21_1
  try clear hfz22_0
  try clear hfz22_1
  try clear hfz28_0
  try clear hfz28_1
  try clear hfz29_0
  try clear hfz29_1
  try clear hfz30_0
  try clear hfz30_1
  try clear hfz37_0
  try clear hfz37_1
  try clear hfz38_0
  try clear hfz38_1
  try clear hfz39_0
  try clear hfz39_1
  try clear hfz47_0
  try clear hfz47_1
  try clear hfz54_0
  try clear hfz54_1
  try clear hfz59_0
  try clear hfz59_1
  try clear hfz66_0
  try clear hfz66_1
  try clear hfz71_0
  try clear hfz71_1
  try clear hfz78_0
  try clear hfz78_1
  try clear hfz83_0
  try clear hfz83_1
  try clear hfz87_0
  try clear hfz87_1
  try clear hfz90_0
  try clear hfz90_1
  try clear hfz96_0
  try clear hfz96_1
  obtain ⟨kq, x66_10, rfl, HA, HJ10, BK212, BK213, BK218, BK222, BK226, BK230, HB⟩ := hcut
  cases kq with
  | zero => exact absurd HA.out (by simp [bournelaw09_SpanTells.j0])
  | succ kj10 =>
   have H := HA.out
   clear HA
   simp only [bournelaw09_SpanTells.j0] at H
   by_cases c109 : x66_10 = true
   ·
    subst c109
    have H1 : (some false) = some r := by rw [if_pos rfl] at H; exact H
    clear H
    have H := H1
    clear H1
    exact absurd (H.trans (congrArg some hT.out)) (by simp)
   ·
    replace c109 := Bool.eq_false_iff.mpr c109
    subst c109
    have H1 : ((span_Right.f a0_0 a0_1).bind fun t231 => ((bourneref09_Right.f a0_0 a0_1).bind fun t232 => (if (t231 == t232) = true then ((span_Of.f a2).bind fun bt233 => ((bourneref09_Of.f a2).bind fun bt235 => (if (bt233.1 == bt235.1 && (bt233.2 == bt235.2)) = true then ((span_Has.f a0_0 a0_1 a2).bind fun t237 => ((bourneref09_Has.f a0_0 a0_1 a2).bind fun t238 => (bournelaw09_SpanTells.j1 kj10 t214 (t237 == t238) a0_0 a0_1 a1_0 a1_1))) else (bournelaw09_SpanTells.j1 kj10 t214 false a0_0 a0_1 a1_0 a1_1)))) else (bournelaw09_SpanTells.j1 kj10 t214 false a0_0 a0_1 a1_0 a1_1)))) = some r := by rw [if_neg (show ¬ (false = true) by decide)] at H; exact H
    clear H
    have H := H1
    clear H1
    have HC110 := Aside0.mk H
    clear H
    go_upto_region 8 with (fail)
    go_cut [20] (fun v20 wc => ∃ (kq : Nat) (x20_109 : Bool), v20 = .bool x20_109 ∧ Aside0 (bournelaw09_SpanTells.j1 kq t214 x20_109 a0_0 a0_1 a1_0 a1_1 = some r) ∧ Aside0 (kq ≤ kj10) ∧ Aside0 (wc.heap[gb212]? = some (.cells #[.int .i64 a0_0, .int .i64 a0_1] 23 (0, 0))) ∧ Aside0 (wc.heap[gb213]? = some (.cells #[.int .i64 a1_0, .int .i64 a1_1] 23 (0, 0))) ∧ Aside0 (wc.heap[gb218]? = some (.cells #[.int .i64 t215, .int .i64 t216] 23 (0, 0))) ∧ Aside0 (wc.heap[gb222]? = some (.cells #[.int .i64 t219, .int .i64 t220] 23 (0, 0))) ∧ Aside0 (wc.heap[gb226]? = some (.cells #[.int .i64 t223, .int .i64 t224] 23 (0, 0))) ∧ Aside0 (wc.heap[gb230]? = some (.cells #[.int .i64 t227, .int .i64 t228] 23 (0, 0))) ∧ Aside0 (Below w.heap.size w wc))
    case first =>
     have H := HC110.out
     clear HC110
     replace H := Option.bind_eq_some_iff.mp H
     obtain ⟨t231, A1110, H⟩ := H
     have A111 := Aside0.mk A1110
     clear A1110
     replace H := Option.bind_eq_some_iff.mp H
     obtain ⟨t232, A1120, H⟩ := H
     have A112 := Aside0.mk A1120
     clear A1120
     by_cases c113 : (t231 == t232) = true
     ·
      rw [if_pos c113] at H
      have c113b0 : (t231 == t232) = true := c113
      (try (have c113b1 : decide (t231 = t232) = true := by simpa using c113))
      (try (have c113b2 : (t231 == t232) = true := by simpa using c113))
      clear c113
      (first | rw [c113b0] | (simp only [i64_w, i32_w]; rw [c113b0]) | skip)
      replace H := Option.bind_eq_some_iff.mp H
      obtain ⟨⟨t233, t234⟩, A1140, H⟩ := H
      dsimp only at H
      have A114 := Aside0.mk A1140
      clear A1140
      replace H := Option.bind_eq_some_iff.mp H
      obtain ⟨⟨t235, t236⟩, A1150, H⟩ := H
      dsimp only at H
      have A115 := Aside0.mk A1150
      clear A1150
      by_cases c116 : (t233 == t235 && (t234 == t236)) = true
      ·
       rw [if_pos c116] at H
       have c116b0 : (t233 == t235 && (t234 == t236)) = true := c116
       (try (have c116b1 : decide (t233 = t235 && (t234 == t236)) = true := by simpa using c116))
       (try (have c116b2 : (t233 == t235 && (t234 == t236)) = true := by simpa using c116))
       clear c116
       replace H := Option.bind_eq_some_iff.mp H
       obtain ⟨t237, A1170, H⟩ := H
       have A117 := Aside0.mk A1170
       clear A1170
       replace H := Option.bind_eq_some_iff.mp H
       obtain ⟨t238, A1180, H⟩ := H
       have A118 := Aside0.mk A1180
       clear A1180
       have H' := Aside0.mk H
       clear H
       try go_wp2
       have n0_ := Aside0.mk (bD BK212.out)
       have n1_ := Aside0.mk (bD BK213.out)
       have n2_ := Aside0.mk (bD BK218.out)
       have n3_ := Aside0.mk (bD BK222.out)
       have n4_ := Aside0.mk (bD BK226.out)
       have n5_ := Aside0.mk (bD BK230.out)
       have n6_ := Aside0.mk (b1 HB.out)
       clear BK212
       clear BK213
       clear BK218
       clear BK222
       clear BK226
       clear BK230
       clear HB
       have BK212 := n0_
       have BK213 := n1_
       have BK218 := n2_
       have BK222 := n3_
       have BK226 := n4_
       have BK230 := n5_
       have HB := n6_
       clear n0_ n1_ n2_ n3_ n4_ n5_ n6_
       refine start_ (n := 22) (S := fun w' => w'.cell? ⟨gb212, 0, none⟩ = some (.int .i64 a0_0) ∧ w'.cell? ⟨gb212, 1, none⟩ = some (.int .i64 a0_1)) (ds := []) #[false, false, false, false, false, false, false, false, false, false, false, false, false, false, false, false, false, false, false, false, false, false] (by kernel_rfl) rfl rfl ⟨(bC BK212.out 0).trans rfl, (bC BK212.out 1).trans rfl⟩ (fun hHeld => ?_); refine with_tabW bournelaw09_SpanTells.tab8 bournelaw09_SpanTells.bits8 (fun HT_ HW_ => ?_)
       generalize wc.drew = w119 at BK212 BK213 BK218 BK222 BK226 BK230 HB hHeld ⊢
       refine take_ (i := 0) (N := some 67) (v := ?_) (a' := ?_) #[true, false, false, false, false, false, false, false, false, false, false, false, false, false, false, false, false, false, false, false, false, false] rfl rfl (take_ofW HT_.out HW_.out (by kernel_rfl)) (fun _ _ _ h => h) (Or.inl ⟨by rfl, ?_⟩) hHeld ?_ ?_
       rotate_left
       ·
        rintro w' ⟨s0, s1⟩
        go_simp
        with_reducible rfl
       rotate_left
       ·
        simp only [Act.put, List.setIfInBounds_toArray, List.set_cons_zero, List.set_cons_succ, i64_w, i32_w]
        rfl
       refine take_ (i := 2) (N := some 69) (v := ?_) (a' := ?_) #[true, false, true, false, false, false, false, false, false, false, false, false, false, false, false, false, false, false, false, false, false, false] rfl rfl (take_ofW HT_.out HW_.out (by kernel_rfl)) (fun _ _ _ h => h) (Or.inl ⟨by rfl, ?_⟩) hHeld ?_ ?_
       rotate_left
       ·
        rintro w' ⟨s0, s1⟩
        go_simp
        with_reducible rfl
       rotate_left
       ·
        simp only [Act.put, List.setIfInBounds_toArray, List.set_cons_zero, List.set_cons_succ, i64_w, i32_w]
        rfl
       refine one_ (i := 1) (N := some 68) #[true, true, true, false, false, false, false, false, false, false, false, false, false, false, false, false, false, false, false, false, false, false] rfl rfl (one_of HT_.out (by kernel_rfl)) (by decide) (fun K hK => ?_)
       refine goes_ Try.func13 (by kernel_rfl) rfl #[.agg #[.int .i64 a0_0, .int .i64 a0_1]] (by rfl) rfl rfl (by (try simp only [List.map_toArray, List.map_cons, List.map_nil]); first | done | rfl | (simp only [List.length_drop, List.length_take]; rfl)) ?_
       with_reducible refine (span_Right.calls a0_0 a0_1 t231 _ A111.out).mono ?_
       rintro e w120 ⟨rfl, hb⟩
       refine ⟨_, rfl, ?_⟩
       have n0_ := Aside0.mk (bB (g := gb212) (o := .cells #[.int .i64 a0_0, .int .i64 a0_1] 23 (0, 0)) (by (with_reducible repeat (first | refine bN ?_ _ | refine bD ?_ | refine bA ?_ _)); exact BK212.out) hb)
       have n1_ := Aside0.mk (bB (g := gb213) (o := .cells #[.int .i64 a1_0, .int .i64 a1_1] 23 (0, 0)) (by (with_reducible repeat (first | refine bN ?_ _ | refine bD ?_ | refine bA ?_ _)); exact BK213.out) hb)
       have n2_ := Aside0.mk (bB (g := gb218) (o := .cells #[.int .i64 t215, .int .i64 t216] 23 (0, 0)) (by (with_reducible repeat (first | refine bN ?_ _ | refine bD ?_ | refine bA ?_ _)); exact BK218.out) hb)
       have n3_ := Aside0.mk (bB (g := gb222) (o := .cells #[.int .i64 t219, .int .i64 t220] 23 (0, 0)) (by (with_reducible repeat (first | refine bN ?_ _ | refine bD ?_ | refine bA ?_ _)); exact BK222.out) hb)
       have n4_ := Aside0.mk (bB (g := gb226) (o := .cells #[.int .i64 t223, .int .i64 t224] 23 (0, 0)) (by (with_reducible repeat (first | refine bN ?_ _ | refine bD ?_ | refine bA ?_ _)); exact BK226.out) hb)
       have n5_ := Aside0.mk (bB (g := gb230) (o := .cells #[.int .i64 t227, .int .i64 t228] 23 (0, 0)) (by (with_reducible repeat (first | refine bN ?_ _ | refine bD ?_ | refine bA ?_ _)); exact BK230.out) hb)
       have n6_ := Aside0.mk (bP (by repeat (first | (with_reducible first | exact HB.out | apply bL | apply bW | apply b1 | refine bS ?_ GE212.out | refine bS ?_ GE213.out | refine bS ?_ GE218.out | refine bS ?_ GE222.out | refine bS ?_ GE226.out | refine bS ?_ GE230.out) | exact HB.out)) hb)
       clear BK212
       clear BK213
       clear BK218
       clear BK222
       clear BK226
       clear BK230
       clear HB
       have BK212 := n0_
       have BK213 := n1_
       have BK218 := n2_
       have BK222 := n3_
       have BK226 := n4_
       have BK230 := n5_
       have HB := n6_
       clear n0_ n1_ n2_ n3_ n4_ n5_ n6_
       (try clear hb)
       (try clear hb2)
       (try clear hk)
       (try clear hi)
       refine hK.out _ _ ⟨(bC BK212.out 0).trans rfl, (bC BK212.out 1).trans rfl⟩ (fun hHeld => ?_)
       clear hK K
       refine norm_ (a' := ?_) ?_ ?_
       rotate_left
       ·
        show Act.put _ (some 68) _ = _
        simp only [Act.put, List.setIfInBounds_toArray, List.set_cons_zero, List.set_cons_succ, i64_w, i32_w]
        rfl
       refine one_ (i := 3) (N := some 70) #[true, true, true, true, false, false, false, false, false, false, false, false, false, false, false, false, false, false, false, false, false, false] rfl rfl (one_of HT_.out (by kernel_rfl)) (by decide) (fun K hK => ?_)
       refine goes_ Try.func14 (by kernel_rfl) rfl #[.agg #[.int .i64 a0_0, .int .i64 a0_1]] (by rfl) rfl rfl (by (try simp only [List.map_toArray, List.map_cons, List.map_nil]); first | done | rfl | (simp only [List.length_drop, List.length_take]; rfl)) ?_
       with_reducible refine (bourneref09_Right.calls a0_0 a0_1 t232 _ A112.out).mono ?_
       rintro e w121 ⟨rfl, hb⟩
       refine ⟨_, rfl, ?_⟩
       have n0_ := Aside0.mk (bB (g := gb212) (o := .cells #[.int .i64 a0_0, .int .i64 a0_1] 23 (0, 0)) (by (with_reducible repeat (first | refine bN ?_ _ | refine bD ?_ | refine bA ?_ _)); exact BK212.out) hb)
       have n1_ := Aside0.mk (bB (g := gb213) (o := .cells #[.int .i64 a1_0, .int .i64 a1_1] 23 (0, 0)) (by (with_reducible repeat (first | refine bN ?_ _ | refine bD ?_ | refine bA ?_ _)); exact BK213.out) hb)
       have n2_ := Aside0.mk (bB (g := gb218) (o := .cells #[.int .i64 t215, .int .i64 t216] 23 (0, 0)) (by (with_reducible repeat (first | refine bN ?_ _ | refine bD ?_ | refine bA ?_ _)); exact BK218.out) hb)
       have n3_ := Aside0.mk (bB (g := gb222) (o := .cells #[.int .i64 t219, .int .i64 t220] 23 (0, 0)) (by (with_reducible repeat (first | refine bN ?_ _ | refine bD ?_ | refine bA ?_ _)); exact BK222.out) hb)
       have n4_ := Aside0.mk (bB (g := gb226) (o := .cells #[.int .i64 t223, .int .i64 t224] 23 (0, 0)) (by (with_reducible repeat (first | refine bN ?_ _ | refine bD ?_ | refine bA ?_ _)); exact BK226.out) hb)
       have n5_ := Aside0.mk (bB (g := gb230) (o := .cells #[.int .i64 t227, .int .i64 t228] 23 (0, 0)) (by (with_reducible repeat (first | refine bN ?_ _ | refine bD ?_ | refine bA ?_ _)); exact BK230.out) hb)
       have n6_ := Aside0.mk (bP (by repeat (first | (with_reducible first | exact HB.out | apply bL | apply bW | apply b1 | refine bS ?_ GE212.out | refine bS ?_ GE213.out | refine bS ?_ GE218.out | refine bS ?_ GE222.out | refine bS ?_ GE226.out | refine bS ?_ GE230.out) | exact HB.out)) hb)
       clear BK212
       clear BK213
       clear BK218
       clear BK222
       clear BK226
       clear BK230
       clear HB
       have BK212 := n0_
       have BK213 := n1_
       have BK218 := n2_
       have BK222 := n3_
       have BK226 := n4_
       have BK230 := n5_
       have HB := n6_
       clear n0_ n1_ n2_ n3_ n4_ n5_ n6_
       (try clear hb)
       (try clear hb2)
       (try clear hk)
       (try clear hi)
       refine hK.out _ _ ⟨(bC BK212.out 0).trans rfl, (bC BK212.out 1).trans rfl⟩ (fun hHeld => ?_)
       clear hK K
       refine norm_ (a' := ?_) ?_ ?_
       rotate_left
       ·
        show Act.put _ (some 70) _ = _
        simp only [Act.put, List.setIfInBounds_toArray, List.set_cons_zero, List.set_cons_succ, i64_w, i32_w]
        rfl
       refine pure_ (i := 4) (N := some 71) (v := ?_) (a' := ?_) #[true, true, true, true, true, false, false, false, false, false, false, false, false, false, false, false, false, false, false, false, false, false] rfl rfl (any_of HT_.out (by kernel_rfl)) (fun _ _ _ h => h) (Or.inl ⟨by rfl, ?_⟩) ?_ ?_
       rotate_left
       ·
        intro w'
        go_simp
        with_reducible rfl
       rotate_left
       ·
        simp only [Act.put, List.setIfInBounds_toArray, List.set_cons_zero, List.set_cons_succ, i64_w, i32_w]
        rfl
       refine pure_ (i := 5) (N := some 72) (v := ?_) (a' := ?_) #[true, true, true, true, true, true, false, false, false, false, false, false, false, false, false, false, false, false, false, false, false, false] rfl rfl (any_of HT_.out (by kernel_rfl)) (fun _ _ _ h => h) (Or.inl ⟨by rfl, ?_⟩) ?_ ?_
       rotate_left
       ·
        intro w'
        go_simp
        with_reducible rfl
       rotate_left
       ·
        simp only [Act.put, List.setIfInBounds_toArray, List.set_cons_zero, List.set_cons_succ, i64_w, i32_w]
        rfl
       refine pure_ (i := 6) (N := some 73) (v := ?_) (a' := ?_) #[true, true, true, true, true, true, true, false, false, false, false, false, false, false, false, false, false, false, false, false, false, false] rfl rfl (any_of HT_.out (by kernel_rfl)) (fun _ _ _ h => h) (Or.inl ⟨by rfl, ?_⟩) ?_ ?_
       rotate_left
       ·
        intro w'
        go_simp
        with_reducible rfl
       rotate_left
       ·
        simp only [Act.put, List.setIfInBounds_toArray, List.set_cons_zero, List.set_cons_succ, i64_w, i32_w]
        rfl
       refine pure_ (i := 8) (N := some 75) (v := ?_) (a' := ?_) #[true, true, true, true, true, true, true, false, true, false, false, false, false, false, false, false, false, false, false, false, false, false] rfl rfl (any_of HT_.out (by kernel_rfl)) (fun _ _ _ h => h) (Or.inl ⟨by rfl, ?_⟩) ?_ ?_
       rotate_left
       ·
        intro w'
        go_simp
        with_reducible rfl
       rotate_left
       ·
        simp only [Act.put, List.setIfInBounds_toArray, List.set_cons_zero, List.set_cons_succ, i64_w, i32_w]
        rfl
       refine one_ (i := 7) (N := some 74) #[true, true, true, true, true, true, true, true, true, false, false, false, false, false, false, false, false, false, false, false, false, false] rfl rfl (one_of HT_.out (by kernel_rfl)) (by decide) (fun K hK => ?_)
       refine goes_ Try.func15 (by kernel_rfl) rfl #[.int .i64 a2] (by rfl) rfl rfl (by (try simp only [List.map_toArray, List.map_cons, List.map_nil]); first | done | rfl | (simp only [List.length_drop, List.length_take]; rfl)) ?_
       with_reducible refine (span_Of.calls a2 t233 t234 _ A114.out).mono ?_
       rintro e w122 ⟨rfl, hb⟩
       refine ⟨_, rfl, ?_⟩
       have n0_ := Aside0.mk (bB (g := gb212) (o := .cells #[.int .i64 a0_0, .int .i64 a0_1] 23 (0, 0)) (by (with_reducible repeat (first | refine bN ?_ _ | refine bD ?_ | refine bA ?_ _)); exact BK212.out) hb)
       have n1_ := Aside0.mk (bB (g := gb213) (o := .cells #[.int .i64 a1_0, .int .i64 a1_1] 23 (0, 0)) (by (with_reducible repeat (first | refine bN ?_ _ | refine bD ?_ | refine bA ?_ _)); exact BK213.out) hb)
       have n2_ := Aside0.mk (bB (g := gb218) (o := .cells #[.int .i64 t215, .int .i64 t216] 23 (0, 0)) (by (with_reducible repeat (first | refine bN ?_ _ | refine bD ?_ | refine bA ?_ _)); exact BK218.out) hb)
       have n3_ := Aside0.mk (bB (g := gb222) (o := .cells #[.int .i64 t219, .int .i64 t220] 23 (0, 0)) (by (with_reducible repeat (first | refine bN ?_ _ | refine bD ?_ | refine bA ?_ _)); exact BK222.out) hb)
       have n4_ := Aside0.mk (bB (g := gb226) (o := .cells #[.int .i64 t223, .int .i64 t224] 23 (0, 0)) (by (with_reducible repeat (first | refine bN ?_ _ | refine bD ?_ | refine bA ?_ _)); exact BK226.out) hb)
       have n5_ := Aside0.mk (bB (g := gb230) (o := .cells #[.int .i64 t227, .int .i64 t228] 23 (0, 0)) (by (with_reducible repeat (first | refine bN ?_ _ | refine bD ?_ | refine bA ?_ _)); exact BK230.out) hb)
       have n6_ := Aside0.mk (bP (by repeat (first | (with_reducible first | exact HB.out | apply bL | apply bW | apply b1 | refine bS ?_ GE212.out | refine bS ?_ GE213.out | refine bS ?_ GE218.out | refine bS ?_ GE222.out | refine bS ?_ GE226.out | refine bS ?_ GE230.out) | exact HB.out)) hb)
       clear BK212
       clear BK213
       clear BK218
       clear BK222
       clear BK226
       clear BK230
       clear HB
       have BK212 := n0_
       have BK213 := n1_
       have BK218 := n2_
       have BK222 := n3_
       have BK226 := n4_
       have BK230 := n5_
       have HB := n6_
       clear n0_ n1_ n2_ n3_ n4_ n5_ n6_
       (try clear hb)
       (try clear hb2)
       (try clear hk)
       (try clear hi)
       refine hK.out _ _ ⟨(bC BK212.out 0).trans rfl, (bC BK212.out 1).trans rfl⟩ (fun hHeld => ?_)
       clear hK K
       refine norm_ (a' := ?_) ?_ ?_
       rotate_left
       ·
        show Act.put _ (some 74) _ = _
        simp only [Act.put, List.setIfInBounds_toArray, List.set_cons_zero, List.set_cons_succ, i64_w, i32_w]
        rfl
       refine one_ (i := 9) (N := some 76) #[true, true, true, true, true, true, true, true, true, true, false, false, false, false, false, false, false, false, false, false, false, false] rfl rfl (one_of HT_.out (by kernel_rfl)) (by decide) (fun K hK => ?_)
       refine goes_ Try.func16 (by kernel_rfl) rfl #[.int .i64 a2] (by rfl) rfl rfl (by (try simp only [List.map_toArray, List.map_cons, List.map_nil]); first | done | rfl | (simp only [List.length_drop, List.length_take]; rfl)) ?_
       with_reducible refine (bourneref09_Of.calls a2 t235 t236 _ A115.out).mono ?_
       rintro e w123 ⟨rfl, hb⟩
       refine ⟨_, rfl, ?_⟩
       have n0_ := Aside0.mk (bB (g := gb212) (o := .cells #[.int .i64 a0_0, .int .i64 a0_1] 23 (0, 0)) (by (with_reducible repeat (first | refine bN ?_ _ | refine bD ?_ | refine bA ?_ _)); exact BK212.out) hb)
       have n1_ := Aside0.mk (bB (g := gb213) (o := .cells #[.int .i64 a1_0, .int .i64 a1_1] 23 (0, 0)) (by (with_reducible repeat (first | refine bN ?_ _ | refine bD ?_ | refine bA ?_ _)); exact BK213.out) hb)
       have n2_ := Aside0.mk (bB (g := gb218) (o := .cells #[.int .i64 t215, .int .i64 t216] 23 (0, 0)) (by (with_reducible repeat (first | refine bN ?_ _ | refine bD ?_ | refine bA ?_ _)); exact BK218.out) hb)
       have n3_ := Aside0.mk (bB (g := gb222) (o := .cells #[.int .i64 t219, .int .i64 t220] 23 (0, 0)) (by (with_reducible repeat (first | refine bN ?_ _ | refine bD ?_ | refine bA ?_ _)); exact BK222.out) hb)
       have n4_ := Aside0.mk (bB (g := gb226) (o := .cells #[.int .i64 t223, .int .i64 t224] 23 (0, 0)) (by (with_reducible repeat (first | refine bN ?_ _ | refine bD ?_ | refine bA ?_ _)); exact BK226.out) hb)
       have n5_ := Aside0.mk (bB (g := gb230) (o := .cells #[.int .i64 t227, .int .i64 t228] 23 (0, 0)) (by (with_reducible repeat (first | refine bN ?_ _ | refine bD ?_ | refine bA ?_ _)); exact BK230.out) hb)
       have n6_ := Aside0.mk (bP (by repeat (first | (with_reducible first | exact HB.out | apply bL | apply bW | apply b1 | refine bS ?_ GE212.out | refine bS ?_ GE213.out | refine bS ?_ GE218.out | refine bS ?_ GE222.out | refine bS ?_ GE226.out | refine bS ?_ GE230.out) | exact HB.out)) hb)
       clear BK212
       clear BK213
       clear BK218
       clear BK222
       clear BK226
       clear BK230
       clear HB
       have BK212 := n0_
       have BK213 := n1_
       have BK218 := n2_
       have BK222 := n3_
       have BK226 := n4_
       have BK230 := n5_
       have HB := n6_
       clear n0_ n1_ n2_ n3_ n4_ n5_ n6_
       (try clear hb)
       (try clear hb2)
       (try clear hk)
       (try clear hi)
       refine hK.out _ _ ⟨(bC BK212.out 0).trans rfl, (bC BK212.out 1).trans rfl⟩ (fun hHeld => ?_)
       clear hK K
       refine norm_ (a' := ?_) ?_ ?_
       rotate_left
       ·
        show Act.put _ (some 76) _ = _
        simp only [Act.put, List.setIfInBounds_toArray, List.set_cons_zero, List.set_cons_succ, i64_w, i32_w]
        rfl
       refine pure_ (i := 10) (N := some 77) (v := ?_) (a' := ?_) #[true, true, true, true, true, true, true, true, true, true, true, false, false, false, false, false, false, false, false, false, false, false] rfl rfl (any_of HT_.out (by kernel_rfl)) (fun _ _ _ h => h) (Or.inl ⟨by rfl, ?_⟩) ?_ ?_
       rotate_left
       ·
        intro w'
        go_simp
        with_reducible rfl
       rotate_left
       ·
        simp only [Act.put, List.setIfInBounds_toArray, List.set_cons_zero, List.set_cons_succ, i64_w, i32_w]
        rfl
       refine pure_ (i := 11) (N := some 78) (v := ?_) (a' := ?_) #[true, true, true, true, true, true, true, true, true, true, true, true, false, false, false, false, false, false, false, false, false, false] rfl rfl (any_of HT_.out (by kernel_rfl)) (fun _ _ _ h => h) (Or.inl ⟨by rfl, ?_⟩) ?_ ?_
       rotate_left
       ·
        intro w'
        go_simp
        with_reducible rfl
       rotate_left
       ·
        simp only [Act.put, List.setIfInBounds_toArray, List.set_cons_zero, List.set_cons_succ, i64_w, i32_w]
        rfl
       refine pure_ (i := 12) (N := some 79) (v := ?_) (a' := ?_) #[true, true, true, true, true, true, true, true, true, true, true, true, true, false, false, false, false, false, false, false, false, false] rfl rfl (any_of HT_.out (by kernel_rfl)) (fun _ _ _ h => h) (Or.inl ⟨by rfl, ?_⟩) ?_ ?_
       rotate_left
       ·
        intro w'
        go_simp
        with_reducible rfl
       rotate_left
       ·
        simp only [Act.put, List.setIfInBounds_toArray, List.set_cons_zero, List.set_cons_succ, i64_w, i32_w]
        rfl
       refine pure_ (i := 14) (N := some 81) (v := ?_) (a' := ?_) #[true, true, true, true, true, true, true, true, true, true, true, true, true, false, true, false, false, false, false, false, false, false] rfl rfl (any_of HT_.out (by kernel_rfl)) (fun _ _ _ h => h) (Or.inl ⟨by rfl, ?_⟩) ?_ ?_
       rotate_left
       ·
        intro w'
        go_simp
        with_reducible rfl
       rotate_left
       ·
        simp only [Act.put, List.setIfInBounds_toArray, List.set_cons_zero, List.set_cons_succ, i64_w, i32_w]
        rfl
       refine pure_ (i := 17) (N := some 84) (v := ?_) (a' := ?_) #[true, true, true, true, true, true, true, true, true, true, true, true, true, false, true, false, false, true, false, false, false, false] rfl rfl (any_of HT_.out (by kernel_rfl)) (fun _ _ _ h => h) (Or.inl ⟨by rfl, ?_⟩) ?_ ?_
       rotate_left
       ·
        intro w'
        go_simp
        with_reducible rfl
       rotate_left
       ·
        simp only [Act.put, List.setIfInBounds_toArray, List.set_cons_zero, List.set_cons_succ, i64_w, i32_w]
        rfl
       refine take_ (i := 13) (N := some 80) (v := ?_) (a' := ?_) #[true, true, true, true, true, true, true, true, true, true, true, true, true, true, true, false, false, true, false, false, false, false] rfl rfl (take_ofW HT_.out HW_.out (by kernel_rfl)) (fun _ _ _ h => h) (Or.inl ⟨by rfl, ?_⟩) hHeld ?_ ?_
       rotate_left
       ·
        rintro w' ⟨s0, s1⟩
        go_simp
        with_reducible rfl
       rotate_left
       ·
        simp only [Act.put, List.setIfInBounds_toArray, List.set_cons_zero, List.set_cons_succ, i64_w, i32_w]
        rfl
       refine take_ (i := 16) (N := some 83) (v := ?_) (a' := ?_) #[true, true, true, true, true, true, true, true, true, true, true, true, true, true, true, false, true, true, false, false, false, false] rfl rfl (take_ofW HT_.out HW_.out (by kernel_rfl)) (fun _ _ _ h => h) (Or.inl ⟨by rfl, ?_⟩) hHeld ?_ ?_
       rotate_left
       ·
        rintro w' ⟨s0, s1⟩
        go_simp
        with_reducible rfl
       rotate_left
       ·
        simp only [Act.put, List.setIfInBounds_toArray, List.set_cons_zero, List.set_cons_succ, i64_w, i32_w]
        rfl
       refine one_ (i := 15) (N := some 82) #[true, true, true, true, true, true, true, true, true, true, true, true, true, true, true, true, true, true, false, false, false, false] rfl rfl (one_of HT_.out (by kernel_rfl)) (by decide) (fun K hK => ?_)
       refine goes_ Try.func17 (by kernel_rfl) rfl #[.agg #[.int .i64 a0_0, .int .i64 a0_1], .int .i64 a2] (by rfl) rfl rfl (by (try simp only [List.map_toArray, List.map_cons, List.map_nil]); first | done | rfl | (simp only [List.length_drop, List.length_take]; rfl)) ?_
       with_reducible refine (span_Has.calls a0_0 a0_1 a2 t237 _ A117.out).mono ?_
       rintro e w124 ⟨rfl, hb⟩
       refine ⟨_, rfl, ?_⟩
       have n0_ := Aside0.mk (bB (g := gb212) (o := .cells #[.int .i64 a0_0, .int .i64 a0_1] 23 (0, 0)) (by (with_reducible repeat (first | refine bN ?_ _ | refine bD ?_ | refine bA ?_ _)); exact BK212.out) hb)
       have n1_ := Aside0.mk (bB (g := gb213) (o := .cells #[.int .i64 a1_0, .int .i64 a1_1] 23 (0, 0)) (by (with_reducible repeat (first | refine bN ?_ _ | refine bD ?_ | refine bA ?_ _)); exact BK213.out) hb)
       have n2_ := Aside0.mk (bB (g := gb218) (o := .cells #[.int .i64 t215, .int .i64 t216] 23 (0, 0)) (by (with_reducible repeat (first | refine bN ?_ _ | refine bD ?_ | refine bA ?_ _)); exact BK218.out) hb)
       have n3_ := Aside0.mk (bB (g := gb222) (o := .cells #[.int .i64 t219, .int .i64 t220] 23 (0, 0)) (by (with_reducible repeat (first | refine bN ?_ _ | refine bD ?_ | refine bA ?_ _)); exact BK222.out) hb)
       have n4_ := Aside0.mk (bB (g := gb226) (o := .cells #[.int .i64 t223, .int .i64 t224] 23 (0, 0)) (by (with_reducible repeat (first | refine bN ?_ _ | refine bD ?_ | refine bA ?_ _)); exact BK226.out) hb)
       have n5_ := Aside0.mk (bB (g := gb230) (o := .cells #[.int .i64 t227, .int .i64 t228] 23 (0, 0)) (by (with_reducible repeat (first | refine bN ?_ _ | refine bD ?_ | refine bA ?_ _)); exact BK230.out) hb)
       have n6_ := Aside0.mk (bP (by repeat (first | (with_reducible first | exact HB.out | apply bL | apply bW | apply b1 | refine bS ?_ GE212.out | refine bS ?_ GE213.out | refine bS ?_ GE218.out | refine bS ?_ GE222.out | refine bS ?_ GE226.out | refine bS ?_ GE230.out) | exact HB.out)) hb)
       clear BK212
       clear BK213
       clear BK218
       clear BK222
       clear BK226
       clear BK230
       clear HB
       have BK212 := n0_
       have BK213 := n1_
       have BK218 := n2_
       have BK222 := n3_
       have BK226 := n4_
       have BK230 := n5_
       have HB := n6_
       clear n0_ n1_ n2_ n3_ n4_ n5_ n6_
       (try clear hb)
       (try clear hb2)
       (try clear hk)
       (try clear hi)
       refine hK.out _ _ ⟨(bC BK212.out 0).trans rfl, (bC BK212.out 1).trans rfl⟩ (fun hHeld => ?_)
       clear hK K
       refine norm_ (a' := ?_) ?_ ?_
       rotate_left
       ·
        show Act.put _ (some 82) _ = _
        simp only [Act.put, List.setIfInBounds_toArray, List.set_cons_zero, List.set_cons_succ, i64_w, i32_w]
        rfl
       refine one_ (i := 18) (N := some 85) #[true, true, true, true, true, true, true, true, true, true, true, true, true, true, true, true, true, true, true, false, false, false] rfl rfl (one_of HT_.out (by kernel_rfl)) (by decide) (fun K hK => ?_)
       refine goes_ Try.func18 (by kernel_rfl) rfl #[.agg #[.int .i64 a0_0, .int .i64 a0_1], .int .i64 a2] (by rfl) rfl rfl (by (try simp only [List.map_toArray, List.map_cons, List.map_nil]); first | done | rfl | (simp only [List.length_drop, List.length_take]; rfl)) ?_
       with_reducible refine (bourneref09_Has.calls a0_0 a0_1 a2 t238 _ A118.out).mono ?_
       rintro e w125 ⟨rfl, hb⟩
       refine ⟨_, rfl, ?_⟩
       have n0_ := Aside0.mk (bB (g := gb212) (o := .cells #[.int .i64 a0_0, .int .i64 a0_1] 23 (0, 0)) (by (with_reducible repeat (first | refine bN ?_ _ | refine bD ?_ | refine bA ?_ _)); exact BK212.out) hb)
       have n1_ := Aside0.mk (bB (g := gb213) (o := .cells #[.int .i64 a1_0, .int .i64 a1_1] 23 (0, 0)) (by (with_reducible repeat (first | refine bN ?_ _ | refine bD ?_ | refine bA ?_ _)); exact BK213.out) hb)
       have n2_ := Aside0.mk (bB (g := gb218) (o := .cells #[.int .i64 t215, .int .i64 t216] 23 (0, 0)) (by (with_reducible repeat (first | refine bN ?_ _ | refine bD ?_ | refine bA ?_ _)); exact BK218.out) hb)
       have n3_ := Aside0.mk (bB (g := gb222) (o := .cells #[.int .i64 t219, .int .i64 t220] 23 (0, 0)) (by (with_reducible repeat (first | refine bN ?_ _ | refine bD ?_ | refine bA ?_ _)); exact BK222.out) hb)
       have n4_ := Aside0.mk (bB (g := gb226) (o := .cells #[.int .i64 t223, .int .i64 t224] 23 (0, 0)) (by (with_reducible repeat (first | refine bN ?_ _ | refine bD ?_ | refine bA ?_ _)); exact BK226.out) hb)
       have n5_ := Aside0.mk (bB (g := gb230) (o := .cells #[.int .i64 t227, .int .i64 t228] 23 (0, 0)) (by (with_reducible repeat (first | refine bN ?_ _ | refine bD ?_ | refine bA ?_ _)); exact BK230.out) hb)
       have n6_ := Aside0.mk (bP (by repeat (first | (with_reducible first | exact HB.out | apply bL | apply bW | apply b1 | refine bS ?_ GE212.out | refine bS ?_ GE213.out | refine bS ?_ GE218.out | refine bS ?_ GE222.out | refine bS ?_ GE226.out | refine bS ?_ GE230.out) | exact HB.out)) hb)
       clear BK212
       clear BK213
       clear BK218
       clear BK222
       clear BK226
       clear BK230
       clear HB
       have BK212 := n0_
       have BK213 := n1_
       have BK218 := n2_
       have BK222 := n3_
       have BK226 := n4_
       have BK230 := n5_
       have HB := n6_
       clear n0_ n1_ n2_ n3_ n4_ n5_ n6_
       (try clear hb)
       (try clear hb2)
       (try clear hk)
       (try clear hi)
       refine hK.out _ _ ⟨(bC BK212.out 0).trans rfl, (bC BK212.out 1).trans rfl⟩ (fun hHeld => ?_)
       clear hK K
       refine norm_ (a' := ?_) ?_ ?_
       rotate_left
       ·
        show Act.put _ (some 85) _ = _
        simp only [Act.put, List.setIfInBounds_toArray, List.set_cons_zero, List.set_cons_succ, i64_w, i32_w]
        rfl
       refine pure_ (i := 19) (N := some 86) (v := ?_) (a' := ?_) #[true, true, true, true, true, true, true, true, true, true, true, true, true, true, true, true, true, true, true, true, false, false] rfl rfl (any_of HT_.out (by kernel_rfl)) (fun _ _ _ h => h) (Or.inl ⟨by rfl, ?_⟩) ?_ ?_
       rotate_left
       ·
        intro w'
        go_simp
        with_reducible rfl
       rotate_left
       ·
        simp only [Act.put, List.setIfInBounds_toArray, List.set_cons_zero, List.set_cons_succ, i64_w, i32_w]
        rfl
       refine pure_ (i := 20) (N := some 87) (v := ?_) (a' := ?_) #[true, true, true, true, true, true, true, true, true, true, true, true, true, true, true, true, true, true, true, true, true, false] rfl rfl (any_of HT_.out (by kernel_rfl)) (fun _ _ _ h => h) (Or.inl ⟨by rfl, ?_⟩) ?_ ?_
       rotate_left
       ·
        intro w'
        go_simp
        with_reducible rfl
       rotate_left
       ·
        simp only [Act.put, List.setIfInBounds_toArray, List.set_cons_zero, List.set_cons_succ, i64_w, i32_w]
        rfl
       refine pure_ (i := 21) (N := some 20) (v := ?_) (a' := ?_) #[true, true, true, true, true, true, true, true, true, true, true, true, true, true, true, true, true, true, true, true, true, true] rfl rfl (any_of HT_.out (by kernel_rfl)) (fun _ _ _ h => h) (Or.inl ⟨by rfl, ?_⟩) ?_ ?_
       rotate_left
       ·
        intro w'
        go_simp
        with_reducible rfl
       rotate_left
       ·
        simp only [Act.put, List.setIfInBounds_toArray, List.set_cons_zero, List.set_cons_succ, i64_w, i32_w]
        rfl
       refine done_ (done_of HT_.out (by kernel_rfl)) ?_
       try go_wp2
       go_meet
       case rel => exact ⟨_, ((t237 == t238)), (by first | rfl | (simp; done) | (simp [*]; done)), H', ⟨by have := HJ10.out; first | omega | exact Nat.le_refl _⟩, ⟨by (with_reducible repeat (first | refine bN ?_ _ | refine bD ?_ | refine bA ?_ _)); exact BK212.out⟩, ⟨by (with_reducible repeat (first | refine bN ?_ _ | refine bD ?_ | refine bA ?_ _)); exact BK213.out⟩, ⟨by (with_reducible repeat (first | refine bN ?_ _ | refine bD ?_ | refine bA ?_ _)); exact BK218.out⟩, ⟨by (with_reducible repeat (first | refine bN ?_ _ | refine bD ?_ | refine bA ?_ _)); exact BK222.out⟩, ⟨by (with_reducible repeat (first | refine bN ?_ _ | refine bD ?_ | refine bA ?_ _)); exact BK226.out⟩, ⟨by (with_reducible repeat (first | refine bN ?_ _ | refine bD ?_ | refine bA ?_ _)); exact BK230.out⟩, ⟨by repeat (first | (with_reducible first | exact HB.out | apply bL | apply bW | apply b1 | refine bS ?_ GE212.out | refine bS ?_ GE213.out | refine bS ?_ GE218.out | refine bS ?_ GE222.out | refine bS ?_ GE226.out | refine bS ?_ GE230.out) | exact HB.out)⟩⟩
      ·
       rw [if_neg c116] at H
       have c116b0 : (t233 == t235 && (t234 == t236)) = false := by simpa using c116
       (try (have c116b1 : decide (t233 = t235 && (t234 == t236)) = false := by simpa using c116))
       (try (have c116b2 : (t233 == t235 && (t234 == t236)) = false := by simpa using c116))
       (try (have c116b3 : ¬ (t233 = t235 && (t234 == t236)) := by simpa using c116))
       clear c116
       have H' := Aside0.mk H
       clear H
       try go_wp2
       have n0_ := Aside0.mk (bD BK212.out)
       have n1_ := Aside0.mk (bD BK213.out)
       have n2_ := Aside0.mk (bD BK218.out)
       have n3_ := Aside0.mk (bD BK222.out)
       have n4_ := Aside0.mk (bD BK226.out)
       have n5_ := Aside0.mk (bD BK230.out)
       have n6_ := Aside0.mk (b1 HB.out)
       clear BK212
       clear BK213
       clear BK218
       clear BK222
       clear BK226
       clear BK230
       clear HB
       have BK212 := n0_
       have BK213 := n1_
       have BK218 := n2_
       have BK222 := n3_
       have BK226 := n4_
       have BK230 := n5_
       have HB := n6_
       clear n0_ n1_ n2_ n3_ n4_ n5_ n6_
       refine start_ (n := 22) (S := fun w' => w'.cell? ⟨gb212, 0, none⟩ = some (.int .i64 a0_0) ∧ w'.cell? ⟨gb212, 1, none⟩ = some (.int .i64 a0_1)) (ds := []) #[false, false, false, false, false, false, false, false, false, false, false, false, false, false, false, false, false, false, false, false, false, false] (by kernel_rfl) rfl rfl ⟨(bC BK212.out 0).trans rfl, (bC BK212.out 1).trans rfl⟩ (fun hHeld => ?_); refine with_tabW bournelaw09_SpanTells.tab8 bournelaw09_SpanTells.bits8 (fun HT_ HW_ => ?_)
       generalize wc.drew = w126 at BK212 BK213 BK218 BK222 BK226 BK230 HB hHeld ⊢
       refine take_ (i := 0) (N := some 67) (v := ?_) (a' := ?_) #[true, false, false, false, false, false, false, false, false, false, false, false, false, false, false, false, false, false, false, false, false, false] rfl rfl (take_ofW HT_.out HW_.out (by kernel_rfl)) (fun _ _ _ h => h) (Or.inl ⟨by rfl, ?_⟩) hHeld ?_ ?_
       rotate_left
       ·
        rintro w' ⟨s0, s1⟩
        go_simp
        with_reducible rfl
       rotate_left
       ·
        simp only [Act.put, List.setIfInBounds_toArray, List.set_cons_zero, List.set_cons_succ, i64_w, i32_w]
        rfl
       refine take_ (i := 2) (N := some 69) (v := ?_) (a' := ?_) #[true, false, true, false, false, false, false, false, false, false, false, false, false, false, false, false, false, false, false, false, false, false] rfl rfl (take_ofW HT_.out HW_.out (by kernel_rfl)) (fun _ _ _ h => h) (Or.inl ⟨by rfl, ?_⟩) hHeld ?_ ?_
       rotate_left
       ·
        rintro w' ⟨s0, s1⟩
        go_simp
        with_reducible rfl
       rotate_left
       ·
        simp only [Act.put, List.setIfInBounds_toArray, List.set_cons_zero, List.set_cons_succ, i64_w, i32_w]
        rfl
       refine one_ (i := 1) (N := some 68) #[true, true, true, false, false, false, false, false, false, false, false, false, false, false, false, false, false, false, false, false, false, false] rfl rfl (one_of HT_.out (by kernel_rfl)) (by decide) (fun K hK => ?_)
       refine goes_ Try.func13 (by kernel_rfl) rfl #[.agg #[.int .i64 a0_0, .int .i64 a0_1]] (by rfl) rfl rfl (by (try simp only [List.map_toArray, List.map_cons, List.map_nil]); first | done | rfl | (simp only [List.length_drop, List.length_take]; rfl)) ?_
       with_reducible refine (span_Right.calls a0_0 a0_1 t231 _ A111.out).mono ?_
       rintro e w127 ⟨rfl, hb⟩
       refine ⟨_, rfl, ?_⟩
       have n0_ := Aside0.mk (bB (g := gb212) (o := .cells #[.int .i64 a0_0, .int .i64 a0_1] 23 (0, 0)) (by (with_reducible repeat (first | refine bN ?_ _ | refine bD ?_ | refine bA ?_ _)); exact BK212.out) hb)
       have n1_ := Aside0.mk (bB (g := gb213) (o := .cells #[.int .i64 a1_0, .int .i64 a1_1] 23 (0, 0)) (by (with_reducible repeat (first | refine bN ?_ _ | refine bD ?_ | refine bA ?_ _)); exact BK213.out) hb)
       have n2_ := Aside0.mk (bB (g := gb218) (o := .cells #[.int .i64 t215, .int .i64 t216] 23 (0, 0)) (by (with_reducible repeat (first | refine bN ?_ _ | refine bD ?_ | refine bA ?_ _)); exact BK218.out) hb)
       have n3_ := Aside0.mk (bB (g := gb222) (o := .cells #[.int .i64 t219, .int .i64 t220] 23 (0, 0)) (by (with_reducible repeat (first | refine bN ?_ _ | refine bD ?_ | refine bA ?_ _)); exact BK222.out) hb)
       have n4_ := Aside0.mk (bB (g := gb226) (o := .cells #[.int .i64 t223, .int .i64 t224] 23 (0, 0)) (by (with_reducible repeat (first | refine bN ?_ _ | refine bD ?_ | refine bA ?_ _)); exact BK226.out) hb)
       have n5_ := Aside0.mk (bB (g := gb230) (o := .cells #[.int .i64 t227, .int .i64 t228] 23 (0, 0)) (by (with_reducible repeat (first | refine bN ?_ _ | refine bD ?_ | refine bA ?_ _)); exact BK230.out) hb)
       have n6_ := Aside0.mk (bP (by repeat (first | (with_reducible first | exact HB.out | apply bL | apply bW | apply b1 | refine bS ?_ GE212.out | refine bS ?_ GE213.out | refine bS ?_ GE218.out | refine bS ?_ GE222.out | refine bS ?_ GE226.out | refine bS ?_ GE230.out) | exact HB.out)) hb)
       clear BK212
       clear BK213
       clear BK218
       clear BK222
       clear BK226
       clear BK230
       clear HB
       have BK212 := n0_
       have BK213 := n1_
       have BK218 := n2_
       have BK222 := n3_
       have BK226 := n4_
       have BK230 := n5_
       have HB := n6_
       clear n0_ n1_ n2_ n3_ n4_ n5_ n6_
       (try clear hb)
       (try clear hb2)
       (try clear hk)
       (try clear hi)
       refine hK.out _ _ ⟨(bC BK212.out 0).trans rfl, (bC BK212.out 1).trans rfl⟩ (fun hHeld => ?_)
       clear hK K
       refine norm_ (a' := ?_) ?_ ?_
       rotate_left
       ·
        show Act.put _ (some 68) _ = _
        simp only [Act.put, List.setIfInBounds_toArray, List.set_cons_zero, List.set_cons_succ, i64_w, i32_w]
        rfl
       refine one_ (i := 3) (N := some 70) #[true, true, true, true, false, false, false, false, false, false, false, false, false, false, false, false, false, false, false, false, false, false] rfl rfl (one_of HT_.out (by kernel_rfl)) (by decide) (fun K hK => ?_)
       refine goes_ Try.func14 (by kernel_rfl) rfl #[.agg #[.int .i64 a0_0, .int .i64 a0_1]] (by rfl) rfl rfl (by (try simp only [List.map_toArray, List.map_cons, List.map_nil]); first | done | rfl | (simp only [List.length_drop, List.length_take]; rfl)) ?_
       with_reducible refine (bourneref09_Right.calls a0_0 a0_1 t232 _ A112.out).mono ?_
       rintro e w128 ⟨rfl, hb⟩
       refine ⟨_, rfl, ?_⟩
       have n0_ := Aside0.mk (bB (g := gb212) (o := .cells #[.int .i64 a0_0, .int .i64 a0_1] 23 (0, 0)) (by (with_reducible repeat (first | refine bN ?_ _ | refine bD ?_ | refine bA ?_ _)); exact BK212.out) hb)
       have n1_ := Aside0.mk (bB (g := gb213) (o := .cells #[.int .i64 a1_0, .int .i64 a1_1] 23 (0, 0)) (by (with_reducible repeat (first | refine bN ?_ _ | refine bD ?_ | refine bA ?_ _)); exact BK213.out) hb)
       have n2_ := Aside0.mk (bB (g := gb218) (o := .cells #[.int .i64 t215, .int .i64 t216] 23 (0, 0)) (by (with_reducible repeat (first | refine bN ?_ _ | refine bD ?_ | refine bA ?_ _)); exact BK218.out) hb)
       have n3_ := Aside0.mk (bB (g := gb222) (o := .cells #[.int .i64 t219, .int .i64 t220] 23 (0, 0)) (by (with_reducible repeat (first | refine bN ?_ _ | refine bD ?_ | refine bA ?_ _)); exact BK222.out) hb)
       have n4_ := Aside0.mk (bB (g := gb226) (o := .cells #[.int .i64 t223, .int .i64 t224] 23 (0, 0)) (by (with_reducible repeat (first | refine bN ?_ _ | refine bD ?_ | refine bA ?_ _)); exact BK226.out) hb)
       have n5_ := Aside0.mk (bB (g := gb230) (o := .cells #[.int .i64 t227, .int .i64 t228] 23 (0, 0)) (by (with_reducible repeat (first | refine bN ?_ _ | refine bD ?_ | refine bA ?_ _)); exact BK230.out) hb)
       have n6_ := Aside0.mk (bP (by repeat (first | (with_reducible first | exact HB.out | apply bL | apply bW | apply b1 | refine bS ?_ GE212.out | refine bS ?_ GE213.out | refine bS ?_ GE218.out | refine bS ?_ GE222.out | refine bS ?_ GE226.out | refine bS ?_ GE230.out) | exact HB.out)) hb)
       clear BK212
       clear BK213
       clear BK218
       clear BK222
       clear BK226
       clear BK230
       clear HB
       have BK212 := n0_
       have BK213 := n1_
       have BK218 := n2_
       have BK222 := n3_
       have BK226 := n4_
       have BK230 := n5_
       have HB := n6_
       clear n0_ n1_ n2_ n3_ n4_ n5_ n6_
       (try clear hb)
       (try clear hb2)
       (try clear hk)
       (try clear hi)
       refine hK.out _ _ ⟨(bC BK212.out 0).trans rfl, (bC BK212.out 1).trans rfl⟩ (fun hHeld => ?_)
       clear hK K
       refine norm_ (a' := ?_) ?_ ?_
       rotate_left
       ·
        show Act.put _ (some 70) _ = _
        simp only [Act.put, List.setIfInBounds_toArray, List.set_cons_zero, List.set_cons_succ, i64_w, i32_w]
        rfl
       refine pure_ (i := 4) (N := some 71) (v := ?_) (a' := ?_) #[true, true, true, true, true, false, false, false, false, false, false, false, false, false, false, false, false, false, false, false, false, false] rfl rfl (any_of HT_.out (by kernel_rfl)) (fun _ _ _ h => h) (Or.inl ⟨by rfl, ?_⟩) ?_ ?_
       rotate_left
       ·
        intro w'
        go_simp
        with_reducible rfl
       rotate_left
       ·
        simp only [Act.put, List.setIfInBounds_toArray, List.set_cons_zero, List.set_cons_succ, i64_w, i32_w]
        rfl
       refine pure_ (i := 5) (N := some 72) (v := ?_) (a' := ?_) #[true, true, true, true, true, true, false, false, false, false, false, false, false, false, false, false, false, false, false, false, false, false] rfl rfl (any_of HT_.out (by kernel_rfl)) (fun _ _ _ h => h) (Or.inl ⟨by rfl, ?_⟩) ?_ ?_
       rotate_left
       ·
        intro w'
        go_simp
        with_reducible rfl
       rotate_left
       ·
        simp only [Act.put, List.setIfInBounds_toArray, List.set_cons_zero, List.set_cons_succ, i64_w, i32_w]
        rfl
       refine pure_ (i := 6) (N := some 73) (v := ?_) (a' := ?_) #[true, true, true, true, true, true, true, false, false, false, false, false, false, false, false, false, false, false, false, false, false, false] rfl rfl (any_of HT_.out (by kernel_rfl)) (fun _ _ _ h => h) (Or.inl ⟨by rfl, ?_⟩) ?_ ?_
       rotate_left
       ·
        intro w'
        go_simp
        with_reducible rfl
       rotate_left
       ·
        simp only [Act.put, List.setIfInBounds_toArray, List.set_cons_zero, List.set_cons_succ, i64_w, i32_w]
        rfl
       refine pure_ (i := 8) (N := some 75) (v := ?_) (a' := ?_) #[true, true, true, true, true, true, true, false, true, false, false, false, false, false, false, false, false, false, false, false, false, false] rfl rfl (any_of HT_.out (by kernel_rfl)) (fun _ _ _ h => h) (Or.inl ⟨by rfl, ?_⟩) ?_ ?_
       rotate_left
       ·
        intro w'
        go_simp
        with_reducible rfl
       rotate_left
       ·
        simp only [Act.put, List.setIfInBounds_toArray, List.set_cons_zero, List.set_cons_succ, i64_w, i32_w]
        rfl
       refine one_ (i := 7) (N := some 74) #[true, true, true, true, true, true, true, true, true, false, false, false, false, false, false, false, false, false, false, false, false, false] rfl rfl (one_of HT_.out (by kernel_rfl)) (by decide) (fun K hK => ?_)
       refine goes_ Try.func15 (by kernel_rfl) rfl #[.int .i64 a2] (by rfl) rfl rfl (by (try simp only [List.map_toArray, List.map_cons, List.map_nil]); first | done | rfl | (simp only [List.length_drop, List.length_take]; rfl)) ?_
       with_reducible refine (span_Of.calls a2 t233 t234 _ A114.out).mono ?_
       rintro e w129 ⟨rfl, hb⟩
       refine ⟨_, rfl, ?_⟩
       have n0_ := Aside0.mk (bB (g := gb212) (o := .cells #[.int .i64 a0_0, .int .i64 a0_1] 23 (0, 0)) (by (with_reducible repeat (first | refine bN ?_ _ | refine bD ?_ | refine bA ?_ _)); exact BK212.out) hb)
       have n1_ := Aside0.mk (bB (g := gb213) (o := .cells #[.int .i64 a1_0, .int .i64 a1_1] 23 (0, 0)) (by (with_reducible repeat (first | refine bN ?_ _ | refine bD ?_ | refine bA ?_ _)); exact BK213.out) hb)
       have n2_ := Aside0.mk (bB (g := gb218) (o := .cells #[.int .i64 t215, .int .i64 t216] 23 (0, 0)) (by (with_reducible repeat (first | refine bN ?_ _ | refine bD ?_ | refine bA ?_ _)); exact BK218.out) hb)
       have n3_ := Aside0.mk (bB (g := gb222) (o := .cells #[.int .i64 t219, .int .i64 t220] 23 (0, 0)) (by (with_reducible repeat (first | refine bN ?_ _ | refine bD ?_ | refine bA ?_ _)); exact BK222.out) hb)
       have n4_ := Aside0.mk (bB (g := gb226) (o := .cells #[.int .i64 t223, .int .i64 t224] 23 (0, 0)) (by (with_reducible repeat (first | refine bN ?_ _ | refine bD ?_ | refine bA ?_ _)); exact BK226.out) hb)
       have n5_ := Aside0.mk (bB (g := gb230) (o := .cells #[.int .i64 t227, .int .i64 t228] 23 (0, 0)) (by (with_reducible repeat (first | refine bN ?_ _ | refine bD ?_ | refine bA ?_ _)); exact BK230.out) hb)
       have n6_ := Aside0.mk (bP (by repeat (first | (with_reducible first | exact HB.out | apply bL | apply bW | apply b1 | refine bS ?_ GE212.out | refine bS ?_ GE213.out | refine bS ?_ GE218.out | refine bS ?_ GE222.out | refine bS ?_ GE226.out | refine bS ?_ GE230.out) | exact HB.out)) hb)
       clear BK212
       clear BK213
       clear BK218
       clear BK222
       clear BK226
       clear BK230
       clear HB
       have BK212 := n0_
       have BK213 := n1_
       have BK218 := n2_
       have BK222 := n3_
       have BK226 := n4_
       have BK230 := n5_
       have HB := n6_
       clear n0_ n1_ n2_ n3_ n4_ n5_ n6_
       (try clear hb)
       (try clear hb2)
       (try clear hk)
       (try clear hi)
       refine hK.out _ _ ⟨(bC BK212.out 0).trans rfl, (bC BK212.out 1).trans rfl⟩ (fun hHeld => ?_)
       clear hK K
       refine norm_ (a' := ?_) ?_ ?_
       rotate_left
       ·
        show Act.put _ (some 74) _ = _
        simp only [Act.put, List.setIfInBounds_toArray, List.set_cons_zero, List.set_cons_succ, i64_w, i32_w]
        rfl
       refine one_ (i := 9) (N := some 76) #[true, true, true, true, true, true, true, true, true, true, false, false, false, false, false, false, false, false, false, false, false, false] rfl rfl (one_of HT_.out (by kernel_rfl)) (by decide) (fun K hK => ?_)
       refine goes_ Try.func16 (by kernel_rfl) rfl #[.int .i64 a2] (by rfl) rfl rfl (by (try simp only [List.map_toArray, List.map_cons, List.map_nil]); first | done | rfl | (simp only [List.length_drop, List.length_take]; rfl)) ?_
       with_reducible refine (bourneref09_Of.calls a2 t235 t236 _ A115.out).mono ?_
       rintro e w130 ⟨rfl, hb⟩
       refine ⟨_, rfl, ?_⟩
       have n0_ := Aside0.mk (bB (g := gb212) (o := .cells #[.int .i64 a0_0, .int .i64 a0_1] 23 (0, 0)) (by (with_reducible repeat (first | refine bN ?_ _ | refine bD ?_ | refine bA ?_ _)); exact BK212.out) hb)
       have n1_ := Aside0.mk (bB (g := gb213) (o := .cells #[.int .i64 a1_0, .int .i64 a1_1] 23 (0, 0)) (by (with_reducible repeat (first | refine bN ?_ _ | refine bD ?_ | refine bA ?_ _)); exact BK213.out) hb)
       have n2_ := Aside0.mk (bB (g := gb218) (o := .cells #[.int .i64 t215, .int .i64 t216] 23 (0, 0)) (by (with_reducible repeat (first | refine bN ?_ _ | refine bD ?_ | refine bA ?_ _)); exact BK218.out) hb)
       have n3_ := Aside0.mk (bB (g := gb222) (o := .cells #[.int .i64 t219, .int .i64 t220] 23 (0, 0)) (by (with_reducible repeat (first | refine bN ?_ _ | refine bD ?_ | refine bA ?_ _)); exact BK222.out) hb)
       have n4_ := Aside0.mk (bB (g := gb226) (o := .cells #[.int .i64 t223, .int .i64 t224] 23 (0, 0)) (by (with_reducible repeat (first | refine bN ?_ _ | refine bD ?_ | refine bA ?_ _)); exact BK226.out) hb)
       have n5_ := Aside0.mk (bB (g := gb230) (o := .cells #[.int .i64 t227, .int .i64 t228] 23 (0, 0)) (by (with_reducible repeat (first | refine bN ?_ _ | refine bD ?_ | refine bA ?_ _)); exact BK230.out) hb)
       have n6_ := Aside0.mk (bP (by repeat (first | (with_reducible first | exact HB.out | apply bL | apply bW | apply b1 | refine bS ?_ GE212.out | refine bS ?_ GE213.out | refine bS ?_ GE218.out | refine bS ?_ GE222.out | refine bS ?_ GE226.out | refine bS ?_ GE230.out) | exact HB.out)) hb)
       clear BK212
       clear BK213
       clear BK218
       clear BK222
       clear BK226
       clear BK230
       clear HB
       have BK212 := n0_
       have BK213 := n1_
       have BK218 := n2_
       have BK222 := n3_
       have BK226 := n4_
       have BK230 := n5_
       have HB := n6_
       clear n0_ n1_ n2_ n3_ n4_ n5_ n6_
       (try clear hb)
       (try clear hb2)
       (try clear hk)
       (try clear hi)
       refine hK.out _ _ ⟨(bC BK212.out 0).trans rfl, (bC BK212.out 1).trans rfl⟩ (fun hHeld => ?_)
       clear hK K
       refine norm_ (a' := ?_) ?_ ?_
       rotate_left
       ·
        show Act.put _ (some 76) _ = _
        simp only [Act.put, List.setIfInBounds_toArray, List.set_cons_zero, List.set_cons_succ, i64_w, i32_w]
        rfl
       refine pure_ (i := 10) (N := some 77) (v := ?_) (a' := ?_) #[true, true, true, true, true, true, true, true, true, true, true, false, false, false, false, false, false, false, false, false, false, false] rfl rfl (any_of HT_.out (by kernel_rfl)) (fun _ _ _ h => h) (Or.inl ⟨by rfl, ?_⟩) ?_ ?_
       rotate_left
       ·
        intro w'
        go_simp
        with_reducible rfl
       rotate_left
       ·
        simp only [Act.put, List.setIfInBounds_toArray, List.set_cons_zero, List.set_cons_succ, i64_w, i32_w]
        rfl
       refine pure_ (i := 11) (N := some 78) (v := ?_) (a' := ?_) #[true, true, true, true, true, true, true, true, true, true, true, true, false, false, false, false, false, false, false, false, false, false] rfl rfl (any_of HT_.out (by kernel_rfl)) (fun _ _ _ h => h) (Or.inl ⟨by rfl, ?_⟩) ?_ ?_
       rotate_left
       ·
        intro w'
        go_simp
        with_reducible rfl
       rotate_left
       ·
        simp only [Act.put, List.setIfInBounds_toArray, List.set_cons_zero, List.set_cons_succ, i64_w, i32_w]
        rfl
       refine pure_ (i := 12) (N := some 79) (v := ?_) (a' := ?_) #[true, true, true, true, true, true, true, true, true, true, true, true, true, false, false, false, false, false, false, false, false, false] rfl rfl (any_of HT_.out (by kernel_rfl)) (fun _ _ _ h => h) (Or.inl ⟨by rfl, ?_⟩) ?_ ?_
       rotate_left
       ·
        intro w'
        go_simp
        with_reducible rfl
       rotate_left
       ·
        simp only [Act.put, List.setIfInBounds_toArray, List.set_cons_zero, List.set_cons_succ, i64_w, i32_w]
        rfl
       refine pure_ (i := 13) (N := some 80) (v := undef) (a' := ?_) #[true, true, true, true, true, true, true, true, true, true, true, true, true, true, false, false, false, false, false, false, false, false] rfl rfl (any_of HT_.out (by kernel_rfl)) (fun _ _ _ h => h) (Or.inr ⟨by rfl, rfl⟩) ?_ ?_
       rotate_left
       ·
        simp only [Act.put, List.setIfInBounds_toArray, List.set_cons_zero, List.set_cons_succ, i64_w, i32_w]
        rfl
       refine pure_ (i := 14) (N := some 81) (v := undef) (a' := ?_) #[true, true, true, true, true, true, true, true, true, true, true, true, true, true, true, false, false, false, false, false, false, false] rfl rfl (any_of HT_.out (by kernel_rfl)) (fun _ _ _ h => h) (Or.inr ⟨by rfl, rfl⟩) ?_ ?_
       rotate_left
       ·
        simp only [Act.put, List.setIfInBounds_toArray, List.set_cons_zero, List.set_cons_succ, i64_w, i32_w]
        rfl
       refine pure_ (i := 15) (N := some 82) (v := undef) (a' := ?_) #[true, true, true, true, true, true, true, true, true, true, true, true, true, true, true, true, false, false, false, false, false, false] rfl rfl (any_of HT_.out (by kernel_rfl)) (fun _ _ _ h => h) (Or.inr ⟨by rfl, rfl⟩) ?_ ?_
       rotate_left
       ·
        simp only [Act.put, List.setIfInBounds_toArray, List.set_cons_zero, List.set_cons_succ, i64_w, i32_w]
        rfl
       refine pure_ (i := 16) (N := some 83) (v := undef) (a' := ?_) #[true, true, true, true, true, true, true, true, true, true, true, true, true, true, true, true, true, false, false, false, false, false] rfl rfl (any_of HT_.out (by kernel_rfl)) (fun _ _ _ h => h) (Or.inr ⟨by rfl, rfl⟩) ?_ ?_
       rotate_left
       ·
        simp only [Act.put, List.setIfInBounds_toArray, List.set_cons_zero, List.set_cons_succ, i64_w, i32_w]
        rfl
       refine pure_ (i := 17) (N := some 84) (v := undef) (a' := ?_) #[true, true, true, true, true, true, true, true, true, true, true, true, true, true, true, true, true, true, false, false, false, false] rfl rfl (any_of HT_.out (by kernel_rfl)) (fun _ _ _ h => h) (Or.inr ⟨by rfl, rfl⟩) ?_ ?_
       rotate_left
       ·
        simp only [Act.put, List.setIfInBounds_toArray, List.set_cons_zero, List.set_cons_succ, i64_w, i32_w]
        rfl
       refine pure_ (i := 18) (N := some 85) (v := undef) (a' := ?_) #[true, true, true, true, true, true, true, true, true, true, true, true, true, true, true, true, true, true, true, false, false, false] rfl rfl (any_of HT_.out (by kernel_rfl)) (fun _ _ _ h => h) (Or.inr ⟨by rfl, rfl⟩) ?_ ?_
       rotate_left
       ·
        simp only [Act.put, List.setIfInBounds_toArray, List.set_cons_zero, List.set_cons_succ, i64_w, i32_w]
        rfl
       refine pure_ (i := 19) (N := some 86) (v := undef) (a' := ?_) #[true, true, true, true, true, true, true, true, true, true, true, true, true, true, true, true, true, true, true, true, false, false] rfl rfl (any_of HT_.out (by kernel_rfl)) (fun _ _ _ h => h) (Or.inr ⟨by rfl, rfl⟩) ?_ ?_
       rotate_left
       ·
        simp only [Act.put, List.setIfInBounds_toArray, List.set_cons_zero, List.set_cons_succ, i64_w, i32_w]
        rfl
       refine pure_ (i := 20) (N := some 87) (v := ?_) (a' := ?_) #[true, true, true, true, true, true, true, true, true, true, true, true, true, true, true, true, true, true, true, true, true, false] rfl rfl (any_of HT_.out (by kernel_rfl)) (fun _ _ _ h => h) (Or.inl ⟨by rfl, ?_⟩) ?_ ?_
       rotate_left
       ·
        intro w'
        go_simp
        with_reducible rfl
       rotate_left
       ·
        simp only [Act.put, List.setIfInBounds_toArray, List.set_cons_zero, List.set_cons_succ, i64_w, i32_w]
        rfl
       refine pure_ (i := 21) (N := some 20) (v := ?_) (a' := ?_) #[true, true, true, true, true, true, true, true, true, true, true, true, true, true, true, true, true, true, true, true, true, true] rfl rfl (any_of HT_.out (by kernel_rfl)) (fun _ _ _ h => h) (Or.inl ⟨by rfl, ?_⟩) ?_ ?_
       rotate_left
       ·
        intro w'
        go_simp
        with_reducible rfl
       rotate_left
       ·
        simp only [Act.put, List.setIfInBounds_toArray, List.set_cons_zero, List.set_cons_succ, i64_w, i32_w]
        rfl
       refine done_ (done_of HT_.out (by kernel_rfl)) ?_
       try go_wp2
       go_meet
       case rel => exact ⟨_, (false), (by first | rfl | (simp; done) | (simp [*]; done)), H', ⟨by have := HJ10.out; first | omega | exact Nat.le_refl _⟩, ⟨by (with_reducible repeat (first | refine bN ?_ _ | refine bD ?_ | refine bA ?_ _)); exact BK212.out⟩, ⟨by (with_reducible repeat (first | refine bN ?_ _ | refine bD ?_ | refine bA ?_ _)); exact BK213.out⟩, ⟨by (with_reducible repeat (first | refine bN ?_ _ | refine bD ?_ | refine bA ?_ _)); exact BK218.out⟩, ⟨by (with_reducible repeat (first | refine bN ?_ _ | refine bD ?_ | refine bA ?_ _)); exact BK222.out⟩, ⟨by (with_reducible repeat (first | refine bN ?_ _ | refine bD ?_ | refine bA ?_ _)); exact BK226.out⟩, ⟨by (with_reducible repeat (first | refine bN ?_ _ | refine bD ?_ | refine bA ?_ _)); exact BK230.out⟩, ⟨by repeat (first | (with_reducible first | exact HB.out | apply bL | apply bW | apply b1 | refine bS ?_ GE212.out | refine bS ?_ GE213.out | refine bS ?_ GE218.out | refine bS ?_ GE222.out | refine bS ?_ GE226.out | refine bS ?_ GE230.out) | exact HB.out)⟩⟩
     ·
      rw [if_neg c113] at H
      have c113b0 : (t231 == t232) = false := by simpa using c113
      (try (have c113b1 : decide (t231 = t232) = false := by simpa using c113))
      (try (have c113b2 : (t231 == t232) = false := by simpa using c113))
      (try (have c113b3 : ¬ (t231 = t232) := by simpa using c113))
      clear c113
      (first | rw [c113b0] | (simp only [i64_w, i32_w]; rw [c113b0]) | skip)
      have H' := Aside0.mk H
      clear H
      try go_wp2
      have n0_ := Aside0.mk (bD BK212.out)
      have n1_ := Aside0.mk (bD BK213.out)
      have n2_ := Aside0.mk (bD BK218.out)
      have n3_ := Aside0.mk (bD BK222.out)
      have n4_ := Aside0.mk (bD BK226.out)
      have n5_ := Aside0.mk (bD BK230.out)
      have n6_ := Aside0.mk (b1 HB.out)
      clear BK212
      clear BK213
      clear BK218
      clear BK222
      clear BK226
      clear BK230
      clear HB
      have BK212 := n0_
      have BK213 := n1_
      have BK218 := n2_
      have BK222 := n3_
      have BK226 := n4_
      have BK230 := n5_
      have HB := n6_
      clear n0_ n1_ n2_ n3_ n4_ n5_ n6_
      refine start_ (n := 22) (S := fun w' => w'.cell? ⟨gb212, 0, none⟩ = some (.int .i64 a0_0) ∧ w'.cell? ⟨gb212, 1, none⟩ = some (.int .i64 a0_1)) (ds := []) #[false, false, false, false, false, false, false, false, false, false, false, false, false, false, false, false, false, false, false, false, false, false] (by kernel_rfl) rfl rfl ⟨(bC BK212.out 0).trans rfl, (bC BK212.out 1).trans rfl⟩ (fun hHeld => ?_); refine with_tabW bournelaw09_SpanTells.tab8 bournelaw09_SpanTells.bits8 (fun HT_ HW_ => ?_)
      generalize wc.drew = w131 at BK212 BK213 BK218 BK222 BK226 BK230 HB hHeld ⊢
      refine take_ (i := 0) (N := some 67) (v := ?_) (a' := ?_) #[true, false, false, false, false, false, false, false, false, false, false, false, false, false, false, false, false, false, false, false, false, false] rfl rfl (take_ofW HT_.out HW_.out (by kernel_rfl)) (fun _ _ _ h => h) (Or.inl ⟨by rfl, ?_⟩) hHeld ?_ ?_
      rotate_left
      ·
       rintro w' ⟨s0, s1⟩
       go_simp
       with_reducible rfl
      rotate_left
      ·
       simp only [Act.put, List.setIfInBounds_toArray, List.set_cons_zero, List.set_cons_succ, i64_w, i32_w]
       rfl
      refine take_ (i := 2) (N := some 69) (v := ?_) (a' := ?_) #[true, false, true, false, false, false, false, false, false, false, false, false, false, false, false, false, false, false, false, false, false, false] rfl rfl (take_ofW HT_.out HW_.out (by kernel_rfl)) (fun _ _ _ h => h) (Or.inl ⟨by rfl, ?_⟩) hHeld ?_ ?_
      rotate_left
      ·
       rintro w' ⟨s0, s1⟩
       go_simp
       with_reducible rfl
      rotate_left
      ·
       simp only [Act.put, List.setIfInBounds_toArray, List.set_cons_zero, List.set_cons_succ, i64_w, i32_w]
       rfl
      refine one_ (i := 1) (N := some 68) #[true, true, true, false, false, false, false, false, false, false, false, false, false, false, false, false, false, false, false, false, false, false] rfl rfl (one_of HT_.out (by kernel_rfl)) (by decide) (fun K hK => ?_)
      refine goes_ Try.func13 (by kernel_rfl) rfl #[.agg #[.int .i64 a0_0, .int .i64 a0_1]] (by rfl) rfl rfl (by (try simp only [List.map_toArray, List.map_cons, List.map_nil]); first | done | rfl | (simp only [List.length_drop, List.length_take]; rfl)) ?_
      with_reducible refine (span_Right.calls a0_0 a0_1 t231 _ A111.out).mono ?_
      rintro e w132 ⟨rfl, hb⟩
      refine ⟨_, rfl, ?_⟩
      have n0_ := Aside0.mk (bB (g := gb212) (o := .cells #[.int .i64 a0_0, .int .i64 a0_1] 23 (0, 0)) (by (with_reducible repeat (first | refine bN ?_ _ | refine bD ?_ | refine bA ?_ _)); exact BK212.out) hb)
      have n1_ := Aside0.mk (bB (g := gb213) (o := .cells #[.int .i64 a1_0, .int .i64 a1_1] 23 (0, 0)) (by (with_reducible repeat (first | refine bN ?_ _ | refine bD ?_ | refine bA ?_ _)); exact BK213.out) hb)
      have n2_ := Aside0.mk (bB (g := gb218) (o := .cells #[.int .i64 t215, .int .i64 t216] 23 (0, 0)) (by (with_reducible repeat (first | refine bN ?_ _ | refine bD ?_ | refine bA ?_ _)); exact BK218.out) hb)
      have n3_ := Aside0.mk (bB (g := gb222) (o := .cells #[.int .i64 t219, .int .i64 t220] 23 (0, 0)) (by (with_reducible repeat (first | refine bN ?_ _ | refine bD ?_ | refine bA ?_ _)); exact BK222.out) hb)
      have n4_ := Aside0.mk (bB (g := gb226) (o := .cells #[.int .i64 t223, .int .i64 t224] 23 (0, 0)) (by (with_reducible repeat (first | refine bN ?_ _ | refine bD ?_ | refine bA ?_ _)); exact BK226.out) hb)
      have n5_ := Aside0.mk (bB (g := gb230) (o := .cells #[.int .i64 t227, .int .i64 t228] 23 (0, 0)) (by (with_reducible repeat (first | refine bN ?_ _ | refine bD ?_ | refine bA ?_ _)); exact BK230.out) hb)
      have n6_ := Aside0.mk (bP (by repeat (first | (with_reducible first | exact HB.out | apply bL | apply bW | apply b1 | refine bS ?_ GE212.out | refine bS ?_ GE213.out | refine bS ?_ GE218.out | refine bS ?_ GE222.out | refine bS ?_ GE226.out | refine bS ?_ GE230.out) | exact HB.out)) hb)
      clear BK212
      clear BK213
      clear BK218
      clear BK222
      clear BK226
      clear BK230
      clear HB
      have BK212 := n0_
      have BK213 := n1_
      have BK218 := n2_
      have BK222 := n3_
      have BK226 := n4_
      have BK230 := n5_
      have HB := n6_
      clear n0_ n1_ n2_ n3_ n4_ n5_ n6_
      (try clear hb)
      (try clear hb2)
      (try clear hk)
      (try clear hi)
      refine hK.out _ _ ⟨(bC BK212.out 0).trans rfl, (bC BK212.out 1).trans rfl⟩ (fun hHeld => ?_)
      clear hK K
      refine norm_ (a' := ?_) ?_ ?_
      rotate_left
      ·
       show Act.put _ (some 68) _ = _
       simp only [Act.put, List.setIfInBounds_toArray, List.set_cons_zero, List.set_cons_succ, i64_w, i32_w]
       rfl
      refine one_ (i := 3) (N := some 70) #[true, true, true, true, false, false, false, false, false, false, false, false, false, false, false, false, false, false, false, false, false, false] rfl rfl (one_of HT_.out (by kernel_rfl)) (by decide) (fun K hK => ?_)
      refine goes_ Try.func14 (by kernel_rfl) rfl #[.agg #[.int .i64 a0_0, .int .i64 a0_1]] (by rfl) rfl rfl (by (try simp only [List.map_toArray, List.map_cons, List.map_nil]); first | done | rfl | (simp only [List.length_drop, List.length_take]; rfl)) ?_
      with_reducible refine (bourneref09_Right.calls a0_0 a0_1 t232 _ A112.out).mono ?_
      rintro e w133 ⟨rfl, hb⟩
      refine ⟨_, rfl, ?_⟩
      have n0_ := Aside0.mk (bB (g := gb212) (o := .cells #[.int .i64 a0_0, .int .i64 a0_1] 23 (0, 0)) (by (with_reducible repeat (first | refine bN ?_ _ | refine bD ?_ | refine bA ?_ _)); exact BK212.out) hb)
      have n1_ := Aside0.mk (bB (g := gb213) (o := .cells #[.int .i64 a1_0, .int .i64 a1_1] 23 (0, 0)) (by (with_reducible repeat (first | refine bN ?_ _ | refine bD ?_ | refine bA ?_ _)); exact BK213.out) hb)
      have n2_ := Aside0.mk (bB (g := gb218) (o := .cells #[.int .i64 t215, .int .i64 t216] 23 (0, 0)) (by (with_reducible repeat (first | refine bN ?_ _ | refine bD ?_ | refine bA ?_ _)); exact BK218.out) hb)
      have n3_ := Aside0.mk (bB (g := gb222) (o := .cells #[.int .i64 t219, .int .i64 t220] 23 (0, 0)) (by (with_reducible repeat (first | refine bN ?_ _ | refine bD ?_ | refine bA ?_ _)); exact BK222.out) hb)
      have n4_ := Aside0.mk (bB (g := gb226) (o := .cells #[.int .i64 t223, .int .i64 t224] 23 (0, 0)) (by (with_reducible repeat (first | refine bN ?_ _ | refine bD ?_ | refine bA ?_ _)); exact BK226.out) hb)
      have n5_ := Aside0.mk (bB (g := gb230) (o := .cells #[.int .i64 t227, .int .i64 t228] 23 (0, 0)) (by (with_reducible repeat (first | refine bN ?_ _ | refine bD ?_ | refine bA ?_ _)); exact BK230.out) hb)
      have n6_ := Aside0.mk (bP (by repeat (first | (with_reducible first | exact HB.out | apply bL | apply bW | apply b1 | refine bS ?_ GE212.out | refine bS ?_ GE213.out | refine bS ?_ GE218.out | refine bS ?_ GE222.out | refine bS ?_ GE226.out | refine bS ?_ GE230.out) | exact HB.out)) hb)
      clear BK212
      clear BK213
      clear BK218
      clear BK222
      clear BK226
      clear BK230
      clear HB
      have BK212 := n0_
      have BK213 := n1_
      have BK218 := n2_
      have BK222 := n3_
      have BK226 := n4_
      have BK230 := n5_
      have HB := n6_
      clear n0_ n1_ n2_ n3_ n4_ n5_ n6_
      (try clear hb)
      (try clear hb2)
      (try clear hk)
      (try clear hi)
      refine hK.out _ _ ⟨(bC BK212.out 0).trans rfl, (bC BK212.out 1).trans rfl⟩ (fun hHeld => ?_)
      clear hK K
      refine norm_ (a' := ?_) ?_ ?_
      rotate_left
      ·
       show Act.put _ (some 70) _ = _
       simp only [Act.put, List.setIfInBounds_toArray, List.set_cons_zero, List.set_cons_succ, i64_w, i32_w]
       rfl
      refine pure_ (i := 4) (N := some 71) (v := ?_) (a' := ?_) #[true, true, true, true, true, false, false, false, false, false, false, false, false, false, false, false, false, false, false, false, false, false] rfl rfl (any_of HT_.out (by kernel_rfl)) (fun _ _ _ h => h) (Or.inl ⟨by rfl, ?_⟩) ?_ ?_
      rotate_left
      ·
       intro w'
       go_simp
       with_reducible rfl
      rotate_left
      ·
       simp only [Act.put, List.setIfInBounds_toArray, List.set_cons_zero, List.set_cons_succ, i64_w, i32_w]
       rfl
      refine pure_ (i := 5) (N := some 72) (v := ?_) (a' := ?_) #[true, true, true, true, true, true, false, false, false, false, false, false, false, false, false, false, false, false, false, false, false, false] rfl rfl (any_of HT_.out (by kernel_rfl)) (fun _ _ _ h => h) (Or.inl ⟨by rfl, ?_⟩) ?_ ?_
      rotate_left
      ·
       intro w'
       go_simp
       with_reducible rfl
      rotate_left
      ·
       simp only [Act.put, List.setIfInBounds_toArray, List.set_cons_zero, List.set_cons_succ, i64_w, i32_w]
       rfl
      refine pure_ (i := 6) (N := some 73) (v := undef) (a' := ?_) #[true, true, true, true, true, true, true, false, false, false, false, false, false, false, false, false, false, false, false, false, false, false] rfl rfl (any_of HT_.out (by kernel_rfl)) (fun _ _ _ h => h) (Or.inr ⟨by rfl, rfl⟩) ?_ ?_
      rotate_left
      ·
       simp only [Act.put, List.setIfInBounds_toArray, List.set_cons_zero, List.set_cons_succ, i64_w, i32_w]
       rfl
      refine pure_ (i := 7) (N := some 74) (v := undef) (a' := ?_) #[true, true, true, true, true, true, true, true, false, false, false, false, false, false, false, false, false, false, false, false, false, false] rfl rfl (any_of HT_.out (by kernel_rfl)) (fun _ _ _ h => h) (Or.inr ⟨by rfl, rfl⟩) ?_ ?_
      rotate_left
      ·
       simp only [Act.put, List.setIfInBounds_toArray, List.set_cons_zero, List.set_cons_succ, i64_w, i32_w]
       rfl
      refine pure_ (i := 8) (N := some 75) (v := undef) (a' := ?_) #[true, true, true, true, true, true, true, true, true, false, false, false, false, false, false, false, false, false, false, false, false, false] rfl rfl (any_of HT_.out (by kernel_rfl)) (fun _ _ _ h => h) (Or.inr ⟨by rfl, rfl⟩) ?_ ?_
      rotate_left
      ·
       simp only [Act.put, List.setIfInBounds_toArray, List.set_cons_zero, List.set_cons_succ, i64_w, i32_w]
       rfl
      refine pure_ (i := 9) (N := some 76) (v := undef) (a' := ?_) #[true, true, true, true, true, true, true, true, true, true, false, false, false, false, false, false, false, false, false, false, false, false] rfl rfl (any_of HT_.out (by kernel_rfl)) (fun _ _ _ h => h) (Or.inr ⟨by rfl, rfl⟩) ?_ ?_
      rotate_left
      ·
       simp only [Act.put, List.setIfInBounds_toArray, List.set_cons_zero, List.set_cons_succ, i64_w, i32_w]
       rfl
      refine pure_ (i := 10) (N := some 77) (v := undef) (a' := ?_) #[true, true, true, true, true, true, true, true, true, true, true, false, false, false, false, false, false, false, false, false, false, false] rfl rfl (any_of HT_.out (by kernel_rfl)) (fun _ _ _ h => h) (Or.inr ⟨by rfl, rfl⟩) ?_ ?_
      rotate_left
      ·
       simp only [Act.put, List.setIfInBounds_toArray, List.set_cons_zero, List.set_cons_succ, i64_w, i32_w]
       rfl
      refine pure_ (i := 11) (N := some 78) (v := ?_) (a' := ?_) #[true, true, true, true, true, true, true, true, true, true, true, true, false, false, false, false, false, false, false, false, false, false] rfl rfl (any_of HT_.out (by kernel_rfl)) (fun _ _ _ h => h) (Or.inl ⟨by rfl, ?_⟩) ?_ ?_
      rotate_left
      ·
       intro w'
       go_simp
       with_reducible rfl
      rotate_left
      ·
       simp only [Act.put, List.setIfInBounds_toArray, List.set_cons_zero, List.set_cons_succ, i64_w, i32_w]
       rfl
      refine pure_ (i := 12) (N := some 79) (v := ?_) (a' := ?_) #[true, true, true, true, true, true, true, true, true, true, true, true, true, false, false, false, false, false, false, false, false, false] rfl rfl (any_of HT_.out (by kernel_rfl)) (fun _ _ _ h => h) (Or.inl ⟨by rfl, ?_⟩) ?_ ?_
      rotate_left
      ·
       intro w'
       go_simp
       with_reducible rfl
      rotate_left
      ·
       simp only [Act.put, List.setIfInBounds_toArray, List.set_cons_zero, List.set_cons_succ, i64_w, i32_w]
       rfl
      refine pure_ (i := 13) (N := some 80) (v := undef) (a' := ?_) #[true, true, true, true, true, true, true, true, true, true, true, true, true, true, false, false, false, false, false, false, false, false] rfl rfl (any_of HT_.out (by kernel_rfl)) (fun _ _ _ h => h) (Or.inr ⟨by rfl, rfl⟩) ?_ ?_
      rotate_left
      ·
       simp only [Act.put, List.setIfInBounds_toArray, List.set_cons_zero, List.set_cons_succ, i64_w, i32_w]
       rfl
      refine pure_ (i := 14) (N := some 81) (v := undef) (a' := ?_) #[true, true, true, true, true, true, true, true, true, true, true, true, true, true, true, false, false, false, false, false, false, false] rfl rfl (any_of HT_.out (by kernel_rfl)) (fun _ _ _ h => h) (Or.inr ⟨by rfl, rfl⟩) ?_ ?_
      rotate_left
      ·
       simp only [Act.put, List.setIfInBounds_toArray, List.set_cons_zero, List.set_cons_succ, i64_w, i32_w]
       rfl
      refine pure_ (i := 15) (N := some 82) (v := undef) (a' := ?_) #[true, true, true, true, true, true, true, true, true, true, true, true, true, true, true, true, false, false, false, false, false, false] rfl rfl (any_of HT_.out (by kernel_rfl)) (fun _ _ _ h => h) (Or.inr ⟨by rfl, rfl⟩) ?_ ?_
      rotate_left
      ·
       simp only [Act.put, List.setIfInBounds_toArray, List.set_cons_zero, List.set_cons_succ, i64_w, i32_w]
       rfl
      refine pure_ (i := 16) (N := some 83) (v := undef) (a' := ?_) #[true, true, true, true, true, true, true, true, true, true, true, true, true, true, true, true, true, false, false, false, false, false] rfl rfl (any_of HT_.out (by kernel_rfl)) (fun _ _ _ h => h) (Or.inr ⟨by rfl, rfl⟩) ?_ ?_
      rotate_left
      ·
       simp only [Act.put, List.setIfInBounds_toArray, List.set_cons_zero, List.set_cons_succ, i64_w, i32_w]
       rfl
      refine pure_ (i := 17) (N := some 84) (v := undef) (a' := ?_) #[true, true, true, true, true, true, true, true, true, true, true, true, true, true, true, true, true, true, false, false, false, false] rfl rfl (any_of HT_.out (by kernel_rfl)) (fun _ _ _ h => h) (Or.inr ⟨by rfl, rfl⟩) ?_ ?_
      rotate_left
      ·
       simp only [Act.put, List.setIfInBounds_toArray, List.set_cons_zero, List.set_cons_succ, i64_w, i32_w]
       rfl
      refine pure_ (i := 18) (N := some 85) (v := undef) (a' := ?_) #[true, true, true, true, true, true, true, true, true, true, true, true, true, true, true, true, true, true, true, false, false, false] rfl rfl (any_of HT_.out (by kernel_rfl)) (fun _ _ _ h => h) (Or.inr ⟨by rfl, rfl⟩) ?_ ?_
      rotate_left
      ·
       simp only [Act.put, List.setIfInBounds_toArray, List.set_cons_zero, List.set_cons_succ, i64_w, i32_w]
       rfl
      refine pure_ (i := 19) (N := some 86) (v := undef) (a' := ?_) #[true, true, true, true, true, true, true, true, true, true, true, true, true, true, true, true, true, true, true, true, false, false] rfl rfl (any_of HT_.out (by kernel_rfl)) (fun _ _ _ h => h) (Or.inr ⟨by rfl, rfl⟩) ?_ ?_
      rotate_left
      ·
       simp only [Act.put, List.setIfInBounds_toArray, List.set_cons_zero, List.set_cons_succ, i64_w, i32_w]
       rfl
      refine pure_ (i := 20) (N := some 87) (v := ?_) (a' := ?_) #[true, true, true, true, true, true, true, true, true, true, true, true, true, true, true, true, true, true, true, true, true, false] rfl rfl (any_of HT_.out (by kernel_rfl)) (fun _ _ _ h => h) (Or.inl ⟨by rfl, ?_⟩) ?_ ?_
      rotate_left
      ·
       intro w'
       go_simp
       with_reducible rfl
      rotate_left
      ·
       simp only [Act.put, List.setIfInBounds_toArray, List.set_cons_zero, List.set_cons_succ, i64_w, i32_w]
       rfl
      refine pure_ (i := 21) (N := some 20) (v := ?_) (a' := ?_) #[true, true, true, true, true, true, true, true, true, true, true, true, true, true, true, true, true, true, true, true, true, true] rfl rfl (any_of HT_.out (by kernel_rfl)) (fun _ _ _ h => h) (Or.inl ⟨by rfl, ?_⟩) ?_ ?_
      rotate_left
      ·
       intro w'
       go_simp
       with_reducible rfl
      rotate_left
      ·
       simp only [Act.put, List.setIfInBounds_toArray, List.set_cons_zero, List.set_cons_succ, i64_w, i32_w]
       rfl
      refine done_ (done_of HT_.out (by kernel_rfl)) ?_
      try go_wp2
      go_meet
      case rel => exact ⟨_, (false), (by first | rfl | (simp; done) | (simp [*]; done)), H', ⟨by have := HJ10.out; first | omega | exact Nat.le_refl _⟩, ⟨by (with_reducible repeat (first | refine bN ?_ _ | refine bD ?_ | refine bA ?_ _)); exact BK212.out⟩, ⟨by (with_reducible repeat (first | refine bN ?_ _ | refine bD ?_ | refine bA ?_ _)); exact BK213.out⟩, ⟨by (with_reducible repeat (first | refine bN ?_ _ | refine bD ?_ | refine bA ?_ _)); exact BK218.out⟩, ⟨by (with_reducible repeat (first | refine bN ?_ _ | refine bD ?_ | refine bA ?_ _)); exact BK222.out⟩, ⟨by (with_reducible repeat (first | refine bN ?_ _ | refine bD ?_ | refine bA ?_ _)); exact BK226.out⟩, ⟨by (with_reducible repeat (first | refine bN ?_ _ | refine bD ?_ | refine bA ?_ _)); exact BK230.out⟩, ⟨by repeat (first | (with_reducible first | exact HB.out | apply bL | apply bW | apply b1 | refine bS ?_ GE212.out | refine bS ?_ GE213.out | refine bS ?_ GE218.out | refine bS ?_ GE222.out | refine bS ?_ GE226.out | refine bS ?_ GE230.out) | exact HB.out)⟩⟩
    case rest =>
     clear HC110
     try clear c1
     try clear p2
     try clear c11
     try clear c13
     try clear c14
     try clear c15
     try clear c16
     try clear c18
     try clear c113
     try clear c113b0
     try clear c113b1
     try clear c113b2
     try clear c116
     try clear c116b0
     try clear c116b1
     try clear c116b2
     obtain ⟨kq, x20_109, rfl, HA, HJ109, BK212, BK213, BK218, BK222, BK226, BK230, HB⟩ := hcut
     cases kq with
     | zero => exact absurd HA.out (by simp [bournelaw09_SpanTells.j1])
     | succ kj109 =>
      have H := HA.out
      clear HA
      simp only [bournelaw09_SpanTells.j1] at H
      have HC134 := Aside0.mk H
      clear H
      go_upto_region 9 with (fail)
      go_cut [21] (fun v21 wc => ∃ (kq : Nat) (x21_133 : Bool), v21 = .bool x21_133 ∧ Aside0 (bournelaw09_SpanTells.j2 kq t214 x20_109 x21_133 a0_0 a0_1 a1_0 a1_1 = some r) ∧ Aside0 (kq ≤ kj109) ∧ Aside0 (wc.heap[gb212]? = some (.cells #[.int .i64 a0_0, .int .i64 a0_1] 23 (0, 0))) ∧ Aside0 (wc.heap[gb213]? = some (.cells #[.int .i64 a1_0, .int .i64 a1_1] 23 (0, 0))) ∧ Aside0 (wc.heap[gb218]? = some (.cells #[.int .i64 t215, .int .i64 t216] 23 (0, 0))) ∧ Aside0 (wc.heap[gb222]? = some (.cells #[.int .i64 t219, .int .i64 t220] 23 (0, 0))) ∧ Aside0 (wc.heap[gb226]? = some (.cells #[.int .i64 t223, .int .i64 t224] 23 (0, 0))) ∧ Aside0 (wc.heap[gb230]? = some (.cells #[.int .i64 t227, .int .i64 t228] 23 (0, 0))) ∧ Aside0 (Below w.heap.size w wc))
      case first =>
       have H := HC134.out
       clear HC134
       replace H := Option.bind_eq_some_iff.mp H
       obtain ⟨⟨t239, t240⟩, A1350, H⟩ := H
       dsimp only at H
       have A135 := Aside0.mk A1350
       clear A1350
       replace H := Option.bind_eq_some_iff.mp H
       obtain ⟨⟨t241, t242⟩, A1360, H⟩ := H
       dsimp only at H
       have A136 := Aside0.mk A1360
       clear A1360
       by_cases c137 : (t239 == t241 && (t240 == t242)) = true
       ·
        rw [if_pos c137] at H
        have c137b0 : (t239 == t241 && (t240 == t242)) = true := c137
        (try (have c137b1 : decide (t239 = t241 && (t240 == t242)) = true := by simpa using c137))
        (try (have c137b2 : (t239 == t241 && (t240 == t242)) = true := by simpa using c137))
        clear c137
        (first | rw [c137b0] | (simp only [i64_w, i32_w]; rw [c137b0]) | skip)
        replace H := Option.bind_eq_some_iff.mp H
        obtain ⟨⟨t243, t244⟩, A1380, H⟩ := H
        dsimp only at H
        have A138 := Aside0.mk A1380
        clear A1380
        replace H := Option.bind_eq_some_iff.mp H
        obtain ⟨⟨t245, t246⟩, A1390, H⟩ := H
        dsimp only at H
        have A139 := Aside0.mk A1390
        clear A1390
        by_cases c140 : (t243 == t245 && (t244 == t246)) = true
        ·
         rw [if_pos c140] at H
         have c140b0 : (t243 == t245 && (t244 == t246)) = true := c140
         (try (have c140b1 : decide (t243 = t245 && (t244 == t246)) = true := by simpa using c140))
         (try (have c140b2 : (t243 == t245 && (t244 == t246)) = true := by simpa using c140))
         clear c140
         replace H := Option.bind_eq_some_iff.mp H
         obtain ⟨⟨t247, t248⟩, A1410, H⟩ := H
         dsimp only at H
         have A141 := Aside0.mk A1410
         clear A1410
         replace H := Option.bind_eq_some_iff.mp H
         obtain ⟨⟨t249, t250⟩, A1420, H⟩ := H
         dsimp only at H
         have A142 := Aside0.mk A1420
         clear A1420
         have H' := Aside0.mk H
         clear H
         try go_wp2
         have n0_ := Aside0.mk (bD BK212.out)
         have n1_ := Aside0.mk (bD BK213.out)
         have n2_ := Aside0.mk (bD BK218.out)
         have n3_ := Aside0.mk (bD BK222.out)
         have n4_ := Aside0.mk (bD BK226.out)
         have n5_ := Aside0.mk (bD BK230.out)
         have n6_ := Aside0.mk (b1 HB.out)
         clear BK212
         clear BK213
         clear BK218
         clear BK222
         clear BK226
         clear BK230
         clear HB
         have BK212 := n0_
         have BK213 := n1_
         have BK218 := n2_
         have BK222 := n3_
         have BK226 := n4_
         have BK230 := n5_
         have HB := n6_
         clear n0_ n1_ n2_ n3_ n4_ n5_ n6_
         refine start_ (n := 26) (S := fun w' => w'.cell? ⟨gb212, 0, none⟩ = some (.int .i64 a0_0) ∧ w'.cell? ⟨gb212, 1, none⟩ = some (.int .i64 a0_1) ∧ w'.cell? ⟨gb213, 0, none⟩ = some (.int .i64 a1_0) ∧ w'.cell? ⟨gb213, 1, none⟩ = some (.int .i64 a1_1)) (ds := []) #[false, false, false, false, false, false, false, false, false, false, false, false, false, false, false, false, false, false, false, false, false, false, false, false, false, false] (by kernel_rfl) rfl rfl ⟨(bC BK212.out 0).trans rfl, (bC BK212.out 1).trans rfl, (bC BK213.out 0).trans rfl, (bC BK213.out 1).trans rfl⟩ (fun hHeld => ?_); refine with_tabW bournelaw09_SpanTells.tab9 bournelaw09_SpanTells.bits9 (fun HT_ HW_ => ?_)
         generalize wc.drew = w143 at BK212 BK213 BK218 BK222 BK226 BK230 HB hHeld ⊢
         refine take_ (i := 0) (N := some 88) (v := ?_) (a' := ?_) #[true, false, false, false, false, false, false, false, false, false, false, false, false, false, false, false, false, false, false, false, false, false, false, false, false, false] rfl rfl (take_ofW HT_.out HW_.out (by kernel_rfl)) (fun _ _ _ h => h) (Or.inl ⟨by rfl, ?_⟩) hHeld ?_ ?_
         rotate_left
         ·
          rintro w' ⟨s0, s1, s2, s3⟩
          go_simp
          with_reducible rfl
         rotate_left
         ·
          simp only [Act.put, List.setIfInBounds_toArray, List.set_cons_zero, List.set_cons_succ, i64_w, i32_w]
          rfl
         refine take_ (i := 1) (N := some 89) (v := ?_) (a' := ?_) #[true, true, false, false, false, false, false, false, false, false, false, false, false, false, false, false, false, false, false, false, false, false, false, false, false, false] rfl rfl (take_ofW HT_.out HW_.out (by kernel_rfl)) (fun _ _ _ h => h) (Or.inl ⟨by rfl, ?_⟩) hHeld ?_ ?_
         rotate_left
         ·
          rintro w' ⟨s0, s1, s2, s3⟩
          go_simp
          with_reducible rfl
         rotate_left
         ·
          simp only [Act.put, List.setIfInBounds_toArray, List.set_cons_zero, List.set_cons_succ, i64_w, i32_w]
          rfl
         refine take_ (i := 3) (N := some 91) (v := ?_) (a' := ?_) #[true, true, false, true, false, false, false, false, false, false, false, false, false, false, false, false, false, false, false, false, false, false, false, false, false, false] rfl rfl (take_ofW HT_.out HW_.out (by kernel_rfl)) (fun _ _ _ h => h) (Or.inl ⟨by rfl, ?_⟩) hHeld ?_ ?_
         rotate_left
         ·
          rintro w' ⟨s0, s1, s2, s3⟩
          go_simp
          with_reducible rfl
         rotate_left
         ·
          simp only [Act.put, List.setIfInBounds_toArray, List.set_cons_zero, List.set_cons_succ, i64_w, i32_w]
          rfl
         refine take_ (i := 4) (N := some 92) (v := ?_) (a' := ?_) #[true, true, false, true, true, false, false, false, false, false, false, false, false, false, false, false, false, false, false, false, false, false, false, false, false, false] rfl rfl (take_ofW HT_.out HW_.out (by kernel_rfl)) (fun _ _ _ h => h) (Or.inl ⟨by rfl, ?_⟩) hHeld ?_ ?_
         rotate_left
         ·
          rintro w' ⟨s0, s1, s2, s3⟩
          go_simp
          with_reducible rfl
         rotate_left
         ·
          simp only [Act.put, List.setIfInBounds_toArray, List.set_cons_zero, List.set_cons_succ, i64_w, i32_w]
          rfl
         refine one_ (i := 2) (N := some 90) #[true, true, true, true, true, false, false, false, false, false, false, false, false, false, false, false, false, false, false, false, false, false, false, false, false, false] rfl rfl (one_of HT_.out (by kernel_rfl)) (by decide) (fun K hK => ?_)
         refine goes_ Try.func19 (by kernel_rfl) rfl #[.agg #[.int .i64 a0_0, .int .i64 a0_1], .agg #[.int .i64 a1_0, .int .i64 a1_1]] (by rfl) rfl rfl (by (try simp only [List.map_toArray, List.map_cons, List.map_nil]); first | done | rfl | (simp only [List.length_drop, List.length_take]; rfl)) ?_
         with_reducible refine (span_Add.calls a0_0 a0_1 a1_0 a1_1 t239 t240 _ A135.out).mono ?_
         rintro e w144 ⟨rfl, hb⟩
         refine ⟨_, rfl, ?_⟩
         have n0_ := Aside0.mk (bB (g := gb212) (o := .cells #[.int .i64 a0_0, .int .i64 a0_1] 23 (0, 0)) (by (with_reducible repeat (first | refine bN ?_ _ | refine bD ?_ | refine bA ?_ _)); exact BK212.out) hb)
         have n1_ := Aside0.mk (bB (g := gb213) (o := .cells #[.int .i64 a1_0, .int .i64 a1_1] 23 (0, 0)) (by (with_reducible repeat (first | refine bN ?_ _ | refine bD ?_ | refine bA ?_ _)); exact BK213.out) hb)
         have n2_ := Aside0.mk (bB (g := gb218) (o := .cells #[.int .i64 t215, .int .i64 t216] 23 (0, 0)) (by (with_reducible repeat (first | refine bN ?_ _ | refine bD ?_ | refine bA ?_ _)); exact BK218.out) hb)
         have n3_ := Aside0.mk (bB (g := gb222) (o := .cells #[.int .i64 t219, .int .i64 t220] 23 (0, 0)) (by (with_reducible repeat (first | refine bN ?_ _ | refine bD ?_ | refine bA ?_ _)); exact BK222.out) hb)
         have n4_ := Aside0.mk (bB (g := gb226) (o := .cells #[.int .i64 t223, .int .i64 t224] 23 (0, 0)) (by (with_reducible repeat (first | refine bN ?_ _ | refine bD ?_ | refine bA ?_ _)); exact BK226.out) hb)
         have n5_ := Aside0.mk (bB (g := gb230) (o := .cells #[.int .i64 t227, .int .i64 t228] 23 (0, 0)) (by (with_reducible repeat (first | refine bN ?_ _ | refine bD ?_ | refine bA ?_ _)); exact BK230.out) hb)
         have n6_ := Aside0.mk (bP (by repeat (first | (with_reducible first | exact HB.out | apply bL | apply bW | apply b1 | refine bS ?_ GE212.out | refine bS ?_ GE213.out | refine bS ?_ GE218.out | refine bS ?_ GE222.out | refine bS ?_ GE226.out | refine bS ?_ GE230.out) | exact HB.out)) hb)
         clear BK212
         clear BK213
         clear BK218
         clear BK222
         clear BK226
         clear BK230
         clear HB
         have BK212 := n0_
         have BK213 := n1_
         have BK218 := n2_
         have BK222 := n3_
         have BK226 := n4_
         have BK230 := n5_
         have HB := n6_
         clear n0_ n1_ n2_ n3_ n4_ n5_ n6_
         (try clear hb)
         (try clear hb2)
         (try clear hk)
         (try clear hi)
         refine hK.out _ _ ⟨(bC BK212.out 0).trans rfl, (bC BK212.out 1).trans rfl, (bC BK213.out 0).trans rfl, (bC BK213.out 1).trans rfl⟩ (fun hHeld => ?_)
         clear hK K
         refine norm_ (a' := ?_) ?_ ?_
         rotate_left
         ·
          show Act.put _ (some 90) _ = _
          simp only [Act.put, List.setIfInBounds_toArray, List.set_cons_zero, List.set_cons_succ, i64_w, i32_w]
          rfl
         refine one_ (i := 5) (N := some 93) #[true, true, true, true, true, true, false, false, false, false, false, false, false, false, false, false, false, false, false, false, false, false, false, false, false, false] rfl rfl (one_of HT_.out (by kernel_rfl)) (by decide) (fun K hK => ?_)
         refine goes_ Try.func20 (by kernel_rfl) rfl #[.agg #[.int .i64 a0_0, .int .i64 a0_1], .agg #[.int .i64 a1_0, .int .i64 a1_1]] (by rfl) rfl rfl (by (try simp only [List.map_toArray, List.map_cons, List.map_nil]); first | done | rfl | (simp only [List.length_drop, List.length_take]; rfl)) ?_
         with_reducible refine (bourneref09_Add.calls kj109 a0_0 a0_1 a1_0 a1_1 t241 t242 _ A136.out).mono ?_
         rintro e w145 ⟨rfl, hb⟩
         refine ⟨_, rfl, ?_⟩
         have n0_ := Aside0.mk (bB (g := gb212) (o := .cells #[.int .i64 a0_0, .int .i64 a0_1] 23 (0, 0)) (by (with_reducible repeat (first | refine bN ?_ _ | refine bD ?_ | refine bA ?_ _)); exact BK212.out) hb)
         have n1_ := Aside0.mk (bB (g := gb213) (o := .cells #[.int .i64 a1_0, .int .i64 a1_1] 23 (0, 0)) (by (with_reducible repeat (first | refine bN ?_ _ | refine bD ?_ | refine bA ?_ _)); exact BK213.out) hb)
         have n2_ := Aside0.mk (bB (g := gb218) (o := .cells #[.int .i64 t215, .int .i64 t216] 23 (0, 0)) (by (with_reducible repeat (first | refine bN ?_ _ | refine bD ?_ | refine bA ?_ _)); exact BK218.out) hb)
         have n3_ := Aside0.mk (bB (g := gb222) (o := .cells #[.int .i64 t219, .int .i64 t220] 23 (0, 0)) (by (with_reducible repeat (first | refine bN ?_ _ | refine bD ?_ | refine bA ?_ _)); exact BK222.out) hb)
         have n4_ := Aside0.mk (bB (g := gb226) (o := .cells #[.int .i64 t223, .int .i64 t224] 23 (0, 0)) (by (with_reducible repeat (first | refine bN ?_ _ | refine bD ?_ | refine bA ?_ _)); exact BK226.out) hb)
         have n5_ := Aside0.mk (bB (g := gb230) (o := .cells #[.int .i64 t227, .int .i64 t228] 23 (0, 0)) (by (with_reducible repeat (first | refine bN ?_ _ | refine bD ?_ | refine bA ?_ _)); exact BK230.out) hb)
         have n6_ := Aside0.mk (bP (by repeat (first | (with_reducible first | exact HB.out | apply bL | apply bW | apply b1 | refine bS ?_ GE212.out | refine bS ?_ GE213.out | refine bS ?_ GE218.out | refine bS ?_ GE222.out | refine bS ?_ GE226.out | refine bS ?_ GE230.out) | exact HB.out)) hb)
         clear BK212
         clear BK213
         clear BK218
         clear BK222
         clear BK226
         clear BK230
         clear HB
         have BK212 := n0_
         have BK213 := n1_
         have BK218 := n2_
         have BK222 := n3_
         have BK226 := n4_
         have BK230 := n5_
         have HB := n6_
         clear n0_ n1_ n2_ n3_ n4_ n5_ n6_
         (try clear hb)
         (try clear hb2)
         (try clear hk)
         (try clear hi)
         refine hK.out _ _ ⟨(bC BK212.out 0).trans rfl, (bC BK212.out 1).trans rfl, (bC BK213.out 0).trans rfl, (bC BK213.out 1).trans rfl⟩ (fun hHeld => ?_)
         clear hK K
         refine norm_ (a' := ?_) ?_ ?_
         rotate_left
         ·
          show Act.put _ (some 93) _ = _
          simp only [Act.put, List.setIfInBounds_toArray, List.set_cons_zero, List.set_cons_succ, i64_w, i32_w]
          rfl
         refine pure_ (i := 6) (N := some 94) (v := ?_) (a' := ?_) #[true, true, true, true, true, true, true, false, false, false, false, false, false, false, false, false, false, false, false, false, false, false, false, false, false, false] rfl rfl (any_of HT_.out (by kernel_rfl)) (fun _ _ _ h => h) (Or.inl ⟨by rfl, ?_⟩) ?_ ?_
         rotate_left
         ·
          intro w'
          go_simp
          with_reducible rfl
         rotate_left
         ·
          simp only [Act.put, List.setIfInBounds_toArray, List.set_cons_zero, List.set_cons_succ, i64_w, i32_w]
          rfl
         refine pure_ (i := 7) (N := some 95) (v := ?_) (a' := ?_) #[true, true, true, true, true, true, true, true, false, false, false, false, false, false, false, false, false, false, false, false, false, false, false, false, false, false] rfl rfl (any_of HT_.out (by kernel_rfl)) (fun _ _ _ h => h) (Or.inl ⟨by rfl, ?_⟩) ?_ ?_
         rotate_left
         ·
          intro w'
          go_simp
          with_reducible rfl
         rotate_left
         ·
          simp only [Act.put, List.setIfInBounds_toArray, List.set_cons_zero, List.set_cons_succ, i64_w, i32_w]
          rfl
         refine take_ (i := 8) (N := some 96) (v := ?_) (a' := ?_) #[true, true, true, true, true, true, true, true, true, false, false, false, false, false, false, false, false, false, false, false, false, false, false, false, false, false] rfl rfl (take_ofW HT_.out HW_.out (by kernel_rfl)) (fun _ _ _ h => h) (Or.inl ⟨by rfl, ?_⟩) hHeld ?_ ?_
         rotate_left
         ·
          rintro w' ⟨s0, s1, s2, s3⟩
          go_simp
          with_reducible rfl
         rotate_left
         ·
          simp only [Act.put, List.setIfInBounds_toArray, List.set_cons_zero, List.set_cons_succ, i64_w, i32_w]
          rfl
         refine take_ (i := 9) (N := some 97) (v := ?_) (a' := ?_) #[true, true, true, true, true, true, true, true, true, true, false, false, false, false, false, false, false, false, false, false, false, false, false, false, false, false] rfl rfl (take_ofW HT_.out HW_.out (by kernel_rfl)) (fun _ _ _ h => h) (Or.inl ⟨by rfl, ?_⟩) hHeld ?_ ?_
         rotate_left
         ·
          rintro w' ⟨s0, s1, s2, s3⟩
          go_simp
          with_reducible rfl
         rotate_left
         ·
          simp only [Act.put, List.setIfInBounds_toArray, List.set_cons_zero, List.set_cons_succ, i64_w, i32_w]
          rfl
         refine take_ (i := 11) (N := some 99) (v := ?_) (a' := ?_) #[true, true, true, true, true, true, true, true, true, true, false, true, false, false, false, false, false, false, false, false, false, false, false, false, false, false] rfl rfl (take_ofW HT_.out HW_.out (by kernel_rfl)) (fun _ _ _ h => h) (Or.inl ⟨by rfl, ?_⟩) hHeld ?_ ?_
         rotate_left
         ·
          rintro w' ⟨s0, s1, s2, s3⟩
          go_simp
          with_reducible rfl
         rotate_left
         ·
          simp only [Act.put, List.setIfInBounds_toArray, List.set_cons_zero, List.set_cons_succ, i64_w, i32_w]
          rfl
         refine take_ (i := 12) (N := some 100) (v := ?_) (a' := ?_) #[true, true, true, true, true, true, true, true, true, true, false, true, true, false, false, false, false, false, false, false, false, false, false, false, false, false] rfl rfl (take_ofW HT_.out HW_.out (by kernel_rfl)) (fun _ _ _ h => h) (Or.inl ⟨by rfl, ?_⟩) hHeld ?_ ?_
         rotate_left
         ·
          rintro w' ⟨s0, s1, s2, s3⟩
          go_simp
          with_reducible rfl
         rotate_left
         ·
          simp only [Act.put, List.setIfInBounds_toArray, List.set_cons_zero, List.set_cons_succ, i64_w, i32_w]
          rfl
         refine one_ (i := 10) (N := some 98) #[true, true, true, true, true, true, true, true, true, true, true, true, true, false, false, false, false, false, false, false, false, false, false, false, false, false] rfl rfl (one_of HT_.out (by kernel_rfl)) (by decide) (fun K hK => ?_)
         refine goes_ Try.func21 (by kernel_rfl) rfl #[.agg #[.int .i64 a0_0, .int .i64 a0_1], .agg #[.int .i64 a1_0, .int .i64 a1_1]] (by rfl) rfl rfl (by (try simp only [List.map_toArray, List.map_cons, List.map_nil]); first | done | rfl | (simp only [List.length_drop, List.length_take]; rfl)) ?_
         with_reducible refine (span_Sub.calls a0_0 a0_1 a1_0 a1_1 t243 t244 _ A138.out).mono ?_
         rintro e w146 ⟨rfl, hb⟩
         refine ⟨_, rfl, ?_⟩
         have n0_ := Aside0.mk (bB (g := gb212) (o := .cells #[.int .i64 a0_0, .int .i64 a0_1] 23 (0, 0)) (by (with_reducible repeat (first | refine bN ?_ _ | refine bD ?_ | refine bA ?_ _)); exact BK212.out) hb)
         have n1_ := Aside0.mk (bB (g := gb213) (o := .cells #[.int .i64 a1_0, .int .i64 a1_1] 23 (0, 0)) (by (with_reducible repeat (first | refine bN ?_ _ | refine bD ?_ | refine bA ?_ _)); exact BK213.out) hb)
         have n2_ := Aside0.mk (bB (g := gb218) (o := .cells #[.int .i64 t215, .int .i64 t216] 23 (0, 0)) (by (with_reducible repeat (first | refine bN ?_ _ | refine bD ?_ | refine bA ?_ _)); exact BK218.out) hb)
         have n3_ := Aside0.mk (bB (g := gb222) (o := .cells #[.int .i64 t219, .int .i64 t220] 23 (0, 0)) (by (with_reducible repeat (first | refine bN ?_ _ | refine bD ?_ | refine bA ?_ _)); exact BK222.out) hb)
         have n4_ := Aside0.mk (bB (g := gb226) (o := .cells #[.int .i64 t223, .int .i64 t224] 23 (0, 0)) (by (with_reducible repeat (first | refine bN ?_ _ | refine bD ?_ | refine bA ?_ _)); exact BK226.out) hb)
         have n5_ := Aside0.mk (bB (g := gb230) (o := .cells #[.int .i64 t227, .int .i64 t228] 23 (0, 0)) (by (with_reducible repeat (first | refine bN ?_ _ | refine bD ?_ | refine bA ?_ _)); exact BK230.out) hb)
         have n6_ := Aside0.mk (bP (by repeat (first | (with_reducible first | exact HB.out | apply bL | apply bW | apply b1 | refine bS ?_ GE212.out | refine bS ?_ GE213.out | refine bS ?_ GE218.out | refine bS ?_ GE222.out | refine bS ?_ GE226.out | refine bS ?_ GE230.out) | exact HB.out)) hb)
         clear BK212
         clear BK213
         clear BK218
         clear BK222
         clear BK226
         clear BK230
         clear HB
         have BK212 := n0_
         have BK213 := n1_
         have BK218 := n2_
         have BK222 := n3_
         have BK226 := n4_
         have BK230 := n5_
         have HB := n6_
         clear n0_ n1_ n2_ n3_ n4_ n5_ n6_
         (try clear hb)
         (try clear hb2)
         (try clear hk)
         (try clear hi)
         refine hK.out _ _ ⟨(bC BK212.out 0).trans rfl, (bC BK212.out 1).trans rfl, (bC BK213.out 0).trans rfl, (bC BK213.out 1).trans rfl⟩ (fun hHeld => ?_)
         clear hK K
         refine norm_ (a' := ?_) ?_ ?_
         rotate_left
         ·
          show Act.put _ (some 98) _ = _
          simp only [Act.put, List.setIfInBounds_toArray, List.set_cons_zero, List.set_cons_succ, i64_w, i32_w]
          rfl
         refine one_ (i := 13) (N := some 101) #[true, true, true, true, true, true, true, true, true, true, true, true, true, true, false, false, false, false, false, false, false, false, false, false, false, false] rfl rfl (one_of HT_.out (by kernel_rfl)) (by decide) (fun K hK => ?_)
         refine goes_ Try.func22 (by kernel_rfl) rfl #[.agg #[.int .i64 a0_0, .int .i64 a0_1], .agg #[.int .i64 a1_0, .int .i64 a1_1]] (by rfl) rfl rfl (by (try simp only [List.map_toArray, List.map_cons, List.map_nil]); first | done | rfl | (simp only [List.length_drop, List.length_take]; rfl)) ?_
         with_reducible refine (bourneref09_Sub.calls kj109 a0_0 a0_1 a1_0 a1_1 t245 t246 _ A139.out).mono ?_
         rintro e w147 ⟨rfl, hb⟩
         refine ⟨_, rfl, ?_⟩
         have n0_ := Aside0.mk (bB (g := gb212) (o := .cells #[.int .i64 a0_0, .int .i64 a0_1] 23 (0, 0)) (by (with_reducible repeat (first | refine bN ?_ _ | refine bD ?_ | refine bA ?_ _)); exact BK212.out) hb)
         have n1_ := Aside0.mk (bB (g := gb213) (o := .cells #[.int .i64 a1_0, .int .i64 a1_1] 23 (0, 0)) (by (with_reducible repeat (first | refine bN ?_ _ | refine bD ?_ | refine bA ?_ _)); exact BK213.out) hb)
         have n2_ := Aside0.mk (bB (g := gb218) (o := .cells #[.int .i64 t215, .int .i64 t216] 23 (0, 0)) (by (with_reducible repeat (first | refine bN ?_ _ | refine bD ?_ | refine bA ?_ _)); exact BK218.out) hb)
         have n3_ := Aside0.mk (bB (g := gb222) (o := .cells #[.int .i64 t219, .int .i64 t220] 23 (0, 0)) (by (with_reducible repeat (first | refine bN ?_ _ | refine bD ?_ | refine bA ?_ _)); exact BK222.out) hb)
         have n4_ := Aside0.mk (bB (g := gb226) (o := .cells #[.int .i64 t223, .int .i64 t224] 23 (0, 0)) (by (with_reducible repeat (first | refine bN ?_ _ | refine bD ?_ | refine bA ?_ _)); exact BK226.out) hb)
         have n5_ := Aside0.mk (bB (g := gb230) (o := .cells #[.int .i64 t227, .int .i64 t228] 23 (0, 0)) (by (with_reducible repeat (first | refine bN ?_ _ | refine bD ?_ | refine bA ?_ _)); exact BK230.out) hb)
         have n6_ := Aside0.mk (bP (by repeat (first | (with_reducible first | exact HB.out | apply bL | apply bW | apply b1 | refine bS ?_ GE212.out | refine bS ?_ GE213.out | refine bS ?_ GE218.out | refine bS ?_ GE222.out | refine bS ?_ GE226.out | refine bS ?_ GE230.out) | exact HB.out)) hb)
         clear BK212
         clear BK213
         clear BK218
         clear BK222
         clear BK226
         clear BK230
         clear HB
         have BK212 := n0_
         have BK213 := n1_
         have BK218 := n2_
         have BK222 := n3_
         have BK226 := n4_
         have BK230 := n5_
         have HB := n6_
         clear n0_ n1_ n2_ n3_ n4_ n5_ n6_
         (try clear hb)
         (try clear hb2)
         (try clear hk)
         (try clear hi)
         refine hK.out _ _ ⟨(bC BK212.out 0).trans rfl, (bC BK212.out 1).trans rfl, (bC BK213.out 0).trans rfl, (bC BK213.out 1).trans rfl⟩ (fun hHeld => ?_)
         clear hK K
         refine norm_ (a' := ?_) ?_ ?_
         rotate_left
         ·
          show Act.put _ (some 101) _ = _
          simp only [Act.put, List.setIfInBounds_toArray, List.set_cons_zero, List.set_cons_succ, i64_w, i32_w]
          rfl
         refine pure_ (i := 14) (N := some 102) (v := ?_) (a' := ?_) #[true, true, true, true, true, true, true, true, true, true, true, true, true, true, true, false, false, false, false, false, false, false, false, false, false, false] rfl rfl (any_of HT_.out (by kernel_rfl)) (fun _ _ _ h => h) (Or.inl ⟨by rfl, ?_⟩) ?_ ?_
         rotate_left
         ·
          intro w'
          go_simp
          with_reducible rfl
         rotate_left
         ·
          simp only [Act.put, List.setIfInBounds_toArray, List.set_cons_zero, List.set_cons_succ, i64_w, i32_w]
          rfl
         refine pure_ (i := 15) (N := some 103) (v := ?_) (a' := ?_) #[true, true, true, true, true, true, true, true, true, true, true, true, true, true, true, true, false, false, false, false, false, false, false, false, false, false] rfl rfl (any_of HT_.out (by kernel_rfl)) (fun _ _ _ h => h) (Or.inl ⟨by rfl, ?_⟩) ?_ ?_
         rotate_left
         ·
          intro w'
          go_simp
          with_reducible rfl
         rotate_left
         ·
          simp only [Act.put, List.setIfInBounds_toArray, List.set_cons_zero, List.set_cons_succ, i64_w, i32_w]
          rfl
         refine pure_ (i := 16) (N := some 104) (v := ?_) (a' := ?_) #[true, true, true, true, true, true, true, true, true, true, true, true, true, true, true, true, true, false, false, false, false, false, false, false, false, false] rfl rfl (any_of HT_.out (by kernel_rfl)) (fun _ _ _ h => h) (Or.inl ⟨by rfl, ?_⟩) ?_ ?_
         rotate_left
         ·
          intro w'
          go_simp
          with_reducible rfl
         rotate_left
         ·
          simp only [Act.put, List.setIfInBounds_toArray, List.set_cons_zero, List.set_cons_succ, i64_w, i32_w]
          rfl
         refine take_ (i := 17) (N := some 105) (v := ?_) (a' := ?_) #[true, true, true, true, true, true, true, true, true, true, true, true, true, true, true, true, true, true, false, false, false, false, false, false, false, false] rfl rfl (take_ofW HT_.out HW_.out (by kernel_rfl)) (fun _ _ _ h => h) (Or.inl ⟨by rfl, ?_⟩) hHeld ?_ ?_
         rotate_left
         ·
          rintro w' ⟨s0, s1, s2, s3⟩
          go_simp
          with_reducible rfl
         rotate_left
         ·
          simp only [Act.put, List.setIfInBounds_toArray, List.set_cons_zero, List.set_cons_succ, i64_w, i32_w]
          rfl
         refine take_ (i := 18) (N := some 106) (v := ?_) (a' := ?_) #[true, true, true, true, true, true, true, true, true, true, true, true, true, true, true, true, true, true, true, false, false, false, false, false, false, false] rfl rfl (take_ofW HT_.out HW_.out (by kernel_rfl)) (fun _ _ _ h => h) (Or.inl ⟨by rfl, ?_⟩) hHeld ?_ ?_
         rotate_left
         ·
          rintro w' ⟨s0, s1, s2, s3⟩
          go_simp
          with_reducible rfl
         rotate_left
         ·
          simp only [Act.put, List.setIfInBounds_toArray, List.set_cons_zero, List.set_cons_succ, i64_w, i32_w]
          rfl
         refine take_ (i := 20) (N := some 108) (v := ?_) (a' := ?_) #[true, true, true, true, true, true, true, true, true, true, true, true, true, true, true, true, true, true, true, false, true, false, false, false, false, false] rfl rfl (take_ofW HT_.out HW_.out (by kernel_rfl)) (fun _ _ _ h => h) (Or.inl ⟨by rfl, ?_⟩) hHeld ?_ ?_
         rotate_left
         ·
          rintro w' ⟨s0, s1, s2, s3⟩
          go_simp
          with_reducible rfl
         rotate_left
         ·
          simp only [Act.put, List.setIfInBounds_toArray, List.set_cons_zero, List.set_cons_succ, i64_w, i32_w]
          rfl
         refine take_ (i := 21) (N := some 109) (v := ?_) (a' := ?_) #[true, true, true, true, true, true, true, true, true, true, true, true, true, true, true, true, true, true, true, false, true, true, false, false, false, false] rfl rfl (take_ofW HT_.out HW_.out (by kernel_rfl)) (fun _ _ _ h => h) (Or.inl ⟨by rfl, ?_⟩) hHeld ?_ ?_
         rotate_left
         ·
          rintro w' ⟨s0, s1, s2, s3⟩
          go_simp
          with_reducible rfl
         rotate_left
         ·
          simp only [Act.put, List.setIfInBounds_toArray, List.set_cons_zero, List.set_cons_succ, i64_w, i32_w]
          rfl
         refine one_ (i := 19) (N := some 107) #[true, true, true, true, true, true, true, true, true, true, true, true, true, true, true, true, true, true, true, true, true, true, false, false, false, false] rfl rfl (one_of HT_.out (by kernel_rfl)) (by decide) (fun K hK => ?_)
         refine goes_ Try.func23 (by kernel_rfl) rfl #[.agg #[.int .i64 a0_0, .int .i64 a0_1], .agg #[.int .i64 a1_0, .int .i64 a1_1]] (by rfl) rfl rfl (by (try simp only [List.map_toArray, List.map_cons, List.map_nil]); first | done | rfl | (simp only [List.length_drop, List.length_take]; rfl)) ?_
         with_reducible refine (span_Join.calls a0_0 a0_1 a1_0 a1_1 t247 t248 _ A141.out).mono ?_
         rintro e w148 ⟨rfl, hb⟩
         refine ⟨_, rfl, ?_⟩
         have n0_ := Aside0.mk (bB (g := gb212) (o := .cells #[.int .i64 a0_0, .int .i64 a0_1] 23 (0, 0)) (by (with_reducible repeat (first | refine bN ?_ _ | refine bD ?_ | refine bA ?_ _)); exact BK212.out) hb)
         have n1_ := Aside0.mk (bB (g := gb213) (o := .cells #[.int .i64 a1_0, .int .i64 a1_1] 23 (0, 0)) (by (with_reducible repeat (first | refine bN ?_ _ | refine bD ?_ | refine bA ?_ _)); exact BK213.out) hb)
         have n2_ := Aside0.mk (bB (g := gb218) (o := .cells #[.int .i64 t215, .int .i64 t216] 23 (0, 0)) (by (with_reducible repeat (first | refine bN ?_ _ | refine bD ?_ | refine bA ?_ _)); exact BK218.out) hb)
         have n3_ := Aside0.mk (bB (g := gb222) (o := .cells #[.int .i64 t219, .int .i64 t220] 23 (0, 0)) (by (with_reducible repeat (first | refine bN ?_ _ | refine bD ?_ | refine bA ?_ _)); exact BK222.out) hb)
         have n4_ := Aside0.mk (bB (g := gb226) (o := .cells #[.int .i64 t223, .int .i64 t224] 23 (0, 0)) (by (with_reducible repeat (first | refine bN ?_ _ | refine bD ?_ | refine bA ?_ _)); exact BK226.out) hb)
         have n5_ := Aside0.mk (bB (g := gb230) (o := .cells #[.int .i64 t227, .int .i64 t228] 23 (0, 0)) (by (with_reducible repeat (first | refine bN ?_ _ | refine bD ?_ | refine bA ?_ _)); exact BK230.out) hb)
         have n6_ := Aside0.mk (bP (by repeat (first | (with_reducible first | exact HB.out | apply bL | apply bW | apply b1 | refine bS ?_ GE212.out | refine bS ?_ GE213.out | refine bS ?_ GE218.out | refine bS ?_ GE222.out | refine bS ?_ GE226.out | refine bS ?_ GE230.out) | exact HB.out)) hb)
         clear BK212
         clear BK213
         clear BK218
         clear BK222
         clear BK226
         clear BK230
         clear HB
         have BK212 := n0_
         have BK213 := n1_
         have BK218 := n2_
         have BK222 := n3_
         have BK226 := n4_
         have BK230 := n5_
         have HB := n6_
         clear n0_ n1_ n2_ n3_ n4_ n5_ n6_
         (try clear hb)
         (try clear hb2)
         (try clear hk)
         (try clear hi)
         refine hK.out _ _ ⟨(bC BK212.out 0).trans rfl, (bC BK212.out 1).trans rfl, (bC BK213.out 0).trans rfl, (bC BK213.out 1).trans rfl⟩ (fun hHeld => ?_)
         clear hK K
         refine norm_ (a' := ?_) ?_ ?_
         rotate_left
         ·
          show Act.put _ (some 107) _ = _
          simp only [Act.put, List.setIfInBounds_toArray, List.set_cons_zero, List.set_cons_succ, i64_w, i32_w]
          rfl
         refine one_ (i := 22) (N := some 110) #[true, true, true, true, true, true, true, true, true, true, true, true, true, true, true, true, true, true, true, true, true, true, true, false, false, false] rfl rfl (one_of HT_.out (by kernel_rfl)) (by decide) (fun K hK => ?_)
         refine goes_ Try.func24 (by kernel_rfl) rfl #[.agg #[.int .i64 a0_0, .int .i64 a0_1], .agg #[.int .i64 a1_0, .int .i64 a1_1]] (by rfl) rfl rfl (by (try simp only [List.map_toArray, List.map_cons, List.map_nil]); first | done | rfl | (simp only [List.length_drop, List.length_take]; rfl)) ?_
         with_reducible refine (bourneref09_Join.calls kj109 a0_0 a0_1 a1_0 a1_1 t249 t250 _ A142.out).mono ?_
         rintro e w149 ⟨rfl, hb⟩
         refine ⟨_, rfl, ?_⟩
         have n0_ := Aside0.mk (bB (g := gb212) (o := .cells #[.int .i64 a0_0, .int .i64 a0_1] 23 (0, 0)) (by (with_reducible repeat (first | refine bN ?_ _ | refine bD ?_ | refine bA ?_ _)); exact BK212.out) hb)
         have n1_ := Aside0.mk (bB (g := gb213) (o := .cells #[.int .i64 a1_0, .int .i64 a1_1] 23 (0, 0)) (by (with_reducible repeat (first | refine bN ?_ _ | refine bD ?_ | refine bA ?_ _)); exact BK213.out) hb)
         have n2_ := Aside0.mk (bB (g := gb218) (o := .cells #[.int .i64 t215, .int .i64 t216] 23 (0, 0)) (by (with_reducible repeat (first | refine bN ?_ _ | refine bD ?_ | refine bA ?_ _)); exact BK218.out) hb)
         have n3_ := Aside0.mk (bB (g := gb222) (o := .cells #[.int .i64 t219, .int .i64 t220] 23 (0, 0)) (by (with_reducible repeat (first | refine bN ?_ _ | refine bD ?_ | refine bA ?_ _)); exact BK222.out) hb)
         have n4_ := Aside0.mk (bB (g := gb226) (o := .cells #[.int .i64 t223, .int .i64 t224] 23 (0, 0)) (by (with_reducible repeat (first | refine bN ?_ _ | refine bD ?_ | refine bA ?_ _)); exact BK226.out) hb)
         have n5_ := Aside0.mk (bB (g := gb230) (o := .cells #[.int .i64 t227, .int .i64 t228] 23 (0, 0)) (by (with_reducible repeat (first | refine bN ?_ _ | refine bD ?_ | refine bA ?_ _)); exact BK230.out) hb)
         have n6_ := Aside0.mk (bP (by repeat (first | (with_reducible first | exact HB.out | apply bL | apply bW | apply b1 | refine bS ?_ GE212.out | refine bS ?_ GE213.out | refine bS ?_ GE218.out | refine bS ?_ GE222.out | refine bS ?_ GE226.out | refine bS ?_ GE230.out) | exact HB.out)) hb)
         clear BK212
         clear BK213
         clear BK218
         clear BK222
         clear BK226
         clear BK230
         clear HB
         have BK212 := n0_
         have BK213 := n1_
         have BK218 := n2_
         have BK222 := n3_
         have BK226 := n4_
         have BK230 := n5_
         have HB := n6_
         clear n0_ n1_ n2_ n3_ n4_ n5_ n6_
         (try clear hb)
         (try clear hb2)
         (try clear hk)
         (try clear hi)
         refine hK.out _ _ ⟨(bC BK212.out 0).trans rfl, (bC BK212.out 1).trans rfl, (bC BK213.out 0).trans rfl, (bC BK213.out 1).trans rfl⟩ (fun hHeld => ?_)
         clear hK K
         refine norm_ (a' := ?_) ?_ ?_
         rotate_left
         ·
          show Act.put _ (some 110) _ = _
          simp only [Act.put, List.setIfInBounds_toArray, List.set_cons_zero, List.set_cons_succ, i64_w, i32_w]
          rfl
         refine pure_ (i := 23) (N := some 111) (v := ?_) (a' := ?_) #[true, true, true, true, true, true, true, true, true, true, true, true, true, true, true, true, true, true, true, true, true, true, true, true, false, false] rfl rfl (any_of HT_.out (by kernel_rfl)) (fun _ _ _ h => h) (Or.inl ⟨by rfl, ?_⟩) ?_ ?_
         rotate_left
         ·
          intro w'
          go_simp
          with_reducible rfl
         rotate_left
         ·
          simp only [Act.put, List.setIfInBounds_toArray, List.set_cons_zero, List.set_cons_succ, i64_w, i32_w]
          rfl
         refine pure_ (i := 24) (N := some 112) (v := ?_) (a' := ?_) #[true, true, true, true, true, true, true, true, true, true, true, true, true, true, true, true, true, true, true, true, true, true, true, true, true, false] rfl rfl (any_of HT_.out (by kernel_rfl)) (fun _ _ _ h => h) (Or.inl ⟨by rfl, ?_⟩) ?_ ?_
         rotate_left
         ·
          intro w'
          go_simp
          with_reducible rfl
         rotate_left
         ·
          simp only [Act.put, List.setIfInBounds_toArray, List.set_cons_zero, List.set_cons_succ, i64_w, i32_w]
          rfl
         refine pure_ (i := 25) (N := some 21) (v := ?_) (a' := ?_) #[true, true, true, true, true, true, true, true, true, true, true, true, true, true, true, true, true, true, true, true, true, true, true, true, true, true] rfl rfl (any_of HT_.out (by kernel_rfl)) (fun _ _ _ h => h) (Or.inl ⟨by rfl, ?_⟩) ?_ ?_
         rotate_left
         ·
          intro w'
          go_simp
          with_reducible rfl
         rotate_left
         ·
          simp only [Act.put, List.setIfInBounds_toArray, List.set_cons_zero, List.set_cons_succ, i64_w, i32_w]
          rfl
         refine done_ (done_of HT_.out (by kernel_rfl)) ?_
         try go_wp2
         go_meet
         case rel => exact ⟨_, ((t247 == t249 && (t248 == t250))), (by first | rfl | (simp; done) | (simp [*]; done)), H', ⟨by have := HJ10.out; have := HJ109.out; first | omega | exact Nat.le_refl _⟩, ⟨by (with_reducible repeat (first | refine bN ?_ _ | refine bD ?_ | refine bA ?_ _)); exact BK212.out⟩, ⟨by (with_reducible repeat (first | refine bN ?_ _ | refine bD ?_ | refine bA ?_ _)); exact BK213.out⟩, ⟨by (with_reducible repeat (first | refine bN ?_ _ | refine bD ?_ | refine bA ?_ _)); exact BK218.out⟩, ⟨by (with_reducible repeat (first | refine bN ?_ _ | refine bD ?_ | refine bA ?_ _)); exact BK222.out⟩, ⟨by (with_reducible repeat (first | refine bN ?_ _ | refine bD ?_ | refine bA ?_ _)); exact BK226.out⟩, ⟨by (with_reducible repeat (first | refine bN ?_ _ | refine bD ?_ | refine bA ?_ _)); exact BK230.out⟩, ⟨by repeat (first | (with_reducible first | exact HB.out | apply bL | apply bW | apply b1 | refine bS ?_ GE212.out | refine bS ?_ GE213.out | refine bS ?_ GE218.out | refine bS ?_ GE222.out | refine bS ?_ GE226.out | refine bS ?_ GE230.out) | exact HB.out)⟩⟩
        ·
         rw [if_neg c140] at H
         have c140b0 : (t243 == t245 && (t244 == t246)) = false := by simpa using c140
         (try (have c140b1 : decide (t243 = t245 && (t244 == t246)) = false := by simpa using c140))
         (try (have c140b2 : (t243 == t245 && (t244 == t246)) = false := by simpa using c140))
         (try (have c140b3 : ¬ (t243 = t245 && (t244 == t246)) := by simpa using c140))
         clear c140
         have H' := Aside0.mk H
         clear H
         try go_wp2
         have n0_ := Aside0.mk (bD BK212.out)
         have n1_ := Aside0.mk (bD BK213.out)
         have n2_ := Aside0.mk (bD BK218.out)
         have n3_ := Aside0.mk (bD BK222.out)
         have n4_ := Aside0.mk (bD BK226.out)
         have n5_ := Aside0.mk (bD BK230.out)
         have n6_ := Aside0.mk (b1 HB.out)
         clear BK212
         clear BK213
         clear BK218
         clear BK222
         clear BK226
         clear BK230
         clear HB
         have BK212 := n0_
         have BK213 := n1_
         have BK218 := n2_
         have BK222 := n3_
         have BK226 := n4_
         have BK230 := n5_
         have HB := n6_
         clear n0_ n1_ n2_ n3_ n4_ n5_ n6_
         refine start_ (n := 26) (S := fun w' => w'.cell? ⟨gb212, 0, none⟩ = some (.int .i64 a0_0) ∧ w'.cell? ⟨gb212, 1, none⟩ = some (.int .i64 a0_1) ∧ w'.cell? ⟨gb213, 0, none⟩ = some (.int .i64 a1_0) ∧ w'.cell? ⟨gb213, 1, none⟩ = some (.int .i64 a1_1)) (ds := []) #[false, false, false, false, false, false, false, false, false, false, false, false, false, false, false, false, false, false, false, false, false, false, false, false, false, false] (by kernel_rfl) rfl rfl ⟨(bC BK212.out 0).trans rfl, (bC BK212.out 1).trans rfl, (bC BK213.out 0).trans rfl, (bC BK213.out 1).trans rfl⟩ (fun hHeld => ?_); refine with_tabW bournelaw09_SpanTells.tab9 bournelaw09_SpanTells.bits9 (fun HT_ HW_ => ?_)
         generalize wc.drew = w150 at BK212 BK213 BK218 BK222 BK226 BK230 HB hHeld ⊢
         refine take_ (i := 0) (N := some 88) (v := ?_) (a' := ?_) #[true, false, false, false, false, false, false, false, false, false, false, false, false, false, false, false, false, false, false, false, false, false, false, false, false, false] rfl rfl (take_ofW HT_.out HW_.out (by kernel_rfl)) (fun _ _ _ h => h) (Or.inl ⟨by rfl, ?_⟩) hHeld ?_ ?_
         rotate_left
         ·
          rintro w' ⟨s0, s1, s2, s3⟩
          go_simp
          with_reducible rfl
         rotate_left
         ·
          simp only [Act.put, List.setIfInBounds_toArray, List.set_cons_zero, List.set_cons_succ, i64_w, i32_w]
          rfl
         refine take_ (i := 1) (N := some 89) (v := ?_) (a' := ?_) #[true, true, false, false, false, false, false, false, false, false, false, false, false, false, false, false, false, false, false, false, false, false, false, false, false, false] rfl rfl (take_ofW HT_.out HW_.out (by kernel_rfl)) (fun _ _ _ h => h) (Or.inl ⟨by rfl, ?_⟩) hHeld ?_ ?_
         rotate_left
         ·
          rintro w' ⟨s0, s1, s2, s3⟩
          go_simp
          with_reducible rfl
         rotate_left
         ·
          simp only [Act.put, List.setIfInBounds_toArray, List.set_cons_zero, List.set_cons_succ, i64_w, i32_w]
          rfl
         refine take_ (i := 3) (N := some 91) (v := ?_) (a' := ?_) #[true, true, false, true, false, false, false, false, false, false, false, false, false, false, false, false, false, false, false, false, false, false, false, false, false, false] rfl rfl (take_ofW HT_.out HW_.out (by kernel_rfl)) (fun _ _ _ h => h) (Or.inl ⟨by rfl, ?_⟩) hHeld ?_ ?_
         rotate_left
         ·
          rintro w' ⟨s0, s1, s2, s3⟩
          go_simp
          with_reducible rfl
         rotate_left
         ·
          simp only [Act.put, List.setIfInBounds_toArray, List.set_cons_zero, List.set_cons_succ, i64_w, i32_w]
          rfl
         refine take_ (i := 4) (N := some 92) (v := ?_) (a' := ?_) #[true, true, false, true, true, false, false, false, false, false, false, false, false, false, false, false, false, false, false, false, false, false, false, false, false, false] rfl rfl (take_ofW HT_.out HW_.out (by kernel_rfl)) (fun _ _ _ h => h) (Or.inl ⟨by rfl, ?_⟩) hHeld ?_ ?_
         rotate_left
         ·
          rintro w' ⟨s0, s1, s2, s3⟩
          go_simp
          with_reducible rfl
         rotate_left
         ·
          simp only [Act.put, List.setIfInBounds_toArray, List.set_cons_zero, List.set_cons_succ, i64_w, i32_w]
          rfl
         refine one_ (i := 2) (N := some 90) #[true, true, true, true, true, false, false, false, false, false, false, false, false, false, false, false, false, false, false, false, false, false, false, false, false, false] rfl rfl (one_of HT_.out (by kernel_rfl)) (by decide) (fun K hK => ?_)
         refine goes_ Try.func19 (by kernel_rfl) rfl #[.agg #[.int .i64 a0_0, .int .i64 a0_1], .agg #[.int .i64 a1_0, .int .i64 a1_1]] (by rfl) rfl rfl (by (try simp only [List.map_toArray, List.map_cons, List.map_nil]); first | done | rfl | (simp only [List.length_drop, List.length_take]; rfl)) ?_
         with_reducible refine (span_Add.calls a0_0 a0_1 a1_0 a1_1 t239 t240 _ A135.out).mono ?_
         rintro e w151 ⟨rfl, hb⟩
         refine ⟨_, rfl, ?_⟩
         have n0_ := Aside0.mk (bB (g := gb212) (o := .cells #[.int .i64 a0_0, .int .i64 a0_1] 23 (0, 0)) (by (with_reducible repeat (first | refine bN ?_ _ | refine bD ?_ | refine bA ?_ _)); exact BK212.out) hb)
         have n1_ := Aside0.mk (bB (g := gb213) (o := .cells #[.int .i64 a1_0, .int .i64 a1_1] 23 (0, 0)) (by (with_reducible repeat (first | refine bN ?_ _ | refine bD ?_ | refine bA ?_ _)); exact BK213.out) hb)
         have n2_ := Aside0.mk (bB (g := gb218) (o := .cells #[.int .i64 t215, .int .i64 t216] 23 (0, 0)) (by (with_reducible repeat (first | refine bN ?_ _ | refine bD ?_ | refine bA ?_ _)); exact BK218.out) hb)
         have n3_ := Aside0.mk (bB (g := gb222) (o := .cells #[.int .i64 t219, .int .i64 t220] 23 (0, 0)) (by (with_reducible repeat (first | refine bN ?_ _ | refine bD ?_ | refine bA ?_ _)); exact BK222.out) hb)
         have n4_ := Aside0.mk (bB (g := gb226) (o := .cells #[.int .i64 t223, .int .i64 t224] 23 (0, 0)) (by (with_reducible repeat (first | refine bN ?_ _ | refine bD ?_ | refine bA ?_ _)); exact BK226.out) hb)
         have n5_ := Aside0.mk (bB (g := gb230) (o := .cells #[.int .i64 t227, .int .i64 t228] 23 (0, 0)) (by (with_reducible repeat (first | refine bN ?_ _ | refine bD ?_ | refine bA ?_ _)); exact BK230.out) hb)
         have n6_ := Aside0.mk (bP (by repeat (first | (with_reducible first | exact HB.out | apply bL | apply bW | apply b1 | refine bS ?_ GE212.out | refine bS ?_ GE213.out | refine bS ?_ GE218.out | refine bS ?_ GE222.out | refine bS ?_ GE226.out | refine bS ?_ GE230.out) | exact HB.out)) hb)
         clear BK212
         clear BK213
         clear BK218
         clear BK222
         clear BK226
         clear BK230
         clear HB
         have BK212 := n0_
         have BK213 := n1_
         have BK218 := n2_
         have BK222 := n3_
         have BK226 := n4_
         have BK230 := n5_
         have HB := n6_
         clear n0_ n1_ n2_ n3_ n4_ n5_ n6_
         (try clear hb)
         (try clear hb2)
         (try clear hk)
         (try clear hi)
         refine hK.out _ _ ⟨(bC BK212.out 0).trans rfl, (bC BK212.out 1).trans rfl, (bC BK213.out 0).trans rfl, (bC BK213.out 1).trans rfl⟩ (fun hHeld => ?_)
         clear hK K
         refine norm_ (a' := ?_) ?_ ?_
         rotate_left
         ·
          show Act.put _ (some 90) _ = _
          simp only [Act.put, List.setIfInBounds_toArray, List.set_cons_zero, List.set_cons_succ, i64_w, i32_w]
          rfl
         refine one_ (i := 5) (N := some 93) #[true, true, true, true, true, true, false, false, false, false, false, false, false, false, false, false, false, false, false, false, false, false, false, false, false, false] rfl rfl (one_of HT_.out (by kernel_rfl)) (by decide) (fun K hK => ?_)
         refine goes_ Try.func20 (by kernel_rfl) rfl #[.agg #[.int .i64 a0_0, .int .i64 a0_1], .agg #[.int .i64 a1_0, .int .i64 a1_1]] (by rfl) rfl rfl (by (try simp only [List.map_toArray, List.map_cons, List.map_nil]); first | done | rfl | (simp only [List.length_drop, List.length_take]; rfl)) ?_
         with_reducible refine (bourneref09_Add.calls kj109 a0_0 a0_1 a1_0 a1_1 t241 t242 _ A136.out).mono ?_
         rintro e w152 ⟨rfl, hb⟩
         refine ⟨_, rfl, ?_⟩
         have n0_ := Aside0.mk (bB (g := gb212) (o := .cells #[.int .i64 a0_0, .int .i64 a0_1] 23 (0, 0)) (by (with_reducible repeat (first | refine bN ?_ _ | refine bD ?_ | refine bA ?_ _)); exact BK212.out) hb)
         have n1_ := Aside0.mk (bB (g := gb213) (o := .cells #[.int .i64 a1_0, .int .i64 a1_1] 23 (0, 0)) (by (with_reducible repeat (first | refine bN ?_ _ | refine bD ?_ | refine bA ?_ _)); exact BK213.out) hb)
         have n2_ := Aside0.mk (bB (g := gb218) (o := .cells #[.int .i64 t215, .int .i64 t216] 23 (0, 0)) (by (with_reducible repeat (first | refine bN ?_ _ | refine bD ?_ | refine bA ?_ _)); exact BK218.out) hb)
         have n3_ := Aside0.mk (bB (g := gb222) (o := .cells #[.int .i64 t219, .int .i64 t220] 23 (0, 0)) (by (with_reducible repeat (first | refine bN ?_ _ | refine bD ?_ | refine bA ?_ _)); exact BK222.out) hb)
         have n4_ := Aside0.mk (bB (g := gb226) (o := .cells #[.int .i64 t223, .int .i64 t224] 23 (0, 0)) (by (with_reducible repeat (first | refine bN ?_ _ | refine bD ?_ | refine bA ?_ _)); exact BK226.out) hb)
         have n5_ := Aside0.mk (bB (g := gb230) (o := .cells #[.int .i64 t227, .int .i64 t228] 23 (0, 0)) (by (with_reducible repeat (first | refine bN ?_ _ | refine bD ?_ | refine bA ?_ _)); exact BK230.out) hb)
         have n6_ := Aside0.mk (bP (by repeat (first | (with_reducible first | exact HB.out | apply bL | apply bW | apply b1 | refine bS ?_ GE212.out | refine bS ?_ GE213.out | refine bS ?_ GE218.out | refine bS ?_ GE222.out | refine bS ?_ GE226.out | refine bS ?_ GE230.out) | exact HB.out)) hb)
         clear BK212
         clear BK213
         clear BK218
         clear BK222
         clear BK226
         clear BK230
         clear HB
         have BK212 := n0_
         have BK213 := n1_
         have BK218 := n2_
         have BK222 := n3_
         have BK226 := n4_
         have BK230 := n5_
         have HB := n6_
         clear n0_ n1_ n2_ n3_ n4_ n5_ n6_
         (try clear hb)
         (try clear hb2)
         (try clear hk)
         (try clear hi)
         refine hK.out _ _ ⟨(bC BK212.out 0).trans rfl, (bC BK212.out 1).trans rfl, (bC BK213.out 0).trans rfl, (bC BK213.out 1).trans rfl⟩ (fun hHeld => ?_)
         clear hK K
         refine norm_ (a' := ?_) ?_ ?_
         rotate_left
         ·
          show Act.put _ (some 93) _ = _
          simp only [Act.put, List.setIfInBounds_toArray, List.set_cons_zero, List.set_cons_succ, i64_w, i32_w]
          rfl
         refine pure_ (i := 6) (N := some 94) (v := ?_) (a' := ?_) #[true, true, true, true, true, true, true, false, false, false, false, false, false, false, false, false, false, false, false, false, false, false, false, false, false, false] rfl rfl (any_of HT_.out (by kernel_rfl)) (fun _ _ _ h => h) (Or.inl ⟨by rfl, ?_⟩) ?_ ?_
         rotate_left
         ·
          intro w'
          go_simp
          with_reducible rfl
         rotate_left
         ·
          simp only [Act.put, List.setIfInBounds_toArray, List.set_cons_zero, List.set_cons_succ, i64_w, i32_w]
          rfl
         refine pure_ (i := 7) (N := some 95) (v := ?_) (a' := ?_) #[true, true, true, true, true, true, true, true, false, false, false, false, false, false, false, false, false, false, false, false, false, false, false, false, false, false] rfl rfl (any_of HT_.out (by kernel_rfl)) (fun _ _ _ h => h) (Or.inl ⟨by rfl, ?_⟩) ?_ ?_
         rotate_left
         ·
          intro w'
          go_simp
          with_reducible rfl
         rotate_left
         ·
          simp only [Act.put, List.setIfInBounds_toArray, List.set_cons_zero, List.set_cons_succ, i64_w, i32_w]
          rfl
         refine take_ (i := 8) (N := some 96) (v := ?_) (a' := ?_) #[true, true, true, true, true, true, true, true, true, false, false, false, false, false, false, false, false, false, false, false, false, false, false, false, false, false] rfl rfl (take_ofW HT_.out HW_.out (by kernel_rfl)) (fun _ _ _ h => h) (Or.inl ⟨by rfl, ?_⟩) hHeld ?_ ?_
         rotate_left
         ·
          rintro w' ⟨s0, s1, s2, s3⟩
          go_simp
          with_reducible rfl
         rotate_left
         ·
          simp only [Act.put, List.setIfInBounds_toArray, List.set_cons_zero, List.set_cons_succ, i64_w, i32_w]
          rfl
         refine take_ (i := 9) (N := some 97) (v := ?_) (a' := ?_) #[true, true, true, true, true, true, true, true, true, true, false, false, false, false, false, false, false, false, false, false, false, false, false, false, false, false] rfl rfl (take_ofW HT_.out HW_.out (by kernel_rfl)) (fun _ _ _ h => h) (Or.inl ⟨by rfl, ?_⟩) hHeld ?_ ?_
         rotate_left
         ·
          rintro w' ⟨s0, s1, s2, s3⟩
          go_simp
          with_reducible rfl
         rotate_left
         ·
          simp only [Act.put, List.setIfInBounds_toArray, List.set_cons_zero, List.set_cons_succ, i64_w, i32_w]
          rfl
         refine take_ (i := 11) (N := some 99) (v := ?_) (a' := ?_) #[true, true, true, true, true, true, true, true, true, true, false, true, false, false, false, false, false, false, false, false, false, false, false, false, false, false] rfl rfl (take_ofW HT_.out HW_.out (by kernel_rfl)) (fun _ _ _ h => h) (Or.inl ⟨by rfl, ?_⟩) hHeld ?_ ?_
         rotate_left
         ·
          rintro w' ⟨s0, s1, s2, s3⟩
          go_simp
          with_reducible rfl
         rotate_left
         ·
          simp only [Act.put, List.setIfInBounds_toArray, List.set_cons_zero, List.set_cons_succ, i64_w, i32_w]
          rfl
         refine take_ (i := 12) (N := some 100) (v := ?_) (a' := ?_) #[true, true, true, true, true, true, true, true, true, true, false, true, true, false, false, false, false, false, false, false, false, false, false, false, false, false] rfl rfl (take_ofW HT_.out HW_.out (by kernel_rfl)) (fun _ _ _ h => h) (Or.inl ⟨by rfl, ?_⟩) hHeld ?_ ?_
         rotate_left
         ·
          rintro w' ⟨s0, s1, s2, s3⟩
          go_simp
          with_reducible rfl
         rotate_left
         ·
          simp only [Act.put, List.setIfInBounds_toArray, List.set_cons_zero, List.set_cons_succ, i64_w, i32_w]
          rfl
         refine one_ (i := 10) (N := some 98) #[true, true, true, true, true, true, true, true, true, true, true, true, true, false, false, false, false, false, false, false, false, false, false, false, false, false] rfl rfl (one_of HT_.out (by kernel_rfl)) (by decide) (fun K hK => ?_)
         refine goes_ Try.func21 (by kernel_rfl) rfl #[.agg #[.int .i64 a0_0, .int .i64 a0_1], .agg #[.int .i64 a1_0, .int .i64 a1_1]] (by rfl) rfl rfl (by (try simp only [List.map_toArray, List.map_cons, List.map_nil]); first | done | rfl | (simp only [List.length_drop, List.length_take]; rfl)) ?_
         with_reducible refine (span_Sub.calls a0_0 a0_1 a1_0 a1_1 t243 t244 _ A138.out).mono ?_
         rintro e w153 ⟨rfl, hb⟩
         refine ⟨_, rfl, ?_⟩
         have n0_ := Aside0.mk (bB (g := gb212) (o := .cells #[.int .i64 a0_0, .int .i64 a0_1] 23 (0, 0)) (by (with_reducible repeat (first | refine bN ?_ _ | refine bD ?_ | refine bA ?_ _)); exact BK212.out) hb)
         have n1_ := Aside0.mk (bB (g := gb213) (o := .cells #[.int .i64 a1_0, .int .i64 a1_1] 23 (0, 0)) (by (with_reducible repeat (first | refine bN ?_ _ | refine bD ?_ | refine bA ?_ _)); exact BK213.out) hb)
         have n2_ := Aside0.mk (bB (g := gb218) (o := .cells #[.int .i64 t215, .int .i64 t216] 23 (0, 0)) (by (with_reducible repeat (first | refine bN ?_ _ | refine bD ?_ | refine bA ?_ _)); exact BK218.out) hb)
         have n3_ := Aside0.mk (bB (g := gb222) (o := .cells #[.int .i64 t219, .int .i64 t220] 23 (0, 0)) (by (with_reducible repeat (first | refine bN ?_ _ | refine bD ?_ | refine bA ?_ _)); exact BK222.out) hb)
         have n4_ := Aside0.mk (bB (g := gb226) (o := .cells #[.int .i64 t223, .int .i64 t224] 23 (0, 0)) (by (with_reducible repeat (first | refine bN ?_ _ | refine bD ?_ | refine bA ?_ _)); exact BK226.out) hb)
         have n5_ := Aside0.mk (bB (g := gb230) (o := .cells #[.int .i64 t227, .int .i64 t228] 23 (0, 0)) (by (with_reducible repeat (first | refine bN ?_ _ | refine bD ?_ | refine bA ?_ _)); exact BK230.out) hb)
         have n6_ := Aside0.mk (bP (by repeat (first | (with_reducible first | exact HB.out | apply bL | apply bW | apply b1 | refine bS ?_ GE212.out | refine bS ?_ GE213.out | refine bS ?_ GE218.out | refine bS ?_ GE222.out | refine bS ?_ GE226.out | refine bS ?_ GE230.out) | exact HB.out)) hb)
         clear BK212
         clear BK213
         clear BK218
         clear BK222
         clear BK226
         clear BK230
         clear HB
         have BK212 := n0_
         have BK213 := n1_
         have BK218 := n2_
         have BK222 := n3_
         have BK226 := n4_
         have BK230 := n5_
         have HB := n6_
         clear n0_ n1_ n2_ n3_ n4_ n5_ n6_
         (try clear hb)
         (try clear hb2)
         (try clear hk)
         (try clear hi)
         refine hK.out _ _ ⟨(bC BK212.out 0).trans rfl, (bC BK212.out 1).trans rfl, (bC BK213.out 0).trans rfl, (bC BK213.out 1).trans rfl⟩ (fun hHeld => ?_)
         clear hK K
         refine norm_ (a' := ?_) ?_ ?_
         rotate_left
         ·
          show Act.put _ (some 98) _ = _
          simp only [Act.put, List.setIfInBounds_toArray, List.set_cons_zero, List.set_cons_succ, i64_w, i32_w]
          rfl
         refine one_ (i := 13) (N := some 101) #[true, true, true, true, true, true, true, true, true, true, true, true, true, true, false, false, false, false, false, false, false, false, false, false, false, false] rfl rfl (one_of HT_.out (by kernel_rfl)) (by decide) (fun K hK => ?_)
         refine goes_ Try.func22 (by kernel_rfl) rfl #[.agg #[.int .i64 a0_0, .int .i64 a0_1], .agg #[.int .i64 a1_0, .int .i64 a1_1]] (by rfl) rfl rfl (by (try simp only [List.map_toArray, List.map_cons, List.map_nil]); first | done | rfl | (simp only [List.length_drop, List.length_take]; rfl)) ?_
         with_reducible refine (bourneref09_Sub.calls kj109 a0_0 a0_1 a1_0 a1_1 t245 t246 _ A139.out).mono ?_
         rintro e w154 ⟨rfl, hb⟩
         refine ⟨_, rfl, ?_⟩
         have n0_ := Aside0.mk (bB (g := gb212) (o := .cells #[.int .i64 a0_0, .int .i64 a0_1] 23 (0, 0)) (by (with_reducible repeat (first | refine bN ?_ _ | refine bD ?_ | refine bA ?_ _)); exact BK212.out) hb)
         have n1_ := Aside0.mk (bB (g := gb213) (o := .cells #[.int .i64 a1_0, .int .i64 a1_1] 23 (0, 0)) (by (with_reducible repeat (first | refine bN ?_ _ | refine bD ?_ | refine bA ?_ _)); exact BK213.out) hb)
         have n2_ := Aside0.mk (bB (g := gb218) (o := .cells #[.int .i64 t215, .int .i64 t216] 23 (0, 0)) (by (with_reducible repeat (first | refine bN ?_ _ | refine bD ?_ | refine bA ?_ _)); exact BK218.out) hb)
         have n3_ := Aside0.mk (bB (g := gb222) (o := .cells #[.int .i64 t219, .int .i64 t220] 23 (0, 0)) (by (with_reducible repeat (first | refine bN ?_ _ | refine bD ?_ | refine bA ?_ _)); exact BK222.out) hb)
         have n4_ := Aside0.mk (bB (g := gb226) (o := .cells #[.int .i64 t223, .int .i64 t224] 23 (0, 0)) (by (with_reducible repeat (first | refine bN ?_ _ | refine bD ?_ | refine bA ?_ _)); exact BK226.out) hb)
         have n5_ := Aside0.mk (bB (g := gb230) (o := .cells #[.int .i64 t227, .int .i64 t228] 23 (0, 0)) (by (with_reducible repeat (first | refine bN ?_ _ | refine bD ?_ | refine bA ?_ _)); exact BK230.out) hb)
         have n6_ := Aside0.mk (bP (by repeat (first | (with_reducible first | exact HB.out | apply bL | apply bW | apply b1 | refine bS ?_ GE212.out | refine bS ?_ GE213.out | refine bS ?_ GE218.out | refine bS ?_ GE222.out | refine bS ?_ GE226.out | refine bS ?_ GE230.out) | exact HB.out)) hb)
         clear BK212
         clear BK213
         clear BK218
         clear BK222
         clear BK226
         clear BK230
         clear HB
         have BK212 := n0_
         have BK213 := n1_
         have BK218 := n2_
         have BK222 := n3_
         have BK226 := n4_
         have BK230 := n5_
         have HB := n6_
         clear n0_ n1_ n2_ n3_ n4_ n5_ n6_
         (try clear hb)
         (try clear hb2)
         (try clear hk)
         (try clear hi)
         refine hK.out _ _ ⟨(bC BK212.out 0).trans rfl, (bC BK212.out 1).trans rfl, (bC BK213.out 0).trans rfl, (bC BK213.out 1).trans rfl⟩ (fun hHeld => ?_)
         clear hK K
         refine norm_ (a' := ?_) ?_ ?_
         rotate_left
         ·
          show Act.put _ (some 101) _ = _
          simp only [Act.put, List.setIfInBounds_toArray, List.set_cons_zero, List.set_cons_succ, i64_w, i32_w]
          rfl
         refine pure_ (i := 14) (N := some 102) (v := ?_) (a' := ?_) #[true, true, true, true, true, true, true, true, true, true, true, true, true, true, true, false, false, false, false, false, false, false, false, false, false, false] rfl rfl (any_of HT_.out (by kernel_rfl)) (fun _ _ _ h => h) (Or.inl ⟨by rfl, ?_⟩) ?_ ?_
         rotate_left
         ·
          intro w'
          go_simp
          with_reducible rfl
         rotate_left
         ·
          simp only [Act.put, List.setIfInBounds_toArray, List.set_cons_zero, List.set_cons_succ, i64_w, i32_w]
          rfl
         refine pure_ (i := 15) (N := some 103) (v := ?_) (a' := ?_) #[true, true, true, true, true, true, true, true, true, true, true, true, true, true, true, true, false, false, false, false, false, false, false, false, false, false] rfl rfl (any_of HT_.out (by kernel_rfl)) (fun _ _ _ h => h) (Or.inl ⟨by rfl, ?_⟩) ?_ ?_
         rotate_left
         ·
          intro w'
          go_simp
          with_reducible rfl
         rotate_left
         ·
          simp only [Act.put, List.setIfInBounds_toArray, List.set_cons_zero, List.set_cons_succ, i64_w, i32_w]
          rfl
         refine pure_ (i := 16) (N := some 104) (v := ?_) (a' := ?_) #[true, true, true, true, true, true, true, true, true, true, true, true, true, true, true, true, true, false, false, false, false, false, false, false, false, false] rfl rfl (any_of HT_.out (by kernel_rfl)) (fun _ _ _ h => h) (Or.inl ⟨by rfl, ?_⟩) ?_ ?_
         rotate_left
         ·
          intro w'
          go_simp
          with_reducible rfl
         rotate_left
         ·
          simp only [Act.put, List.setIfInBounds_toArray, List.set_cons_zero, List.set_cons_succ, i64_w, i32_w]
          rfl
         refine pure_ (i := 17) (N := some 105) (v := undef) (a' := ?_) #[true, true, true, true, true, true, true, true, true, true, true, true, true, true, true, true, true, true, false, false, false, false, false, false, false, false] rfl rfl (any_of HT_.out (by kernel_rfl)) (fun _ _ _ h => h) (Or.inr ⟨by rfl, rfl⟩) ?_ ?_
         rotate_left
         ·
          simp only [Act.put, List.setIfInBounds_toArray, List.set_cons_zero, List.set_cons_succ, i64_w, i32_w]
          rfl
         refine pure_ (i := 18) (N := some 106) (v := undef) (a' := ?_) #[true, true, true, true, true, true, true, true, true, true, true, true, true, true, true, true, true, true, true, false, false, false, false, false, false, false] rfl rfl (any_of HT_.out (by kernel_rfl)) (fun _ _ _ h => h) (Or.inr ⟨by rfl, rfl⟩) ?_ ?_
         rotate_left
         ·
          simp only [Act.put, List.setIfInBounds_toArray, List.set_cons_zero, List.set_cons_succ, i64_w, i32_w]
          rfl
         refine pure_ (i := 19) (N := some 107) (v := undef) (a' := ?_) #[true, true, true, true, true, true, true, true, true, true, true, true, true, true, true, true, true, true, true, true, false, false, false, false, false, false] rfl rfl (any_of HT_.out (by kernel_rfl)) (fun _ _ _ h => h) (Or.inr ⟨by rfl, rfl⟩) ?_ ?_
         rotate_left
         ·
          simp only [Act.put, List.setIfInBounds_toArray, List.set_cons_zero, List.set_cons_succ, i64_w, i32_w]
          rfl
         refine pure_ (i := 20) (N := some 108) (v := undef) (a' := ?_) #[true, true, true, true, true, true, true, true, true, true, true, true, true, true, true, true, true, true, true, true, true, false, false, false, false, false] rfl rfl (any_of HT_.out (by kernel_rfl)) (fun _ _ _ h => h) (Or.inr ⟨by rfl, rfl⟩) ?_ ?_
         rotate_left
         ·
          simp only [Act.put, List.setIfInBounds_toArray, List.set_cons_zero, List.set_cons_succ, i64_w, i32_w]
          rfl
         refine pure_ (i := 21) (N := some 109) (v := undef) (a' := ?_) #[true, true, true, true, true, true, true, true, true, true, true, true, true, true, true, true, true, true, true, true, true, true, false, false, false, false] rfl rfl (any_of HT_.out (by kernel_rfl)) (fun _ _ _ h => h) (Or.inr ⟨by rfl, rfl⟩) ?_ ?_
         rotate_left
         ·
          simp only [Act.put, List.setIfInBounds_toArray, List.set_cons_zero, List.set_cons_succ, i64_w, i32_w]
          rfl
         refine pure_ (i := 22) (N := some 110) (v := undef) (a' := ?_) #[true, true, true, true, true, true, true, true, true, true, true, true, true, true, true, true, true, true, true, true, true, true, true, false, false, false] rfl rfl (any_of HT_.out (by kernel_rfl)) (fun _ _ _ h => h) (Or.inr ⟨by rfl, rfl⟩) ?_ ?_
         rotate_left
         ·
          simp only [Act.put, List.setIfInBounds_toArray, List.set_cons_zero, List.set_cons_succ, i64_w, i32_w]
          rfl
         refine pure_ (i := 23) (N := some 111) (v := undef) (a' := ?_) #[true, true, true, true, true, true, true, true, true, true, true, true, true, true, true, true, true, true, true, true, true, true, true, true, false, false] rfl rfl (any_of HT_.out (by kernel_rfl)) (fun _ _ _ h => h) (Or.inr ⟨by rfl, rfl⟩) ?_ ?_
         rotate_left
         ·
          simp only [Act.put, List.setIfInBounds_toArray, List.set_cons_zero, List.set_cons_succ, i64_w, i32_w]
          rfl
         refine pure_ (i := 24) (N := some 112) (v := ?_) (a' := ?_) #[true, true, true, true, true, true, true, true, true, true, true, true, true, true, true, true, true, true, true, true, true, true, true, true, true, false] rfl rfl (any_of HT_.out (by kernel_rfl)) (fun _ _ _ h => h) (Or.inl ⟨by rfl, ?_⟩) ?_ ?_
         rotate_left
         ·
          intro w'
          go_simp
          with_reducible rfl
         rotate_left
         ·
          simp only [Act.put, List.setIfInBounds_toArray, List.set_cons_zero, List.set_cons_succ, i64_w, i32_w]
          rfl
         refine pure_ (i := 25) (N := some 21) (v := ?_) (a' := ?_) #[true, true, true, true, true, true, true, true, true, true, true, true, true, true, true, true, true, true, true, true, true, true, true, true, true, true] rfl rfl (any_of HT_.out (by kernel_rfl)) (fun _ _ _ h => h) (Or.inl ⟨by rfl, ?_⟩) ?_ ?_
         rotate_left
         ·
          intro w'
          go_simp
          with_reducible rfl
         rotate_left
         ·
          simp only [Act.put, List.setIfInBounds_toArray, List.set_cons_zero, List.set_cons_succ, i64_w, i32_w]
          rfl
         refine done_ (done_of HT_.out (by kernel_rfl)) ?_
         try go_wp2
         go_meet
         case rel => exact ⟨_, (false), (by first | rfl | (simp; done) | (simp [*]; done)), H', ⟨by have := HJ10.out; have := HJ109.out; first | omega | exact Nat.le_refl _⟩, ⟨by (with_reducible repeat (first | refine bN ?_ _ | refine bD ?_ | refine bA ?_ _)); exact BK212.out⟩, ⟨by (with_reducible repeat (first | refine bN ?_ _ | refine bD ?_ | refine bA ?_ _)); exact BK213.out⟩, ⟨by (with_reducible repeat (first | refine bN ?_ _ | refine bD ?_ | refine bA ?_ _)); exact BK218.out⟩, ⟨by (with_reducible repeat (first | refine bN ?_ _ | refine bD ?_ | refine bA ?_ _)); exact BK222.out⟩, ⟨by (with_reducible repeat (first | refine bN ?_ _ | refine bD ?_ | refine bA ?_ _)); exact BK226.out⟩, ⟨by (with_reducible repeat (first | refine bN ?_ _ | refine bD ?_ | refine bA ?_ _)); exact BK230.out⟩, ⟨by repeat (first | (with_reducible first | exact HB.out | apply bL | apply bW | apply b1 | refine bS ?_ GE212.out | refine bS ?_ GE213.out | refine bS ?_ GE218.out | refine bS ?_ GE222.out | refine bS ?_ GE226.out | refine bS ?_ GE230.out) | exact HB.out)⟩⟩
       ·
        rw [if_neg c137] at H
        have c137b0 : (t239 == t241 && (t240 == t242)) = false := by simpa using c137
        (try (have c137b1 : decide (t239 = t241 && (t240 == t242)) = false := by simpa using c137))
        (try (have c137b2 : (t239 == t241 && (t240 == t242)) = false := by simpa using c137))
        (try (have c137b3 : ¬ (t239 = t241 && (t240 == t242)) := by simpa using c137))
        clear c137
        (first | rw [c137b0] | (simp only [i64_w, i32_w]; rw [c137b0]) | skip)
        have H' := Aside0.mk H
        clear H
        try go_wp2
        have n0_ := Aside0.mk (bD BK212.out)
        have n1_ := Aside0.mk (bD BK213.out)
        have n2_ := Aside0.mk (bD BK218.out)
        have n3_ := Aside0.mk (bD BK222.out)
        have n4_ := Aside0.mk (bD BK226.out)
        have n5_ := Aside0.mk (bD BK230.out)
        have n6_ := Aside0.mk (b1 HB.out)
        clear BK212
        clear BK213
        clear BK218
        clear BK222
        clear BK226
        clear BK230
        clear HB
        have BK212 := n0_
        have BK213 := n1_
        have BK218 := n2_
        have BK222 := n3_
        have BK226 := n4_
        have BK230 := n5_
        have HB := n6_
        clear n0_ n1_ n2_ n3_ n4_ n5_ n6_
        refine start_ (n := 26) (S := fun w' => w'.cell? ⟨gb212, 0, none⟩ = some (.int .i64 a0_0) ∧ w'.cell? ⟨gb212, 1, none⟩ = some (.int .i64 a0_1) ∧ w'.cell? ⟨gb213, 0, none⟩ = some (.int .i64 a1_0) ∧ w'.cell? ⟨gb213, 1, none⟩ = some (.int .i64 a1_1)) (ds := []) #[false, false, false, false, false, false, false, false, false, false, false, false, false, false, false, false, false, false, false, false, false, false, false, false, false, false] (by kernel_rfl) rfl rfl ⟨(bC BK212.out 0).trans rfl, (bC BK212.out 1).trans rfl, (bC BK213.out 0).trans rfl, (bC BK213.out 1).trans rfl⟩ (fun hHeld => ?_); refine with_tabW bournelaw09_SpanTells.tab9 bournelaw09_SpanTells.bits9 (fun HT_ HW_ => ?_)
        generalize wc.drew = w155 at BK212 BK213 BK218 BK222 BK226 BK230 HB hHeld ⊢
        refine take_ (i := 0) (N := some 88) (v := ?_) (a' := ?_) #[true, false, false, false, false, false, false, false, false, false, false, false, false, false, false, false, false, false, false, false, false, false, false, false, false, false] rfl rfl (take_ofW HT_.out HW_.out (by kernel_rfl)) (fun _ _ _ h => h) (Or.inl ⟨by rfl, ?_⟩) hHeld ?_ ?_
        rotate_left
        ·
         rintro w' ⟨s0, s1, s2, s3⟩
         go_simp
         with_reducible rfl
        rotate_left
        ·
         simp only [Act.put, List.setIfInBounds_toArray, List.set_cons_zero, List.set_cons_succ, i64_w, i32_w]
         rfl
        refine take_ (i := 1) (N := some 89) (v := ?_) (a' := ?_) #[true, true, false, false, false, false, false, false, false, false, false, false, false, false, false, false, false, false, false, false, false, false, false, false, false, false] rfl rfl (take_ofW HT_.out HW_.out (by kernel_rfl)) (fun _ _ _ h => h) (Or.inl ⟨by rfl, ?_⟩) hHeld ?_ ?_
        rotate_left
        ·
         rintro w' ⟨s0, s1, s2, s3⟩
         go_simp
         with_reducible rfl
        rotate_left
        ·
         simp only [Act.put, List.setIfInBounds_toArray, List.set_cons_zero, List.set_cons_succ, i64_w, i32_w]
         rfl
        refine take_ (i := 3) (N := some 91) (v := ?_) (a' := ?_) #[true, true, false, true, false, false, false, false, false, false, false, false, false, false, false, false, false, false, false, false, false, false, false, false, false, false] rfl rfl (take_ofW HT_.out HW_.out (by kernel_rfl)) (fun _ _ _ h => h) (Or.inl ⟨by rfl, ?_⟩) hHeld ?_ ?_
        rotate_left
        ·
         rintro w' ⟨s0, s1, s2, s3⟩
         go_simp
         with_reducible rfl
        rotate_left
        ·
         simp only [Act.put, List.setIfInBounds_toArray, List.set_cons_zero, List.set_cons_succ, i64_w, i32_w]
         rfl
        refine take_ (i := 4) (N := some 92) (v := ?_) (a' := ?_) #[true, true, false, true, true, false, false, false, false, false, false, false, false, false, false, false, false, false, false, false, false, false, false, false, false, false] rfl rfl (take_ofW HT_.out HW_.out (by kernel_rfl)) (fun _ _ _ h => h) (Or.inl ⟨by rfl, ?_⟩) hHeld ?_ ?_
        rotate_left
        ·
         rintro w' ⟨s0, s1, s2, s3⟩
         go_simp
         with_reducible rfl
        rotate_left
        ·
         simp only [Act.put, List.setIfInBounds_toArray, List.set_cons_zero, List.set_cons_succ, i64_w, i32_w]
         rfl
        refine one_ (i := 2) (N := some 90) #[true, true, true, true, true, false, false, false, false, false, false, false, false, false, false, false, false, false, false, false, false, false, false, false, false, false] rfl rfl (one_of HT_.out (by kernel_rfl)) (by decide) (fun K hK => ?_)
        refine goes_ Try.func19 (by kernel_rfl) rfl #[.agg #[.int .i64 a0_0, .int .i64 a0_1], .agg #[.int .i64 a1_0, .int .i64 a1_1]] (by rfl) rfl rfl (by (try simp only [List.map_toArray, List.map_cons, List.map_nil]); first | done | rfl | (simp only [List.length_drop, List.length_take]; rfl)) ?_
        with_reducible refine (span_Add.calls a0_0 a0_1 a1_0 a1_1 t239 t240 _ A135.out).mono ?_
        rintro e w156 ⟨rfl, hb⟩
        refine ⟨_, rfl, ?_⟩
        have n0_ := Aside0.mk (bB (g := gb212) (o := .cells #[.int .i64 a0_0, .int .i64 a0_1] 23 (0, 0)) (by (with_reducible repeat (first | refine bN ?_ _ | refine bD ?_ | refine bA ?_ _)); exact BK212.out) hb)
        have n1_ := Aside0.mk (bB (g := gb213) (o := .cells #[.int .i64 a1_0, .int .i64 a1_1] 23 (0, 0)) (by (with_reducible repeat (first | refine bN ?_ _ | refine bD ?_ | refine bA ?_ _)); exact BK213.out) hb)
        have n2_ := Aside0.mk (bB (g := gb218) (o := .cells #[.int .i64 t215, .int .i64 t216] 23 (0, 0)) (by (with_reducible repeat (first | refine bN ?_ _ | refine bD ?_ | refine bA ?_ _)); exact BK218.out) hb)
        have n3_ := Aside0.mk (bB (g := gb222) (o := .cells #[.int .i64 t219, .int .i64 t220] 23 (0, 0)) (by (with_reducible repeat (first | refine bN ?_ _ | refine bD ?_ | refine bA ?_ _)); exact BK222.out) hb)
        have n4_ := Aside0.mk (bB (g := gb226) (o := .cells #[.int .i64 t223, .int .i64 t224] 23 (0, 0)) (by (with_reducible repeat (first | refine bN ?_ _ | refine bD ?_ | refine bA ?_ _)); exact BK226.out) hb)
        have n5_ := Aside0.mk (bB (g := gb230) (o := .cells #[.int .i64 t227, .int .i64 t228] 23 (0, 0)) (by (with_reducible repeat (first | refine bN ?_ _ | refine bD ?_ | refine bA ?_ _)); exact BK230.out) hb)
        have n6_ := Aside0.mk (bP (by repeat (first | (with_reducible first | exact HB.out | apply bL | apply bW | apply b1 | refine bS ?_ GE212.out | refine bS ?_ GE213.out | refine bS ?_ GE218.out | refine bS ?_ GE222.out | refine bS ?_ GE226.out | refine bS ?_ GE230.out) | exact HB.out)) hb)
        clear BK212
        clear BK213
        clear BK218
        clear BK222
        clear BK226
        clear BK230
        clear HB
        have BK212 := n0_
        have BK213 := n1_
        have BK218 := n2_
        have BK222 := n3_
        have BK226 := n4_
        have BK230 := n5_
        have HB := n6_
        clear n0_ n1_ n2_ n3_ n4_ n5_ n6_
        (try clear hb)
        (try clear hb2)
        (try clear hk)
        (try clear hi)
        refine hK.out _ _ ⟨(bC BK212.out 0).trans rfl, (bC BK212.out 1).trans rfl, (bC BK213.out 0).trans rfl, (bC BK213.out 1).trans rfl⟩ (fun hHeld => ?_)
        clear hK K
        refine norm_ (a' := ?_) ?_ ?_
        rotate_left
        ·
         show Act.put _ (some 90) _ = _
         simp only [Act.put, List.setIfInBounds_toArray, List.set_cons_zero, List.set_cons_succ, i64_w, i32_w]
         rfl
        refine one_ (i := 5) (N := some 93) #[true, true, true, true, true, true, false, false, false, false, false, false, false, false, false, false, false, false, false, false, false, false, false, false, false, false] rfl rfl (one_of HT_.out (by kernel_rfl)) (by decide) (fun K hK => ?_)
        refine goes_ Try.func20 (by kernel_rfl) rfl #[.agg #[.int .i64 a0_0, .int .i64 a0_1], .agg #[.int .i64 a1_0, .int .i64 a1_1]] (by rfl) rfl rfl (by (try simp only [List.map_toArray, List.map_cons, List.map_nil]); first | done | rfl | (simp only [List.length_drop, List.length_take]; rfl)) ?_
        with_reducible refine (bourneref09_Add.calls kj109 a0_0 a0_1 a1_0 a1_1 t241 t242 _ A136.out).mono ?_
        rintro e w157 ⟨rfl, hb⟩
        refine ⟨_, rfl, ?_⟩
        have n0_ := Aside0.mk (bB (g := gb212) (o := .cells #[.int .i64 a0_0, .int .i64 a0_1] 23 (0, 0)) (by (with_reducible repeat (first | refine bN ?_ _ | refine bD ?_ | refine bA ?_ _)); exact BK212.out) hb)
        have n1_ := Aside0.mk (bB (g := gb213) (o := .cells #[.int .i64 a1_0, .int .i64 a1_1] 23 (0, 0)) (by (with_reducible repeat (first | refine bN ?_ _ | refine bD ?_ | refine bA ?_ _)); exact BK213.out) hb)
        have n2_ := Aside0.mk (bB (g := gb218) (o := .cells #[.int .i64 t215, .int .i64 t216] 23 (0, 0)) (by (with_reducible repeat (first | refine bN ?_ _ | refine bD ?_ | refine bA ?_ _)); exact BK218.out) hb)
        have n3_ := Aside0.mk (bB (g := gb222) (o := .cells #[.int .i64 t219, .int .i64 t220] 23 (0, 0)) (by (with_reducible repeat (first | refine bN ?_ _ | refine bD ?_ | refine bA ?_ _)); exact BK222.out) hb)
        have n4_ := Aside0.mk (bB (g := gb226) (o := .cells #[.int .i64 t223, .int .i64 t224] 23 (0, 0)) (by (with_reducible repeat (first | refine bN ?_ _ | refine bD ?_ | refine bA ?_ _)); exact BK226.out) hb)
        have n5_ := Aside0.mk (bB (g := gb230) (o := .cells #[.int .i64 t227, .int .i64 t228] 23 (0, 0)) (by (with_reducible repeat (first | refine bN ?_ _ | refine bD ?_ | refine bA ?_ _)); exact BK230.out) hb)
        have n6_ := Aside0.mk (bP (by repeat (first | (with_reducible first | exact HB.out | apply bL | apply bW | apply b1 | refine bS ?_ GE212.out | refine bS ?_ GE213.out | refine bS ?_ GE218.out | refine bS ?_ GE222.out | refine bS ?_ GE226.out | refine bS ?_ GE230.out) | exact HB.out)) hb)
        clear BK212
        clear BK213
        clear BK218
        clear BK222
        clear BK226
        clear BK230
        clear HB
        have BK212 := n0_
        have BK213 := n1_
        have BK218 := n2_
        have BK222 := n3_
        have BK226 := n4_
        have BK230 := n5_
        have HB := n6_
        clear n0_ n1_ n2_ n3_ n4_ n5_ n6_
        (try clear hb)
        (try clear hb2)
        (try clear hk)
        (try clear hi)
        refine hK.out _ _ ⟨(bC BK212.out 0).trans rfl, (bC BK212.out 1).trans rfl, (bC BK213.out 0).trans rfl, (bC BK213.out 1).trans rfl⟩ (fun hHeld => ?_)
        clear hK K
        refine norm_ (a' := ?_) ?_ ?_
        rotate_left
        ·
         show Act.put _ (some 93) _ = _
         simp only [Act.put, List.setIfInBounds_toArray, List.set_cons_zero, List.set_cons_succ, i64_w, i32_w]
         rfl
        refine pure_ (i := 6) (N := some 94) (v := ?_) (a' := ?_) #[true, true, true, true, true, true, true, false, false, false, false, false, false, false, false, false, false, false, false, false, false, false, false, false, false, false] rfl rfl (any_of HT_.out (by kernel_rfl)) (fun _ _ _ h => h) (Or.inl ⟨by rfl, ?_⟩) ?_ ?_
        rotate_left
        ·
         intro w'
         go_simp
         with_reducible rfl
        rotate_left
        ·
         simp only [Act.put, List.setIfInBounds_toArray, List.set_cons_zero, List.set_cons_succ, i64_w, i32_w]
         rfl
        refine pure_ (i := 7) (N := some 95) (v := ?_) (a' := ?_) #[true, true, true, true, true, true, true, true, false, false, false, false, false, false, false, false, false, false, false, false, false, false, false, false, false, false] rfl rfl (any_of HT_.out (by kernel_rfl)) (fun _ _ _ h => h) (Or.inl ⟨by rfl, ?_⟩) ?_ ?_
        rotate_left
        ·
         intro w'
         go_simp
         with_reducible rfl
        rotate_left
        ·
         simp only [Act.put, List.setIfInBounds_toArray, List.set_cons_zero, List.set_cons_succ, i64_w, i32_w]
         rfl
        refine pure_ (i := 8) (N := some 96) (v := undef) (a' := ?_) #[true, true, true, true, true, true, true, true, true, false, false, false, false, false, false, false, false, false, false, false, false, false, false, false, false, false] rfl rfl (any_of HT_.out (by kernel_rfl)) (fun _ _ _ h => h) (Or.inr ⟨by rfl, rfl⟩) ?_ ?_
        rotate_left
        ·
         simp only [Act.put, List.setIfInBounds_toArray, List.set_cons_zero, List.set_cons_succ, i64_w, i32_w]
         rfl
        refine pure_ (i := 9) (N := some 97) (v := undef) (a' := ?_) #[true, true, true, true, true, true, true, true, true, true, false, false, false, false, false, false, false, false, false, false, false, false, false, false, false, false] rfl rfl (any_of HT_.out (by kernel_rfl)) (fun _ _ _ h => h) (Or.inr ⟨by rfl, rfl⟩) ?_ ?_
        rotate_left
        ·
         simp only [Act.put, List.setIfInBounds_toArray, List.set_cons_zero, List.set_cons_succ, i64_w, i32_w]
         rfl
        refine pure_ (i := 10) (N := some 98) (v := undef) (a' := ?_) #[true, true, true, true, true, true, true, true, true, true, true, false, false, false, false, false, false, false, false, false, false, false, false, false, false, false] rfl rfl (any_of HT_.out (by kernel_rfl)) (fun _ _ _ h => h) (Or.inr ⟨by rfl, rfl⟩) ?_ ?_
        rotate_left
        ·
         simp only [Act.put, List.setIfInBounds_toArray, List.set_cons_zero, List.set_cons_succ, i64_w, i32_w]
         rfl
        refine pure_ (i := 11) (N := some 99) (v := undef) (a' := ?_) #[true, true, true, true, true, true, true, true, true, true, true, true, false, false, false, false, false, false, false, false, false, false, false, false, false, false] rfl rfl (any_of HT_.out (by kernel_rfl)) (fun _ _ _ h => h) (Or.inr ⟨by rfl, rfl⟩) ?_ ?_
        rotate_left
        ·
         simp only [Act.put, List.setIfInBounds_toArray, List.set_cons_zero, List.set_cons_succ, i64_w, i32_w]
         rfl
        refine pure_ (i := 12) (N := some 100) (v := undef) (a' := ?_) #[true, true, true, true, true, true, true, true, true, true, true, true, true, false, false, false, false, false, false, false, false, false, false, false, false, false] rfl rfl (any_of HT_.out (by kernel_rfl)) (fun _ _ _ h => h) (Or.inr ⟨by rfl, rfl⟩) ?_ ?_
        rotate_left
        ·
         simp only [Act.put, List.setIfInBounds_toArray, List.set_cons_zero, List.set_cons_succ, i64_w, i32_w]
         rfl
        refine pure_ (i := 13) (N := some 101) (v := undef) (a' := ?_) #[true, true, true, true, true, true, true, true, true, true, true, true, true, true, false, false, false, false, false, false, false, false, false, false, false, false] rfl rfl (any_of HT_.out (by kernel_rfl)) (fun _ _ _ h => h) (Or.inr ⟨by rfl, rfl⟩) ?_ ?_
        rotate_left
        ·
         simp only [Act.put, List.setIfInBounds_toArray, List.set_cons_zero, List.set_cons_succ, i64_w, i32_w]
         rfl
        refine pure_ (i := 14) (N := some 102) (v := undef) (a' := ?_) #[true, true, true, true, true, true, true, true, true, true, true, true, true, true, true, false, false, false, false, false, false, false, false, false, false, false] rfl rfl (any_of HT_.out (by kernel_rfl)) (fun _ _ _ h => h) (Or.inr ⟨by rfl, rfl⟩) ?_ ?_
        rotate_left
        ·
         simp only [Act.put, List.setIfInBounds_toArray, List.set_cons_zero, List.set_cons_succ, i64_w, i32_w]
         rfl
        refine pure_ (i := 15) (N := some 103) (v := ?_) (a' := ?_) #[true, true, true, true, true, true, true, true, true, true, true, true, true, true, true, true, false, false, false, false, false, false, false, false, false, false] rfl rfl (any_of HT_.out (by kernel_rfl)) (fun _ _ _ h => h) (Or.inl ⟨by rfl, ?_⟩) ?_ ?_
        rotate_left
        ·
         intro w'
         go_simp
         with_reducible rfl
        rotate_left
        ·
         simp only [Act.put, List.setIfInBounds_toArray, List.set_cons_zero, List.set_cons_succ, i64_w, i32_w]
         rfl
        refine pure_ (i := 16) (N := some 104) (v := ?_) (a' := ?_) #[true, true, true, true, true, true, true, true, true, true, true, true, true, true, true, true, true, false, false, false, false, false, false, false, false, false] rfl rfl (any_of HT_.out (by kernel_rfl)) (fun _ _ _ h => h) (Or.inl ⟨by rfl, ?_⟩) ?_ ?_
        rotate_left
        ·
         intro w'
         go_simp
         with_reducible rfl
        rotate_left
        ·
         simp only [Act.put, List.setIfInBounds_toArray, List.set_cons_zero, List.set_cons_succ, i64_w, i32_w]
         rfl
        refine pure_ (i := 17) (N := some 105) (v := undef) (a' := ?_) #[true, true, true, true, true, true, true, true, true, true, true, true, true, true, true, true, true, true, false, false, false, false, false, false, false, false] rfl rfl (any_of HT_.out (by kernel_rfl)) (fun _ _ _ h => h) (Or.inr ⟨by rfl, rfl⟩) ?_ ?_
        rotate_left
        ·
         simp only [Act.put, List.setIfInBounds_toArray, List.set_cons_zero, List.set_cons_succ, i64_w, i32_w]
         rfl
        refine pure_ (i := 18) (N := some 106) (v := undef) (a' := ?_) #[true, true, true, true, true, true, true, true, true, true, true, true, true, true, true, true, true, true, true, false, false, false, false, false, false, false] rfl rfl (any_of HT_.out (by kernel_rfl)) (fun _ _ _ h => h) (Or.inr ⟨by rfl, rfl⟩) ?_ ?_
        rotate_left
        ·
         simp only [Act.put, List.setIfInBounds_toArray, List.set_cons_zero, List.set_cons_succ, i64_w, i32_w]
         rfl
        refine pure_ (i := 19) (N := some 107) (v := undef) (a' := ?_) #[true, true, true, true, true, true, true, true, true, true, true, true, true, true, true, true, true, true, true, true, false, false, false, false, false, false] rfl rfl (any_of HT_.out (by kernel_rfl)) (fun _ _ _ h => h) (Or.inr ⟨by rfl, rfl⟩) ?_ ?_
        rotate_left
        ·
         simp only [Act.put, List.setIfInBounds_toArray, List.set_cons_zero, List.set_cons_succ, i64_w, i32_w]
         rfl
        refine pure_ (i := 20) (N := some 108) (v := undef) (a' := ?_) #[true, true, true, true, true, true, true, true, true, true, true, true, true, true, true, true, true, true, true, true, true, false, false, false, false, false] rfl rfl (any_of HT_.out (by kernel_rfl)) (fun _ _ _ h => h) (Or.inr ⟨by rfl, rfl⟩) ?_ ?_
        rotate_left
        ·
         simp only [Act.put, List.setIfInBounds_toArray, List.set_cons_zero, List.set_cons_succ, i64_w, i32_w]
         rfl
        refine pure_ (i := 21) (N := some 109) (v := undef) (a' := ?_) #[true, true, true, true, true, true, true, true, true, true, true, true, true, true, true, true, true, true, true, true, true, true, false, false, false, false] rfl rfl (any_of HT_.out (by kernel_rfl)) (fun _ _ _ h => h) (Or.inr ⟨by rfl, rfl⟩) ?_ ?_
        rotate_left
        ·
         simp only [Act.put, List.setIfInBounds_toArray, List.set_cons_zero, List.set_cons_succ, i64_w, i32_w]
         rfl
        refine pure_ (i := 22) (N := some 110) (v := undef) (a' := ?_) #[true, true, true, true, true, true, true, true, true, true, true, true, true, true, true, true, true, true, true, true, true, true, true, false, false, false] rfl rfl (any_of HT_.out (by kernel_rfl)) (fun _ _ _ h => h) (Or.inr ⟨by rfl, rfl⟩) ?_ ?_
        rotate_left
        ·
         simp only [Act.put, List.setIfInBounds_toArray, List.set_cons_zero, List.set_cons_succ, i64_w, i32_w]
         rfl
        refine pure_ (i := 23) (N := some 111) (v := undef) (a' := ?_) #[true, true, true, true, true, true, true, true, true, true, true, true, true, true, true, true, true, true, true, true, true, true, true, true, false, false] rfl rfl (any_of HT_.out (by kernel_rfl)) (fun _ _ _ h => h) (Or.inr ⟨by rfl, rfl⟩) ?_ ?_
        rotate_left
        ·
         simp only [Act.put, List.setIfInBounds_toArray, List.set_cons_zero, List.set_cons_succ, i64_w, i32_w]
         rfl
        refine pure_ (i := 24) (N := some 112) (v := ?_) (a' := ?_) #[true, true, true, true, true, true, true, true, true, true, true, true, true, true, true, true, true, true, true, true, true, true, true, true, true, false] rfl rfl (any_of HT_.out (by kernel_rfl)) (fun _ _ _ h => h) (Or.inl ⟨by rfl, ?_⟩) ?_ ?_
        rotate_left
        ·
         intro w'
         go_simp
         with_reducible rfl
        rotate_left
        ·
         simp only [Act.put, List.setIfInBounds_toArray, List.set_cons_zero, List.set_cons_succ, i64_w, i32_w]
         rfl
        refine pure_ (i := 25) (N := some 21) (v := ?_) (a' := ?_) #[true, true, true, true, true, true, true, true, true, true, true, true, true, true, true, true, true, true, true, true, true, true, true, true, true, true] rfl rfl (any_of HT_.out (by kernel_rfl)) (fun _ _ _ h => h) (Or.inl ⟨by rfl, ?_⟩) ?_ ?_
        rotate_left
        ·
         intro w'
         go_simp
         with_reducible rfl
        rotate_left
        ·
         simp only [Act.put, List.setIfInBounds_toArray, List.set_cons_zero, List.set_cons_succ, i64_w, i32_w]
         rfl
        refine done_ (done_of HT_.out (by kernel_rfl)) ?_
        try go_wp2
        go_meet
        case rel => exact ⟨_, (false), (by first | rfl | (simp; done) | (simp [*]; done)), H', ⟨by have := HJ10.out; have := HJ109.out; first | omega | exact Nat.le_refl _⟩, ⟨by (with_reducible repeat (first | refine bN ?_ _ | refine bD ?_ | refine bA ?_ _)); exact BK212.out⟩, ⟨by (with_reducible repeat (first | refine bN ?_ _ | refine bD ?_ | refine bA ?_ _)); exact BK213.out⟩, ⟨by (with_reducible repeat (first | refine bN ?_ _ | refine bD ?_ | refine bA ?_ _)); exact BK218.out⟩, ⟨by (with_reducible repeat (first | refine bN ?_ _ | refine bD ?_ | refine bA ?_ _)); exact BK222.out⟩, ⟨by (with_reducible repeat (first | refine bN ?_ _ | refine bD ?_ | refine bA ?_ _)); exact BK226.out⟩, ⟨by (with_reducible repeat (first | refine bN ?_ _ | refine bD ?_ | refine bA ?_ _)); exact BK230.out⟩, ⟨by repeat (first | (with_reducible first | exact HB.out | apply bL | apply bW | apply b1 | refine bS ?_ GE212.out | refine bS ?_ GE213.out | refine bS ?_ GE218.out | refine bS ?_ GE222.out | refine bS ?_ GE226.out | refine bS ?_ GE230.out) | exact HB.out)⟩⟩
      case rest =>
       clear HC134
       try clear c1
       try clear c2
       try clear p2
       try clear c13
       try clear c14
       try clear c19
       try clear c20
       try clear c21
       try clear c22
       try clear c137
       try clear c137b0
       try clear c137b1
       try clear c137b2
       try clear c140
       try clear c140b0
       try clear c140b1
       try clear c140b2
       obtain ⟨kq, x21_133, rfl, HA, HJ133, BK212, BK213, BK218, BK222, BK226, BK230, HB⟩ := hcut
       cases kq with
       | zero => exact absurd HA.out (by simp [bournelaw09_SpanTells.j2])
       | succ kj133 =>
        have H := HA.out
        clear HA
        simp only [bournelaw09_SpanTells.j2] at H
        by_cases c158 : t214 = true
        ·
         subst c158
         have H1 : (if x20_109 = true then (if x21_133 = true then ((span_Within.f a0_0 a0_1 a1_0 a1_1).bind fun t251 => ((bourneref09_Within.f a0_0 a0_1 a1_0 a1_1).bind fun t252 => (if (t251 == t252) = true then ((span_Width.f a0_0 a0_1).bind fun t253 => ((bourneref09_Width.f kj133 a0_0 a0_1).bind fun t254 => (some (t253 == t254)))) else (some false)))) else (some false)) else (some false)) = some r := by rw [if_pos rfl] at H; exact H
         clear H
         have H := H1
         clear H1
         by_cases c159 : x20_109 = true
         ·
          subst c159
          have H1 : (if x21_133 = true then ((span_Within.f a0_0 a0_1 a1_0 a1_1).bind fun t251 => ((bourneref09_Within.f a0_0 a0_1 a1_0 a1_1).bind fun t252 => (if (t251 == t252) = true then ((span_Width.f a0_0 a0_1).bind fun t253 => ((bourneref09_Width.f kj133 a0_0 a0_1).bind fun t254 => (some (t253 == t254)))) else (some false)))) else (some false)) = some r := by rw [if_pos rfl] at H; exact H
          clear H
          have H := H1
          clear H1
          by_cases c160 : x21_133 = true
          ·
           subst c160
           have H1 : ((span_Within.f a0_0 a0_1 a1_0 a1_1).bind fun t251 => ((bourneref09_Within.f a0_0 a0_1 a1_0 a1_1).bind fun t252 => (if (t251 == t252) = true then ((span_Width.f a0_0 a0_1).bind fun t253 => ((bourneref09_Width.f kj133 a0_0 a0_1).bind fun t254 => (some (t253 == t254)))) else (some false)))) = some r := by rw [if_pos rfl] at H; exact H
           clear H
           have H := H1
           clear H1
           replace H := Option.bind_eq_some_iff.mp H
           obtain ⟨t251, A1610, H⟩ := H
           have A161 := Aside0.mk A1610
           clear A1610
           replace H := Option.bind_eq_some_iff.mp H
           obtain ⟨t252, A1620, H⟩ := H
           have A162 := Aside0.mk A1620
           clear A1620
           by_cases c163 : (t251 == t252) = true
           ·
            rw [if_pos c163] at H
            have c163b0 : (t251 == t252) = true := c163
            (try (have c163b1 : decide (t251 = t252) = true := by simpa using c163))
            (try (have c163b2 : (t251 == t252) = true := by simpa using c163))
            clear c163
            replace H := Option.bind_eq_some_iff.mp H
            obtain ⟨t253, A1640, H⟩ := H
            have A164 := Aside0.mk A1640
            clear A1640
            replace H := Option.bind_eq_some_iff.mp H
            obtain ⟨t254, A1650, H⟩ := H
            have A165 := Aside0.mk A1650
            clear A1650
            obtain rfl := Option.some.inj H
            try go_wp2
            have n0_ := Aside0.mk (bD BK212.out)
            have n1_ := Aside0.mk (bD BK213.out)
            have n2_ := Aside0.mk (bD BK218.out)
            have n3_ := Aside0.mk (bD BK222.out)
            have n4_ := Aside0.mk (bD BK226.out)
            have n5_ := Aside0.mk (bD BK230.out)
            have n6_ := Aside0.mk (b1 HB.out)
            clear BK212
            clear BK213
            clear BK218
            clear BK222
            clear BK226
            clear BK230
            clear HB
            have BK212 := n0_
            have BK213 := n1_
            have BK218 := n2_
            have BK222 := n3_
            have BK226 := n4_
            have BK230 := n5_
            have HB := n6_
            clear n0_ n1_ n2_ n3_ n4_ n5_ n6_
            refine start_ (n := 24) (S := fun w' => w'.cell? ⟨gb212, 0, none⟩ = some (.int .i64 a0_0) ∧ w'.cell? ⟨gb212, 1, none⟩ = some (.int .i64 a0_1) ∧ w'.cell? ⟨gb213, 0, none⟩ = some (.int .i64 a1_0) ∧ w'.cell? ⟨gb213, 1, none⟩ = some (.int .i64 a1_1)) (ds := []) #[false, false, false, false, false, false, false, false, false, false, false, false, false, false, false, false, false, false, false, false, false, false, false, false] (by kernel_rfl) rfl rfl ⟨(bC BK212.out 0).trans rfl, (bC BK212.out 1).trans rfl, (bC BK213.out 0).trans rfl, (bC BK213.out 1).trans rfl⟩ (fun hHeld => ?_); refine with_tabW bournelaw09_SpanTells.tab10 bournelaw09_SpanTells.bits10 (fun HT_ HW_ => ?_)
            generalize wc.drew = w166 at BK212 BK213 BK218 BK222 BK226 BK230 HB hHeld ⊢
            refine pure_ (i := 0) (N := some 113) (v := ?_) (a' := ?_) #[true, false, false, false, false, false, false, false, false, false, false, false, false, false, false, false, false, false, false, false, false, false, false, false] rfl rfl (any_of HT_.out (by kernel_rfl)) (fun _ _ _ h => h) (Or.inl ⟨by rfl, ?_⟩) ?_ ?_
            rotate_left
            ·
             intro w'
             go_simp
             with_reducible rfl
            rotate_left
            ·
             simp only [Act.put, List.setIfInBounds_toArray, List.set_cons_zero, List.set_cons_succ, i64_w, i32_w]
             rfl
            refine pure_ (i := 1) (N := some 114) (v := ?_) (a' := ?_) #[true, true, false, false, false, false, false, false, false, false, false, false, false, false, false, false, false, false, false, false, false, false, false, false] rfl rfl (any_of HT_.out (by kernel_rfl)) (fun _ _ _ h => h) (Or.inl ⟨by rfl, ?_⟩) ?_ ?_
            rotate_left
            ·
             intro w'
             go_simp
             with_reducible rfl
            rotate_left
            ·
             simp only [Act.put, List.setIfInBounds_toArray, List.set_cons_zero, List.set_cons_succ, i64_w, i32_w]
             rfl
            refine pure_ (i := 2) (N := some 115) (v := ?_) (a' := ?_) #[true, true, true, false, false, false, false, false, false, false, false, false, false, false, false, false, false, false, false, false, false, false, false, false] rfl rfl (any_of HT_.out (by kernel_rfl)) (fun _ _ _ h => h) (Or.inl ⟨by rfl, ?_⟩) ?_ ?_
            rotate_left
            ·
             intro w'
             go_simp
             with_reducible rfl
            rotate_left
            ·
             simp only [Act.put, List.setIfInBounds_toArray, List.set_cons_zero, List.set_cons_succ, i64_w, i32_w]
             rfl
            refine pure_ (i := 3) (N := some 116) (v := ?_) (a' := ?_) #[true, true, true, true, false, false, false, false, false, false, false, false, false, false, false, false, false, false, false, false, false, false, false, false] rfl rfl (any_of HT_.out (by kernel_rfl)) (fun _ _ _ h => h) (Or.inl ⟨by rfl, ?_⟩) ?_ ?_
            rotate_left
            ·
             intro w'
             go_simp
             with_reducible rfl
            rotate_left
            ·
             simp only [Act.put, List.setIfInBounds_toArray, List.set_cons_zero, List.set_cons_succ, i64_w, i32_w]
             rfl
            refine pure_ (i := 4) (N := some 117) (v := ?_) (a' := ?_) #[true, true, true, true, true, false, false, false, false, false, false, false, false, false, false, false, false, false, false, false, false, false, false, false] rfl rfl (any_of HT_.out (by kernel_rfl)) (fun _ _ _ h => h) (Or.inl ⟨by rfl, ?_⟩) ?_ ?_
            rotate_left
            ·
             intro w'
             go_simp
             with_reducible rfl
            rotate_left
            ·
             simp only [Act.put, List.setIfInBounds_toArray, List.set_cons_zero, List.set_cons_succ, i64_w, i32_w]
             rfl
            refine pure_ (i := 5) (N := some 118) (v := ?_) (a' := ?_) #[true, true, true, true, true, true, false, false, false, false, false, false, false, false, false, false, false, false, false, false, false, false, false, false] rfl rfl (any_of HT_.out (by kernel_rfl)) (fun _ _ _ h => h) (Or.inl ⟨by rfl, ?_⟩) ?_ ?_
            rotate_left
            ·
             intro w'
             go_simp
             with_reducible rfl
            rotate_left
            ·
             simp only [Act.put, List.setIfInBounds_toArray, List.set_cons_zero, List.set_cons_succ, i64_w, i32_w]
             rfl
            refine pure_ (i := 6) (N := some 119) (v := ?_) (a' := ?_) #[true, true, true, true, true, true, true, false, false, false, false, false, false, false, false, false, false, false, false, false, false, false, false, false] rfl rfl (any_of HT_.out (by kernel_rfl)) (fun _ _ _ h => h) (Or.inl ⟨by rfl, ?_⟩) ?_ ?_
            rotate_left
            ·
             intro w'
             go_simp
             with_reducible rfl
            rotate_left
            ·
             simp only [Act.put, List.setIfInBounds_toArray, List.set_cons_zero, List.set_cons_succ, i64_w, i32_w]
             rfl
            refine pure_ (i := 7) (N := some 120) (v := ?_) (a' := ?_) #[true, true, true, true, true, true, true, true, false, false, false, false, false, false, false, false, false, false, false, false, false, false, false, false] rfl rfl (any_of HT_.out (by kernel_rfl)) (fun _ _ _ h => h) (Or.inl ⟨by rfl, ?_⟩) ?_ ?_
            rotate_left
            ·
             intro w'
             go_simp
             with_reducible rfl
            rotate_left
            ·
             simp only [Act.put, List.setIfInBounds_toArray, List.set_cons_zero, List.set_cons_succ, i64_w, i32_w]
             rfl
            refine take_ (i := 8) (N := some 121) (v := ?_) (a' := ?_) #[true, true, true, true, true, true, true, true, true, false, false, false, false, false, false, false, false, false, false, false, false, false, false, false] rfl rfl (take_ofW HT_.out HW_.out (by kernel_rfl)) (fun _ _ _ h => h) (Or.inl ⟨by rfl, ?_⟩) hHeld ?_ ?_
            rotate_left
            ·
             rintro w' ⟨s0, s1, s2, s3⟩
             go_simp
             with_reducible rfl
            rotate_left
            ·
             simp only [Act.put, List.setIfInBounds_toArray, List.set_cons_zero, List.set_cons_succ, i64_w, i32_w]
             rfl
            refine take_ (i := 9) (N := some 122) (v := ?_) (a' := ?_) #[true, true, true, true, true, true, true, true, true, true, false, false, false, false, false, false, false, false, false, false, false, false, false, false] rfl rfl (take_ofW HT_.out HW_.out (by kernel_rfl)) (fun _ _ _ h => h) (Or.inl ⟨by rfl, ?_⟩) hHeld ?_ ?_
            rotate_left
            ·
             rintro w' ⟨s0, s1, s2, s3⟩
             go_simp
             with_reducible rfl
            rotate_left
            ·
             simp only [Act.put, List.setIfInBounds_toArray, List.set_cons_zero, List.set_cons_succ, i64_w, i32_w]
             rfl
            refine take_ (i := 11) (N := some 124) (v := ?_) (a' := ?_) #[true, true, true, true, true, true, true, true, true, true, false, true, false, false, false, false, false, false, false, false, false, false, false, false] rfl rfl (take_ofW HT_.out HW_.out (by kernel_rfl)) (fun _ _ _ h => h) (Or.inl ⟨by rfl, ?_⟩) hHeld ?_ ?_
            rotate_left
            ·
             rintro w' ⟨s0, s1, s2, s3⟩
             go_simp
             with_reducible rfl
            rotate_left
            ·
             simp only [Act.put, List.setIfInBounds_toArray, List.set_cons_zero, List.set_cons_succ, i64_w, i32_w]
             rfl
            refine take_ (i := 12) (N := some 125) (v := ?_) (a' := ?_) #[true, true, true, true, true, true, true, true, true, true, false, true, true, false, false, false, false, false, false, false, false, false, false, false] rfl rfl (take_ofW HT_.out HW_.out (by kernel_rfl)) (fun _ _ _ h => h) (Or.inl ⟨by rfl, ?_⟩) hHeld ?_ ?_
            rotate_left
            ·
             rintro w' ⟨s0, s1, s2, s3⟩
             go_simp
             with_reducible rfl
            rotate_left
            ·
             simp only [Act.put, List.setIfInBounds_toArray, List.set_cons_zero, List.set_cons_succ, i64_w, i32_w]
             rfl
            refine one_ (i := 10) (N := some 123) #[true, true, true, true, true, true, true, true, true, true, true, true, true, false, false, false, false, false, false, false, false, false, false, false] rfl rfl (one_of HT_.out (by kernel_rfl)) (by decide) (fun K hK => ?_)
            refine goes_ Try.func25 (by kernel_rfl) rfl #[.agg #[.int .i64 a0_0, .int .i64 a0_1], .agg #[.int .i64 a1_0, .int .i64 a1_1]] (by rfl) rfl rfl (by (try simp only [List.map_toArray, List.map_cons, List.map_nil]); first | done | rfl | (simp only [List.length_drop, List.length_take]; rfl)) ?_
            with_reducible refine (span_Within.calls a0_0 a0_1 a1_0 a1_1 t251 _ A161.out).mono ?_
            rintro e w167 ⟨rfl, hb⟩
            refine ⟨_, rfl, ?_⟩
            have n0_ := Aside0.mk (bB (g := gb212) (o := .cells #[.int .i64 a0_0, .int .i64 a0_1] 23 (0, 0)) (by (with_reducible repeat (first | refine bN ?_ _ | refine bD ?_ | refine bA ?_ _)); exact BK212.out) hb)
            have n1_ := Aside0.mk (bB (g := gb213) (o := .cells #[.int .i64 a1_0, .int .i64 a1_1] 23 (0, 0)) (by (with_reducible repeat (first | refine bN ?_ _ | refine bD ?_ | refine bA ?_ _)); exact BK213.out) hb)
            have n2_ := Aside0.mk (bB (g := gb218) (o := .cells #[.int .i64 t215, .int .i64 t216] 23 (0, 0)) (by (with_reducible repeat (first | refine bN ?_ _ | refine bD ?_ | refine bA ?_ _)); exact BK218.out) hb)
            have n3_ := Aside0.mk (bB (g := gb222) (o := .cells #[.int .i64 t219, .int .i64 t220] 23 (0, 0)) (by (with_reducible repeat (first | refine bN ?_ _ | refine bD ?_ | refine bA ?_ _)); exact BK222.out) hb)
            have n4_ := Aside0.mk (bB (g := gb226) (o := .cells #[.int .i64 t223, .int .i64 t224] 23 (0, 0)) (by (with_reducible repeat (first | refine bN ?_ _ | refine bD ?_ | refine bA ?_ _)); exact BK226.out) hb)
            have n5_ := Aside0.mk (bB (g := gb230) (o := .cells #[.int .i64 t227, .int .i64 t228] 23 (0, 0)) (by (with_reducible repeat (first | refine bN ?_ _ | refine bD ?_ | refine bA ?_ _)); exact BK230.out) hb)
            have n6_ := Aside0.mk (bP (by repeat (first | (with_reducible first | exact HB.out | apply bL | apply bW | apply b1 | refine bS ?_ GE212.out | refine bS ?_ GE213.out | refine bS ?_ GE218.out | refine bS ?_ GE222.out | refine bS ?_ GE226.out | refine bS ?_ GE230.out) | exact HB.out)) hb)
            clear BK212
            clear BK213
            clear BK218
            clear BK222
            clear BK226
            clear BK230
            clear HB
            have BK212 := n0_
            have BK213 := n1_
            have BK218 := n2_
            have BK222 := n3_
            have BK226 := n4_
            have BK230 := n5_
            have HB := n6_
            clear n0_ n1_ n2_ n3_ n4_ n5_ n6_
            (try clear hb)
            (try clear hb2)
            (try clear hk)
            (try clear hi)
            refine hK.out _ _ ⟨(bC BK212.out 0).trans rfl, (bC BK212.out 1).trans rfl, (bC BK213.out 0).trans rfl, (bC BK213.out 1).trans rfl⟩ (fun hHeld => ?_)
            clear hK K
            refine norm_ (a' := ?_) ?_ ?_
            rotate_left
            ·
             show Act.put _ (some 123) _ = _
             simp only [Act.put, List.setIfInBounds_toArray, List.set_cons_zero, List.set_cons_succ, i64_w, i32_w]
             rfl
            refine one_ (i := 13) (N := some 126) #[true, true, true, true, true, true, true, true, true, true, true, true, true, true, false, false, false, false, false, false, false, false, false, false] rfl rfl (one_of HT_.out (by kernel_rfl)) (by decide) (fun K hK => ?_)
            refine goes_ Try.func26 (by kernel_rfl) rfl #[.agg #[.int .i64 a0_0, .int .i64 a0_1], .agg #[.int .i64 a1_0, .int .i64 a1_1]] (by rfl) rfl rfl (by (try simp only [List.map_toArray, List.map_cons, List.map_nil]); first | done | rfl | (simp only [List.length_drop, List.length_take]; rfl)) ?_
            with_reducible refine (bourneref09_Within.calls a0_0 a0_1 a1_0 a1_1 t252 _ A162.out).mono ?_
            rintro e w168 ⟨rfl, hb⟩
            refine ⟨_, rfl, ?_⟩
            have n0_ := Aside0.mk (bB (g := gb212) (o := .cells #[.int .i64 a0_0, .int .i64 a0_1] 23 (0, 0)) (by (with_reducible repeat (first | refine bN ?_ _ | refine bD ?_ | refine bA ?_ _)); exact BK212.out) hb)
            have n1_ := Aside0.mk (bB (g := gb213) (o := .cells #[.int .i64 a1_0, .int .i64 a1_1] 23 (0, 0)) (by (with_reducible repeat (first | refine bN ?_ _ | refine bD ?_ | refine bA ?_ _)); exact BK213.out) hb)
            have n2_ := Aside0.mk (bB (g := gb218) (o := .cells #[.int .i64 t215, .int .i64 t216] 23 (0, 0)) (by (with_reducible repeat (first | refine bN ?_ _ | refine bD ?_ | refine bA ?_ _)); exact BK218.out) hb)
            have n3_ := Aside0.mk (bB (g := gb222) (o := .cells #[.int .i64 t219, .int .i64 t220] 23 (0, 0)) (by (with_reducible repeat (first | refine bN ?_ _ | refine bD ?_ | refine bA ?_ _)); exact BK222.out) hb)
            have n4_ := Aside0.mk (bB (g := gb226) (o := .cells #[.int .i64 t223, .int .i64 t224] 23 (0, 0)) (by (with_reducible repeat (first | refine bN ?_ _ | refine bD ?_ | refine bA ?_ _)); exact BK226.out) hb)
            have n5_ := Aside0.mk (bB (g := gb230) (o := .cells #[.int .i64 t227, .int .i64 t228] 23 (0, 0)) (by (with_reducible repeat (first | refine bN ?_ _ | refine bD ?_ | refine bA ?_ _)); exact BK230.out) hb)
            have n6_ := Aside0.mk (bP (by repeat (first | (with_reducible first | exact HB.out | apply bL | apply bW | apply b1 | refine bS ?_ GE212.out | refine bS ?_ GE213.out | refine bS ?_ GE218.out | refine bS ?_ GE222.out | refine bS ?_ GE226.out | refine bS ?_ GE230.out) | exact HB.out)) hb)
            clear BK212
            clear BK213
            clear BK218
            clear BK222
            clear BK226
            clear BK230
            clear HB
            have BK212 := n0_
            have BK213 := n1_
            have BK218 := n2_
            have BK222 := n3_
            have BK226 := n4_
            have BK230 := n5_
            have HB := n6_
            clear n0_ n1_ n2_ n3_ n4_ n5_ n6_
            (try clear hb)
            (try clear hb2)
            (try clear hk)
            (try clear hi)
            refine hK.out _ _ ⟨(bC BK212.out 0).trans rfl, (bC BK212.out 1).trans rfl, (bC BK213.out 0).trans rfl, (bC BK213.out 1).trans rfl⟩ (fun hHeld => ?_)
            clear hK K
            refine norm_ (a' := ?_) ?_ ?_
            rotate_left
            ·
             show Act.put _ (some 126) _ = _
             simp only [Act.put, List.setIfInBounds_toArray, List.set_cons_zero, List.set_cons_succ, i64_w, i32_w]
             rfl
            refine pure_ (i := 14) (N := some 127) (v := ?_) (a' := ?_) #[true, true, true, true, true, true, true, true, true, true, true, true, true, true, true, false, false, false, false, false, false, false, false, false] rfl rfl (any_of HT_.out (by kernel_rfl)) (fun _ _ _ h => h) (Or.inl ⟨by rfl, ?_⟩) ?_ ?_
            rotate_left
            ·
             intro w'
             go_simp
             with_reducible rfl
            rotate_left
            ·
             simp only [Act.put, List.setIfInBounds_toArray, List.set_cons_zero, List.set_cons_succ, i64_w, i32_w]
             rfl
            refine pure_ (i := 15) (N := some 128) (v := ?_) (a' := ?_) #[true, true, true, true, true, true, true, true, true, true, true, true, true, true, true, true, false, false, false, false, false, false, false, false] rfl rfl (any_of HT_.out (by kernel_rfl)) (fun _ _ _ h => h) (Or.inl ⟨by rfl, ?_⟩) ?_ ?_
            rotate_left
            ·
             intro w'
             go_simp
             with_reducible rfl
            rotate_left
            ·
             simp only [Act.put, List.setIfInBounds_toArray, List.set_cons_zero, List.set_cons_succ, i64_w, i32_w]
             rfl
            refine pure_ (i := 16) (N := some 129) (v := ?_) (a' := ?_) #[true, true, true, true, true, true, true, true, true, true, true, true, true, true, true, true, true, false, false, false, false, false, false, false] rfl rfl (any_of HT_.out (by kernel_rfl)) (fun _ _ _ h => h) (Or.inl ⟨by rfl, ?_⟩) ?_ ?_
            rotate_left
            ·
             intro w'
             go_simp
             with_reducible rfl
            rotate_left
            ·
             simp only [Act.put, List.setIfInBounds_toArray, List.set_cons_zero, List.set_cons_succ, i64_w, i32_w]
             rfl
            refine take_ (i := 17) (N := some 130) (v := ?_) (a' := ?_) #[true, true, true, true, true, true, true, true, true, true, true, true, true, true, true, true, true, true, false, false, false, false, false, false] rfl rfl (take_ofW HT_.out HW_.out (by kernel_rfl)) (fun _ _ _ h => h) (Or.inl ⟨by rfl, ?_⟩) hHeld ?_ ?_
            rotate_left
            ·
             rintro w' ⟨s0, s1, s2, s3⟩
             go_simp
             with_reducible rfl
            rotate_left
            ·
             simp only [Act.put, List.setIfInBounds_toArray, List.set_cons_zero, List.set_cons_succ, i64_w, i32_w]
             rfl
            refine take_ (i := 19) (N := some 132) (v := ?_) (a' := ?_) #[true, true, true, true, true, true, true, true, true, true, true, true, true, true, true, true, true, true, false, true, false, false, false, false] rfl rfl (take_ofW HT_.out HW_.out (by kernel_rfl)) (fun _ _ _ h => h) (Or.inl ⟨by rfl, ?_⟩) hHeld ?_ ?_
            rotate_left
            ·
             rintro w' ⟨s0, s1, s2, s3⟩
             go_simp
             with_reducible rfl
            rotate_left
            ·
             simp only [Act.put, List.setIfInBounds_toArray, List.set_cons_zero, List.set_cons_succ, i64_w, i32_w]
             rfl
            refine one_ (i := 18) (N := some 131) #[true, true, true, true, true, true, true, true, true, true, true, true, true, true, true, true, true, true, true, true, false, false, false, false] rfl rfl (one_of HT_.out (by kernel_rfl)) (by decide) (fun K hK => ?_)
            refine goes_ Try.func27 (by kernel_rfl) rfl #[.agg #[.int .i64 a0_0, .int .i64 a0_1]] (by rfl) rfl rfl (by (try simp only [List.map_toArray, List.map_cons, List.map_nil]); first | done | rfl | (simp only [List.length_drop, List.length_take]; rfl)) ?_
            with_reducible refine (span_Width.calls a0_0 a0_1 t253 _ A164.out).mono ?_
            rintro e w169 ⟨rfl, hb⟩
            refine ⟨_, rfl, ?_⟩
            have n0_ := Aside0.mk (bB (g := gb212) (o := .cells #[.int .i64 a0_0, .int .i64 a0_1] 23 (0, 0)) (by (with_reducible repeat (first | refine bN ?_ _ | refine bD ?_ | refine bA ?_ _)); exact BK212.out) hb)
            have n1_ := Aside0.mk (bB (g := gb213) (o := .cells #[.int .i64 a1_0, .int .i64 a1_1] 23 (0, 0)) (by (with_reducible repeat (first | refine bN ?_ _ | refine bD ?_ | refine bA ?_ _)); exact BK213.out) hb)
            have n2_ := Aside0.mk (bB (g := gb218) (o := .cells #[.int .i64 t215, .int .i64 t216] 23 (0, 0)) (by (with_reducible repeat (first | refine bN ?_ _ | refine bD ?_ | refine bA ?_ _)); exact BK218.out) hb)
            have n3_ := Aside0.mk (bB (g := gb222) (o := .cells #[.int .i64 t219, .int .i64 t220] 23 (0, 0)) (by (with_reducible repeat (first | refine bN ?_ _ | refine bD ?_ | refine bA ?_ _)); exact BK222.out) hb)
            have n4_ := Aside0.mk (bB (g := gb226) (o := .cells #[.int .i64 t223, .int .i64 t224] 23 (0, 0)) (by (with_reducible repeat (first | refine bN ?_ _ | refine bD ?_ | refine bA ?_ _)); exact BK226.out) hb)
            have n5_ := Aside0.mk (bB (g := gb230) (o := .cells #[.int .i64 t227, .int .i64 t228] 23 (0, 0)) (by (with_reducible repeat (first | refine bN ?_ _ | refine bD ?_ | refine bA ?_ _)); exact BK230.out) hb)
            have n6_ := Aside0.mk (bP (by repeat (first | (with_reducible first | exact HB.out | apply bL | apply bW | apply b1 | refine bS ?_ GE212.out | refine bS ?_ GE213.out | refine bS ?_ GE218.out | refine bS ?_ GE222.out | refine bS ?_ GE226.out | refine bS ?_ GE230.out) | exact HB.out)) hb)
            clear BK212
            clear BK213
            clear BK218
            clear BK222
            clear BK226
            clear BK230
            clear HB
            have BK212 := n0_
            have BK213 := n1_
            have BK218 := n2_
            have BK222 := n3_
            have BK226 := n4_
            have BK230 := n5_
            have HB := n6_
            clear n0_ n1_ n2_ n3_ n4_ n5_ n6_
            (try clear hb)
            (try clear hb2)
            (try clear hk)
            (try clear hi)
            refine hK.out _ _ ⟨(bC BK212.out 0).trans rfl, (bC BK212.out 1).trans rfl, (bC BK213.out 0).trans rfl, (bC BK213.out 1).trans rfl⟩ (fun hHeld => ?_)
            clear hK K
            refine norm_ (a' := ?_) ?_ ?_
            rotate_left
            ·
             show Act.put _ (some 131) _ = _
             simp only [Act.put, List.setIfInBounds_toArray, List.set_cons_zero, List.set_cons_succ, i64_w, i32_w]
             rfl
            refine one_ (i := 20) (N := some 133) #[true, true, true, true, true, true, true, true, true, true, true, true, true, true, true, true, true, true, true, true, true, false, false, false] rfl rfl (one_of HT_.out (by kernel_rfl)) (by decide) (fun K hK => ?_)
            refine goes_ Try.func28 (by kernel_rfl) rfl #[.agg #[.int .i64 a0_0, .int .i64 a0_1]] (by rfl) rfl rfl (by (try simp only [List.map_toArray, List.map_cons, List.map_nil]); first | done | rfl | (simp only [List.length_drop, List.length_take]; rfl)) ?_
            with_reducible refine (bourneref09_Width.calls kj133 a0_0 a0_1 t254 _ A165.out).mono ?_
            rintro e w170 ⟨rfl, hb⟩
            refine ⟨_, rfl, ?_⟩
            have n0_ := Aside0.mk (bB (g := gb212) (o := .cells #[.int .i64 a0_0, .int .i64 a0_1] 23 (0, 0)) (by (with_reducible repeat (first | refine bN ?_ _ | refine bD ?_ | refine bA ?_ _)); exact BK212.out) hb)
            have n1_ := Aside0.mk (bB (g := gb213) (o := .cells #[.int .i64 a1_0, .int .i64 a1_1] 23 (0, 0)) (by (with_reducible repeat (first | refine bN ?_ _ | refine bD ?_ | refine bA ?_ _)); exact BK213.out) hb)
            have n2_ := Aside0.mk (bB (g := gb218) (o := .cells #[.int .i64 t215, .int .i64 t216] 23 (0, 0)) (by (with_reducible repeat (first | refine bN ?_ _ | refine bD ?_ | refine bA ?_ _)); exact BK218.out) hb)
            have n3_ := Aside0.mk (bB (g := gb222) (o := .cells #[.int .i64 t219, .int .i64 t220] 23 (0, 0)) (by (with_reducible repeat (first | refine bN ?_ _ | refine bD ?_ | refine bA ?_ _)); exact BK222.out) hb)
            have n4_ := Aside0.mk (bB (g := gb226) (o := .cells #[.int .i64 t223, .int .i64 t224] 23 (0, 0)) (by (with_reducible repeat (first | refine bN ?_ _ | refine bD ?_ | refine bA ?_ _)); exact BK226.out) hb)
            have n5_ := Aside0.mk (bB (g := gb230) (o := .cells #[.int .i64 t227, .int .i64 t228] 23 (0, 0)) (by (with_reducible repeat (first | refine bN ?_ _ | refine bD ?_ | refine bA ?_ _)); exact BK230.out) hb)
            have n6_ := Aside0.mk (bP (by repeat (first | (with_reducible first | exact HB.out | apply bL | apply bW | apply b1 | refine bS ?_ GE212.out | refine bS ?_ GE213.out | refine bS ?_ GE218.out | refine bS ?_ GE222.out | refine bS ?_ GE226.out | refine bS ?_ GE230.out) | exact HB.out)) hb)
            clear BK212
            clear BK213
            clear BK218
            clear BK222
            clear BK226
            clear BK230
            clear HB
            have BK212 := n0_
            have BK213 := n1_
            have BK218 := n2_
            have BK222 := n3_
            have BK226 := n4_
            have BK230 := n5_
            have HB := n6_
            clear n0_ n1_ n2_ n3_ n4_ n5_ n6_
            (try clear hb)
            (try clear hb2)
            (try clear hk)
            (try clear hi)
            refine hK.out _ _ ⟨(bC BK212.out 0).trans rfl, (bC BK212.out 1).trans rfl, (bC BK213.out 0).trans rfl, (bC BK213.out 1).trans rfl⟩ (fun hHeld => ?_)
            clear hK K
            refine norm_ (a' := ?_) ?_ ?_
            rotate_left
            ·
             show Act.put _ (some 133) _ = _
             simp only [Act.put, List.setIfInBounds_toArray, List.set_cons_zero, List.set_cons_succ, i64_w, i32_w]
             rfl
            refine pure_ (i := 21) (N := some 134) (v := ?_) (a' := ?_) #[true, true, true, true, true, true, true, true, true, true, true, true, true, true, true, true, true, true, true, true, true, true, false, false] rfl rfl (any_of HT_.out (by kernel_rfl)) (fun _ _ _ h => h) (Or.inl ⟨by rfl, ?_⟩) ?_ ?_
            rotate_left
            ·
             intro w'
             go_simp
             with_reducible rfl
            rotate_left
            ·
             simp only [Act.put, List.setIfInBounds_toArray, List.set_cons_zero, List.set_cons_succ, i64_w, i32_w]
             rfl
            refine pure_ (i := 22) (N := some 135) (v := ?_) (a' := ?_) #[true, true, true, true, true, true, true, true, true, true, true, true, true, true, true, true, true, true, true, true, true, true, true, false] rfl rfl (any_of HT_.out (by kernel_rfl)) (fun _ _ _ h => h) (Or.inl ⟨by rfl, ?_⟩) ?_ ?_
            rotate_left
            ·
             intro w'
             go_simp
             with_reducible rfl
            rotate_left
            ·
             simp only [Act.put, List.setIfInBounds_toArray, List.set_cons_zero, List.set_cons_succ, i64_w, i32_w]
             rfl
            refine pure_ (i := 23) (N := some 10) (v := ?_) (a' := ?_) #[true, true, true, true, true, true, true, true, true, true, true, true, true, true, true, true, true, true, true, true, true, true, true, true] rfl rfl (any_of HT_.out (by kernel_rfl)) (fun _ _ _ h => h) (Or.inl ⟨by rfl, ?_⟩) ?_ ?_
            rotate_left
            ·
             intro w'
             go_simp
             with_reducible rfl
            rotate_left
            ·
             simp only [Act.put, List.setIfInBounds_toArray, List.set_cons_zero, List.set_cons_succ, i64_w, i32_w]
             rfl
            refine done_ (done_of HT_.out (by kernel_rfl)) ?_
            try go_wp2
            go_ret
            exact ⟨by first | rfl | (simp [errW_none, errW_some] <;> rfl) | (simp [*, errW_none, errW_some] <;> rfl), by repeat (first | (with_reducible first | exact HB.out | apply bL | apply bW | apply b1 | refine bS ?_ GE212.out | refine bS ?_ GE213.out | refine bS ?_ GE218.out | refine bS ?_ GE222.out | refine bS ?_ GE226.out | refine bS ?_ GE230.out) | exact HB.out)⟩
           ·
            rw [if_neg c163] at H
            have c163b0 : (t251 == t252) = false := by simpa using c163
            (try (have c163b1 : decide (t251 = t252) = false := by simpa using c163))
            (try (have c163b2 : (t251 == t252) = false := by simpa using c163))
            (try (have c163b3 : ¬ (t251 = t252) := by simpa using c163))
            clear c163
            exact absurd (H.trans (congrArg some hT.out)) (by simp)
          ·
           replace c160 := Bool.eq_false_iff.mpr c160
           subst c160
           have H1 : (some false) = some r := by rw [if_neg (show ¬ (false = true) by decide)] at H; exact H
           clear H
           have H := H1
           clear H1
           exact absurd (H.trans (congrArg some hT.out)) (by simp)
         ·
          replace c159 := Bool.eq_false_iff.mpr c159
          subst c159
          have H1 : (some false) = some r := by rw [if_neg (show ¬ (false = true) by decide)] at H; exact H
          clear H
          have H := H1
          clear H1
          exact absurd (H.trans (congrArg some hT.out)) (by simp)
        ·
         replace c158 := Bool.eq_false_iff.mpr c158
         subst c158
         have H1 : (some false) = some r := by rw [if_neg (show ¬ (false = true) by decide)] at H; exact H
         clear H
         have H := H1
         clear H1
         exact absurd (H.trans (congrArg some hT.out)) (by simp)
def bournelaw09_SpanTells.Pure : Prop := ∀ (a0_0 : Int) (a0_1 : Int) (a1_0 : Int) (a1_1 : Int) (a2 : Int) (a3 : Int) (a4 : Int), (Lit.int .i64 a0_0).wf = true → (Lit.int .i64 a0_1).wf = true → (Lit.int .i64 a1_0).wf = true → (Lit.int .i64 a1_1).wf = true → (Lit.int .i64 a2).wf = true → (Lit.int .i64 a3).wf = true → (Lit.int .i64 a4).wf = true → ∃ k, bournelaw09_SpanTells.f k a0_0 a0_1 a1_0 a1_1 a2 a3 a4 = some true
theorem bournelaw09_SpanTells.walk (P_ : bournelaw09_SpanTells.Pure) (a0_0 : Int) (a0_1 : Int) (a1_0 : Int) (a1_1 : Int) (a2 : Int) (a3 : Int) (a4 : Int) (w : World) (y0 : (Lit.int .i64 a0_0).wf = true) (y1 : (Lit.int .i64 a0_1).wf = true) (y2 : (Lit.int .i64 a1_0).wf = true) (y3 : (Lit.int .i64 a1_1).wf = true) (y4 : (Lit.int .i64 a2).wf = true) (y5 : (Lit.int .i64 a3).wf = true) (y6 : (Lit.int .i64 a4).wf = true) :
  Calls Try.prog 3 #[.agg #[.int .i64 a0_0, .int .i64 a0_1], .agg #[.int .i64 a1_0, .int .i64 a1_1], .int .i64 a2, .int .i64 a3, .int .i64 a4] w fun e w' => e = .returned (.bool true) ∧ Below w.heap.size w w' := by
 obtain ⟨k, h⟩ := P_ a0_0 a0_1 a1_0 a1_1 a2 a3 a4 y0 y1 y2 y3 y4 y5 y6
 refine (bournelaw09_SpanTells.calls k a0_0 a0_1 a1_0 a1_1 a2 a3 a4 true w ⟨rfl⟩ h).mono ?_
 rintro e w' ⟨rfl, hd⟩
 exact ⟨rfl, hd⟩

end Go.Proofs.Ythbdhlcfcfjknaa.Fn
