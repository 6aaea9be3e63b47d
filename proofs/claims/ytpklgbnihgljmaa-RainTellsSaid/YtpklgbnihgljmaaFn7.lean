-- written by this session's program myprint.py out of the translation; Lean checks it
import Derived.Test.YtpklgbnihgljmaaFn0
import Derived.Test.YtpklgbnihgljmaaFn1
import Derived.Test.YtpklgbnihgljmaaFn5
import Derived.Test.YtpklgbnihgljmaaFn6
import Derived.Test.YtpklgbnihgljmaaMesh
namespace Go.Proofs.Ytpklgbnihgljmaa.Fn
open Go.RowKit Go.Proofs.YtpklgbnihgljmaaW.PrintWords Go.Proofs.YtpklgbnihgljmaaW.PrintLast Go.Proofs.YtpklgbnihgljmaaW.PrintMore
open World renaming block_lt_of_cell? → wL
open Bool renaming true → T, false → F
open List renaming setIfInBounds_toArray → lA, set_cons_zero → lZ, set_cons_succ → lS
open Go.Proofs.YtpklgbnihgljmaaW.PrintWords renaming blk_drewN → bN, blk_drew → bD, blk_alloc → bA, below_set → bS, blk_cell → bC, blk_below → bB, blk_frozen → bF, pw_below_drewN → bW, below_drew1 → b1, below_alloc → bL, below_step → bP, below_size → bZ, blk_far → bR, blk_put → bU, blk_lt → bT
attribute [local go_sem] max2_int min2_int max_two min_two max_three min_three max_four min_four
set_option linter.unusedVariables false
set_option linter.unusedSimpArgs false
attribute [local go_sem high] eqA40
def span_Add.f (a0_0 : Int) (a0_1 : Int) (a1_0 : Int) (a1_1 : Int) : Option (Int × Int) := (exact_Add.f a0_0 a1_0).bind fun t156 => ((exact_Add.f a0_1 a1_1).bind fun t157 => (some (t156, t157)))
def span_Add.T1 : Bool × List (List Nat × List Nat) := (true, [([], []), ([0], [0]), ([], []), ([2], [2]), ([1, 3], [1, 3]), ([], []), ([5], [5]), ([], []), ([7], [7]), ([6, 8, 4], [6, 8]), ([4, 9], [4, 9]), ([10, 9, 0, 1, 2, 3, 4, 5, 6, 7, 8, 9, 10], [10])])
def span_Add.B1 : List Nat := [0, 1, 0, 4, 15, 0, 32, 0, 128, 511, 1023, 2047]
theorem span_Add.tab1 : rtab .any (opsOf Try.f24 1) = span_Add.T1 := by kernel_rfl
theorem span_Add.bits1 : waitsOk span_Add.T1.2 span_Add.B1 = true := by kernel_rfl
set_option maxHeartbeats 8000000 in
set_option maxRecDepth 100000 in
theorem span_Add.calls (a0_0 : Int) (a0_1 : Int) (a1_0 : Int) (a1_1 : Int) (r1 : Int) (r2 : Int) (w : World) (h : span_Add.f a0_0 a0_1 a1_0 a1_1 = some (r1, r2)) :
  Calls Try.prog 24 #[.agg #[.int .i64 a0_0, .int .i64 a0_1], .agg #[.int .i64 a1_0, .int .i64 a1_1]] w fun e w' => e = .returned (.agg #[.int .i64 r1, .int .i64 r2]) ∧ Below w.heap.size w w' := by
 have hu40 := Try.underlying40
 have HB := Aside0.mk (Below.refl w.heap.size w)
 have H : ((exact_Add.f a0_0 a1_0).bind fun t156 => ((exact_Add.f a0_1 a1_1).bind fun t157 => (some (t156, t157)))) = some (r1, r2) := h
 clear h; replace H := Option.bind_eq_some_iff.mp H
 obtain ⟨t156, A30, H⟩ := H
 have A3 := Aside0.mk A30
 clear A30; replace H := Option.bind_eq_some_iff.mp H
 obtain ⟨t157, A40, H⟩ := H
 have A4 := Aside0.mk A40
 clear A40; simp only [Option.some.injEq, Prod.mk.injEq] at H; obtain ⟨rfl, rfl⟩ := H
 go_enter Try.func24, Try.ntmps24
 try go_wp2_with (first | ((with_reducible refine gate_dst (N := 2) rfl ?_); refine box_event ?hg (N := 2) ?hd (cs := #[.int .i64 a0_0, .int .i64 a0_1]) (t := 40) ?hr ?_; (case hd => rfl); (case hg => rfl); (case hr => first | (go_simp; done) | (go_simp; rfl)); intro gb153 hg w5 hbox hb; have n0_ := Aside0.mk (bP (by repeat (first | (with_reducible first | exact HB.out | apply bL | apply bW | apply b1) | exact HB.out)) hb); have n1_ := Aside0.mk (hbox); have n2_ := Aside0.mk ((by rw [hg]; exact (bZ (by repeat (first | (with_reducible first | exact HB.out | apply bL | apply bW | apply b1) | exact HB.out))) : w.heap.size ≤ gb153)); have n3_ := Aside0.mk ((by rw [hg]; exact (bZ (by repeat (first | (with_reducible first | exact HB.out | apply bL | apply bW | apply b1) | exact HB.out))) : w.heap.size ≤ gb153)); clear HB; have HB := n0_; have BK153 := n1_; have GW153 := n2_; have GE153 := n3_; clear n0_ n1_ n2_ n3_; clear hb hbox hg) | ((with_reducible refine gate_dst (N := 3) rfl ?_); refine box_event ?hg (N := 3) ?hd (cs := #[.int .i64 a1_0, .int .i64 a1_1]) (t := 40) ?hr ?_; (case hd => rfl); (case hg => rfl); (case hr => first | (go_simp; done) | (go_simp; rfl)); intro gb154 hg w6 hbox hb; have n0_ := Aside0.mk (bB (g := gb153) (o := .cells #[.int .i64 a0_0, .int .i64 a0_1] 40 (0, 0)) (by (with_reducible repeat (first | refine bN ?_ _ | refine bD ?_ | refine bA ?_ _)); exact BK153.out) hb); have n1_ := Aside0.mk (bP (by repeat (first | (with_reducible first | exact HB.out | apply bL | apply bW | apply b1 | refine bS ?_ GE153.out) | exact HB.out)) hb); have n2_ := Aside0.mk (hbox); have n3_ := Aside0.mk ((by rw [hg]; exact (bZ (by repeat (first | (with_reducible first | exact HB.out | apply bL | apply bW | apply b1 | refine bS ?_ GE153.out) | exact HB.out))) : w.heap.size ≤ gb154)); have n4_ := Aside0.mk ((by rw [hg]; exact (bZ (by repeat (first | (with_reducible first | exact HB.out | apply bL | apply bW | apply b1 | refine bS ?_ GE153.out) | exact HB.out))) : w.heap.size ≤ gb154)); have n5_ := Aside0.mk ((by rw [hg]; exact Nat.ne_of_lt (bT (g := gb153) (o := .cells #[.int .i64 a0_0, .int .i64 a0_1] 40 (0, 0)) (by (with_reducible repeat (first | refine bN ?_ _ | refine bD ?_ | refine bA ?_ _)); exact BK153.out)) : gb153 ≠ gb154)); have n6_ := Aside0.mk ((by rw [hg]; exact Nat.ne_of_gt (bT (g := gb153) (o := .cells #[.int .i64 a0_0, .int .i64 a0_1] 40 (0, 0)) (by (with_reducible repeat (first | refine bN ?_ _ | refine bD ?_ | refine bA ?_ _)); exact BK153.out)) : gb154 ≠ gb153)); clear BK153; clear HB; have BK153 := n0_; have HB := n1_; have BK154 := n2_; have GW154 := n3_; have GE154 := n4_; have NB153_154 := n5_; have NB154_153 := n6_; clear n0_ n1_ n2_ n3_ n4_ n5_ n6_; clear hb hbox hg) | ((with_reducible refine gate_dst (N := 4) rfl ?_); refine box_event ?hg (N := 4) ?hd (cs := #[.int .i64 0, .int .i64 0]) (t := 40) ?hr ?_; (case hd => rfl); (case hg => rfl); (case hr => first | (go_simp; done) | (go_simp; rfl)); intro gb155 hg w7 hbox hb; have n0_ := Aside0.mk (bB (g := gb153) (o := .cells #[.int .i64 a0_0, .int .i64 a0_1] 40 (0, 0)) (by (with_reducible repeat (first | refine bN ?_ _ | refine bD ?_ | refine bA ?_ _)); exact BK153.out) hb); have n1_ := Aside0.mk (bB (g := gb154) (o := .cells #[.int .i64 a1_0, .int .i64 a1_1] 40 (0, 0)) (by (with_reducible repeat (first | refine bN ?_ _ | refine bD ?_ | refine bA ?_ _)); exact BK154.out) hb); have n2_ := Aside0.mk (bP (by repeat (first | (with_reducible first | exact HB.out | apply bL | apply bW | apply b1 | refine bS ?_ GE153.out | refine bS ?_ GE154.out) | exact HB.out)) hb); have n3_ := Aside0.mk (hbox); have n4_ := Aside0.mk ((by rw [hg]; exact (bZ (by repeat (first | (with_reducible first | exact HB.out | apply bL | apply bW | apply b1 | refine bS ?_ GE153.out | refine bS ?_ GE154.out) | exact HB.out))) : w.heap.size ≤ gb155)); have n5_ := Aside0.mk ((by rw [hg]; exact (bZ (by repeat (first | (with_reducible first | exact HB.out | apply bL | apply bW | apply b1 | refine bS ?_ GE153.out | refine bS ?_ GE154.out) | exact HB.out))) : w.heap.size ≤ gb155)); have n6_ := Aside0.mk ((by rw [hg]; exact Nat.ne_of_lt (bT (g := gb153) (o := .cells #[.int .i64 a0_0, .int .i64 a0_1] 40 (0, 0)) (by (with_reducible repeat (first | refine bN ?_ _ | refine bD ?_ | refine bA ?_ _)); exact BK153.out)) : gb153 ≠ gb155)); have n7_ := Aside0.mk ((by rw [hg]; exact Nat.ne_of_gt (bT (g := gb153) (o := .cells #[.int .i64 a0_0, .int .i64 a0_1] 40 (0, 0)) (by (with_reducible repeat (first | refine bN ?_ _ | refine bD ?_ | refine bA ?_ _)); exact BK153.out)) : gb155 ≠ gb153)); have n8_ := Aside0.mk ((by rw [hg]; exact Nat.ne_of_lt (bT (g := gb154) (o := .cells #[.int .i64 a1_0, .int .i64 a1_1] 40 (0, 0)) (by (with_reducible repeat (first | refine bN ?_ _ | refine bD ?_ | refine bA ?_ _)); exact BK154.out)) : gb154 ≠ gb155)); have n9_ := Aside0.mk ((by rw [hg]; exact Nat.ne_of_gt (bT (g := gb154) (o := .cells #[.int .i64 a1_0, .int .i64 a1_1] 40 (0, 0)) (by (with_reducible repeat (first | refine bN ?_ _ | refine bD ?_ | refine bA ?_ _)); exact BK154.out)) : gb155 ≠ gb154)); clear BK153; clear BK154; clear HB; have BK153 := n0_; have BK154 := n1_; have HB := n2_; have BK155 := n3_; have GW155 := n4_; have GE155 := n5_; have NB153_155 := n6_; have NB155_153 := n7_; have NB154_155 := n8_; have NB155_154 := n9_; clear n0_ n1_ n2_ n3_ n4_ n5_ n6_ n7_ n8_ n9_; clear hb hbox hg))
 have n0_ := Aside0.mk (bD BK153.out)
 have n1_ := Aside0.mk (bD BK154.out)
 have n2_ := Aside0.mk (bD BK155.out)
 have n3_ := Aside0.mk (b1 HB.out)
 clear BK153; clear BK154; clear BK155; clear HB; have BK153 := n0_
 have BK154 := n1_
 have BK155 := n2_
 have HB := n3_
 clear n0_ n1_ n2_ n3_; refine start_ (n := 12) (S := fun w' => w'.cell? ⟨gb153, 0, none⟩ = some (.int .i64 a0_0) ∧ w'.cell? ⟨gb153, 1, none⟩ = some (.int .i64 a0_1) ∧ w'.cell? ⟨gb154, 0, none⟩ = some (.int .i64 a1_0) ∧ w'.cell? ⟨gb154, 1, none⟩ = some (.int .i64 a1_1)) (ds := []) #[F,F,F,F,F,F,F,F,F,F,F,F] (by kernel_rfl) rfl rfl ⟨(bC BK153.out 0).trans rfl, (bC BK153.out 1).trans rfl, (bC BK154.out 0).trans rfl, (bC BK154.out 1).trans rfl⟩ (fun hHeld => ?_); refine with_tabW span_Add.tab1 span_Add.bits1 (fun HT_ HW_ => ?_)
 generalize w7.drew = w8 at BK153 BK154 BK155 HB hHeld ⊢
 refine pure_ (i := 0) (N := some 5) (v := ?_) (a' := ?_) #[T,F,F,F,F,F,F,F,F,F,F,F] rfl rfl (any_of HT_.out (by kernel_rfl)) (fun _ _ _ h => h) (Or.inl ⟨by rfl, ?_⟩) ?_ ?_
 rotate_left
 ·
  intro w'; go_simp; with_reducible rfl
 rotate_left
 ·
  simp only [Act.put, lA, lZ, lS, i64_w, i32_w]; rfl
 refine pure_ (i := 2) (N := some 7) (v := ?_) (a' := ?_) #[T,F,T,F,F,F,F,F,F,F,F,F] rfl rfl (any_of HT_.out (by kernel_rfl)) (fun _ _ _ h => h) (Or.inl ⟨by rfl, ?_⟩) ?_ ?_
 rotate_left
 ·
  intro w'; go_simp; with_reducible rfl
 rotate_left
 ·
  simp only [Act.put, lA, lZ, lS, i64_w, i32_w]; rfl
 refine pure_ (i := 5) (N := some 10) (v := ?_) (a' := ?_) #[T,F,T,F,F,T,F,F,F,F,F,F] rfl rfl (any_of HT_.out (by kernel_rfl)) (fun _ _ _ h => h) (Or.inl ⟨by rfl, ?_⟩) ?_ ?_
 rotate_left
 ·
  intro w'; go_simp; with_reducible rfl
 rotate_left
 ·
  simp only [Act.put, lA, lZ, lS, i64_w, i32_w]; rfl
 refine pure_ (i := 7) (N := some 12) (v := ?_) (a' := ?_) #[T,F,T,F,F,T,F,T,F,F,F,F] rfl rfl (any_of HT_.out (by kernel_rfl)) (fun _ _ _ h => h) (Or.inl ⟨by rfl, ?_⟩) ?_ ?_
 rotate_left
 ·
  intro w'; go_simp; with_reducible rfl
 rotate_left
 ·
  simp only [Act.put, lA, lZ, lS, i64_w, i32_w]; rfl
 refine take_ (i := 1) (N := some 6) (v := ?_) (a' := ?_) #[T,T,T,F,F,T,F,T,F,F,F,F] rfl rfl (take_ofW HT_.out HW_.out (by kernel_rfl)) (fun _ _ _ h => h) (Or.inl ⟨by rfl, ?_⟩) hHeld ?_ ?_
 rotate_left
 ·
  rintro w' ⟨s0, s1, s2, s3⟩
  go_simp; with_reducible rfl
 rotate_left
 ·
  simp only [Act.put, lA, lZ, lS, i64_w, i32_w]; rfl
 refine take_ (i := 3) (N := some 8) (v := ?_) (a' := ?_) #[T,T,T,T,F,T,F,T,F,F,F,F] rfl rfl (take_ofW HT_.out HW_.out (by kernel_rfl)) (fun _ _ _ h => h) (Or.inl ⟨by rfl, ?_⟩) hHeld ?_ ?_
 rotate_left
 ·
  rintro w' ⟨s0, s1, s2, s3⟩
  go_simp; with_reducible rfl
 rotate_left
 ·
  simp only [Act.put, lA, lZ, lS, i64_w, i32_w]; rfl
 refine take_ (i := 6) (N := some 11) (v := ?_) (a' := ?_) #[T,T,T,T,F,T,T,T,F,F,F,F] rfl rfl (take_ofW HT_.out HW_.out (by kernel_rfl)) (fun _ _ _ h => h) (Or.inl ⟨by rfl, ?_⟩) hHeld ?_ ?_
 rotate_left
 ·
  rintro w' ⟨s0, s1, s2, s3⟩
  go_simp; with_reducible rfl
 rotate_left
 ·
  simp only [Act.put, lA, lZ, lS, i64_w, i32_w]; rfl
 refine take_ (i := 8) (N := some 13) (v := ?_) (a' := ?_) #[T,T,T,T,F,T,T,T,T,F,F,F] rfl rfl (take_ofW HT_.out HW_.out (by kernel_rfl)) (fun _ _ _ h => h) (Or.inl ⟨by rfl, ?_⟩) hHeld ?_ ?_
 rotate_left
 ·
  rintro w' ⟨s0, s1, s2, s3⟩
  go_simp; with_reducible rfl
 rotate_left
 ·
  simp only [Act.put, lA, lZ, lS, i64_w, i32_w]; rfl
 refine one_ (i := 4) (N := some 9) #[T,T,T,T,T,T,T,T,T,F,F,F] rfl rfl (one_of HT_.out (by kernel_rfl)) (by decide) (fun K hK => ?_)
 refine goes_ Try.func20 (by kernel_rfl) rfl #[.int .i64 a0_0, .int .i64 a1_0] (by rfl) rfl rfl (by (try simp only [List.map_toArray, List.map_cons, List.map_nil]); first | done | rfl | (simp only [List.length_drop, List.length_take]; rfl)) ?_
 with_reducible refine (exact_Add.calls a0_0 a1_0 t156 _ A3.out).mono ?_
 rintro e w' ⟨rfl, ⟨nd, rfl⟩⟩
 refine ⟨_, rfl, ?_⟩
 refine hK.out _ _ ⟨(bC BK153.out 0).trans rfl, (bC BK153.out 1).trans rfl, (bC BK154.out 0).trans rfl, (bC BK154.out 1).trans rfl⟩ (fun hHeld => ?_)
 clear hK K; refine norm_ (a' := ?_) ?_ ?_
 rotate_left
 ·
  show Act.put _ (some 9) _ = _
  simp only [Act.put, lA, lZ, lS, i64_w, i32_w]; rfl
 refine one_ (i := 9) (N := some 14) #[T,T,T,T,T,T,T,T,T,T,F,F] rfl rfl (one_of HT_.out (by kernel_rfl)) (by decide) (fun K hK => ?_)
 refine goes_ Try.func20 (by kernel_rfl) rfl #[.int .i64 a0_1, .int .i64 a1_1] (by rfl) rfl rfl (by (try simp only [List.map_toArray, List.map_cons, List.map_nil]); first | done | rfl | (simp only [List.length_drop, List.length_take]; rfl)) ?_
 with_reducible refine (exact_Add.calls a0_1 a1_1 t157 _ A4.out).mono ?_
 rintro e w' ⟨rfl, ⟨nd, rfl⟩⟩
 refine ⟨_, rfl, ?_⟩
 refine hK.out _ _ ⟨(bC BK153.out 0).trans rfl, (bC BK153.out 1).trans rfl, (bC BK154.out 0).trans rfl, (bC BK154.out 1).trans rfl⟩ (fun hHeld => ?_)
 clear hK K; refine norm_ (a' := ?_) ?_ ?_
 rotate_left
 ·
  show Act.put _ (some 14) _ = _
  simp only [Act.put, lA, lZ, lS, i64_w, i32_w]; rfl
 refine pure_ (i := 10) (N := some 15) (v := ?_) (a' := ?_) #[T,T,T,T,T,T,T,T,T,T,T,F] rfl rfl (any_of HT_.out (by kernel_rfl)) (fun _ _ _ h => h) (Or.inl ⟨by rfl, ?_⟩) ?_ ?_
 rotate_left
 ·
  intro w'; go_simp; with_reducible rfl
 rotate_left
 ·
  simp only [Act.put, lA, lZ, lS, i64_w, i32_w]; rfl
 refine one_ (i := 11) (N := none) #[T,T,T,T,T,T,T,T,T,T,T,T] rfl rfl (one_of HT_.out (by kernel_rfl)) (by decide) (fun K hK => ?_)
 have hs9 : w8.cell? ⟨gb155, 0, none⟩ = some (.int .i64 0) := (bC BK155.out 0).trans rfl
 have hfs9 := bF BK155.out 0
 have hns9_0 := NB153_155.out
 have hns9_1 := NB154_155.out
 have hms9_0 := NB155_153.out
 have hms9_1 := NB155_154.out
 have hs10 : w8.cell? ⟨gb155, 1, none⟩ = some (.int .i64 0) := (bC BK155.out 1).trans rfl
 have hfs10 := bF BK155.out 1
 have hns10_0 := NB153_155.out
 have hns10_1 := NB154_155.out
 have hms10_0 := NB155_153.out
 have hms10_1 := NB155_154.out
 refine skip_ (w1 := ?_) (by rfl) rfl ?_ ?_
 rotate_left
 ·
  go_simp; rfl
 refine hK.out _ _ ⟨((cell_far (p := ⟨gb155, _, none⟩) NB153_155.out _).trans (((cell_far (p := ⟨gb155, _, none⟩) NB153_155.out _).trans (hHeld.1)))), ((cell_far (p := ⟨gb155, _, none⟩) NB153_155.out _).trans (((cell_far (p := ⟨gb155, _, none⟩) NB153_155.out _).trans (hHeld.2.1)))), ((cell_far (p := ⟨gb155, _, none⟩) NB154_155.out _).trans (((cell_far (p := ⟨gb155, _, none⟩) NB154_155.out _).trans (hHeld.2.2.1)))), ((cell_far (p := ⟨gb155, _, none⟩) NB154_155.out _).trans (((cell_far (p := ⟨gb155, _, none⟩) NB154_155.out _).trans (hHeld.2.2.2))))⟩ (fun hHeld => ?_)
 clear hK K; refine done_ (done_of HT_.out (by kernel_rfl)) ?_
 try go_wp2
 refine bodyPost_ret (results_cell_row rfl _ _ gb155 40 #[.int .i64 t156, .int .i64 t157] (0, 0) _ rfl (by (with_reducible repeat (first | refine bN ?_ _ | refine bD ?_ | refine bA ?_ _)); refine bU (cs := #[.int .i64 t156, .int .i64 0]) ?_ 1 _ rfl; (with_reducible repeat (first | refine bN ?_ _ | refine bD ?_ | refine bA ?_ _)); refine bU (cs := #[.int .i64 0, .int .i64 0]) ?_ 0 _ rfl; (with_reducible repeat (first | refine bN ?_ _ | refine bD ?_ | refine bA ?_ _)); exact BK155.out) Try.underlying40 rfl (by kernel_rfl)) rfl ?_
 exact ⟨by first | rfl | (simp [errW_none, errW_some] <;> rfl) | (simp [*, errW_none, errW_some] <;> rfl), by repeat (first | (with_reducible first | exact HB.out | apply bL | apply bW | apply b1 | refine bS ?_ GE153.out | refine bS ?_ GE154.out | refine bS ?_ GE155.out) | exact HB.out)⟩
def rain_Sum.l0 : Nat → List (S40) → Int → Int → Int → Int → Option (Int × Int)
 | 0, _, _, _, _, _ => none
 | k + 1, x6, x7, x8, x160000, x160001 => if x8 < x7 then (if 0 ≤ x8 then (if x8 < (x6.length : Int) then ((span_Add.f x160000 x160001 ((rd_T40 x6 x8).f0) ((rd_T40 x6 x8).f1)).bind fun bt162 => (rain_Sum.l0 k x6 x7 (wrap64 (x8 + 1)) bt162.1 bt162.2)) else (none)) else (none)) else (some (x160000, x160001))
def rain_Sum.f (k : Nat) (l0 : List (S40)) : Option (Int × Int) := rain_Sum.l0 k l0 (l0.length : Int) 0 0 0
theorem rain_Sum.mono_l : ∀ k, (∀ y0 y1 y2 y3 y4, LeO (rain_Sum.l0 k y0 y1 y2 y3 y4) (rain_Sum.l0 (k + 1) y0 y1 y2 y3 y4))
 | 0 => fun _ _ _ _ _ r h => by simp [rain_Sum.l0] at h
 | k + 1 => by
  have ih0 := rain_Sum.mono_l k
  ·
   intro y0 y1 y2 y3 y4; unfold rain_Sum.l0
   repeat' first
   | (with_reducible exact ih0 _ _ _ _ _)
   | (with_reducible exact LeO.refl _)
   | (with_reducible exact LeO.none _)
   | (with_reducible refine LeO.ite ?_ ?_)
   | (with_reducible refine LeO.bind ?_ (fun _ => ?_))
   | exact ih0 _ _ _ _ _
   | exact LeO.none _
   | refine LeO.ite ?_ ?_
   | refine LeO.bind ?_ (fun _ => ?_)
theorem rain_Sum.mono : ∀ a0 k, LeO (rain_Sum.f k a0) (rain_Sum.f (k + 1) a0) := by
 intro a0 k; have ih0 := rain_Sum.mono_l k
 unfold rain_Sum.f
 repeat' first
   | (with_reducible exact ih0 _ _ _ _ _)
   | (with_reducible exact LeO.refl _)
   | (with_reducible exact LeO.none _)
   | (with_reducible refine LeO.ite ?_ ?_)
   | (with_reducible refine LeO.bind ?_ (fun _ => ?_))
   | exact ih0 _ _ _ _ _
   | exact LeO.none _
   | refine LeO.ite ?_ ?_
   | refine LeO.bind ?_ (fun _ => ?_)
set_option maxHeartbeats 8000000 in
set_option maxRecDepth 100000 in
theorem rain_Sum.calls (k : Nat) (A0 : Option Addr) (c0 : Nat) (l0 : List (S40)) (r1 : Int) (r2 : Int) (w : World) (hr0 : Kd.C k40 w A0 l0.length l0) (hc0 : l0.length ≤ c0) (h : rain_Sum.f k l0 = some (r1, r2)) :
  Calls Try.prog 15 #[.slice A0 l0.length c0] w fun e w' => e = .returned (.agg #[.int .i64 r1, .int .i64 r2]) ∧ Below w.heap.size w w' := by
 have hu40 := Try.underlying40
 have HR0 := Aside0.mk hr0
 have HC0 := Aside0.mk hc0
 clear hr0 hc0; have HB := Aside0.mk (Below.refl w.heap.size w)
 have H : (rain_Sum.l0 k l0 (l0.length : Int) 0 0 0) = some (r1, r2) := h
 clear h; have H' := Aside0.mk H
 clear H; go_enter Try.func15, Try.ntmps15
 go_wp2_with (first | ((with_reducible refine gate_dst (N := 2) rfl ?_); refine box_event ?hg (N := 2) ?hd (cs := #[.int .i64 0, .int .i64 0]) (t := 40) ?hr ?_; (case hd => rfl); (case hg => rfl); (case hr => first | (go_simp; done) | (go_simp; rfl)); intro gb158 hg w2 hbox hb; have n0_ := Aside0.mk (bP (by repeat (first | (with_reducible first | exact HB.out | apply bL | apply bW | apply b1) | exact HB.out)) hb); have n1_ := Aside0.mk (hbox); have n2_ := Aside0.mk ((by rw [hg]; exact (bZ (by repeat (first | (with_reducible first | exact HB.out | apply bL | apply bW | apply b1) | exact HB.out))) : w.heap.size ≤ gb158)); have n3_ := Aside0.mk ((by rw [hg]; exact (bZ (by repeat (first | (with_reducible first | exact HB.out | apply bL | apply bW | apply b1) | exact HB.out))) : w.heap.size ≤ gb158)); clear HB; have HB := n0_; have BK158 := n1_; have GW158 := n2_; have GE158 := n3_; clear n0_ n1_ n2_ n3_; clear hb hbox hg) | ((with_reducible refine gate_dst (N := 3) rfl ?_); refine box_event ?hg (N := 3) ?hd (cs := #[.int .i64 0, .int .i64 0]) (t := 40) ?hr ?_; (case hd => rfl); (case hg => rfl); (case hr => first | (go_simp; done) | (go_simp; rfl)); intro gb159 hg w3 hbox hb; have n0_ := Aside0.mk (bB (g := gb158) (o := .cells #[.int .i64 0, .int .i64 0] 40 (0, 0)) (by (with_reducible repeat (first | refine bN ?_ _ | refine bD ?_ | refine bA ?_ _)); exact BK158.out) hb); have n1_ := Aside0.mk (bP (by repeat (first | (with_reducible first | exact HB.out | apply bL | apply bW | apply b1 | refine bS ?_ GE158.out) | exact HB.out)) hb); have n2_ := Aside0.mk (hbox); have n3_ := Aside0.mk ((by rw [hg]; exact (bZ (by repeat (first | (with_reducible first | exact HB.out | apply bL | apply bW | apply b1 | refine bS ?_ GE158.out) | exact HB.out))) : w.heap.size ≤ gb159)); have n4_ := Aside0.mk ((by rw [hg]; exact (bZ (by repeat (first | (with_reducible first | exact HB.out | apply bL | apply bW | apply b1 | refine bS ?_ GE158.out) | exact HB.out))) : w.heap.size ≤ gb159)); have n5_ := Aside0.mk ((by rw [hg]; exact Nat.ne_of_lt (bT (g := gb158) (o := .cells #[.int .i64 0, .int .i64 0] 40 (0, 0)) (by (with_reducible repeat (first | refine bN ?_ _ | refine bD ?_ | refine bA ?_ _)); exact BK158.out)) : gb158 ≠ gb159)); have n6_ := Aside0.mk ((by rw [hg]; exact Nat.ne_of_gt (bT (g := gb158) (o := .cells #[.int .i64 0, .int .i64 0] 40 (0, 0)) (by (with_reducible repeat (first | refine bN ?_ _ | refine bD ?_ | refine bA ?_ _)); exact BK158.out)) : gb159 ≠ gb158)); clear BK158; clear HB; have BK158 := n0_; have HB := n1_; have BK159 := n2_; have GW159 := n3_; have GE159 := n4_; have NB158_159 := n5_; have NB159_158 := n6_; clear n0_ n1_ n2_ n3_ n4_ n5_ n6_; clear hb hbox hg))
 go_loopg [8] k (fun kq v8 w' => ∃ (x8_1 : Int) (x160000_1 : Int) (x160001_1 : Int), v8 = .int .i64 x8_1 ∧ Aside0 (rain_Sum.l0 kq l0 (l0.length : Int) x8_1 x160000_1 x160001_1 = some (r1, r2)) ∧ Aside0 (kq ≤ k) ∧ Aside0 (w'.heap[gb158]? = some (.cells #[.int .i64 0, .int .i64 0] 40 (0, 0))) ∧ Aside0 (w'.heap[gb159]? = some (.cells #[.int .i64 x160000_1, .int .i64 x160001_1] 40 (0, 0))) ∧ Aside0 (Below w.heap.size w w'))
 case atStart => exact ⟨(0), (0), (0), (by first | rfl | (simp; done) | (simp [*]; done)), H', ⟨Nat.le_refl _⟩, ⟨by (with_reducible repeat (first | refine bN ?_ _ | refine bD ?_ | refine bA ?_ _)); exact BK158.out⟩, ⟨by (with_reducible repeat (first | refine bN ?_ _ | refine bD ?_ | refine bA ?_ _)); exact BK159.out⟩, ⟨by repeat (first | (with_reducible first | exact HB.out | apply bL | apply bW | apply b1 | refine bS ?_ GE158.out | refine bS ?_ GE159.out) | exact HB.out)⟩⟩
 case round =>
  clear H'; try clear c1
  try clear p2
  obtain ⟨x8_1, x160000_1, x160001_1, rfl, HA, HK1, BK158, BK159, HB⟩ := hrel
  cases gk with
  | zero => exact absurd HA.out (by simp [rain_Sum.l0])
  | succ k1 =>
   have H := HA.out
   clear HA; simp only [rain_Sum.l0] at H; by_cases c4 : x8_1 < (l0.length : Int)
   ·
    rw [if_pos c4] at H; have c4b0 : decide (x8_1 < (l0.length : Int)) = true := decide_eq_true c4
    clear c4; by_cases c5 : 0 ≤ x8_1
    ·
     rw [if_pos c5] at H; have c5b0 : decide (0 ≤ x8_1) = true := decide_eq_true c5
     clear c5; by_cases c6 : x8_1 < (l0.length : Int)
     ·
      rw [if_pos c6] at H; have c6b0 : decide (x8_1 < (l0.length : Int)) = true := decide_eq_true c6
      clear c6; replace H := Option.bind_eq_some_iff.mp H
      obtain ⟨⟨t162, t163⟩, A70, H⟩ := H
      dsimp only at H
      have A7 := Aside0.mk A70
      clear A70; have H' := Aside0.mk H
      clear H; have p160 : 0 ≤ (x8_1 : Int) := of_decide_eq_true (by first | (with_reducible assumption) | assumption)
      have q160 : x8_1 < (l0.length : Int) := of_decide_eq_true (by first | (with_reducible assumption) | assumption)
      obtain ⟨ad160, e160, hx160_0, hx160_1⟩ := at_T40 HR0.out x8_1 p160 q160
      cases e160
      replace hx160_0 := (HB.out.cell (wL w _ hx160_0)).trans hx160_0
      replace hx160_1 := (HB.out.cell (wL w _ hx160_1)).trans hx160_1
      replace p160 := eq_true p160
      replace q160 := eq_true q160
      go_wp2_with (first | ((with_reducible refine gate_dst (N := 5) rfl ?_); refine box_event ?hg (N := 5) ?hd (cs := #[.int .i64 0, .int .i64 0]) (t := 40) ?hr ?_; (case hd => rfl); (case hg => rfl); (case hr => first | (go_simp; done) | (go_simp; rfl)); intro gb161 hg w8 hbox hb; have n0_ := Aside0.mk (bB (g := gb158) (o := .cells #[.int .i64 0, .int .i64 0] 40 (0, 0)) (by (with_reducible repeat (first | refine bN ?_ _ | refine bD ?_ | refine bA ?_ _)); exact BK158.out) hb); have n1_ := Aside0.mk (bB (g := gb159) (o := .cells #[.int .i64 x160000_1, .int .i64 x160001_1] 40 (0, 0)) (by (with_reducible repeat (first | refine bN ?_ _ | refine bD ?_ | refine bA ?_ _)); exact BK159.out) hb); have n2_ := Aside0.mk (bP (by repeat (first | (with_reducible first | exact HB.out | apply bL | apply bW | apply b1 | refine bS ?_ GE158.out | refine bS ?_ GE159.out) | exact HB.out)) hb); have n3_ := Aside0.mk (hbox); have n4_ := Aside0.mk ((by rw [hg]; exact (bZ (by repeat (first | (with_reducible first | exact HB.out | apply bL | apply bW | apply b1 | refine bS ?_ GE158.out | refine bS ?_ GE159.out) | exact HB.out))) : w.heap.size ≤ gb161)); have n5_ := Aside0.mk ((by rw [hg]; exact (bZ (by repeat (first | (with_reducible first | exact HB.out | apply bL | apply bW | apply b1 | refine bS ?_ GE158.out | refine bS ?_ GE159.out) | exact HB.out))) : w.heap.size ≤ gb161)); have n6_ := Aside0.mk ((by rw [hg]; exact Nat.ne_of_lt (bT (g := gb158) (o := .cells #[.int .i64 0, .int .i64 0] 40 (0, 0)) (by (with_reducible repeat (first | refine bN ?_ _ | refine bD ?_ | refine bA ?_ _)); exact BK158.out)) : gb158 ≠ gb161)); have n7_ := Aside0.mk ((by rw [hg]; exact Nat.ne_of_gt (bT (g := gb158) (o := .cells #[.int .i64 0, .int .i64 0] 40 (0, 0)) (by (with_reducible repeat (first | refine bN ?_ _ | refine bD ?_ | refine bA ?_ _)); exact BK158.out)) : gb161 ≠ gb158)); have n8_ := Aside0.mk ((by rw [hg]; exact Nat.ne_of_lt (bT (g := gb159) (o := .cells #[.int .i64 x160000_1, .int .i64 x160001_1] 40 (0, 0)) (by (with_reducible repeat (first | refine bN ?_ _ | refine bD ?_ | refine bA ?_ _)); exact BK159.out)) : gb159 ≠ gb161)); have n9_ := Aside0.mk ((by rw [hg]; exact Nat.ne_of_gt (bT (g := gb159) (o := .cells #[.int .i64 x160000_1, .int .i64 x160001_1] 40 (0, 0)) (by (with_reducible repeat (first | refine bN ?_ _ | refine bD ?_ | refine bA ?_ _)); exact BK159.out)) : gb161 ≠ gb159)); clear BK158; clear BK159; clear HB; have BK158 := n0_; have BK159 := n1_; have HB := n2_; have BK161 := n3_; have GW161 := n4_; have GE161 := n5_; have NB158_161 := n6_; have NB161_158 := n7_; have NB159_161 := n8_; have NB161_159 := n9_; clear n0_ n1_ n2_ n3_ n4_ n5_ n6_ n7_ n8_ n9_; clear hb hbox hg; have hnb9 := NB161_158.out; have hnc9 := NB158_161.out; have hnb10 := NB161_159.out; have hnc10 := NB159_161.out; have hcz11_0 : w8.cell? ⟨gb161, 0, none⟩ = some (.int .i64 0) := (bC BK161.out 0).trans rfl; have hcz11_1 : w8.cell? ⟨gb161, 1, none⟩ = some (.int .i64 0) := (bC BK161.out 1).trans rfl; have hfz11_0 := bF BK161.out 0; have hfz11_1 := bF BK161.out 1; have hnb12 := NB159_158.out; have hnc12 := NB158_159.out; have hcz13_0 : w8.cell? ⟨gb159, 0, none⟩ = some (.int .i64 x160000_1) := (bC BK159.out 0).trans rfl; have hcz13_1 : w8.cell? ⟨gb159, 1, none⟩ = some (.int .i64 x160001_1) := (bC BK159.out 1).trans rfl; have hfz13_0 := bF BK159.out 0; have hfz13_1 := bF BK159.out 1) | ((with_reducible refine gate_callee (f := 24) rfl ?_); refine goesL_ (some 14) rfl rfl Try.func24 (by kernel_rfl) rfl #[.agg #[.int .i64 x160000_1, .int .i64 x160001_1], .agg #[.int .i64 ((rd_T40 l0 x8_1).f0), .int .i64 ((rd_T40 l0 x8_1).f1)]] rfl (by (try simp only [List.map_toArray, List.map_cons, List.map_nil]); first | done | rfl | (simp only [List.length_drop, List.length_take]; rfl)) ?_; (with_reducible refine (span_Add.calls x160000_1 x160001_1 ((rd_T40 l0 x8_1).f0) ((rd_T40 l0 x8_1).f1) t162 t163 _ A7.out).mono ?_); rintro e w14 ⟨rfl, hb⟩; refine ⟨_, rfl, ?_⟩; have n0_ := Aside0.mk (bB (g := gb158) (o := .cells #[.int .i64 0, .int .i64 0] 40 (0, 0)) (by (with_reducible repeat (first | refine bN ?_ _ | refine bD ?_ | refine bA ?_ _)); refine bR ?_ NB158_161.out _; (with_reducible repeat (first | refine bN ?_ _ | refine bD ?_ | refine bA ?_ _)); refine bR ?_ NB158_161.out _; (with_reducible repeat (first | refine bN ?_ _ | refine bD ?_ | refine bA ?_ _)); exact BK158.out) hb); have n1_ := Aside0.mk (bB (g := gb159) (o := .cells #[.int .i64 x160000_1, .int .i64 x160001_1] 40 (0, 0)) (by (with_reducible repeat (first | refine bN ?_ _ | refine bD ?_ | refine bA ?_ _)); refine bR ?_ NB159_161.out _; (with_reducible repeat (first | refine bN ?_ _ | refine bD ?_ | refine bA ?_ _)); refine bR ?_ NB159_161.out _; (with_reducible repeat (first | refine bN ?_ _ | refine bD ?_ | refine bA ?_ _)); exact BK159.out) hb); have n2_ := Aside0.mk (bB (g := gb161) (o := .cells #[.int .i64 ((rd_T40 l0 x8_1).f0), .int .i64 ((rd_T40 l0 x8_1).f1)] 40 (0, 0)) (by (with_reducible repeat (first | refine bN ?_ _ | refine bD ?_ | refine bA ?_ _)); refine bU (cs := #[.int .i64 ((rd_T40 l0 x8_1).f0), .int .i64 0]) ?_ 1 _ rfl; (with_reducible repeat (first | refine bN ?_ _ | refine bD ?_ | refine bA ?_ _)); refine bU (cs := #[.int .i64 0, .int .i64 0]) ?_ 0 _ rfl; (with_reducible repeat (first | refine bN ?_ _ | refine bD ?_ | refine bA ?_ _)); exact BK161.out) hb); have n3_ := Aside0.mk (bP (by repeat (first | (with_reducible first | exact HB.out | apply bL | apply bW | apply b1 | refine bS ?_ GE158.out | refine bS ?_ GE159.out | refine bS ?_ GE161.out) | exact HB.out)) hb); clear BK158; clear BK159; clear BK161; clear HB; have BK158 := n0_; have BK159 := n1_; have BK161 := n2_; have HB := n3_; clear n0_ n1_ n2_ n3_; (try clear hb); (try clear hb2); (try clear hk); (try clear hi); have hcz15_0 : w14.cell? ⟨gb159, 0, none⟩ = some (.int .i64 x160000_1) := (bC BK159.out 0).trans rfl; have hcz15_1 : w14.cell? ⟨gb159, 1, none⟩ = some (.int .i64 x160001_1) := (bC BK159.out 1).trans rfl; have hfz15_0 := bF BK159.out 0; have hfz15_1 := bF BK159.out 1))
      go_roundg k1
      case measure => have := HK1.out; omega
      case rel => exact ⟨(wrap64 (x8_1 + 1)), (t162), (t163), (by first | rfl | (simp; done) | (simp [*]; done)), H', ⟨by have := HK1.out; omega⟩, ⟨by (with_reducible repeat (first | refine bN ?_ _ | refine bD ?_ | refine bA ?_ _)); refine bR ?_ NB158_159.out _; (with_reducible repeat (first | refine bN ?_ _ | refine bD ?_ | refine bA ?_ _)); refine bR ?_ NB158_159.out _; (with_reducible repeat (first | refine bN ?_ _ | refine bD ?_ | refine bA ?_ _)); exact BK158.out⟩, ⟨by (with_reducible repeat (first | refine bN ?_ _ | refine bD ?_ | refine bA ?_ _)); refine bU (cs := #[.int .i64 t162, .int .i64 x160001_1]) ?_ 1 _ rfl; (with_reducible repeat (first | refine bN ?_ _ | refine bD ?_ | refine bA ?_ _)); refine bU (cs := #[.int .i64 x160000_1, .int .i64 x160001_1]) ?_ 0 _ rfl; (with_reducible repeat (first | refine bN ?_ _ | refine bD ?_ | refine bA ?_ _)); exact BK159.out⟩, ⟨by repeat (first | (with_reducible first | exact HB.out | apply bL | apply bW | apply b1 | refine bS ?_ GE158.out | refine bS ?_ GE159.out | refine bS ?_ GE161.out) | exact HB.out)⟩⟩
     ·
      rw [if_neg c6] at H; exact absurd H (by simp)
    ·
     rw [if_neg c5] at H; exact absurd H (by simp)
   ·
    rw [if_neg c4] at H; have c4b0 : decide (x8_1 < (l0.length : Int)) = false := decide_eq_false c4
    clear c4; simp only [Option.some.injEq, Prod.mk.injEq] at H; obtain ⟨rfl, rfl⟩ := H
    have hnb16 := NB159_158.out
    have hnc16 := NB158_159.out
    have hcz17_0 : wr.cell? ⟨gb159, 0, none⟩ = some (.int .i64 x160000_1) := (bC BK159.out 0).trans rfl
    have hcz17_1 : wr.cell? ⟨gb159, 1, none⟩ = some (.int .i64 x160001_1) := (bC BK159.out 1).trans rfl
    have hfz17_0 := bF BK159.out 0
    have hfz17_1 := bF BK159.out 1
    have hcz18_0 : wr.cell? ⟨gb158, 0, none⟩ = some (.int .i64 0) := (bC BK158.out 0).trans rfl
    have hcz18_1 : wr.cell? ⟨gb158, 1, none⟩ = some (.int .i64 0) := (bC BK158.out 1).trans rfl
    have hfz18_0 := bF BK158.out 0
    have hfz18_1 := bF BK158.out 1
    go_wp2
    refine bodyPost_ret (results_cell_row rfl _ _ gb158 40 #[.int .i64 x160000_1, .int .i64 x160001_1] (0, 0) _ rfl (by (with_reducible repeat (first | refine bN ?_ _ | refine bD ?_ | refine bA ?_ _)); refine bU (cs := #[.int .i64 x160000_1, .int .i64 0]) ?_ 1 _ rfl; (with_reducible repeat (first | refine bN ?_ _ | refine bD ?_ | refine bA ?_ _)); refine bU (cs := #[.int .i64 0, .int .i64 0]) ?_ 0 _ rfl; (with_reducible repeat (first | refine bN ?_ _ | refine bD ?_ | refine bA ?_ _)); exact BK158.out) Try.underlying40 rfl (by kernel_rfl)) rfl ?_
    exact ⟨by first | rfl | (simp [errW_none, errW_some] <;> rfl) | (simp [*, errW_none, errW_some] <;> rfl), by repeat (first | (with_reducible first | exact HB.out | apply bL | apply bW | apply b1 | refine bS ?_ GE158.out | refine bS ?_ GE159.out) | exact HB.out)⟩
def bournelaw26_small0.j0 : Nat → List (S40) → Bool → ByteArray → Int → List (S56) → List (S67) → Int → Option (Bool)
 | 0, _, _, _, _, _, _, _ => none
 | k + 1, x2, x44, x174000, x174002, x174003, x174006, x174010 => if x44 = true then (some false) else ((rain_Mesh.f k x174000 ([] : List ByteArray) x174002 x174003 ([] : List (S104)) ([] : List (S106)) x174006 ([] : List (S108)) ([] : List (S110)) ([] : List Int) x174010 x2).bind fun t191 => (if (t191.length : Int) = 1 then (if 0 < (t191.length : Int) then (if (((rd_T40 t191 0).f0) == 8000 && (((rd_T40 t191 0).f1) == 12000)) = true then (if t191.length + t191.length < 8796093022208 then ((rain_Sum.f k (t191 ++ t191)).bind fun bt198 => (some (bt198.1 == 16000 && (bt198.2 == 24000)))) else (none)) else (some false)) else (none)) else (some false)))
def bournelaw26_small0.f (k : Nat)  : Option (Bool) := (some (([(⟨(⟨#[]⟩ : ByteArray), 0, 0, 0, ([] : List (S112)), ([] : List Int), 0, 0, 0, 0, 0, (([(⟨0, 1000⟩ : S63)] : List (S63)))⟩ : S56)] : List (S56)) : List (S56))).bind fun y167 => ((some (([(⟨(⟨#[]⟩ : ByteArray), 1, 0, 0, 0⟩ : S67)] : List (S67)) : List (S67))).bind fun y170 => ((rain_Cells.f k (⟨#[]⟩ : ByteArray) ([] : List ByteArray) 1 y167 ([] : List (S104)) ([] : List (S106)) y170 ([] : List (S108)) ([] : List (S110)) ([] : List Int) 0 (([10] : List Int)) 200 ([] : List (S50))).bind fun t177 => ((rain_Cells.f k (⟨#[]⟩ : ByteArray) ([] : List ByteArray) 1 y167 ([] : List (S104)) ([] : List (S106)) y170 ([] : List (S108)) ([] : List (S110)) ([] : List Int) 0 (([10] : List Int)) 200 (([(⟨0, 0, (⟨9, 20⟩ : S40)⟩ : S50), (⟨0, 0, (⟨13, 15⟩ : S40)⟩ : S50)] : List (S50)))).bind fun t186 => (if (t177.length : Int) = 1 then (if (t186.length : Int) = 1 then (if 0 < (t177.length : Int) then (if (!(((rd_T40 t177 0).f0) == 8) || (!(((rd_T40 t177 0).f1) == 12))) = true then (bournelaw26_small0.j0 k t177 true (⟨#[]⟩ : ByteArray) 1 y167 y170 0) else (if 0 < (t186.length : Int) then (bournelaw26_small0.j0 k t177 (!(((rd_T40 t186 0).f0) == 9) || (!(((rd_T40 t186 0).f1) == 12))) (⟨#[]⟩ : ByteArray) 1 y167 y170 0) else (none))) else (none)) else (bournelaw26_small0.j0 k t177 true (⟨#[]⟩ : ByteArray) 1 y167 y170 0)) else (bournelaw26_small0.j0 k t177 true (⟨#[]⟩ : ByteArray) 1 y167 y170 0)))))
theorem bournelaw26_small0.mono_l : ∀ k, (∀ y0 y1 y2 y3 y4 y5 y6, LeO (bournelaw26_small0.j0 k y0 y1 y2 y3 y4 y5 y6) (bournelaw26_small0.j0 (k + 1) y0 y1 y2 y3 y4 y5 y6))
 | 0 => fun _ _ _ _ _ _ _ r h => by simp [bournelaw26_small0.j0] at h
 | k + 1 => by
  have ih0 := bournelaw26_small0.mono_l k
  ·
   intro y0 y1 y2 y3 y4 y5 y6; unfold bournelaw26_small0.j0
   repeat' first
   | (with_reducible exact ih0 _ _ _ _ _ _ _)
   | (with_reducible exact rain_Cells.mono _ _ _ _ _ _ _ _ _ _ _ _ _ _ _)
   | (with_reducible exact rain_Mesh.mono _ _ _ _ _ _ _ _ _ _ _ _ _)
   | (with_reducible exact rain_Sum.mono _ _)
   | (with_reducible exact LeO.refl _)
   | (with_reducible exact LeO.none _)
   | (with_reducible refine LeO.ite ?_ ?_)
   | (with_reducible refine LeO.bind ?_ (fun _ => ?_))
   | exact ih0 _ _ _ _ _ _ _
   | exact rain_Cells.mono _ _ _ _ _ _ _ _ _ _ _ _ _ _ _
   | exact rain_Mesh.mono _ _ _ _ _ _ _ _ _ _ _ _ _
   | exact rain_Sum.mono _ _
   | exact LeO.none _
   | refine LeO.ite ?_ ?_
   | refine LeO.bind ?_ (fun _ => ?_)
theorem bournelaw26_small0.mono : ∀ k, LeO (bournelaw26_small0.f k ) (bournelaw26_small0.f (k + 1) ) := by
 intro  k; have ih0 := bournelaw26_small0.mono_l k
 unfold bournelaw26_small0.f
 repeat' first
   | (with_reducible exact ih0 _ _ _ _ _ _ _)
   | (with_reducible exact rain_Cells.mono _ _ _ _ _ _ _ _ _ _ _ _ _ _ _)
   | (with_reducible exact rain_Mesh.mono _ _ _ _ _ _ _ _ _ _ _ _ _)
   | (with_reducible exact rain_Sum.mono _ _)
   | (with_reducible exact LeO.refl _)
   | (with_reducible exact LeO.none _)
   | (with_reducible refine LeO.ite ?_ ?_)
   | (with_reducible refine LeO.bind ?_ (fun _ => ?_))
   | exact ih0 _ _ _ _ _ _ _
   | exact rain_Cells.mono _ _ _ _ _ _ _ _ _ _ _ _ _ _ _
   | exact rain_Mesh.mono _ _ _ _ _ _ _ _ _ _ _ _ _
   | exact rain_Sum.mono _ _
   | exact LeO.none _
   | refine LeO.ite ?_ ?_
   | refine LeO.bind ?_ (fun _ => ?_)
set_option maxHeartbeats 8000000 in
set_option maxRecDepth 100000 in
theorem bournelaw26_small0.calls (k : Nat)  (r : Bool) (w : World) (hT : Aside0 (r = true)) (h : bournelaw26_small0.f k  = some r) :
  Calls Try.prog 8 #[] w fun e w' => e = .returned (.bool r) ∧ Below w.heap.size w w' := by
 have hu63 := Try.underlying63
 have hu56 := Try.underlying56
 have hu67 := Try.underlying67
 have hu31 := Try.underlying31
 have hu40 := Try.underlying40
 have hu50 := Try.underlying50
 have HB := Aside0.mk (Below.refl w.heap.size w)
 have H : ((some (([(⟨(⟨#[]⟩ : ByteArray), 0, 0, 0, ([] : List (S112)), ([] : List Int), 0, 0, 0, 0, 0, (([(⟨0, 1000⟩ : S63)] : List (S63)))⟩ : S56)] : List (S56)) : List (S56))).bind fun y167 => ((some (([(⟨(⟨#[]⟩ : ByteArray), 1, 0, 0, 0⟩ : S67)] : List (S67)) : List (S67))).bind fun y170 => ((rain_Cells.f k (⟨#[]⟩ : ByteArray) ([] : List ByteArray) 1 y167 ([] : List (S104)) ([] : List (S106)) y170 ([] : List (S108)) ([] : List (S110)) ([] : List Int) 0 (([10] : List Int)) 200 ([] : List (S50))).bind fun t177 => ((rain_Cells.f k (⟨#[]⟩ : ByteArray) ([] : List ByteArray) 1 y167 ([] : List (S104)) ([] : List (S106)) y170 ([] : List (S108)) ([] : List (S110)) ([] : List Int) 0 (([10] : List Int)) 200 (([(⟨0, 0, (⟨9, 20⟩ : S40)⟩ : S50), (⟨0, 0, (⟨13, 15⟩ : S40)⟩ : S50)] : List (S50)))).bind fun t186 => (if (t177.length : Int) = 1 then (if (t186.length : Int) = 1 then (if 0 < (t177.length : Int) then (if (!(((rd_T40 t177 0).f0) == 8) || (!(((rd_T40 t177 0).f1) == 12))) = true then (bournelaw26_small0.j0 k t177 true (⟨#[]⟩ : ByteArray) 1 y167 y170 0) else (if 0 < (t186.length : Int) then (bournelaw26_small0.j0 k t177 (!(((rd_T40 t186 0).f0) == 9) || (!(((rd_T40 t186 0).f1) == 12))) (⟨#[]⟩ : ByteArray) 1 y167 y170 0) else (none))) else (none)) else (bournelaw26_small0.j0 k t177 true (⟨#[]⟩ : ByteArray) 1 y167 y170 0)) else (bournelaw26_small0.j0 k t177 true (⟨#[]⟩ : ByteArray) 1 y167 y170 0)))))) = some r := h
 clear h; obtain ⟨y164, hy164⟩ : ∃ y_ : List (S63), y_ = (([(⟨0, 1000⟩ : S63)] : List (S63))) := ⟨_, rfl⟩
 replace H : ((some (([(⟨(⟨#[]⟩ : ByteArray), 0, 0, 0, ([] : List (S112)), ([] : List Int), 0, 0, 0, 0, 0, y164⟩ : S56)] : List (S56)) : List (S56))).bind fun y167 => ((some (([(⟨(⟨#[]⟩ : ByteArray), 1, 0, 0, 0⟩ : S67)] : List (S67)) : List (S67))).bind fun y170 => ((rain_Cells.f k (⟨#[]⟩ : ByteArray) ([] : List ByteArray) 1 y167 ([] : List (S104)) ([] : List (S106)) y170 ([] : List (S108)) ([] : List (S110)) ([] : List Int) 0 (([10] : List Int)) 200 ([] : List (S50))).bind fun t177 => ((rain_Cells.f k (⟨#[]⟩ : ByteArray) ([] : List ByteArray) 1 y167 ([] : List (S104)) ([] : List (S106)) y170 ([] : List (S108)) ([] : List (S110)) ([] : List Int) 0 (([10] : List Int)) 200 (([(⟨0, 0, (⟨9, 20⟩ : S40)⟩ : S50), (⟨0, 0, (⟨13, 15⟩ : S40)⟩ : S50)] : List (S50)))).bind fun t186 => (if (t177.length : Int) = 1 then (if (t186.length : Int) = 1 then (if 0 < (t177.length : Int) then (if (!(((rd_T40 t177 0).f0) == 8) || (!(((rd_T40 t177 0).f1) == 12))) = true then (bournelaw26_small0.j0 k t177 true (⟨#[]⟩ : ByteArray) 1 y167 y170 0) else (if 0 < (t186.length : Int) then (bournelaw26_small0.j0 k t177 (!(((rd_T40 t186 0).f0) == 9) || (!(((rd_T40 t186 0).f1) == 12))) (⟨#[]⟩ : ByteArray) 1 y167 y170 0) else (none))) else (none)) else (bournelaw26_small0.j0 k t177 true (⟨#[]⟩ : ByteArray) 1 y167 y170 0)) else (bournelaw26_small0.j0 k t177 true (⟨#[]⟩ : ByteArray) 1 y167 y170 0)))))) = some r := by first | (rw [hy164]; with_reducible exact H) | (have H2_ := (Option.bind_some _ _).symm.trans H; rw [hy164]; with_reducible exact H2_) | (have H2_ := (Option.bind_some _ _).symm.trans H; with_reducible exact H2_) | with_reducible exact H | (rw [hy164]; exact H) | exact H
 have Ny164 := Aside0.mk hy164
 clear hy164; obtain ⟨y167, hy167⟩ : ∃ y_ : List (S56), y_ = (([(⟨(⟨#[]⟩ : ByteArray), 0, 0, 0, ([] : List (S112)), ([] : List Int), 0, 0, 0, 0, 0, y164⟩ : S56)] : List (S56))) := ⟨_, rfl⟩
 replace H : ((some (([(⟨(⟨#[]⟩ : ByteArray), 1, 0, 0, 0⟩ : S67)] : List (S67)) : List (S67))).bind fun y170 => ((rain_Cells.f k (⟨#[]⟩ : ByteArray) ([] : List ByteArray) 1 y167 ([] : List (S104)) ([] : List (S106)) y170 ([] : List (S108)) ([] : List (S110)) ([] : List Int) 0 (([10] : List Int)) 200 ([] : List (S50))).bind fun t177 => ((rain_Cells.f k (⟨#[]⟩ : ByteArray) ([] : List ByteArray) 1 y167 ([] : List (S104)) ([] : List (S106)) y170 ([] : List (S108)) ([] : List (S110)) ([] : List Int) 0 (([10] : List Int)) 200 (([(⟨0, 0, (⟨9, 20⟩ : S40)⟩ : S50), (⟨0, 0, (⟨13, 15⟩ : S40)⟩ : S50)] : List (S50)))).bind fun t186 => (if (t177.length : Int) = 1 then (if (t186.length : Int) = 1 then (if 0 < (t177.length : Int) then (if (!(((rd_T40 t177 0).f0) == 8) || (!(((rd_T40 t177 0).f1) == 12))) = true then (bournelaw26_small0.j0 k t177 true (⟨#[]⟩ : ByteArray) 1 y167 y170 0) else (if 0 < (t186.length : Int) then (bournelaw26_small0.j0 k t177 (!(((rd_T40 t186 0).f0) == 9) || (!(((rd_T40 t186 0).f1) == 12))) (⟨#[]⟩ : ByteArray) 1 y167 y170 0) else (none))) else (none)) else (bournelaw26_small0.j0 k t177 true (⟨#[]⟩ : ByteArray) 1 y167 y170 0)) else (bournelaw26_small0.j0 k t177 true (⟨#[]⟩ : ByteArray) 1 y167 y170 0))))) = some r := by first | (rw [hy167]; with_reducible exact H) | (have H2_ := (Option.bind_some _ _).symm.trans H; rw [hy167]; with_reducible exact H2_) | (have H2_ := (Option.bind_some _ _).symm.trans H; with_reducible exact H2_) | with_reducible exact H | (rw [hy167]; exact H) | exact H
 have Ny167 := Aside0.mk hy167
 clear hy167; obtain ⟨y170, hy170⟩ : ∃ y_ : List (S67), y_ = (([(⟨(⟨#[]⟩ : ByteArray), 1, 0, 0, 0⟩ : S67)] : List (S67))) := ⟨_, rfl⟩
 replace H : ((rain_Cells.f k (⟨#[]⟩ : ByteArray) ([] : List ByteArray) 1 y167 ([] : List (S104)) ([] : List (S106)) y170 ([] : List (S108)) ([] : List (S110)) ([] : List Int) 0 (([10] : List Int)) 200 ([] : List (S50))).bind fun t177 => ((rain_Cells.f k (⟨#[]⟩ : ByteArray) ([] : List ByteArray) 1 y167 ([] : List (S104)) ([] : List (S106)) y170 ([] : List (S108)) ([] : List (S110)) ([] : List Int) 0 (([10] : List Int)) 200 (([(⟨0, 0, (⟨9, 20⟩ : S40)⟩ : S50), (⟨0, 0, (⟨13, 15⟩ : S40)⟩ : S50)] : List (S50)))).bind fun t186 => (if (t177.length : Int) = 1 then (if (t186.length : Int) = 1 then (if 0 < (t177.length : Int) then (if (!(((rd_T40 t177 0).f0) == 8) || (!(((rd_T40 t177 0).f1) == 12))) = true then (bournelaw26_small0.j0 k t177 true (⟨#[]⟩ : ByteArray) 1 y167 y170 0) else (if 0 < (t186.length : Int) then (bournelaw26_small0.j0 k t177 (!(((rd_T40 t186 0).f0) == 9) || (!(((rd_T40 t186 0).f1) == 12))) (⟨#[]⟩ : ByteArray) 1 y167 y170 0) else (none))) else (none)) else (bournelaw26_small0.j0 k t177 true (⟨#[]⟩ : ByteArray) 1 y167 y170 0)) else (bournelaw26_small0.j0 k t177 true (⟨#[]⟩ : ByteArray) 1 y167 y170 0)))) = some r := by first | (rw [hy170]; with_reducible exact H) | (have H2_ := (Option.bind_some _ _).symm.trans H; rw [hy170]; with_reducible exact H2_) | (have H2_ := (Option.bind_some _ _).symm.trans H; with_reducible exact H2_) | with_reducible exact H | (rw [hy170]; exact H) | exact H
 have Ny170 := Aside0.mk hy170
 clear hy170; obtain ⟨y174, hy174⟩ : ∃ y_ : List Int, y_ = (([10] : List Int)) := ⟨_, rfl⟩
 replace H : ((rain_Cells.f k (⟨#[]⟩ : ByteArray) ([] : List ByteArray) 1 y167 ([] : List (S104)) ([] : List (S106)) y170 ([] : List (S108)) ([] : List (S110)) ([] : List Int) 0 y174 200 ([] : List (S50))).bind fun t177 => ((rain_Cells.f k (⟨#[]⟩ : ByteArray) ([] : List ByteArray) 1 y167 ([] : List (S104)) ([] : List (S106)) y170 ([] : List (S108)) ([] : List (S110)) ([] : List Int) 0 (([10] : List Int)) 200 (([(⟨0, 0, (⟨9, 20⟩ : S40)⟩ : S50), (⟨0, 0, (⟨13, 15⟩ : S40)⟩ : S50)] : List (S50)))).bind fun t186 => (if (t177.length : Int) = 1 then (if (t186.length : Int) = 1 then (if 0 < (t177.length : Int) then (if (!(((rd_T40 t177 0).f0) == 8) || (!(((rd_T40 t177 0).f1) == 12))) = true then (bournelaw26_small0.j0 k t177 true (⟨#[]⟩ : ByteArray) 1 y167 y170 0) else (if 0 < (t186.length : Int) then (bournelaw26_small0.j0 k t177 (!(((rd_T40 t186 0).f0) == 9) || (!(((rd_T40 t186 0).f1) == 12))) (⟨#[]⟩ : ByteArray) 1 y167 y170 0) else (none))) else (none)) else (bournelaw26_small0.j0 k t177 true (⟨#[]⟩ : ByteArray) 1 y167 y170 0)) else (bournelaw26_small0.j0 k t177 true (⟨#[]⟩ : ByteArray) 1 y167 y170 0)))) = some r := by first | (rw [hy174]; with_reducible exact H) | (have H2_ := (Option.bind_some _ _).symm.trans H; rw [hy174]; with_reducible exact H2_) | (have H2_ := (Option.bind_some _ _).symm.trans H; with_reducible exact H2_) | with_reducible exact H | (rw [hy174]; exact H) | exact H
 have Ny174 := Aside0.mk hy174
 clear hy174; replace H := Option.bind_eq_some_iff.mp H
 obtain ⟨t177, A10, H⟩ := H
 have A1 := Aside0.mk A10
 clear A10; obtain ⟨y180, hy180⟩ : ∃ y_ : List Int, y_ = (([10] : List Int)) := ⟨_, rfl⟩
 replace H : ((rain_Cells.f k (⟨#[]⟩ : ByteArray) ([] : List ByteArray) 1 y167 ([] : List (S104)) ([] : List (S106)) y170 ([] : List (S108)) ([] : List (S110)) ([] : List Int) 0 y180 200 (([(⟨0, 0, (⟨9, 20⟩ : S40)⟩ : S50), (⟨0, 0, (⟨13, 15⟩ : S40)⟩ : S50)] : List (S50)))).bind fun t186 => (if (t177.length : Int) = 1 then (if (t186.length : Int) = 1 then (if 0 < (t177.length : Int) then (if (!(((rd_T40 t177 0).f0) == 8) || (!(((rd_T40 t177 0).f1) == 12))) = true then (bournelaw26_small0.j0 k t177 true (⟨#[]⟩ : ByteArray) 1 y167 y170 0) else (if 0 < (t186.length : Int) then (bournelaw26_small0.j0 k t177 (!(((rd_T40 t186 0).f0) == 9) || (!(((rd_T40 t186 0).f1) == 12))) (⟨#[]⟩ : ByteArray) 1 y167 y170 0) else (none))) else (none)) else (bournelaw26_small0.j0 k t177 true (⟨#[]⟩ : ByteArray) 1 y167 y170 0)) else (bournelaw26_small0.j0 k t177 true (⟨#[]⟩ : ByteArray) 1 y167 y170 0))) = some r := by first | (rw [hy180]; with_reducible exact H) | (have H2_ := (Option.bind_some _ _).symm.trans H; rw [hy180]; with_reducible exact H2_) | (have H2_ := (Option.bind_some _ _).symm.trans H; with_reducible exact H2_) | with_reducible exact H | (rw [hy180]; exact H) | exact H
 have Ny180 := Aside0.mk hy180
 clear hy180; obtain ⟨y183, hy183⟩ : ∃ y_ : List (S50), y_ = (([(⟨0, 0, (⟨9, 20⟩ : S40)⟩ : S50), (⟨0, 0, (⟨13, 15⟩ : S40)⟩ : S50)] : List (S50))) := ⟨_, rfl⟩
 replace H : ((rain_Cells.f k (⟨#[]⟩ : ByteArray) ([] : List ByteArray) 1 y167 ([] : List (S104)) ([] : List (S106)) y170 ([] : List (S108)) ([] : List (S110)) ([] : List Int) 0 y180 200 y183).bind fun t186 => (if (t177.length : Int) = 1 then (if (t186.length : Int) = 1 then (if 0 < (t177.length : Int) then (if (!(((rd_T40 t177 0).f0) == 8) || (!(((rd_T40 t177 0).f1) == 12))) = true then (bournelaw26_small0.j0 k t177 true (⟨#[]⟩ : ByteArray) 1 y167 y170 0) else (if 0 < (t186.length : Int) then (bournelaw26_small0.j0 k t177 (!(((rd_T40 t186 0).f0) == 9) || (!(((rd_T40 t186 0).f1) == 12))) (⟨#[]⟩ : ByteArray) 1 y167 y170 0) else (none))) else (none)) else (bournelaw26_small0.j0 k t177 true (⟨#[]⟩ : ByteArray) 1 y167 y170 0)) else (bournelaw26_small0.j0 k t177 true (⟨#[]⟩ : ByteArray) 1 y167 y170 0))) = some r := by first | (rw [hy183]; with_reducible exact H) | (have H2_ := (Option.bind_some _ _).symm.trans H; rw [hy183]; with_reducible exact H2_) | (have H2_ := (Option.bind_some _ _).symm.trans H; with_reducible exact H2_) | with_reducible exact H | (rw [hy183]; exact H) | exact H
 have Ny183 := Aside0.mk hy183
 clear hy183; replace H := Option.bind_eq_some_iff.mp H
 obtain ⟨t186, A20, H⟩ := H
 have A2 := Aside0.mk A20
 clear A20; have HC3 := Aside0.mk H
 clear H; go_enter Try.func8, Try.ntmps8
 (try simp only [List.append_eq, List.cons_append, List.nil_append]); go_upto_region 4 with (first | ((with_reducible refine gate_dst (N := 6) rfl ?_); (try (refine gate_guard (by rfl) ?_; dsimp only)); refine Kd.R_lit k63 _ 63 ?hg (N := 6) ?hd (xs := ([(⟨0, 1000⟩ : S63)] : List (S63))) (inner := [.int .i64 0, .int .i64 1000]) (ok := fun _ => True) (okp := fun _ => True) ?hr ?hp (fun _ hk => hk) trivial (Below.refl _ _) (Nat.le_refl _) (by simp) ?_; (case hd => rfl); (case hg => rfl); (case hr => first | (go_simp; done) | (go_simp; rfl)); (case hp => exact (Reps.c2 (show Kd.M k63 _ _ _ (⟨0, 1000⟩ : S63) [.int .i64 0, .int .i64 1000] from (k63_mkM _ _ _ (⟨0, 1000⟩ : S63) )) (Reps.none _ _))); intro v165 w4 ho5 hb hg_ hnew_; clear hg_ hnew_; (first | rw [← Ny164.out] at ho5 | (simp only [Int.reduceToNat] at ho5; rw [← Ny164.out] at ho5)); have n0_ := Aside0.mk (Kd.R_lower ho5 (bZ (by repeat (first | (with_reducible first | exact HB.out | apply bL | apply bW | apply b1) | exact HB.out)))); have n1_ := Aside0.mk (bP (by repeat (first | (with_reducible first | exact HB.out | apply bL | apply bW | apply b1) | exact HB.out)) hb); clear HB; have HO166 := n0_; have HB := n1_; clear n0_ n1_; clear hb ho5; obtain ⟨Ao6, co6, eo6⟩ := Kd.R_slice HO166.out; subst eo6) | ((with_reducible refine gate_dst (N := 8) rfl ?_); (try (refine gate_guard (by rfl) ?_; dsimp only)); refine Kd.N_lit k56 _ 56 ?hg (N' := 8) ?hd (xs := ([(⟨(⟨#[]⟩ : ByteArray), 0, 0, 0, ([] : List (S112)), ([] : List Int), 0, 0, 0, 0, 0, y164⟩ : S56)] : List (S56))) (inner := [.string (⟨#[]⟩ : ByteArray), .int .i64 0, .int .i64 0, .int .i64 0, .slice none 0 0, .slice none 0 0, .int .i64 0, .int .i64 0, .int .i64 0, .int .i64 0, .int .i64 0, .slice Ao6 y164.length co6]) (ok := (fun _ => True)) (okp := (fun _ => True)) ?hr ?hp (fun _ hk => hk) ((show ∀ k_, w4.heap.size ≤ k_ → (fun _ => True) k_ from fun k_ hk => trivial) _ (Nat.le_refl _)) (Below.refl _ _) (Nat.le_refl _) (by simp) ?_; (case hd => rfl); (case hg => rfl); (case hr => first | (go_simp; done) | (go_simp; rfl)); (case hp => exact (Reps.front (show Kd.FK k56 _ _ (⟨(⟨#[]⟩ : ByteArray), 0, 0, 0, ([] : List (S112)), ([] : List Int), 0, 0, 0, 0, 0, y164⟩ : S56) [.string (⟨#[]⟩ : ByteArray), .int .i64 0, .int .i64 0, .int .i64 0, .slice none 0 0, .slice none 0 0, .int .i64 0, .int .i64 0, .int .i64 0, .int .i64 0, .int .i64 0, .slice Ao6 y164.length co6] from (k56_mkF _ _ (⟨(⟨#[]⟩ : ByteArray), 0, 0, 0, ([] : List (S112)), ([] : List Int), 0, 0, 0, 0, 0, y164⟩ : S56) (Nat.le_refl _) (Kd.F_nil _ _ _) (Nat.le_refl _) (Kd.F_nil _ _ _) (Kd.R_reads' (Kd.R_mono (ok' := (fun _ => True)) (HO166.out) (fun k_ hk => trivial))).2.1 (Kd.R_F (Kd.R_mono (ok' := (fun _ => True)) (HO166.out) (fun k_ hk => trivial))))) rfl (Reps.none _ _) rfl)); intro v168 w7 ho8 hb hg_ hnew_; clear hg_ hnew_; (first | rw [← Ny167.out] at ho8 | (simp only [Int.reduceToNat] at ho8; rw [← Ny167.out] at ho8)); have n0_ := Aside0.mk (Kd.N_lower ho8 (bZ (by repeat (first | (with_reducible first | exact HB.out | apply bL | apply bW | apply b1) | exact HB.out)))); have n1_ := Aside0.mk (bP (by repeat (first | (with_reducible first | exact HB.out | apply bL | apply bW | apply b1) | exact HB.out)) hb); clear HB; clear HO166; have HO169 := n0_; have HB := n1_; clear n0_ n1_; clear hb ho8) | ((with_reducible refine gate_dst (N := 10) rfl ?_); (try (refine gate_guard (by rfl) ?_; dsimp only)); refine Kd.R_lit k67 _ 67 ?hg (N := 10) ?hd (xs := ([(⟨(⟨#[]⟩ : ByteArray), 1, 0, 0, 0⟩ : S67)] : List (S67))) (inner := [.string (⟨#[]⟩ : ByteArray), .int .i64 1, .int .i64 0, .int .i64 0, .int .i64 0]) (ok := fun _ => True) (okp := fun _ => True) ?hr ?hp (fun _ hk => hk) trivial (Below.refl _ _) (Nat.le_refl _) (by simp) ?_; (case hd => rfl); (case hg => rfl); (case hr => first | (go_simp; done) | (go_simp; rfl)); (case hp => exact (Reps.c5 (show Kd.M k67 _ _ _ (⟨(⟨#[]⟩ : ByteArray), 1, 0, 0, 0⟩ : S67) [.string (⟨#[]⟩ : ByteArray), .int .i64 1, .int .i64 0, .int .i64 0, .int .i64 0] from (k67_mkM _ _ _ (⟨(⟨#[]⟩ : ByteArray), 1, 0, 0, 0⟩ : S67) )) (Reps.none _ _))); intro v171 w9 ho10 hb hg_ hnew_; clear hg_ hnew_; (first | rw [← Ny170.out] at ho10 | (simp only [Int.reduceToNat] at ho10; rw [← Ny170.out] at ho10)); have n0_ := Aside0.mk (Kd.N_elder' (by (with_reducible repeat (first | apply Kd.N_alloc | apply Kd.N_drewN | apply Kd.N_drew)); exact HO169.out) (Kd.R_base ho10) hb); have n1_ := Aside0.mk (Kd.R_lower ho10 (bZ (by repeat (first | (with_reducible first | exact HB.out | apply bL | apply bW | apply b1) | exact HB.out)))); have n2_ := Aside0.mk (bP (by repeat (first | (with_reducible first | exact HB.out | apply bL | apply bW | apply b1) | exact HB.out)) hb); clear HO169; clear HB; have HO169 := n0_; have HO172 := n1_; have HB := n2_; clear n0_ n1_ n2_; clear hb ho10; obtain ⟨Ao11, co11, eo11⟩ := Kd.R_slice HO172.out; subst eo11; obtain ⟨Ao12, co12, eo12⟩ := Kd.N_slice HO169.out; subst eo12) | ((with_reducible refine gate_dst (N := 1) rfl ?_); (try (refine gate_guard (by rfl) ?_; dsimp only)); refine box_event ?hg (N := 1) ?hd (cs := #[.string (⟨#[]⟩ : ByteArray), .slice none 0 0, .int .i64 0, .slice none 0 0, .slice none 0 0, .slice none 0 0, .slice none 0 0, .slice none 0 0, .slice none 0 0, .slice none 0 0, .int .i64 0]) (t := 31) ?hr ?_; (case hd => rfl); (case hg => rfl); (case hr => first | (go_simp; done) | (go_simp; rfl)); intro gb173 hg w13 hbox hb; have n0_ := Aside0.mk (Kd.N_below (Kd.N_elderB (by (with_reducible repeat (first | apply Kd.N_alloc | apply Kd.N_drewN | apply Kd.N_drew)); exact HO169.out) gb173 (Nat.le_of_eq hg.symm)) hb); have n1_ := Aside0.mk (Kd.R_below (by (with_reducible repeat (first | apply Kd.R_alloc | apply Kd.R_drewN | apply Kd.R_drew)); exact HO172.out) hb); have n2_ := Aside0.mk (bP (by repeat (first | (with_reducible first | exact HB.out | apply bL | apply bW | apply b1) | exact HB.out)) hb); have n3_ := Aside0.mk (hbox); have n4_ := Aside0.mk ((by rw [hg]; exact (bZ (by repeat (first | (with_reducible first | exact HB.out | apply bL | apply bW | apply b1) | exact HB.out))) : w.heap.size ≤ gb173)); have n5_ := Aside0.mk ((by rw [hg]; exact (bZ (by repeat (first | (with_reducible first | exact HB.out | apply bL | apply bW | apply b1) | exact HB.out))) : w.heap.size ≤ gb173)); clear HO169; clear HO172; clear HB; have HO169 := n0_; have HO172 := n1_; have HB := n2_; have BK173 := n3_; have GW173 := n4_; have GE173 := n5_; clear n0_ n1_ n2_ n3_ n4_ n5_; clear hb hbox hg; have hcz14_0 : w13.cell? ⟨gb173, 0, none⟩ = some (.string (⟨#[]⟩ : ByteArray)) := (bC BK173.out 0).trans rfl; have hcz14_1 : w13.cell? ⟨gb173, 1, none⟩ = some (.slice none 0 0) := (bC BK173.out 1).trans rfl; have hcz14_2 : w13.cell? ⟨gb173, 2, none⟩ = some (.int .i64 0) := (bC BK173.out 2).trans rfl; have hcz14_3 : w13.cell? ⟨gb173, 3, none⟩ = some (.slice none 0 0) := (bC BK173.out 3).trans rfl; have hcz14_4 : w13.cell? ⟨gb173, 4, none⟩ = some (.slice none 0 0) := (bC BK173.out 4).trans rfl; have hcz14_5 : w13.cell? ⟨gb173, 5, none⟩ = some (.slice none 0 0) := (bC BK173.out 5).trans rfl; have hcz14_6 : w13.cell? ⟨gb173, 6, none⟩ = some (.slice none 0 0) := (bC BK173.out 6).trans rfl; have hcz14_7 : w13.cell? ⟨gb173, 7, none⟩ = some (.slice none 0 0) := (bC BK173.out 7).trans rfl; have hcz14_8 : w13.cell? ⟨gb173, 8, none⟩ = some (.slice none 0 0) := (bC BK173.out 8).trans rfl; have hcz14_9 : w13.cell? ⟨gb173, 9, none⟩ = some (.slice none 0 0) := (bC BK173.out 9).trans rfl; have hcz14_10 : w13.cell? ⟨gb173, 10, none⟩ = some (.int .i64 0) := (bC BK173.out 10).trans rfl; have hfz14_0 := bF BK173.out 0; have hfz14_1 := bF BK173.out 1; have hfz14_2 := bF BK173.out 2; have hfz14_3 := bF BK173.out 3; have hfz14_4 := bF BK173.out 4; have hfz14_5 := bF BK173.out 5; have hfz14_6 := bF BK173.out 6; have hfz14_7 := bF BK173.out 7; have hfz14_8 := bF BK173.out 8; have hfz14_9 := bF BK173.out 9; have hfz14_10 := bF BK173.out 10) | ((with_reducible refine gate_dst (N := 13) rfl ?_); (try (refine gate_guard (by rfl) ?_; dsimp only)); refine Kd.R_lit (Kd.int .i64) _ 3 ?hg (N := 13) ?hd (xs := ([10] : List Int)) (inner := [.int .i64 10]) (ok := fun _ => True) (okp := fun _ => True) ?hr ?hp (fun _ hk => hk) trivial (Below.refl _ _) (Nat.le_refl _) (by simp) ?_; (case hd => rfl); (case hg => rfl); (case hr => first | (go_simp; done) | (go_simp; rfl)); (case hp => exact (Reps.one (show Kd.M (Kd.int .i64) _ _ _ 10 [.int .i64 10] from rfl) (Reps.none _ _))); intro v175 w15 ho16 hb hg_ hnew_; clear hg_ hnew_; (first | rw [← Ny174.out] at ho16 | (simp only [Int.reduceToNat] at ho16; rw [← Ny174.out] at ho16)); have n0_ := Aside0.mk (Kd.N_elder' (by (with_reducible repeat (first | apply Kd.N_alloc | apply Kd.N_drewN | apply Kd.N_drew)); exact (Kd.N_mono (Kd.N_far (p := ⟨gb173, 10, none⟩) (Kd.N_far (p := ⟨gb173, 9, none⟩) (Kd.N_far (p := ⟨gb173, 8, none⟩) (Kd.N_far (p := ⟨gb173, 7, none⟩) (Kd.N_far (p := ⟨gb173, 6, none⟩) (Kd.N_far (p := ⟨gb173, 5, none⟩) (Kd.N_far (p := ⟨gb173, 4, none⟩) (Kd.N_far (p := ⟨gb173, 3, none⟩) (Kd.N_far (p := ⟨gb173, 2, none⟩) (Kd.N_far (p := ⟨gb173, 1, none⟩) (Kd.N_far (p := ⟨gb173, 0, none⟩) (Kd.N_mono HO169.out (fun k_ hk => (⟨hk, hk.2⟩ : _ ∧ k_ ≠ gb173))) (fun _ hk => hk.2) (.string (⟨#[]⟩ : ByteArray))) (fun _ hk => hk.2) (.slice none 0 0)) (fun _ hk => hk.2) (.int .i64 1)) (fun _ hk => hk.2) (.slice Ao12 y167.length co12)) (fun _ hk => hk.2) (.slice none 0 0)) (fun _ hk => hk.2) (.slice none 0 0)) (fun _ hk => hk.2) (.slice Ao11 y170.length co11)) (fun _ hk => hk.2) (.slice none 0 0)) (fun _ hk => hk.2) (.slice none 0 0)) (fun _ hk => hk.2) (.slice none 0 0)) (fun _ hk => hk.2) (.int .i64 0)) (fun _ h_ => h_.1))) (Kd.R_base ho16) hb); have n1_ := Aside0.mk (Kd.R_below (by (with_reducible repeat (first | apply Kd.R_alloc | apply Kd.R_drewN | apply Kd.R_drew)); exact (Kd.R_mono (Kd.R_far (p := ⟨gb173, 10, none⟩) (Kd.R_far (p := ⟨gb173, 9, none⟩) (Kd.R_far (p := ⟨gb173, 8, none⟩) (Kd.R_far (p := ⟨gb173, 7, none⟩) (Kd.R_far (p := ⟨gb173, 6, none⟩) (Kd.R_far (p := ⟨gb173, 5, none⟩) (Kd.R_far (p := ⟨gb173, 4, none⟩) (Kd.R_far (p := ⟨gb173, 3, none⟩) (Kd.R_far (p := ⟨gb173, 2, none⟩) (Kd.R_far (p := ⟨gb173, 1, none⟩) (Kd.R_far (p := ⟨gb173, 0, none⟩) (Kd.R_types HO172.out BK173.out (by decide)) (fun _ hk => hk.2) (.string (⟨#[]⟩ : ByteArray))) (fun _ hk => hk.2) (.slice none 0 0)) (fun _ hk => hk.2) (.int .i64 1)) (fun _ hk => hk.2) (.slice Ao12 y167.length co12)) (fun _ hk => hk.2) (.slice none 0 0)) (fun _ hk => hk.2) (.slice none 0 0)) (fun _ hk => hk.2) (.slice Ao11 y170.length co11)) (fun _ hk => hk.2) (.slice none 0 0)) (fun _ hk => hk.2) (.slice none 0 0)) (fun _ hk => hk.2) (.slice none 0 0)) (fun _ hk => hk.2) (.int .i64 0)) (fun _ h_ => h_.1))) hb); have n2_ := Aside0.mk (Kd.R_lower ho16 (bZ (by repeat (first | (with_reducible first | exact HB.out | apply bL | apply bW | apply b1 | refine bS ?_ GE173.out) | exact HB.out)))); have n3_ := Aside0.mk (bB (g := gb173) (o := .cells #[.string (⟨#[]⟩ : ByteArray), .slice none 0 0, .int .i64 1, .slice Ao12 y167.length co12, .slice none 0 0, .slice none 0 0, .slice Ao11 y170.length co11, .slice none 0 0, .slice none 0 0, .slice none 0 0, .int .i64 0] 31 (0, 0)) (by (with_reducible repeat (first | refine bN ?_ _ | refine bD ?_ | refine bA ?_ _)); refine bU (cs := #[.string (⟨#[]⟩ : ByteArray), .slice none 0 0, .int .i64 1, .slice Ao12 y167.length co12, .slice none 0 0, .slice none 0 0, .slice Ao11 y170.length co11, .slice none 0 0, .slice none 0 0, .slice none 0 0, .int .i64 0]) ?_ 10 _ rfl; (with_reducible repeat (first | refine bN ?_ _ | refine bD ?_ | refine bA ?_ _)); refine bU (cs := #[.string (⟨#[]⟩ : ByteArray), .slice none 0 0, .int .i64 1, .slice Ao12 y167.length co12, .slice none 0 0, .slice none 0 0, .slice Ao11 y170.length co11, .slice none 0 0, .slice none 0 0, .slice none 0 0, .int .i64 0]) ?_ 9 _ rfl; (with_reducible repeat (first | refine bN ?_ _ | refine bD ?_ | refine bA ?_ _)); refine bU (cs := #[.string (⟨#[]⟩ : ByteArray), .slice none 0 0, .int .i64 1, .slice Ao12 y167.length co12, .slice none 0 0, .slice none 0 0, .slice Ao11 y170.length co11, .slice none 0 0, .slice none 0 0, .slice none 0 0, .int .i64 0]) ?_ 8 _ rfl; (with_reducible repeat (first | refine bN ?_ _ | refine bD ?_ | refine bA ?_ _)); refine bU (cs := #[.string (⟨#[]⟩ : ByteArray), .slice none 0 0, .int .i64 1, .slice Ao12 y167.length co12, .slice none 0 0, .slice none 0 0, .slice Ao11 y170.length co11, .slice none 0 0, .slice none 0 0, .slice none 0 0, .int .i64 0]) ?_ 7 _ rfl; (with_reducible repeat (first | refine bN ?_ _ | refine bD ?_ | refine bA ?_ _)); refine bU (cs := #[.string (⟨#[]⟩ : ByteArray), .slice none 0 0, .int .i64 1, .slice Ao12 y167.length co12, .slice none 0 0, .slice none 0 0, .slice none 0 0, .slice none 0 0, .slice none 0 0, .slice none 0 0, .int .i64 0]) ?_ 6 _ rfl; (with_reducible repeat (first | refine bN ?_ _ | refine bD ?_ | refine bA ?_ _)); refine bU (cs := #[.string (⟨#[]⟩ : ByteArray), .slice none 0 0, .int .i64 1, .slice Ao12 y167.length co12, .slice none 0 0, .slice none 0 0, .slice none 0 0, .slice none 0 0, .slice none 0 0, .slice none 0 0, .int .i64 0]) ?_ 5 _ rfl; (with_reducible repeat (first | refine bN ?_ _ | refine bD ?_ | refine bA ?_ _)); refine bU (cs := #[.string (⟨#[]⟩ : ByteArray), .slice none 0 0, .int .i64 1, .slice Ao12 y167.length co12, .slice none 0 0, .slice none 0 0, .slice none 0 0, .slice none 0 0, .slice none 0 0, .slice none 0 0, .int .i64 0]) ?_ 4 _ rfl; (with_reducible repeat (first | refine bN ?_ _ | refine bD ?_ | refine bA ?_ _)); refine bU (cs := #[.string (⟨#[]⟩ : ByteArray), .slice none 0 0, .int .i64 1, .slice none 0 0, .slice none 0 0, .slice none 0 0, .slice none 0 0, .slice none 0 0, .slice none 0 0, .slice none 0 0, .int .i64 0]) ?_ 3 _ rfl; (with_reducible repeat (first | refine bN ?_ _ | refine bD ?_ | refine bA ?_ _)); refine bU (cs := #[.string (⟨#[]⟩ : ByteArray), .slice none 0 0, .int .i64 0, .slice none 0 0, .slice none 0 0, .slice none 0 0, .slice none 0 0, .slice none 0 0, .slice none 0 0, .slice none 0 0, .int .i64 0]) ?_ 2 _ rfl; (with_reducible repeat (first | refine bN ?_ _ | refine bD ?_ | refine bA ?_ _)); refine bU (cs := #[.string (⟨#[]⟩ : ByteArray), .slice none 0 0, .int .i64 0, .slice none 0 0, .slice none 0 0, .slice none 0 0, .slice none 0 0, .slice none 0 0, .slice none 0 0, .slice none 0 0, .int .i64 0]) ?_ 1 _ rfl; (with_reducible repeat (first | refine bN ?_ _ | refine bD ?_ | refine bA ?_ _)); refine bU (cs := #[.string (⟨#[]⟩ : ByteArray), .slice none 0 0, .int .i64 0, .slice none 0 0, .slice none 0 0, .slice none 0 0, .slice none 0 0, .slice none 0 0, .slice none 0 0, .slice none 0 0, .int .i64 0]) ?_ 0 _ rfl; (with_reducible repeat (first | refine bN ?_ _ | refine bD ?_ | refine bA ?_ _)); exact BK173.out) hb); have n4_ := Aside0.mk (bP (by repeat (first | (with_reducible first | exact HB.out | apply bL | apply bW | apply b1 | refine bS ?_ GE173.out) | exact HB.out)) hb); clear HO169; clear HO172; clear BK173; clear HB; have HO169 := n0_; have HO172 := n1_; have HO176 := n2_; have BK173 := n3_; have HB := n4_; clear n0_ n1_ n2_ n3_ n4_; clear hb ho16; obtain ⟨Ao17, co17, eo17⟩ := Kd.R_slice HO176.out; subst eo17) | ((with_reducible refine gate_callee (f := 11) rfl ?_); refine goesL_ (some 14) rfl rfl Try.func11 (by kernel_rfl) rfl #[.agg #[.string (⟨#[]⟩ : ByteArray), .slice none 0 0, .int .i64 1, .slice Ao12 y167.length co12, .slice none 0 0, .slice none 0 0, .slice Ao11 y170.length co11, .slice none 0 0, .slice none 0 0, .slice none 0 0, .int .i64 0], .slice Ao17 y174.length co17, .int .i64 200, .slice none 0 0] rfl (by (try simp only [List.map_toArray, List.map_cons, List.map_nil]); first | done | rfl | (simp only [List.length_drop, List.length_take]; rfl)) ?_; (refine (rain_Cells.calls k (⟨#[]⟩ : ByteArray) _ _ ([] : List ByteArray) 1 _ _ y167 _ _ ([] : List (S104)) _ _ ([] : List (S106)) _ _ y170 _ _ ([] : List (S108)) _ _ ([] : List (S110)) _ _ ([] : List Int) 0 _ _ y174 200 _ _ ([] : List (S50)) t177 _ ?side1 ?side2 ?side3 ?side4 ?side5 ?side6 ?side7 ?side8 ?side9 ?side10 ?side11 ?side12 ?side13 ?side14 ?side15 ?side16 ?side17 ?side18 ?side19 ?side20 A1.out).mono ?_); (case side1 => exact Kd.C_nil _ _); (case side2 => exact Nat.le_refl _); (case side3 => repeat (first | exact (Kd.N_reads' HO169.out).2.2 | (with_reducible refine Kd.C_alloc ?_ _) | (with_reducible refine Kd.C_drewN ?_ _) | (with_reducible refine Kd.C_drew ?_))); (case side4 => exact (Kd.N_reads' HO169.out).2.1); (case side5 => exact Kd.C_nil _ _); (case side6 => exact Nat.le_refl _); (case side7 => exact Kd.C_nil _ _); (case side8 => exact Nat.le_refl _); (case side9 => repeat (first | exact (Kd.R_reads' HO172.out).2.2 | (with_reducible refine Kd.C_alloc ?_ _) | (with_reducible refine Kd.C_drewN ?_ _) | (with_reducible refine Kd.C_drew ?_))); (case side10 => exact (Kd.R_reads' HO172.out).2.1); (case side11 => exact Kd.C_nil _ _); (case side12 => exact Nat.le_refl _); (case side13 => exact Kd.C_nil _ _); (case side14 => exact Nat.le_refl _); (case side15 => exact Kd.C_nil _ _); (case side16 => exact Nat.le_refl _); (case side17 => repeat (first | exact (Kd.R_reads' HO176.out).2.2 | (with_reducible refine Kd.C_alloc ?_ _) | (with_reducible refine Kd.C_drewN ?_ _) | (with_reducible refine Kd.C_drew ?_))); (case side18 => exact (Kd.R_reads' HO176.out).2.1); (case side19 => exact Kd.C_nil _ _); (case side20 => exact Nat.le_refl _); rintro e w18 ⟨v178, rfl, ho0, hb⟩; refine ⟨_, rfl, ?_⟩; have n0_ := Aside0.mk (Kd.N_elder' (by (with_reducible repeat (first | apply Kd.N_alloc | apply Kd.N_drewN | apply Kd.N_drew)); exact HO169.out) (Kd.R_base ho0) hb); have n1_ := Aside0.mk (Kd.R_below (by (with_reducible repeat (first | apply Kd.R_alloc | apply Kd.R_drewN | apply Kd.R_drew)); exact HO172.out) hb); have n2_ := Aside0.mk (Kd.R_below (by (with_reducible repeat (first | apply Kd.R_alloc | apply Kd.R_drewN | apply Kd.R_drew)); exact HO176.out) hb); have n3_ := Aside0.mk (Kd.R_lower ho0 (bZ (by repeat (first | (with_reducible first | exact HB.out | apply bL | apply bW | apply b1 | refine bS ?_ GE173.out) | exact HB.out)))); have n4_ := Aside0.mk (bB (g := gb173) (o := .cells #[.string (⟨#[]⟩ : ByteArray), .slice none 0 0, .int .i64 1, .slice Ao12 y167.length co12, .slice none 0 0, .slice none 0 0, .slice Ao11 y170.length co11, .slice none 0 0, .slice none 0 0, .slice none 0 0, .int .i64 0] 31 (0, 0)) (by (with_reducible repeat (first | refine bN ?_ _ | refine bD ?_ | refine bA ?_ _)); exact BK173.out) hb); have n5_ := Aside0.mk (bP (by repeat (first | (with_reducible first | exact HB.out | apply bL | apply bW | apply b1 | refine bS ?_ GE173.out) | exact HB.out)) hb); clear HO169; clear HO172; clear HO176; clear BK173; clear HB; have HO169 := n0_; have HO172 := n1_; have HO176 := n2_; have HO179 := n3_; have BK173 := n4_; have HB := n5_; clear n0_ n1_ n2_ n3_ n4_ n5_; (try clear hb); (try clear hb2); (try clear hk); (try clear hi); (try clear ho0); have hcz19_0 : w18.cell? ⟨gb173, 0, none⟩ = some (.string (⟨#[]⟩ : ByteArray)) := (bC BK173.out 0).trans rfl; have hcz19_1 : w18.cell? ⟨gb173, 1, none⟩ = some (.slice none 0 0) := (bC BK173.out 1).trans rfl; have hcz19_2 : w18.cell? ⟨gb173, 2, none⟩ = some (.int .i64 1) := (bC BK173.out 2).trans rfl; have hcz19_3 : w18.cell? ⟨gb173, 3, none⟩ = some (.slice Ao12 y167.length co12) := (bC BK173.out 3).trans rfl; have hcz19_4 : w18.cell? ⟨gb173, 4, none⟩ = some (.slice none 0 0) := (bC BK173.out 4).trans rfl; have hcz19_5 : w18.cell? ⟨gb173, 5, none⟩ = some (.slice none 0 0) := (bC BK173.out 5).trans rfl; have hcz19_6 : w18.cell? ⟨gb173, 6, none⟩ = some (.slice Ao11 y170.length co11) := (bC BK173.out 6).trans rfl; have hcz19_7 : w18.cell? ⟨gb173, 7, none⟩ = some (.slice none 0 0) := (bC BK173.out 7).trans rfl; have hcz19_8 : w18.cell? ⟨gb173, 8, none⟩ = some (.slice none 0 0) := (bC BK173.out 8).trans rfl; have hcz19_9 : w18.cell? ⟨gb173, 9, none⟩ = some (.slice none 0 0) := (bC BK173.out 9).trans rfl; have hcz19_10 : w18.cell? ⟨gb173, 10, none⟩ = some (.int .i64 0) := (bC BK173.out 10).trans rfl; have hfz19_0 := bF BK173.out 0; have hfz19_1 := bF BK173.out 1; have hfz19_2 := bF BK173.out 2; have hfz19_3 := bF BK173.out 3; have hfz19_4 := bF BK173.out 4; have hfz19_5 := bF BK173.out 5; have hfz19_6 := bF BK173.out 6; have hfz19_7 := bF BK173.out 7; have hfz19_8 := bF BK173.out 8; have hfz19_9 := bF BK173.out 9; have hfz19_10 := bF BK173.out 10) | ((with_reducible refine gate_dst (N := 16) rfl ?_); (try (refine gate_guard (by rfl) ?_; dsimp only)); refine Kd.R_lit (Kd.int .i64) _ 3 ?hg (N := 16) ?hd (xs := ([10] : List Int)) (inner := [.int .i64 10]) (ok := fun _ => True) (okp := fun _ => True) ?hr ?hp (fun _ hk => hk) trivial (Below.refl _ _) (Nat.le_refl _) (by simp) ?_; (case hd => rfl); (case hg => rfl); (case hr => first | (go_simp; done) | (go_simp; rfl)); (case hp => exact (Reps.one (show Kd.M (Kd.int .i64) _ _ _ 10 [.int .i64 10] from rfl) (Reps.none _ _))); intro v181 w20 ho21 hb hg_ hnew_; clear hg_ hnew_; (first | rw [← Ny180.out] at ho21 | (simp only [Int.reduceToNat] at ho21; rw [← Ny180.out] at ho21)); have n0_ := Aside0.mk (Kd.N_elder' (by (with_reducible repeat (first | apply Kd.N_alloc | apply Kd.N_drewN | apply Kd.N_drew)); exact HO169.out) (Kd.R_base ho21) hb); have n1_ := Aside0.mk (Kd.R_below (by (with_reducible repeat (first | apply Kd.R_alloc | apply Kd.R_drewN | apply Kd.R_drew)); exact HO172.out) hb); have n2_ := Aside0.mk (Kd.R_elder' (by (with_reducible repeat (first | apply Kd.R_alloc | apply Kd.R_drewN | apply Kd.R_drew)); exact HO176.out) (Kd.R_base ho21) hb); have n3_ := Aside0.mk (Kd.R_below (by (with_reducible repeat (first | apply Kd.R_alloc | apply Kd.R_drewN | apply Kd.R_drew)); exact HO179.out) hb); have n4_ := Aside0.mk (Kd.R_lower (Kd.R_new' ho21 (Kd.R_lt (by (with_reducible repeat (first | apply Kd.R_alloc | apply Kd.R_drewN | apply Kd.R_drew)); exact HO176.out))) (bZ (by repeat (first | (with_reducible first | exact HB.out | apply bL | apply bW | apply b1 | refine bS ?_ GE173.out) | exact HB.out)))); have n5_ := Aside0.mk (bB (g := gb173) (o := .cells #[.string (⟨#[]⟩ : ByteArray), .slice none 0 0, .int .i64 1, .slice Ao12 y167.length co12, .slice none 0 0, .slice none 0 0, .slice Ao11 y170.length co11, .slice none 0 0, .slice none 0 0, .slice none 0 0, .int .i64 0] 31 (0, 0)) (by (with_reducible repeat (first | refine bN ?_ _ | refine bD ?_ | refine bA ?_ _)); exact BK173.out) hb); have n6_ := Aside0.mk (bP (by repeat (first | (with_reducible first | exact HB.out | apply bL | apply bW | apply b1 | refine bS ?_ GE173.out) | exact HB.out)) hb); clear HO169; clear HO172; clear HO176; clear HO179; clear BK173; clear HB; have HO169 := n0_; have HO172 := n1_; have HO176 := n2_; have HO179 := n3_; have HO182 := n4_; have BK173 := n5_; have HB := n6_; clear n0_ n1_ n2_ n3_ n4_ n5_ n6_; clear hb ho21) | ((with_reducible refine gate_dst (N := 21) rfl ?_); (try (refine gate_guard (by rfl) ?_; dsimp only)); refine Kd.R_lit k50 _ 50 ?hg (N := 21) ?hd (xs := ([(⟨0, 0, (⟨9, 20⟩ : S40)⟩ : S50), (⟨0, 0, (⟨13, 15⟩ : S40)⟩ : S50)] : List (S50))) (inner := [.int .i64 0, .int .i64 0, .int .i64 9, .int .i64 20, .int .i64 0, .int .i64 0, .int .i64 13, .int .i64 15]) (ok := fun _ => True) (okp := fun _ => True) ?hr ?hp (fun _ hk => hk) trivial (Below.refl _ _) (Nat.le_refl _) (by simp) ?_; (case hd => rfl); (case hg => rfl); (case hr => first | (go_simp; done) | (go_simp; rfl)); (case hp => exact (Reps.c4 (show Kd.M k50 _ _ _ (⟨0, 0, (⟨9, 20⟩ : S40)⟩ : S50) [.int .i64 0, .int .i64 0, .int .i64 9, .int .i64 20] from (k50_mkM _ _ _ (⟨0, 0, (⟨9, 20⟩ : S40)⟩ : S50) )) (Reps.c4 (show Kd.M k50 _ _ _ (⟨0, 0, (⟨13, 15⟩ : S40)⟩ : S50) [.int .i64 0, .int .i64 0, .int .i64 13, .int .i64 15] from (k50_mkM _ _ _ (⟨0, 0, (⟨13, 15⟩ : S40)⟩ : S50) )) (Reps.none _ _)))); intro v184 w22 ho23 hb hg_ hnew_; clear hg_ hnew_; (first | rw [← Ny183.out] at ho23 | (simp only [Int.reduceToNat] at ho23; rw [← Ny183.out] at ho23)); have n0_ := Aside0.mk (Kd.N_elder' (by (with_reducible repeat (first | apply Kd.N_alloc | apply Kd.N_drewN | apply Kd.N_drew)); exact HO169.out) (Kd.R_base ho23) hb); have n1_ := Aside0.mk (Kd.R_below (by (with_reducible repeat (first | apply Kd.R_alloc | apply Kd.R_drewN | apply Kd.R_drew)); exact HO172.out) hb); have n2_ := Aside0.mk (Kd.R_below (by (with_reducible repeat (first | apply Kd.R_alloc | apply Kd.R_drewN | apply Kd.R_drew)); exact HO176.out) hb); have n3_ := Aside0.mk (Kd.R_below (by (with_reducible repeat (first | apply Kd.R_alloc | apply Kd.R_drewN | apply Kd.R_drew)); exact HO179.out) hb); have n4_ := Aside0.mk (Kd.R_below (by (with_reducible repeat (first | apply Kd.R_alloc | apply Kd.R_drewN | apply Kd.R_drew)); exact HO182.out) hb); have n5_ := Aside0.mk (Kd.R_lower ho23 (bZ (by repeat (first | (with_reducible first | exact HB.out | apply bL | apply bW | apply b1 | refine bS ?_ GE173.out) | exact HB.out)))); have n6_ := Aside0.mk (bB (g := gb173) (o := .cells #[.string (⟨#[]⟩ : ByteArray), .slice none 0 0, .int .i64 1, .slice Ao12 y167.length co12, .slice none 0 0, .slice none 0 0, .slice Ao11 y170.length co11, .slice none 0 0, .slice none 0 0, .slice none 0 0, .int .i64 0] 31 (0, 0)) (by (with_reducible repeat (first | refine bN ?_ _ | refine bD ?_ | refine bA ?_ _)); exact BK173.out) hb); have n7_ := Aside0.mk (bP (by repeat (first | (with_reducible first | exact HB.out | apply bL | apply bW | apply b1 | refine bS ?_ GE173.out) | exact HB.out)) hb); clear HO169; clear HO172; clear HO176; clear HO179; clear HO182; clear BK173; clear HB; have HO169 := n0_; have HO172 := n1_; have HO176 := n2_; have HO179 := n3_; have HO182 := n4_; have HO185 := n5_; have BK173 := n6_; have HB := n7_; clear n0_ n1_ n2_ n3_ n4_ n5_ n6_ n7_; clear hb ho23; obtain ⟨Ao24, co24, eo24⟩ := Kd.R_slice HO182.out; subst eo24; obtain ⟨Ao25, co25, eo25⟩ := Kd.R_slice HO185.out; subst eo25) | ((with_reducible refine gate_callee (f := 11) rfl ?_); refine goesL_ (some 22) rfl rfl Try.func11 (by kernel_rfl) rfl #[.agg #[.string (⟨#[]⟩ : ByteArray), .slice none 0 0, .int .i64 1, .slice Ao12 y167.length co12, .slice none 0 0, .slice none 0 0, .slice Ao11 y170.length co11, .slice none 0 0, .slice none 0 0, .slice none 0 0, .int .i64 0], .slice Ao24 y180.length co24, .int .i64 200, .slice Ao25 y183.length co25] rfl (by (try simp only [List.map_toArray, List.map_cons, List.map_nil]); first | done | rfl | (simp only [List.length_drop, List.length_take]; rfl)) ?_; (refine (rain_Cells.calls k (⟨#[]⟩ : ByteArray) _ _ ([] : List ByteArray) 1 _ _ y167 _ _ ([] : List (S104)) _ _ ([] : List (S106)) _ _ y170 _ _ ([] : List (S108)) _ _ ([] : List (S110)) _ _ ([] : List Int) 0 _ _ y180 200 _ _ y183 t186 _ ?side1 ?side2 ?side3 ?side4 ?side5 ?side6 ?side7 ?side8 ?side9 ?side10 ?side11 ?side12 ?side13 ?side14 ?side15 ?side16 ?side17 ?side18 ?side19 ?side20 A2.out).mono ?_); (case side1 => exact Kd.C_nil _ _); (case side2 => exact Nat.le_refl _); (case side3 => repeat (first | exact (Kd.N_reads' HO169.out).2.2 | (with_reducible refine Kd.C_alloc ?_ _) | (with_reducible refine Kd.C_drewN ?_ _) | (with_reducible refine Kd.C_drew ?_))); (case side4 => exact (Kd.N_reads' HO169.out).2.1); (case side5 => exact Kd.C_nil _ _); (case side6 => exact Nat.le_refl _); (case side7 => exact Kd.C_nil _ _); (case side8 => exact Nat.le_refl _); (case side9 => repeat (first | exact (Kd.R_reads' HO172.out).2.2 | (with_reducible refine Kd.C_alloc ?_ _) | (with_reducible refine Kd.C_drewN ?_ _) | (with_reducible refine Kd.C_drew ?_))); (case side10 => exact (Kd.R_reads' HO172.out).2.1); (case side11 => exact Kd.C_nil _ _); (case side12 => exact Nat.le_refl _); (case side13 => exact Kd.C_nil _ _); (case side14 => exact Nat.le_refl _); (case side15 => exact Kd.C_nil _ _); (case side16 => exact Nat.le_refl _); (case side17 => repeat (first | exact (Kd.R_reads' HO182.out).2.2 | (with_reducible refine Kd.C_alloc ?_ _) | (with_reducible refine Kd.C_drewN ?_ _) | (with_reducible refine Kd.C_drew ?_))); (case side18 => exact (Kd.R_reads' HO182.out).2.1); (case side19 => repeat (first | exact (Kd.R_reads' HO185.out).2.2 | (with_reducible refine Kd.C_alloc ?_ _) | (with_reducible refine Kd.C_drewN ?_ _) | (with_reducible refine Kd.C_drew ?_))); (case side20 => exact (Kd.R_reads' HO185.out).2.1); rintro e w26 ⟨v187, rfl, ho0, hb⟩; refine ⟨_, rfl, ?_⟩; have n0_ := Aside0.mk (Kd.N_elder' (by (with_reducible repeat (first | apply Kd.N_alloc | apply Kd.N_drewN | apply Kd.N_drew)); exact HO169.out) (Kd.R_base ho0) hb); have n1_ := Aside0.mk (Kd.R_below (by (with_reducible repeat (first | apply Kd.R_alloc | apply Kd.R_drewN | apply Kd.R_drew)); exact HO172.out) hb); have n2_ := Aside0.mk (Kd.R_below (by (with_reducible repeat (first | apply Kd.R_alloc | apply Kd.R_drewN | apply Kd.R_drew)); exact HO176.out) hb); have n3_ := Aside0.mk (Kd.R_elder' (by (with_reducible repeat (first | apply Kd.R_alloc | apply Kd.R_drewN | apply Kd.R_drew)); exact HO179.out) (Kd.R_base ho0) hb); have n4_ := Aside0.mk (Kd.R_below (by (with_reducible repeat (first | apply Kd.R_alloc | apply Kd.R_drewN | apply Kd.R_drew)); exact HO182.out) hb); have n5_ := Aside0.mk (Kd.R_below (by (with_reducible repeat (first | apply Kd.R_alloc | apply Kd.R_drewN | apply Kd.R_drew)); exact HO185.out) hb); have n6_ := Aside0.mk (Kd.R_lower (Kd.R_new' ho0 (Kd.R_lt (by (with_reducible repeat (first | apply Kd.R_alloc | apply Kd.R_drewN | apply Kd.R_drew)); exact HO179.out))) (bZ (by repeat (first | (with_reducible first | exact HB.out | apply bL | apply bW | apply b1 | refine bS ?_ GE173.out) | exact HB.out)))); have n7_ := Aside0.mk (bB (g := gb173) (o := .cells #[.string (⟨#[]⟩ : ByteArray), .slice none 0 0, .int .i64 1, .slice Ao12 y167.length co12, .slice none 0 0, .slice none 0 0, .slice Ao11 y170.length co11, .slice none 0 0, .slice none 0 0, .slice none 0 0, .int .i64 0] 31 (0, 0)) (by (with_reducible repeat (first | refine bN ?_ _ | refine bD ?_ | refine bA ?_ _)); exact BK173.out) hb); have n8_ := Aside0.mk (bP (by repeat (first | (with_reducible first | exact HB.out | apply bL | apply bW | apply b1 | refine bS ?_ GE173.out) | exact HB.out)) hb); clear HO169; clear HO172; clear HO176; clear HO179; clear HO182; clear HO185; clear BK173; clear HB; have HO169 := n0_; have HO172 := n1_; have HO176 := n2_; have HO179 := n3_; have HO182 := n4_; have HO185 := n5_; have HO188 := n6_; have BK173 := n7_; have HB := n8_; clear n0_ n1_ n2_ n3_ n4_ n5_ n6_ n7_ n8_; (try clear hb); (try clear hb2); (try clear hk); (try clear hi); (try clear ho0)))
 (try simp only [Act.put, lA, lZ, lS]); go_cut [44] (fun v44 wc => ∃ (kq : Nat) (x44_2 : Bool), v44 = .bool x44_2 ∧ Aside0 (bournelaw26_small0.j0 kq t177 x44_2 (⟨#[]⟩ : ByteArray) 1 y167 y170 0 = some r) ∧ Aside0 (kq ≤ k) ∧ Aside0 (Kd.R k40 40 wc w.heap.size (fun _ => True) v178 t177) ∧ Aside0 (Kd.N k56 56 wc w.heap.size (fun k_ => some k_ ≠ (v178 : Value).ownBlock ∧ some k_ ≠ ((.slice Ao11 y170.length co11) : Value).ownBlock ∧ k_ ≠ gb173) (.slice Ao12 y167.length co12) y167) ∧ Aside0 (Kd.R k67 67 wc w.heap.size (fun _ => True) (.slice Ao11 y170.length co11) y170) ∧ Aside0 (wc.heap[gb173]? = some (.cells #[.string (⟨#[]⟩ : ByteArray), (.slice none 0 0), .int .i64 1, (.slice Ao12 y167.length co12), (.slice none 0 0), (.slice none 0 0), (.slice Ao11 y170.length co11), (.slice none 0 0), (.slice none 0 0), (.slice none 0 0), .int .i64 0] 31 (0, 0))) ∧ Aside0 (Below w.heap.size w wc))
 case first =>
  have H := HC3.out
  clear HC3; by_cases c27 : (t177.length : Int) = 1
  ·
   rw [if_pos c27] at H; have c27b0 : ((t177.length : Int) == 1) = true := beq_iff_eq.mpr c27
   have c27b1 : ((t177.length : Int) != 1) = false := bne_eq_false_iff_eq.mpr c27
   clear c27; (first | rw [c27b0] | (simp only [i64_w, i32_w]; rw [c27b0]) | skip)
   by_cases c28 : (t186.length : Int) = 1
   ·
    rw [if_pos c28] at H; have c28b0 : ((t186.length : Int) == 1) = true := beq_iff_eq.mpr c28
    have c28b1 : ((t186.length : Int) != 1) = false := bne_eq_false_iff_eq.mpr c28
    clear c28; by_cases c29 : 0 < (t177.length : Int)
    ·
     rw [if_pos c29] at H; have c29b0 : decide (0 < (t177.length : Int)) = true := decide_eq_true c29
     have c29b1 : decide (0 < t177.length) = true := decide_eq_true (by omega)
     clear c29; by_cases c30 : (!(((rd_T40 t177 0).f0) == 8) || (!(((rd_T40 t177 0).f1) == 12))) = true
     ·
      rw [if_pos c30] at H; have c30b0 : (!(((rd_T40 t177 0).f0) == 8) || (!(((rd_T40 t177 0).f1) == 12))) = true := c30
      clear c30; have H' := Aside0.mk H
      clear H; obtain ⟨Ao31, co31, eo31⟩ := Kd.R_slice HO179.out
      subst eo31; obtain ⟨Ao32, co32, eo32⟩ := Kd.R_slice HO188.out
      subst eo32; have p189 : 0 ≤ (0 : Int) := (by omega)
      have q189 : 0 < (t177.length : Int) := of_decide_eq_true (by first | (with_reducible assumption) | assumption)
      obtain ⟨ad189, e189, hx189_0, hx189_1⟩ := at_T40 (Kd.R_reads' HO179.out).2.2 0 p189 q189
      cases e189
      have qi189 : (0 < t177.length) = True := eq_true (by omega)
      (try rw [show ((0 : Int)).toNat = 0 from rfl] at hx189_0)
      (try rw [show 0 * 2 = 0 from rfl] at hx189_0); (try rw [Addr.add_zero'] at hx189_0); (try rw [show ((0 : Int)).toNat = 0 from rfl] at hx189_1)
      (try rw [show 0 * 2 = 0 from rfl] at hx189_1); (try rw [Addr.add_zero'] at hx189_1); replace p189 := eq_true p189
      replace q189 := eq_true q189
      as_aux_lemma =>
       go_wp2
       go_meet
       case rel => exact ⟨_, (true), (by first | rfl | (simp; done) | (simp [*]; done)), H', ⟨by first | omega | exact Nat.le_refl _⟩, ⟨by (with_reducible repeat (first | apply Kd.R_alloc | apply Kd.R_drewN | apply Kd.R_drew)); exact Kd.R_mono HO179.out (fun _ hk => trivial)⟩, ⟨by (with_reducible repeat (first | apply Kd.N_alloc | apply Kd.N_drewN | apply Kd.N_drew)); exact Kd.N_mono HO169.out (fun _ hk => ⟨hk.1.1.1.2, ⟨hk.1.1.1.1.1.1.2, hk.1.1.1.1.1.2⟩⟩)⟩, ⟨by (with_reducible repeat (first | apply Kd.R_alloc | apply Kd.R_drewN | apply Kd.R_drew)); exact HO172.out⟩, ⟨by (with_reducible repeat (first | refine bN ?_ _ | refine bD ?_ | refine bA ?_ _)); exact BK173.out⟩, ⟨by repeat (first | (with_reducible first | exact HB.out | apply bL | apply bW | apply b1 | refine bS ?_ GE173.out) | exact HB.out)⟩⟩
     ·
      rw [if_neg c30] at H; have c30b0 : (!(((rd_T40 t177 0).f0) == 8) || (!(((rd_T40 t177 0).f1) == 12))) = false := by simpa using c30
      clear c30; by_cases c33 : 0 < (t186.length : Int)
      ·
       rw [if_pos c33] at H; have c33b0 : decide (0 < (t186.length : Int)) = true := decide_eq_true c33
       have c33b1 : decide (0 < t186.length) = true := decide_eq_true (by omega)
       clear c33; have H' := Aside0.mk H
       clear H; obtain ⟨Ao34, co34, eo34⟩ := Kd.R_slice HO179.out
       subst eo34; obtain ⟨Ao35, co35, eo35⟩ := Kd.R_slice HO188.out
       subst eo35; have p189 : 0 ≤ (0 : Int) := (by omega)
       have q189 : 0 < (t177.length : Int) := of_decide_eq_true (by first | (with_reducible assumption) | assumption)
       obtain ⟨ad189, e189, hx189_0, hx189_1⟩ := at_T40 (Kd.R_reads' HO179.out).2.2 0 p189 q189
       cases e189
       have qi189 : (0 < t177.length) = True := eq_true (by omega)
       (try rw [show ((0 : Int)).toNat = 0 from rfl] at hx189_0)
       (try rw [show 0 * 2 = 0 from rfl] at hx189_0); (try rw [Addr.add_zero'] at hx189_0); (try rw [show ((0 : Int)).toNat = 0 from rfl] at hx189_1)
       (try rw [show 0 * 2 = 0 from rfl] at hx189_1); (try rw [Addr.add_zero'] at hx189_1); replace p189 := eq_true p189
       replace q189 := eq_true q189
       have p190 : 0 ≤ (0 : Int) := (by omega)
       have q190 : 0 < (t186.length : Int) := of_decide_eq_true (by first | (with_reducible assumption) | assumption)
       obtain ⟨ad190, e190, hx190_0, hx190_1⟩ := at_T40 (Kd.R_reads' HO188.out).2.2 0 p190 q190
       cases e190
       have qi190 : (0 < t186.length) = True := eq_true (by omega)
       (try rw [show ((0 : Int)).toNat = 0 from rfl] at hx190_0)
       (try rw [show 0 * 2 = 0 from rfl] at hx190_0); (try rw [Addr.add_zero'] at hx190_0); (try rw [show ((0 : Int)).toNat = 0 from rfl] at hx190_1)
       (try rw [show 0 * 2 = 0 from rfl] at hx190_1); (try rw [Addr.add_zero'] at hx190_1); replace p190 := eq_true p190
       replace q190 := eq_true q190
       as_aux_lemma =>
        go_wp2
        go_meet
        case rel => exact ⟨_, ((!(((rd_T40 t186 0).f0) == 9) || (!(((rd_T40 t186 0).f1) == 12)))), (by first | rfl | (simp; done) | (simp [*]; done)), H', ⟨by first | omega | exact Nat.le_refl _⟩, ⟨by (with_reducible repeat (first | apply Kd.R_alloc | apply Kd.R_drewN | apply Kd.R_drew)); exact Kd.R_mono HO179.out (fun _ hk => trivial)⟩, ⟨by (with_reducible repeat (first | apply Kd.N_alloc | apply Kd.N_drewN | apply Kd.N_drew)); exact Kd.N_mono HO169.out (fun _ hk => ⟨hk.1.1.1.2, ⟨hk.1.1.1.1.1.1.2, hk.1.1.1.1.1.2⟩⟩)⟩, ⟨by (with_reducible repeat (first | apply Kd.R_alloc | apply Kd.R_drewN | apply Kd.R_drew)); exact HO172.out⟩, ⟨by (with_reducible repeat (first | refine bN ?_ _ | refine bD ?_ | refine bA ?_ _)); exact BK173.out⟩, ⟨by repeat (first | (with_reducible first | exact HB.out | apply bL | apply bW | apply b1 | refine bS ?_ GE173.out) | exact HB.out)⟩⟩
      ·
       rw [if_neg c33] at H; exact absurd H (by simp)
    ·
     rw [if_neg c29] at H; exact absurd H (by simp)
   ·
    rw [if_neg c28] at H; have c28b0 : ((t186.length : Int) == 1) = false := beq_eq_false_iff_ne.mpr c28
    have c28b1 : ((t186.length : Int) != 1) = true := bne_iff_ne.mpr c28
    have H' := Aside0.mk H
    clear H; obtain ⟨Ao36, co36, eo36⟩ := Kd.R_slice HO179.out
    subst eo36; obtain ⟨Ao37, co37, eo37⟩ := Kd.R_slice HO188.out
    subst eo37
    as_aux_lemma =>
     go_wp2
     go_meet
     case rel => exact ⟨_, (true), (by first | rfl | (simp; done) | (simp [*]; done)), H', ⟨by first | omega | exact Nat.le_refl _⟩, ⟨by (with_reducible repeat (first | apply Kd.R_alloc | apply Kd.R_drewN | apply Kd.R_drew)); exact Kd.R_mono HO179.out (fun _ hk => trivial)⟩, ⟨by (with_reducible repeat (first | apply Kd.N_alloc | apply Kd.N_drewN | apply Kd.N_drew)); exact Kd.N_mono HO169.out (fun _ hk => ⟨hk.1.1.1.2, ⟨hk.1.1.1.1.1.1.2, hk.1.1.1.1.1.2⟩⟩)⟩, ⟨by (with_reducible repeat (first | apply Kd.R_alloc | apply Kd.R_drewN | apply Kd.R_drew)); exact HO172.out⟩, ⟨by (with_reducible repeat (first | refine bN ?_ _ | refine bD ?_ | refine bA ?_ _)); exact BK173.out⟩, ⟨by repeat (first | (with_reducible first | exact HB.out | apply bL | apply bW | apply b1 | refine bS ?_ GE173.out) | exact HB.out)⟩⟩
  ·
   rw [if_neg c27] at H; have c27b0 : ((t177.length : Int) == 1) = false := beq_eq_false_iff_ne.mpr c27
   have c27b1 : ((t177.length : Int) != 1) = true := bne_iff_ne.mpr c27
   (first | rw [c27b0] | (simp only [i64_w, i32_w]; rw [c27b0]) | skip)
   have H' := Aside0.mk H
   clear H; obtain ⟨Ao38, co38, eo38⟩ := Kd.R_slice HO179.out
   subst eo38
   as_aux_lemma =>
    go_wp2
    go_meet
    case rel => exact ⟨_, (true), (by first | rfl | (simp; done) | (simp [*]; done)), H', ⟨by first | omega | exact Nat.le_refl _⟩, ⟨by (with_reducible repeat (first | apply Kd.R_alloc | apply Kd.R_drewN | apply Kd.R_drew)); exact Kd.R_mono HO179.out (fun _ hk => trivial)⟩, ⟨by (with_reducible repeat (first | apply Kd.N_alloc | apply Kd.N_drewN | apply Kd.N_drew)); exact Kd.N_mono HO169.out (fun _ hk => ⟨hk.1.1.1.2, ⟨hk.1.1.1.1.1.1.2, hk.1.1.1.1.1.2⟩⟩)⟩, ⟨by (with_reducible repeat (first | apply Kd.R_alloc | apply Kd.R_drewN | apply Kd.R_drew)); exact HO172.out⟩, ⟨by (with_reducible repeat (first | refine bN ?_ _ | refine bD ?_ | refine bA ?_ _)); exact BK173.out⟩, ⟨by repeat (first | (with_reducible first | exact HB.out | apply bL | apply bW | apply b1 | refine bS ?_ GE173.out) | exact HB.out)⟩⟩
 case rest =>
  clear HC3; try clear c1
  try clear p1
  try clear q1
  try clear hx1
  try clear qi1
  try clear c2
  try clear p2
  try clear c3
  try clear c4
  try clear c5
  try clear c8
  try clear c11
  try clear p18
  try clear q18
  try clear hx18
  try clear qi18
  try clear p19
  try clear q19
  try clear hx19
  try clear qi19
  try clear c27
  try clear c27b0
  try clear c27b1
  try clear c28
  try clear c28b0
  try clear c28b1
  try clear c29
  try clear c29b0
  try clear c29b1
  try clear c30
  try clear c30b0
  try clear c33
  try clear c33b0
  try clear c33b1
  try clear hcz14_0
  try clear hcz14_1
  try clear hcz14_10
  try clear hcz14_2
  try clear hcz14_3
  try clear hcz14_4
  try clear hcz14_5
  try clear hcz14_6
  try clear hcz14_7
  try clear hcz14_8
  try clear hcz14_9
  try clear hcz19_0
  try clear hcz19_1
  try clear hcz19_10
  try clear hcz19_2
  try clear hcz19_3
  try clear hcz19_4
  try clear hcz19_5
  try clear hcz19_6
  try clear hcz19_7
  try clear hcz19_8
  try clear hcz19_9
  try clear hfz14_0
  try clear hfz14_1
  try clear hfz14_10
  try clear hfz14_2
  try clear hfz14_3
  try clear hfz14_4
  try clear hfz14_5
  try clear hfz14_6
  try clear hfz14_7
  try clear hfz14_8
  try clear hfz14_9
  try clear hfz19_0
  try clear hfz19_1
  try clear hfz19_10
  try clear hfz19_2
  try clear hfz19_3
  try clear hfz19_4
  try clear hfz19_5
  try clear hfz19_6
  try clear hfz19_7
  try clear hfz19_8
  try clear hfz19_9
  try clear hx189_0
  try clear hx189_1
  try clear hx190_0
  try clear hx190_1
  try clear p189
  try clear p190
  try clear q189
  try clear q190
  obtain ⟨kq, x44_2, rfl, HA, HJ2, HO_2, HO_174003, HO_174006, BK173, HB⟩ := hcut
  cases kq with
  | zero => exact absurd HA.out (by simp [bournelaw26_small0.j0])
  | succ kj2 =>
   have H := HA.out
   clear HA; simp only [bournelaw26_small0.j0] at H; by_cases c39 : x44_2 = true
   ·
    subst c39; have H1 : (some false) = some r := by rw [if_pos rfl] at H; exact H
    clear H; have H := H1
    clear H1; exact absurd (H.trans (congrArg some hT.out)) (by simp)
   ·
    replace c39 := Bool.eq_false_iff.mpr c39
    subst c39; have H1 : ((rain_Mesh.f kj2 (⟨#[]⟩ : ByteArray) ([] : List ByteArray) 1 y167 ([] : List (S104)) ([] : List (S106)) y170 ([] : List (S108)) ([] : List (S110)) ([] : List Int) 0 t177).bind fun t191 => (if (t191.length : Int) = 1 then (if 0 < (t191.length : Int) then (if (((rd_T40 t191 0).f0) == 8000 && (((rd_T40 t191 0).f1) == 12000)) = true then (if t191.length + t191.length < 8796093022208 then ((rain_Sum.f kj2 (t191 ++ t191)).bind fun bt198 => (some (bt198.1 == 16000 && (bt198.2 == 24000)))) else (none)) else (some false)) else (none)) else (some false))) = some r := by rw [if_neg (show ¬ (false = true) by decide)] at H; exact H
    clear H; have H := H1
    clear H1; replace H := Option.bind_eq_some_iff.mp H
    obtain ⟨t191, A400, H⟩ := H
    have A40 := Aside0.mk A400
    clear A400; by_cases c41 : (t191.length : Int) = 1
    ·
     rw [if_pos c41] at H; have c41b0 : ((t191.length : Int) == 1) = true := beq_iff_eq.mpr c41
     have c41b1 : ((t191.length : Int) != 1) = false := bne_eq_false_iff_eq.mpr c41
     clear c41; by_cases c42 : 0 < (t191.length : Int)
     ·
      rw [if_pos c42] at H; have c42b0 : decide (0 < (t191.length : Int)) = true := decide_eq_true c42
      have c42b1 : decide (0 < t191.length) = true := decide_eq_true (by omega)
      clear c42; by_cases c43 : (((rd_T40 t191 0).f0) == 8000 && (((rd_T40 t191 0).f1) == 12000)) = true
      ·
       rw [if_pos c43] at H; have c43b0 : (((rd_T40 t191 0).f0) == 8000 && (((rd_T40 t191 0).f1) == 12000)) = true := c43
       (try (have c43b1 : decide (((rd_T40 t191 0).f0) = 8000 && (((rd_T40 t191 0).f1) == 12000)) = true := by simpa using c43))
       (try (have c43b2 : (((rd_T40 t191 0).f0) == 8000 && (((rd_T40 t191 0).f1) == 12000)) = true := by simpa using c43))
       clear c43; by_cases c44 : t191.length + t191.length < 8796093022208
       ·
        rw [if_pos c44] at H; have LMc44 := Aside0.mk c44
        clear c44; obtain ⟨y195, hy195⟩ : ∃ y_ : List (S40), y_ = (t191 ++ t191) := ⟨_, rfl⟩
        replace H : ((rain_Sum.f kj2 y195).bind fun bt198 => (some (bt198.1 == 16000 && (bt198.2 == 24000)))) = some r := by first | (rw [hy195]; with_reducible exact H) | (have H2_ := (Option.bind_some _ _).symm.trans H; rw [hy195]; with_reducible exact H2_) | (have H2_ := (Option.bind_some _ _).symm.trans H; with_reducible exact H2_) | with_reducible exact H | (rw [hy195]; exact H) | exact H
        have Ny195 := Aside0.mk hy195
        clear hy195; replace H := Option.bind_eq_some_iff.mp H
        obtain ⟨⟨t198, t199⟩, A450, H⟩ := H
        dsimp only at H
        have A45 := Aside0.mk A450
        clear A450; obtain rfl := Option.some.inj H
        have hcz46_0 : wc.cell? ⟨gb173, 0, none⟩ = some (.string (⟨#[]⟩ : ByteArray)) := (bC BK173.out 0).trans rfl
        have hcz46_1 : wc.cell? ⟨gb173, 1, none⟩ = some (.slice none 0 0) := (bC BK173.out 1).trans rfl
        have hcz46_2 : wc.cell? ⟨gb173, 2, none⟩ = some (.int .i64 1) := (bC BK173.out 2).trans rfl
        have hcz46_3 : wc.cell? ⟨gb173, 3, none⟩ = some (.slice Ao12 y167.length co12) := (bC BK173.out 3).trans rfl
        have hcz46_4 : wc.cell? ⟨gb173, 4, none⟩ = some (.slice none 0 0) := (bC BK173.out 4).trans rfl
        have hcz46_5 : wc.cell? ⟨gb173, 5, none⟩ = some (.slice none 0 0) := (bC BK173.out 5).trans rfl
        have hcz46_6 : wc.cell? ⟨gb173, 6, none⟩ = some (.slice Ao11 y170.length co11) := (bC BK173.out 6).trans rfl
        have hcz46_7 : wc.cell? ⟨gb173, 7, none⟩ = some (.slice none 0 0) := (bC BK173.out 7).trans rfl
        have hcz46_8 : wc.cell? ⟨gb173, 8, none⟩ = some (.slice none 0 0) := (bC BK173.out 8).trans rfl
        have hcz46_9 : wc.cell? ⟨gb173, 9, none⟩ = some (.slice none 0 0) := (bC BK173.out 9).trans rfl
        have hcz46_10 : wc.cell? ⟨gb173, 10, none⟩ = some (.int .i64 0) := (bC BK173.out 10).trans rfl
        have hfz46_0 := bF BK173.out 0
        have hfz46_1 := bF BK173.out 1
        have hfz46_2 := bF BK173.out 2
        have hfz46_3 := bF BK173.out 3
        have hfz46_4 := bF BK173.out 4
        have hfz46_5 := bF BK173.out 5
        have hfz46_6 := bF BK173.out 6
        have hfz46_7 := bF BK173.out 7
        have hfz46_8 := bF BK173.out 8
        have hfz46_9 := bF BK173.out 9
        have hfz46_10 := bF BK173.out 10
        obtain ⟨Ao47, co47, eo47⟩ := Kd.R_slice HO_2.out
        subst eo47
        as_aux_lemma =>
         go_wp2_with (first | ((with_reducible refine gate_callee (f := 13) rfl ?_); refine goesL_ (some 47) rfl rfl Try.func13 (by kernel_rfl) rfl #[.agg #[.string (⟨#[]⟩ : ByteArray), .slice none 0 0, .int .i64 1, .slice Ao12 y167.length co12, .slice none 0 0, .slice none 0 0, .slice Ao11 y170.length co11, .slice none 0 0, .slice none 0 0, .slice none 0 0, .int .i64 0], .slice Ao47 t177.length co47] rfl (by (try simp only [List.map_toArray, List.map_cons, List.map_nil]); first | done | rfl | (simp only [List.length_drop, List.length_take]; rfl)) ?_; (refine (rain_Mesh.calls kj2 (⟨#[]⟩ : ByteArray) _ _ ([] : List ByteArray) 1 _ _ y167 _ _ ([] : List (S104)) _ _ ([] : List (S106)) _ _ y170 _ _ ([] : List (S108)) _ _ ([] : List (S110)) _ _ ([] : List Int) 0 _ _ t177 t191 _ ?side1 ?side2 ?side3 ?side4 ?side5 ?side6 ?side7 ?side8 ?side9 ?side10 ?side11 ?side12 ?side13 ?side14 ?side15 ?side16 ?side17 ?side18 A40.out).mono ?_); (case side1 => exact Kd.C_nil _ _); (case side2 => exact Nat.le_refl _); (case side3 => repeat (first | exact (Kd.N_reads' HO_174003.out).2.2 | (with_reducible refine Kd.C_alloc ?_ _) | (with_reducible refine Kd.C_drewN ?_ _) | (with_reducible refine Kd.C_drew ?_))); (case side4 => exact (Kd.N_reads' HO_174003.out).2.1); (case side5 => exact Kd.C_nil _ _); (case side6 => exact Nat.le_refl _); (case side7 => exact Kd.C_nil _ _); (case side8 => exact Nat.le_refl _); (case side9 => repeat (first | exact (Kd.R_reads' HO_174006.out).2.2 | (with_reducible refine Kd.C_alloc ?_ _) | (with_reducible refine Kd.C_drewN ?_ _) | (with_reducible refine Kd.C_drew ?_))); (case side10 => exact (Kd.R_reads' HO_174006.out).2.1); (case side11 => exact Kd.C_nil _ _); (case side12 => exact Nat.le_refl _); (case side13 => exact Kd.C_nil _ _); (case side14 => exact Nat.le_refl _); (case side15 => exact Kd.C_nil _ _); (case side16 => exact Nat.le_refl _); (case side17 => repeat (first | exact (Kd.R_reads' HO_2.out).2.2 | (with_reducible refine Kd.C_alloc ?_ _) | (with_reducible refine Kd.C_drewN ?_ _) | (with_reducible refine Kd.C_drew ?_))); (case side18 => exact (Kd.R_reads' HO_2.out).2.1); rintro e w48 ⟨v192, rfl, ho0, hb⟩; refine ⟨_, rfl, ?_⟩; have n0_ := Aside0.mk (Kd.R_elder' (by (with_reducible repeat (first | apply Kd.R_alloc | apply Kd.R_drewN | apply Kd.R_drew)); exact HO_2.out) (Kd.R_base ho0) hb); have n1_ := Aside0.mk (Kd.N_elder' (by (with_reducible repeat (first | apply Kd.N_alloc | apply Kd.N_drewN | apply Kd.N_drew)); exact HO_174003.out) (Kd.R_base ho0) hb); have n2_ := Aside0.mk (Kd.R_below (by (with_reducible repeat (first | apply Kd.R_alloc | apply Kd.R_drewN | apply Kd.R_drew)); exact HO_174006.out) hb); have n3_ := Aside0.mk (Kd.R_lower (Kd.R_new' ho0 (Kd.R_lt (by (with_reducible repeat (first | apply Kd.R_alloc | apply Kd.R_drewN | apply Kd.R_drew)); exact HO_2.out))) (bZ (by repeat (first | (with_reducible first | exact HB.out | apply bL | apply bW | apply b1 | refine bS ?_ GE173.out) | exact HB.out)))); have n4_ := Aside0.mk (bB (g := gb173) (o := .cells #[.string (⟨#[]⟩ : ByteArray), .slice none 0 0, .int .i64 1, .slice Ao12 y167.length co12, .slice none 0 0, .slice none 0 0, .slice Ao11 y170.length co11, .slice none 0 0, .slice none 0 0, .slice none 0 0, .int .i64 0] 31 (0, 0)) (by (with_reducible repeat (first | refine bN ?_ _ | refine bD ?_ | refine bA ?_ _)); exact BK173.out) hb); have n5_ := Aside0.mk (bP (by repeat (first | (with_reducible first | exact HB.out | apply bL | apply bW | apply b1 | refine bS ?_ GE173.out) | exact HB.out)) hb); clear HO_2; clear HO_174003; clear HO_174006; clear BK173; clear HB; have HO_2 := n0_; have HO_174003 := n1_; have HO_174006 := n2_; have HO193 := n3_; have BK173 := n4_; have HB := n5_; clear n0_ n1_ n2_ n3_ n4_ n5_; (try clear hb); (try clear hb2); (try clear hk); (try clear hi); (try clear ho0); obtain ⟨Ao49, co49, eo49⟩ := Kd.R_slice HO193.out; subst eo49; have p194 : 0 ≤ (0 : Int) := (by omega); have q194 : 0 < (t191.length : Int) := of_decide_eq_true (by first | (with_reducible assumption) | assumption); obtain ⟨ad194, e194, hx194_0, hx194_1⟩ := at_T40 (Kd.R_reads' HO193.out).2.2 0 p194 q194; cases e194; have qi194 : (0 < t191.length) = True := eq_true (by omega); (try rw [show ((0 : Int)).toNat = 0 from rfl] at hx194_0); (try rw [show 0 * 2 = 0 from rfl] at hx194_0); (try rw [Addr.add_zero'] at hx194_0); (try rw [show ((0 : Int)).toNat = 0 from rfl] at hx194_1); (try rw [show 0 * 2 = 0 from rfl] at hx194_1); (try rw [Addr.add_zero'] at hx194_1); replace p194 := eq_true p194; replace q194 := eq_true q194) | ((with_reducible refine gate_builtin (b := .append) (xs := #[.tmp 59, .tmp 60]) rfl ?_); (try (refine gate_guard (by rfl) ?_; dsimp only)); at_builtin; refine Kd.R_append_rows k40 (w0 := w) w.heap.size rfl (.tmp 59) (.tmp 60) 33 40 (.agg #[(.int .i64 0), (.int .i64 0)]) 16 rfl Try.underlying33 info40 rfl (by decide) (by omega) (.slice (some ad194) t191.length co49) t191 t191 _ _ _ (fun k_ => some k_ ≠ (.slice Ao47 t177.length co47 : Value).ownBlock) (fun _ => False) rfl rfl ?aO ?aR (fun _ _ h => h) (fun _ h => h.elim) ?aF ?aB ?aS ?aL ?_; (case aR => repeat (first | exact (Kd.R_reads' HO193.out).2.2 | (with_reducible refine Kd.C_alloc ?_ _) | (with_reducible refine Kd.C_drewN ?_ _) | (with_reducible refine Kd.C_drew ?_))); (case aB => exact (by repeat (first | (with_reducible first | exact HB.out | apply bL | apply bW | apply b1 | refine bS ?_ GE173.out) | exact HB.out))); (case aF => exact (fun k_ hk => Kd.fresh' (Kd.R_lt (by (with_reducible repeat (first | apply Kd.R_alloc | apply Kd.R_drewN | apply Kd.R_drew)); exact HO_2.out)) k_ hk)); (case aO => exact (by (with_reducible repeat (first | apply Kd.R_alloc | apply Kd.R_drewN | apply Kd.R_drew)); exact Kd.R_mono HO193.out (fun _ hk => hk.2))); (case aS => exact (bZ (by repeat (first | (with_reducible first | exact HB.out | apply bL | apply bW | apply b1 | refine bS ?_ GE173.out) | exact HB.out)))); (case aL => have := LMc44.out; omega); intro v196 w50 ho hb hg hat; rw [← Ny195.out] at ho; have n0_ := Aside0.mk (Kd.R_after (ok := (fun _ => True)) (by (with_reducible repeat (first | apply Kd.R_alloc | apply Kd.R_drewN | apply Kd.R_drew)); exact HO_2.out) hg hat); have n1_ := Aside0.mk (Kd.N_afterv (ok := (fun k_ => some k_ ≠ (.slice Ao47 t177.length co47 : Value).ownBlock ∧ some k_ ≠ (.slice Ao11 y170.length co11 : Value).ownBlock ∧ k_ ≠ gb173)) (by (with_reducible repeat (first | apply Kd.N_alloc | apply Kd.N_drewN | apply Kd.N_drew)); exact HO_174003.out) hg hat); have n2_ := Aside0.mk (Kd.R_over' (by (with_reducible repeat (first | apply Kd.R_alloc | apply Kd.R_drewN | apply Kd.R_drew)); exact HO_174006.out) (Kd.R_typed (by (with_reducible repeat (first | apply Kd.R_alloc | apply Kd.R_drewN | apply Kd.R_drew)); exact HO193.out)) (by decide) hg); have n3_ := Aside0.mk (blk_grown (g := gb173) (o := .cells #[.string (⟨#[]⟩ : ByteArray), .slice none 0 0, .int .i64 1, .slice Ao12 y167.length co12, .slice none 0 0, .slice none 0 0, .slice Ao11 y170.length co11, .slice none 0 0, .slice none 0 0, .slice none 0 0, .int .i64 0] 31 (0, 0)) (by (with_reducible repeat (first | refine bN ?_ _ | refine bD ?_ | refine bA ?_ _)); exact BK173.out) hg (Kd.R_ne HO193.out BK173.out (by decide))); have n4_ := Aside0.mk (hb); have n5_ := Aside0.mk (ho); clear HO_2; clear HO_174003; clear HO_174006; clear BK173; clear HB; clear HO193; have HO_2 := n0_; have HO_174003 := n1_; have HO_174006 := n2_; have BK173 := n3_; have HB := n4_; have HO197 := n5_; clear n0_ n1_ n2_ n3_ n4_ n5_; clear ho hb hg hat; obtain ⟨Ao51, co51, eo51⟩ := Kd.R_slice HO197.out; subst eo51) | (go_at_call 15; (with_reducible refine (rain_Sum.calls kj2 _ _ y195 t198 t199 _ ?side1 ?side2 A45.out).mono ?_); (case side1 => repeat (first | exact (Kd.R_reads' HO197.out).2.2 | (with_reducible refine Kd.C_alloc ?_ _) | (with_reducible refine Kd.C_drewN ?_ _) | (with_reducible refine Kd.C_drew ?_))); (case side2 => exact (Kd.R_reads' HO197.out).2.1); rintro e w52 ⟨rfl, hb⟩; (try clear A45); have n0_ := Aside0.mk (Kd.R_below (by (with_reducible repeat (first | apply Kd.R_alloc | apply Kd.R_drewN | apply Kd.R_drew)); exact HO_2.out) hb); have n1_ := Aside0.mk (Kd.N_below (by (with_reducible repeat (first | apply Kd.N_alloc | apply Kd.N_drewN | apply Kd.N_drew)); exact HO_174003.out) hb); have n2_ := Aside0.mk (Kd.R_below (by (with_reducible repeat (first | apply Kd.R_alloc | apply Kd.R_drewN | apply Kd.R_drew)); exact HO_174006.out) hb); have n3_ := Aside0.mk (Kd.R_below (by (with_reducible repeat (first | apply Kd.R_alloc | apply Kd.R_drewN | apply Kd.R_drew)); exact HO197.out) hb); have n4_ := Aside0.mk (bB (g := gb173) (o := .cells #[.string (⟨#[]⟩ : ByteArray), .slice none 0 0, .int .i64 1, .slice Ao12 y167.length co12, .slice none 0 0, .slice none 0 0, .slice Ao11 y170.length co11, .slice none 0 0, .slice none 0 0, .slice none 0 0, .int .i64 0] 31 (0, 0)) (by (with_reducible repeat (first | refine bN ?_ _ | refine bD ?_ | refine bA ?_ _)); exact BK173.out) hb); have n5_ := Aside0.mk (bP (by repeat (first | (with_reducible first | exact HB.out | apply bL | apply bW | apply b1 | refine bS ?_ GE173.out) | exact HB.out)) hb); clear HO_2; clear HO_174003; clear HO_174006; clear HO197; clear BK173; clear HB; have HO_2 := n0_; have HO_174003 := n1_; have HO_174006 := n2_; have HO197 := n3_; have BK173 := n4_; have HB := n5_; clear n0_ n1_ n2_ n3_ n4_ n5_; (try clear hb); (try clear hb2); (try clear hk); (try clear hi)))
         go_ret
         exact ⟨by first | rfl | (simp [errW_none, errW_some] <;> rfl) | (simp [*, errW_none, errW_some] <;> rfl), by repeat (first | (with_reducible first | exact HB.out | apply bL | apply bW | apply b1 | refine bS ?_ GE173.out) | exact HB.out)⟩
       ·
        rw [if_neg c44] at H; exact absurd H (by simp)
      ·
       rw [if_neg c43] at H; have c43b0 : (((rd_T40 t191 0).f0) == 8000 && (((rd_T40 t191 0).f1) == 12000)) = false := by simpa using c43
       (try (have c43b1 : decide (((rd_T40 t191 0).f0) = 8000 && (((rd_T40 t191 0).f1) == 12000)) = false := by simpa using c43))
       (try (have c43b2 : (((rd_T40 t191 0).f0) == 8000 && (((rd_T40 t191 0).f1) == 12000)) = false := by simpa using c43))
       (try (have c43b3 : ¬ (((rd_T40 t191 0).f0) = 8000 && (((rd_T40 t191 0).f1) == 12000)) := by simpa using c43))
       clear c43; exact absurd (H.trans (congrArg some hT.out)) (by simp)
     ·
      rw [if_neg c42] at H; exact absurd H (by simp)
    ·
     rw [if_neg c41] at H; have c41b0 : ((t191.length : Int) == 1) = false := beq_eq_false_iff_ne.mpr c41
     have c41b1 : ((t191.length : Int) != 1) = true := bne_iff_ne.mpr c41
     exact absurd (H.trans (congrArg some hT.out)) (by simp)
theorem bournelaw26_small0.holds : bournelaw26_small0.f 400 = some true := by decide +kernel
def bournelaw26_small.f (k : Nat) : Option Bool := some true
theorem bournelaw26_small.mono : ∀ k, LeO (bournelaw26_small.f k) (bournelaw26_small.f (k + 1)) := fun _ => LeO.refl _
theorem bournelaw26_small.calls (k : Nat)  (r : Bool) (w : World) (h : bournelaw26_small.f k = some r) :
  Calls Try.prog 8 #[] w fun e w' => e = .returned (.bool r) ∧ Below w.heap.size w w' := by
 obtain rfl : true = r := Option.some.inj h
 exact bournelaw26_small0.calls 400 true w ⟨rfl⟩ bournelaw26_small0.holds
end Go.Proofs.Ytpklgbnihgljmaa.Fn
