-- written by this session's program myprint.py out of the translation; Lean checks it
import Derived.Test.YtmkekbehipaopaaFn0
import Derived.Test.YtmkekbehipaopaaFn1
import Derived.Test.YtmkekbehipaopaaFn2
import Derived.Test.YtmkekbehipaopaaFn4
import Derived.Test.YtmkekbehipaopaaFn7
namespace Go.Proofs.Ytmkekbehipaopaa.Fn
open Go.RowKit Go.Proofs.YtmkekbehipaopaaW.PrintWords Go.Proofs.YtmkekbehipaopaaW.PrintLast Go.Proofs.YtmkekbehipaopaaW.PrintMore
open Bool renaming true → T, false → F
open List renaming setIfInBounds_toArray → lA, set_cons_zero → lZ, set_cons_succ → lS
open Go.Proofs.YtmkekbehipaopaaW.PrintWords renaming blk_drewN → bN, blk_drew → bD, blk_alloc → bA, below_set → bS, blk_cell → bC, blk_below → bB, blk_frozen → bF, pw_below_drewN → bW, below_drew1 → b1, below_alloc → bL, below_step → bP, below_size → bZ, blk_put → bU, blk_lt → bT
attribute [local go_sem] max2_int min2_int max_two min_two max_three min_three max_four min_four
set_option linter.unusedVariables false
set_option linter.unusedSimpArgs false
attribute [local go_sem high] eqA33
def curve_Band.f (k : Nat) (l0_0 : List (S37)) (l0_1 : List (S37)) (a1 : Int) : Option (Int × Int) := (curve_At.f k l0_0 a1).bind fun t158 => ((curve_At.f k l0_1 a1).bind fun t159 => (some (mn t158 t159, mx t158 t159)))
theorem curve_Band.mono : ∀ a0 a1 a2 k, LeO (curve_Band.f k a0 a1 a2) (curve_Band.f (k + 1) a0 a1 a2) := by
 intro a0 a1 a2 k; unfold curve_Band.f
 repeat' first
   | (with_reducible exact curve_At.mono _ _ _)
   | (with_reducible exact LeO.refl _)
   | (with_reducible exact LeO.none _)
   | (with_reducible refine LeO.ite ?_ ?_)
   | (with_reducible refine LeO.bind ?_ (fun _ => ?_))
   | exact curve_At.mono _ _ _
   | exact LeO.none _
   | refine LeO.ite ?_ ?_
   | refine LeO.bind ?_ (fun _ => ?_)
def curve_Band.T1 : Bool × List (List Nat × List Nat) := (true, [([], []), ([0], [0]), ([], []), ([1, 2], [1, 2]), ([], []), ([4], [4]), ([], []), ([5, 6, 3], [5, 6]), ([3, 7, 0, 1, 2, 3], [3]), ([7, 8, 0, 1, 2, 3, 4, 5, 6, 7, 8], [7])])
def curve_Band.B1 : List Nat := [0, 1, 0, 7, 0, 16, 0, 127, 255, 511]
theorem curve_Band.tab1 : rtab .any (opsOf Try.f19 1) = curve_Band.T1 := by kernel_rfl
theorem curve_Band.bits1 : waitsOk curve_Band.T1.2 curve_Band.B1 = true := by kernel_rfl
set_option maxHeartbeats 8000000 in
set_option maxRecDepth 100000 in
theorem curve_Band.calls (k : Nat) (A0_0 : Option Addr) (c0_0 : Nat) (l0_0 : List (S37)) (A0_1 : Option Addr) (c0_1 : Nat) (l0_1 : List (S37)) (a1 : Int) (r1 : Int) (r2 : Int) (w : World) (hr0_0 : Kd.C k37 w A0_0 l0_0.length l0_0) (hc0_0 : l0_0.length ≤ c0_0) (hr0_1 : Kd.C k37 w A0_1 l0_1.length l0_1) (hc0_1 : l0_1.length ≤ c0_1) (h : curve_Band.f k l0_0 l0_1 a1 = some (r1, r2)) :
  Calls Try.prog 19 #[.agg #[.slice A0_0 l0_0.length c0_0, .slice A0_1 l0_1.length c0_1], .int .i64 a1] w fun e w' => e = .returned (.agg #[.int .i64 r1, .int .i64 r2]) ∧ Below w.heap.size w w' := by
 have hu29 := Try.underlying29
 have hu33 := Try.underlying33
 have HR0_0 := Aside0.mk hr0_0
 have HC0_0 := Aside0.mk hc0_0
 clear hr0_0 hc0_0; have HR0_1 := Aside0.mk hr0_1
 have HC0_1 := Aside0.mk hc0_1
 clear hr0_1 hc0_1; have HB := Aside0.mk (Below.refl w.heap.size w)
 have H : ((curve_At.f k l0_0 a1).bind fun t158 => ((curve_At.f k l0_1 a1).bind fun t159 => (some (mn t158 t159, mx t158 t159)))) = some (r1, r2) := h
 clear h; replace H := Option.bind_eq_some_iff.mp H
 obtain ⟨t158, A30, H⟩ := H
 have A3 := Aside0.mk A30
 clear A30; replace H := Option.bind_eq_some_iff.mp H
 obtain ⟨t159, A40, H⟩ := H
 have A4 := Aside0.mk A40
 clear A40; obtain ⟨ji5, hji5⟩ : ∃ j_ : Int, (mn t158 t159) = j_ := ⟨_, rfl⟩
 replace H : (some (ji5, mx t158 t159)) = some (r1, r2) := by first | (rw [hji5] at H; exact H) | (simp only [hji5] at H ⊢; exact H)
 (try rw [hji5] at A3); (try rw [hji5] at A4); have hji5_ : (if t159 < t158 then t159 else t158) = ji5 := hji5
 obtain ⟨ji6, hji6⟩ : ∃ j_ : Int, (mx t158 t159) = j_ := ⟨_, rfl⟩
 replace H : (some (ji5, ji6)) = some (r1, r2) := by first | (rw [hji6] at H; exact H) | (simp only [hji6] at H ⊢; exact H)
 (try rw [hji6] at A3); (try rw [hji6] at A4); have hji6_ : (if t158 < t159 then t159 else t158) = ji6 := hji6
 simp only [Option.some.injEq, Prod.mk.injEq] at H; obtain ⟨rfl, rfl⟩ := H
 go_enter Try.func19, Try.ntmps19
 try go_wp2_with (first | ((with_reducible refine gate_dst (N := 2) rfl ?_); refine box_event ?hg (N := 2) ?hd (cs := #[.slice A0_0 l0_0.length c0_0, .slice A0_1 l0_1.length c0_1]) (t := 29) ?hr ?_; (case hd => rfl); (case hg => rfl); (case hr => first | (go_simp; done) | (go_simp; rfl)); intro gb156 hg w7 hbox hb; have n0_ := Aside0.mk (bP (by repeat (first | (with_reducible first | exact HB.out | apply bL | apply bW | apply b1) | exact HB.out)) hb); have n1_ := Aside0.mk (hbox); have n2_ := Aside0.mk ((by rw [hg]; exact (bZ (by repeat (first | (with_reducible first | exact HB.out | apply bL | apply bW | apply b1) | exact HB.out))) : w.heap.size ≤ gb156)); have n3_ := Aside0.mk ((by rw [hg]; exact (bZ (by repeat (first | (with_reducible first | exact HB.out | apply bL | apply bW | apply b1) | exact HB.out))) : w.heap.size ≤ gb156)); clear HB; have HB := n0_; have BK156 := n1_; have GW156 := n2_; have GE156 := n3_; clear n0_ n1_ n2_ n3_; clear hb hbox hg) | ((with_reducible refine gate_dst (N := 4) rfl ?_); refine box_event ?hg (N := 4) ?hd (cs := #[.int .i64 0, .int .i64 0]) (t := 33) ?hr ?_; (case hd => rfl); (case hg => rfl); (case hr => first | (go_simp; done) | (go_simp; rfl)); intro gb157 hg w8 hbox hb; have n0_ := Aside0.mk (bB (g := gb156) (o := .cells #[.slice A0_0 l0_0.length c0_0, .slice A0_1 l0_1.length c0_1] 29 (0, 0)) (by (with_reducible repeat (first | refine bN ?_ _ | refine bD ?_ | refine bA ?_ _)); exact BK156.out) hb); have n1_ := Aside0.mk (bP (by repeat (first | (with_reducible first | exact HB.out | apply bL | apply bW | apply b1 | refine bS ?_ GE156.out) | exact HB.out)) hb); have n2_ := Aside0.mk (hbox); have n3_ := Aside0.mk ((by rw [hg]; exact (bZ (by repeat (first | (with_reducible first | exact HB.out | apply bL | apply bW | apply b1 | refine bS ?_ GE156.out) | exact HB.out))) : w.heap.size ≤ gb157)); have n4_ := Aside0.mk ((by rw [hg]; exact (bZ (by repeat (first | (with_reducible first | exact HB.out | apply bL | apply bW | apply b1 | refine bS ?_ GE156.out) | exact HB.out))) : w.heap.size ≤ gb157)); have n5_ := Aside0.mk ((by rw [hg]; exact Nat.ne_of_lt (bT (g := gb156) (o := .cells #[.slice A0_0 l0_0.length c0_0, .slice A0_1 l0_1.length c0_1] 29 (0, 0)) (by (with_reducible repeat (first | refine bN ?_ _ | refine bD ?_ | refine bA ?_ _)); exact BK156.out)) : gb156 ≠ gb157)); have n6_ := Aside0.mk ((by rw [hg]; exact Nat.ne_of_gt (bT (g := gb156) (o := .cells #[.slice A0_0 l0_0.length c0_0, .slice A0_1 l0_1.length c0_1] 29 (0, 0)) (by (with_reducible repeat (first | refine bN ?_ _ | refine bD ?_ | refine bA ?_ _)); exact BK156.out)) : gb157 ≠ gb156)); clear BK156; clear HB; have BK156 := n0_; have HB := n1_; have BK157 := n2_; have GW157 := n3_; have GE157 := n4_; have NB156_157 := n5_; have NB157_156 := n6_; clear n0_ n1_ n2_ n3_ n4_ n5_ n6_; clear hb hbox hg))
 have n0_ := Aside0.mk (bD BK156.out)
 have n1_ := Aside0.mk (bD BK157.out)
 have n2_ := Aside0.mk (b1 HB.out)
 clear BK156; clear BK157; clear HB; have BK156 := n0_
 have BK157 := n1_
 have HB := n2_
 clear n0_ n1_ n2_; refine start_ (n := 10) (S := fun w' => w'.cell? ⟨gb156, 0, none⟩ = some (.slice A0_0 l0_0.length c0_0) ∧ w'.cell? ⟨gb156, 1, none⟩ = some (.slice A0_1 l0_1.length c0_1)) (ds := []) #[F,F,F,F,F,F,F,F,F,F] (by kernel_rfl) rfl rfl ⟨(bC BK156.out 0).trans rfl, (bC BK156.out 1).trans rfl⟩ (fun hHeld => ?_); refine with_tabW curve_Band.tab1 curve_Band.bits1 (fun HT_ HW_ => ?_)
 generalize w8.drew = w9 at BK156 BK157 HB hHeld ⊢
 refine pure_ (i := 0) (N := some 7) (v := ?_) (a' := ?_) #[T,F,F,F,F,F,F,F,F,F] rfl rfl (any_of HT_.out (by kernel_rfl)) (fun _ _ _ h => h) (Or.inl ⟨by rfl, ?_⟩) ?_ ?_
 rotate_left
 ·
  intro w'; go_simp; with_reducible rfl
 rotate_left
 ·
  simp only [Act.put, lA, lZ, lS, i64_w, i32_w]; rfl
 refine pure_ (i := 2) (N := some 9) (v := ?_) (a' := ?_) #[T,F,T,F,F,F,F,F,F,F] rfl rfl (any_of HT_.out (by kernel_rfl)) (fun _ _ _ h => h) (Or.inl ⟨by rfl, ?_⟩) ?_ ?_
 rotate_left
 ·
  intro w'; go_simp; with_reducible rfl
 rotate_left
 ·
  simp only [Act.put, lA, lZ, lS, i64_w, i32_w]; rfl
 refine pure_ (i := 4) (N := some 11) (v := ?_) (a' := ?_) #[T,F,T,F,T,F,F,F,F,F] rfl rfl (any_of HT_.out (by kernel_rfl)) (fun _ _ _ h => h) (Or.inl ⟨by rfl, ?_⟩) ?_ ?_
 rotate_left
 ·
  intro w'; go_simp; with_reducible rfl
 rotate_left
 ·
  simp only [Act.put, lA, lZ, lS, i64_w, i32_w]; rfl
 refine pure_ (i := 6) (N := some 13) (v := ?_) (a' := ?_) #[T,F,T,F,T,F,T,F,F,F] rfl rfl (any_of HT_.out (by kernel_rfl)) (fun _ _ _ h => h) (Or.inl ⟨by rfl, ?_⟩) ?_ ?_
 rotate_left
 ·
  intro w'; go_simp; with_reducible rfl
 rotate_left
 ·
  simp only [Act.put, lA, lZ, lS, i64_w, i32_w]; rfl
 refine take_ (i := 1) (N := some 8) (v := ?_) (a' := ?_) #[T,T,T,F,T,F,T,F,F,F] rfl rfl (take_ofW HT_.out HW_.out (by kernel_rfl)) (fun _ _ _ h => h) (Or.inl ⟨by rfl, ?_⟩) hHeld ?_ ?_
 rotate_left
 ·
  rintro w' ⟨s0, s1⟩
  go_simp; with_reducible rfl
 rotate_left
 ·
  simp only [Act.put, lA, lZ, lS, i64_w, i32_w]; rfl
 refine take_ (i := 5) (N := some 12) (v := ?_) (a' := ?_) #[T,T,T,F,T,T,T,F,F,F] rfl rfl (take_ofW HT_.out HW_.out (by kernel_rfl)) (fun _ _ _ h => h) (Or.inl ⟨by rfl, ?_⟩) hHeld ?_ ?_
 rotate_left
 ·
  rintro w' ⟨s0, s1⟩
  go_simp; with_reducible rfl
 rotate_left
 ·
  simp only [Act.put, lA, lZ, lS, i64_w, i32_w]; rfl
 refine one_ (i := 3) (N := some 10) #[T,T,T,T,T,T,T,F,F,F] rfl rfl (one_of HT_.out (by kernel_rfl)) (by decide) (fun K hK => ?_)
 refine goes_ Try.func13 (by kernel_rfl) rfl #[.slice A0_0 l0_0.length c0_0, .int .i64 a1] (by rfl) rfl rfl (by (try simp only [List.map_toArray, List.map_cons, List.map_nil]); first | done | rfl | (simp only [List.length_drop, List.length_take]; rfl)) ?_
 with_reducible refine (curve_At.calls k _ _ l0_0 a1 t158 _ ?side1 ?side2 A3.out).mono ?_
 (case side1 => repeat (first | exact (Kd.C_below HR0_0.out HB.out) | (with_reducible refine Kd.C_alloc ?_ _) | (with_reducible refine Kd.C_drewN ?_ _) | (with_reducible refine Kd.C_drew ?_)))
 (case side2 => exact HC0_0.out)
 rintro e w10 ⟨rfl, hb⟩
 refine ⟨_, rfl, ?_⟩
 have n0_ := Aside0.mk (bB (g := gb156) (o := .cells #[.slice A0_0 l0_0.length c0_0, .slice A0_1 l0_1.length c0_1] 29 (0, 0)) (by (with_reducible repeat (first | refine bN ?_ _ | refine bD ?_ | refine bA ?_ _)); exact BK156.out) hb)
 have n1_ := Aside0.mk (bB (g := gb157) (o := .cells #[.int .i64 0, .int .i64 0] 33 (0, 0)) (by (with_reducible repeat (first | refine bN ?_ _ | refine bD ?_ | refine bA ?_ _)); exact BK157.out) hb)
 have n2_ := Aside0.mk (bP (by repeat (first | (with_reducible first | exact HB.out | apply bL | apply bW | apply b1 | refine bS ?_ GE156.out | refine bS ?_ GE157.out) | exact HB.out)) hb)
 clear BK156; clear BK157; clear HB; have BK156 := n0_
 have BK157 := n1_
 have HB := n2_
 clear n0_ n1_ n2_; (try clear hb); (try clear hb2); (try clear hk); (try clear hi); refine hK.out _ _ ⟨(bC BK156.out 0).trans rfl, (bC BK156.out 1).trans rfl⟩ (fun hHeld => ?_)
 clear hK K; refine norm_ (a' := ?_) ?_ ?_
 rotate_left
 ·
  show Act.put _ (some 10) _ = _
  simp only [Act.put, lA, lZ, lS, i64_w, i32_w]; rfl
 refine one_ (i := 7) (N := some 14) #[T,T,T,T,T,T,T,T,F,F] rfl rfl (one_of HT_.out (by kernel_rfl)) (by decide) (fun K hK => ?_)
 refine goes_ Try.func13 (by kernel_rfl) rfl #[.slice A0_1 l0_1.length c0_1, .int .i64 a1] (by rfl) rfl rfl (by (try simp only [List.map_toArray, List.map_cons, List.map_nil]); first | done | rfl | (simp only [List.length_drop, List.length_take]; rfl)) ?_
 with_reducible refine (curve_At.calls k _ _ l0_1 a1 t159 _ ?side1 ?side2 A4.out).mono ?_
 (case side1 => repeat (first | exact (Kd.C_below HR0_1.out HB.out) | (with_reducible refine Kd.C_alloc ?_ _) | (with_reducible refine Kd.C_drewN ?_ _) | (with_reducible refine Kd.C_drew ?_)))
 (case side2 => exact HC0_1.out)
 rintro e w11 ⟨rfl, hb⟩
 refine ⟨_, rfl, ?_⟩
 have n0_ := Aside0.mk (bB (g := gb156) (o := .cells #[.slice A0_0 l0_0.length c0_0, .slice A0_1 l0_1.length c0_1] 29 (0, 0)) (by (with_reducible repeat (first | refine bN ?_ _ | refine bD ?_ | refine bA ?_ _)); exact BK156.out) hb)
 have n1_ := Aside0.mk (bB (g := gb157) (o := .cells #[.int .i64 0, .int .i64 0] 33 (0, 0)) (by (with_reducible repeat (first | refine bN ?_ _ | refine bD ?_ | refine bA ?_ _)); exact BK157.out) hb)
 have n2_ := Aside0.mk (bP (by repeat (first | (with_reducible first | exact HB.out | apply bL | apply bW | apply b1 | refine bS ?_ GE156.out | refine bS ?_ GE157.out) | exact HB.out)) hb)
 clear BK156; clear BK157; clear HB; have BK156 := n0_
 have BK157 := n1_
 have HB := n2_
 clear n0_ n1_ n2_; (try clear hb); (try clear hb2); (try clear hk); (try clear hi); refine hK.out _ _ ⟨(bC BK156.out 0).trans rfl, (bC BK156.out 1).trans rfl⟩ (fun hHeld => ?_)
 clear hK K; refine norm_ (a' := ?_) ?_ ?_
 rotate_left
 ·
  show Act.put _ (some 14) _ = _
  simp only [Act.put, lA, lZ, lS, i64_w, i32_w]; rfl
 refine pure_ (i := 8) (N := some 5) (v := ?_) (a' := ?_) #[T,T,T,T,T,T,T,T,T,F] rfl rfl (any_of HT_.out (by kernel_rfl)) (fun _ _ _ h => h) (Or.inl ⟨by rfl, ?_⟩) ?_ ?_
 rotate_left
 ·
  intro w'; go_simp; with_reducible rfl
 rotate_left
 ·
  simp only [Act.put, lA, lZ, lS, i64_w, i32_w]; rfl
 refine pure_ (i := 9) (N := some 6) (v := ?_) (a' := ?_) #[T,T,T,T,T,T,T,T,T,T] rfl rfl (any_of HT_.out (by kernel_rfl)) (fun _ _ _ h => h) (Or.inl ⟨by rfl, ?_⟩) ?_ ?_
 rotate_left
 ·
  intro w'; go_simp; with_reducible rfl
 rotate_left
 ·
  simp only [Act.put, lA, lZ, lS, i64_w, i32_w]; rfl
 refine done_ (done_of HT_.out (by kernel_rfl)) ?_
 have hnb12 := NB157_156.out
 have hnc12 := NB156_157.out
 have hcz13_0 : w11.cell? ⟨gb157, 0, none⟩ = some (.int .i64 0) := (bC BK157.out 0).trans rfl
 have hcz13_1 : w11.cell? ⟨gb157, 1, none⟩ = some (.int .i64 0) := (bC BK157.out 1).trans rfl
 have hfz13_0 := bF BK157.out 0
 have hfz13_1 := bF BK157.out 1
 try go_wp2
 refine bodyPost_ret (results_cell_row rfl _ _ gb157 33 #[.int .i64 ji5, .int .i64 ji6] (0, 0) _ rfl (by (with_reducible repeat (first | refine bN ?_ _ | refine bD ?_ | refine bA ?_ _)); refine bU (cs := #[.int .i64 ji5, .int .i64 0]) ?_ 1 _ rfl; (with_reducible repeat (first | refine bN ?_ _ | refine bD ?_ | refine bA ?_ _)); refine bU (cs := #[.int .i64 0, .int .i64 0]) ?_ 0 _ rfl; (with_reducible repeat (first | refine bN ?_ _ | refine bD ?_ | refine bA ?_ _)); exact BK157.out) Try.underlying33 rfl (by kernel_rfl)) rfl ?_
 exact ⟨by first | rfl | (simp [errW_none, errW_some] <;> rfl) | (simp only [← hji5, ← hji6]; first | rfl | (simp [errW_none, errW_some] <;> rfl)) | (simp [*, errW_none, errW_some] <;> rfl), by repeat (first | (with_reducible first | exact HB.out | apply bL | apply bW | apply b1 | refine bS ?_ GE156.out | refine bS ?_ GE157.out) | exact HB.out)⟩
mutual
def bournelaw10_small0.j0 : Nat → List (S37) → Int → Bool → Int → Bool → Bool → Bool → Option (Bool)
 | 0, _, _, _, _, _, _, _ => none
 | k + 1, x1, x2, x3, x4, x5, x7, x8 => (curve_Right.f k x1).bind fun t173 => (if t173 = true then ((curve_Right.f k ([] : List (S37))).bind fun t174 => (if t174 = true then (bournelaw10_small0.j1 k x1 x2 x3 x4 x5 x7 x8 false) else ((curve_Right.f k (([(⟨0, 2⟩ : S37), (⟨1, 1⟩ : S37)] : List (S37)))).bind fun t178 => (if t178 = true then (bournelaw10_small0.j1 k x1 x2 x3 x4 x5 x7 x8 false) else ((curve_Right.f k (([(⟨5, 7⟩ : S37)] : List (S37)))).bind fun t182 => (bournelaw10_small0.j1 k x1 x2 x3 x4 x5 x7 x8 t182)))))) else (bournelaw10_small0.j1 k x1 x2 x3 x4 x5 x7 x8 false))
def bournelaw10_small0.j1 : Nat → List (S37) → Int → Bool → Int → Bool → Bool → Bool → Bool → Option (Bool)
 | 0, _, _, _, _, _, _, _, _ => none
 | k + 1, x1, x2, x3, x4, x5, x7, x8, x9 => if x8 = true then (if x2 = 2 then (if x3 = true then (if x4 = 11 then (if x5 = true then (if x7 = true then (some false) else ((curve_Slope.f k x1 19 2).bind fun t183 => (if t183 = true then ((curve_Slope.f k x1 9 1).bind fun t184 => (if t184 = true then (some false) else ((curve_Under.f k x1 x1).bind fun t185 => (if t185 = true then ((curve_Under.f k x1 (([(⟨0, 50⟩ : S37)] : List (S37)))).bind fun t189 => (if t189 = true then (some false) else (if x9 = true then ((curve_Band.f k x1 x1 15).bind fun bt190 => (some (bt190.1 == 52 && (bt190.2 == 52)))) else (some false)))) else (some false))))) else (some false)))) else (some false)) else (some false)) else (some false)) else (some false)) else (some false)
end
def bournelaw10_small0.f (k : Nat)  : Option (Bool) := (some (([(⟨0, 0⟩ : S37), (⟨10, 5⟩ : S37), (⟨20, 100⟩ : S37)] : List (S37)) : List (S37))).bind fun y160 => ((curve_Least.f k y160 1).bind fun bt163 => ((curve_Least.f k y160 6).bind fun bt165 => ((curve_Least.f k y160 101).bind fun bt167 => ((curve_At.f k y160 (-3)).bind fun t169 => (if t169 = 0 then ((curve_At.f k y160 3).bind fun t170 => (if t170 = 1 then ((curve_At.f k y160 15).bind fun t171 => (if t171 = 52 then ((curve_At.f k y160 99).bind fun t172 => (bournelaw10_small0.j0 k y160 bt163.1 bt163.2 bt165.1 bt165.2 bt167.2 (t172 == 100))) else (bournelaw10_small0.j0 k y160 bt163.1 bt163.2 bt165.1 bt165.2 bt167.2 false))) else (bournelaw10_small0.j0 k y160 bt163.1 bt163.2 bt165.1 bt165.2 bt167.2 false))) else (bournelaw10_small0.j0 k y160 bt163.1 bt163.2 bt165.1 bt165.2 bt167.2 false))))))
theorem bournelaw10_small0.mono_l : ∀ k, (∀ y0 y1 y2 y3 y4 y5 y6, LeO (bournelaw10_small0.j0 k y0 y1 y2 y3 y4 y5 y6) (bournelaw10_small0.j0 (k + 1) y0 y1 y2 y3 y4 y5 y6)) ∧ (∀ y0 y1 y2 y3 y4 y5 y6 y7, LeO (bournelaw10_small0.j1 k y0 y1 y2 y3 y4 y5 y6 y7) (bournelaw10_small0.j1 (k + 1) y0 y1 y2 y3 y4 y5 y6 y7))
 | 0 => ⟨fun _ _ _ _ _ _ _ r h => by simp [bournelaw10_small0.j0] at h, fun _ _ _ _ _ _ _ _ r h => by simp [bournelaw10_small0.j1] at h⟩
 | k + 1 => by
  obtain ⟨ih0, ih1⟩ := bournelaw10_small0.mono_l k
  refine ⟨?_, ?_⟩
  ·
   intro y0 y1 y2 y3 y4 y5 y6; unfold bournelaw10_small0.j0
   repeat' first
   | (with_reducible exact ih0 _ _ _ _ _ _ _)
   | (with_reducible exact ih1 _ _ _ _ _ _ _ _)
   | (with_reducible exact curve_At.mono _ _ _)
   | (with_reducible exact curve_Band.mono _ _ _ _)
   | (with_reducible exact curve_Least.mono _ _ _)
   | (with_reducible exact curve_Right.mono _ _)
   | (with_reducible exact curve_Slope.mono _ _ _ _)
   | (with_reducible exact curve_Under.mono _ _ _)
   | (with_reducible exact LeO.refl _)
   | (with_reducible exact LeO.none _)
   | (with_reducible refine LeO.ite ?_ ?_)
   | (with_reducible refine LeO.bind ?_ (fun _ => ?_))
   | exact ih0 _ _ _ _ _ _ _
   | exact ih1 _ _ _ _ _ _ _ _
   | exact curve_At.mono _ _ _
   | exact curve_Band.mono _ _ _ _
   | exact curve_Least.mono _ _ _
   | exact curve_Right.mono _ _
   | exact curve_Slope.mono _ _ _ _
   | exact curve_Under.mono _ _ _
   | exact LeO.none _
   | refine LeO.ite ?_ ?_
   | refine LeO.bind ?_ (fun _ => ?_)
  ·
   intro y0 y1 y2 y3 y4 y5 y6 y7; unfold bournelaw10_small0.j1
   repeat' first
   | (with_reducible exact ih0 _ _ _ _ _ _ _)
   | (with_reducible exact ih1 _ _ _ _ _ _ _ _)
   | (with_reducible exact curve_At.mono _ _ _)
   | (with_reducible exact curve_Band.mono _ _ _ _)
   | (with_reducible exact curve_Least.mono _ _ _)
   | (with_reducible exact curve_Right.mono _ _)
   | (with_reducible exact curve_Slope.mono _ _ _ _)
   | (with_reducible exact curve_Under.mono _ _ _)
   | (with_reducible exact LeO.refl _)
   | (with_reducible exact LeO.none _)
   | (with_reducible refine LeO.ite ?_ ?_)
   | (with_reducible refine LeO.bind ?_ (fun _ => ?_))
   | exact ih0 _ _ _ _ _ _ _
   | exact ih1 _ _ _ _ _ _ _ _
   | exact curve_At.mono _ _ _
   | exact curve_Band.mono _ _ _ _
   | exact curve_Least.mono _ _ _
   | exact curve_Right.mono _ _
   | exact curve_Slope.mono _ _ _ _
   | exact curve_Under.mono _ _ _
   | exact LeO.none _
   | refine LeO.ite ?_ ?_
   | refine LeO.bind ?_ (fun _ => ?_)
theorem bournelaw10_small0.mono : ∀ k, LeO (bournelaw10_small0.f k ) (bournelaw10_small0.f (k + 1) ) := by
 intro  k; obtain ⟨ih0, ih1⟩ := bournelaw10_small0.mono_l k
 unfold bournelaw10_small0.f
 repeat' first
   | (with_reducible exact ih0 _ _ _ _ _ _ _)
   | (with_reducible exact ih1 _ _ _ _ _ _ _ _)
   | (with_reducible exact curve_At.mono _ _ _)
   | (with_reducible exact curve_Band.mono _ _ _ _)
   | (with_reducible exact curve_Least.mono _ _ _)
   | (with_reducible exact curve_Right.mono _ _)
   | (with_reducible exact curve_Slope.mono _ _ _ _)
   | (with_reducible exact curve_Under.mono _ _ _)
   | (with_reducible exact LeO.refl _)
   | (with_reducible exact LeO.none _)
   | (with_reducible refine LeO.ite ?_ ?_)
   | (with_reducible refine LeO.bind ?_ (fun _ => ?_))
   | exact ih0 _ _ _ _ _ _ _
   | exact ih1 _ _ _ _ _ _ _ _
   | exact curve_At.mono _ _ _
   | exact curve_Band.mono _ _ _ _
   | exact curve_Least.mono _ _ _
   | exact curve_Right.mono _ _
   | exact curve_Slope.mono _ _ _ _
   | exact curve_Under.mono _ _ _
   | exact LeO.none _
   | refine LeO.ite ?_ ?_
   | refine LeO.bind ?_ (fun _ => ?_)
set_option maxHeartbeats 8000000 in
set_option maxRecDepth 100000 in
theorem bournelaw10_small0.calls (k : Nat)  (r : Bool) (w : World) (hT : Aside0 (r = true)) (h : bournelaw10_small0.f k  = some r) :
  Calls Try.prog 8 #[] w fun e w' => e = .returned (.bool r) ∧ Below w.heap.size w w' := by
 have hu37 := Try.underlying37
 have hu29 := Try.underlying29
 have hu33 := Try.underlying33
 have HB := Aside0.mk (Below.refl w.heap.size w)
 have H : ((some (([(⟨0, 0⟩ : S37), (⟨10, 5⟩ : S37), (⟨20, 100⟩ : S37)] : List (S37)) : List (S37))).bind fun y160 => ((curve_Least.f k y160 1).bind fun bt163 => ((curve_Least.f k y160 6).bind fun bt165 => ((curve_Least.f k y160 101).bind fun bt167 => ((curve_At.f k y160 (-3)).bind fun t169 => (if t169 = 0 then ((curve_At.f k y160 3).bind fun t170 => (if t170 = 1 then ((curve_At.f k y160 15).bind fun t171 => (if t171 = 52 then ((curve_At.f k y160 99).bind fun t172 => (bournelaw10_small0.j0 k y160 bt163.1 bt163.2 bt165.1 bt165.2 bt167.2 (t172 == 100))) else (bournelaw10_small0.j0 k y160 bt163.1 bt163.2 bt165.1 bt165.2 bt167.2 false))) else (bournelaw10_small0.j0 k y160 bt163.1 bt163.2 bt165.1 bt165.2 bt167.2 false))) else (bournelaw10_small0.j0 k y160 bt163.1 bt163.2 bt165.1 bt165.2 bt167.2 false))))))) = some r := h
 clear h; obtain ⟨y160, hy160⟩ : ∃ y_ : List (S37), y_ = (([(⟨0, 0⟩ : S37), (⟨10, 5⟩ : S37), (⟨20, 100⟩ : S37)] : List (S37))) := ⟨_, rfl⟩
 replace H : ((curve_Least.f k y160 1).bind fun bt163 => ((curve_Least.f k y160 6).bind fun bt165 => ((curve_Least.f k y160 101).bind fun bt167 => ((curve_At.f k y160 (-3)).bind fun t169 => (if t169 = 0 then ((curve_At.f k y160 3).bind fun t170 => (if t170 = 1 then ((curve_At.f k y160 15).bind fun t171 => (if t171 = 52 then ((curve_At.f k y160 99).bind fun t172 => (bournelaw10_small0.j0 k y160 bt163.1 bt163.2 bt165.1 bt165.2 bt167.2 (t172 == 100))) else (bournelaw10_small0.j0 k y160 bt163.1 bt163.2 bt165.1 bt165.2 bt167.2 false))) else (bournelaw10_small0.j0 k y160 bt163.1 bt163.2 bt165.1 bt165.2 bt167.2 false))) else (bournelaw10_small0.j0 k y160 bt163.1 bt163.2 bt165.1 bt165.2 bt167.2 false)))))) = some r := by first | (rw [hy160]; with_reducible exact H) | (have H2_ := (Option.bind_some _ _).symm.trans H; rw [hy160]; with_reducible exact H2_) | (have H2_ := (Option.bind_some _ _).symm.trans H; with_reducible exact H2_) | with_reducible exact H | (rw [hy160]; exact H) | exact H
 have Ny160 := Aside0.mk hy160
 clear hy160; replace H := Option.bind_eq_some_iff.mp H
 obtain ⟨⟨t163, t164⟩, A10, H⟩ := H
 dsimp only at H
 have A1 := Aside0.mk A10
 clear A10; replace H := Option.bind_eq_some_iff.mp H
 obtain ⟨⟨t165, t166⟩, A20, H⟩ := H
 dsimp only at H
 have A2 := Aside0.mk A20
 clear A20; replace H := Option.bind_eq_some_iff.mp H
 obtain ⟨⟨t167, t168⟩, A30, H⟩ := H
 dsimp only at H
 have A3 := Aside0.mk A30
 clear A30; have HC4 := Aside0.mk H
 clear H; go_enter Try.func8, Try.ntmps8
 (try simp only [List.append_eq, List.cons_append, List.nil_append]); go_upto_region 5 with (first | ((with_reducible refine gate_dst (N := 13) rfl ?_); (try (refine gate_guard (by rfl) ?_; dsimp only)); refine Kd.R_lit k37 _ 37 ?hg (N := 13) ?hd (xs := ([(⟨0, 0⟩ : S37), (⟨10, 5⟩ : S37), (⟨20, 100⟩ : S37)] : List (S37))) (inner := [.int .i64 0, .int .i64 0, .int .i64 10, .int .i64 5, .int .i64 20, .int .i64 100]) (ok := fun _ => True) (okp := fun _ => True) ?hr ?hp (fun _ hk => hk) trivial (Below.refl _ _) (Nat.le_refl _) (by simp) ?_; (case hd => rfl); (case hg => rfl); (case hr => first | (go_simp; done) | (go_simp; rfl)); (case hp => exact (Reps.c2 (show Kd.M k37 _ _ _ (⟨0, 0⟩ : S37) [.int .i64 0, .int .i64 0] from (k37_mkM _ _ _ (⟨0, 0⟩ : S37) )) (Reps.c2 (show Kd.M k37 _ _ _ (⟨10, 5⟩ : S37) [.int .i64 10, .int .i64 5] from (k37_mkM _ _ _ (⟨10, 5⟩ : S37) )) (Reps.c2 (show Kd.M k37 _ _ _ (⟨20, 100⟩ : S37) [.int .i64 20, .int .i64 100] from (k37_mkM _ _ _ (⟨20, 100⟩ : S37) )) (Reps.none _ _))))); intro v161 w5 ho6 hb hg_ hnew_; clear hg_ hnew_; (first | rw [← Ny160.out] at ho6 | (simp only [Int.reduceToNat] at ho6; rw [← Ny160.out] at ho6)); have n0_ := Aside0.mk (Kd.R_lower ho6 (bZ (by repeat (first | (with_reducible first | exact HB.out | apply bL | apply bW | apply b1) | exact HB.out)))); have n1_ := Aside0.mk (bP (by repeat (first | (with_reducible first | exact HB.out | apply bL | apply bW | apply b1) | exact HB.out)) hb); clear HB; have HO162 := n0_; have HB := n1_; clear n0_ n1_; clear hb ho6; obtain ⟨Ao7, co7, eo7⟩ := Kd.R_slice HO162.out; subst eo7) | ((with_reducible refine gate_callee (f := 9) rfl ?_); refine goesL_ (some 16) rfl rfl Try.func9 (by kernel_rfl) rfl #[.slice Ao7 y160.length co7, .int .i64 1] rfl (by (try simp only [List.map_toArray, List.map_cons, List.map_nil]); first | done | rfl | (simp only [List.length_drop, List.length_take]; rfl)) ?_; (with_reducible refine (curve_Least.calls k _ _ y160 1 t163 t164 _ ?side1 ?side2 A1.out).mono ?_); (case side1 => repeat (first | exact (Kd.R_reads' HO162.out).2.2 | (with_reducible refine Kd.C_alloc ?_ _) | (with_reducible refine Kd.C_drewN ?_ _) | (with_reducible refine Kd.C_drew ?_))); (case side2 => exact (Kd.R_reads' HO162.out).2.1); rintro e w8 ⟨rfl, hb⟩; refine ⟨_, rfl, ?_⟩; have n0_ := Aside0.mk (Kd.R_below (by (with_reducible repeat (first | apply Kd.R_alloc | apply Kd.R_drewN | apply Kd.R_drew)); exact HO162.out) hb); have n1_ := Aside0.mk (bP (by repeat (first | (with_reducible first | exact HB.out | apply bL | apply bW | apply b1) | exact HB.out)) hb); clear HO162; clear HB; have HO162 := n0_; have HB := n1_; clear n0_ n1_; (try clear hb); (try clear hb2); (try clear hk); (try clear hi)) | ((with_reducible refine gate_callee (f := 9) rfl ?_); refine goesL_ (some 21) rfl rfl Try.func9 (by kernel_rfl) rfl #[.slice Ao7 y160.length co7, .int .i64 6] rfl (by (try simp only [List.map_toArray, List.map_cons, List.map_nil]); first | done | rfl | (simp only [List.length_drop, List.length_take]; rfl)) ?_; (with_reducible refine (curve_Least.calls k _ _ y160 6 t165 t166 _ ?side1 ?side2 A2.out).mono ?_); (case side1 => repeat (first | exact (Kd.R_reads' HO162.out).2.2 | (with_reducible refine Kd.C_alloc ?_ _) | (with_reducible refine Kd.C_drewN ?_ _) | (with_reducible refine Kd.C_drew ?_))); (case side2 => exact (Kd.R_reads' HO162.out).2.1); rintro e w9 ⟨rfl, hb⟩; refine ⟨_, rfl, ?_⟩; have n0_ := Aside0.mk (Kd.R_below (by (with_reducible repeat (first | apply Kd.R_alloc | apply Kd.R_drewN | apply Kd.R_drew)); exact HO162.out) hb); have n1_ := Aside0.mk (bP (by repeat (first | (with_reducible first | exact HB.out | apply bL | apply bW | apply b1) | exact HB.out)) hb); clear HO162; clear HB; have HO162 := n0_; have HB := n1_; clear n0_ n1_; (try clear hb); (try clear hb2); (try clear hk); (try clear hi)) | ((with_reducible refine gate_callee (f := 9) rfl ?_); refine goesL_ (some 26) rfl rfl Try.func9 (by kernel_rfl) rfl #[.slice Ao7 y160.length co7, .int .i64 101] rfl (by (try simp only [List.map_toArray, List.map_cons, List.map_nil]); first | done | rfl | (simp only [List.length_drop, List.length_take]; rfl)) ?_; (with_reducible refine (curve_Least.calls k _ _ y160 101 t167 t168 _ ?side1 ?side2 A3.out).mono ?_); (case side1 => repeat (first | exact (Kd.R_reads' HO162.out).2.2 | (with_reducible refine Kd.C_alloc ?_ _) | (with_reducible refine Kd.C_drewN ?_ _) | (with_reducible refine Kd.C_drew ?_))); (case side2 => exact (Kd.R_reads' HO162.out).2.1); rintro e w10 ⟨rfl, hb⟩; refine ⟨_, rfl, ?_⟩; have n0_ := Aside0.mk (Kd.R_below (by (with_reducible repeat (first | apply Kd.R_alloc | apply Kd.R_drewN | apply Kd.R_drew)); exact HO162.out) hb); have n1_ := Aside0.mk (bP (by repeat (first | (with_reducible first | exact HB.out | apply bL | apply bW | apply b1) | exact HB.out)) hb); clear HO162; clear HB; have HO162 := n0_; have HB := n1_; clear n0_ n1_; (try clear hb); (try clear hb2); (try clear hk); (try clear hi)))
 (try simp only [Act.put, lA, lZ, lS]); go_cut [8] (fun v8 wc => ∃ (kq : Nat) (x8_3 : Bool), v8 = .bool x8_3 ∧ Aside0 (bournelaw10_small0.j0 kq y160 t163 t164 t165 t166 t168 x8_3 = some r) ∧ Aside0 (kq ≤ k) ∧ Aside0 (Kd.R k37 37 wc w.heap.size (fun _ => True) (.slice Ao7 y160.length co7) y160) ∧ Aside0 (Below w.heap.size w wc))
 case first =>
  have H := HC4.out
  clear HC4; replace H := Option.bind_eq_some_iff.mp H
  obtain ⟨t169, A110, H⟩ := H
  have A11 := Aside0.mk A110
  clear A110; by_cases c12 : t169 = 0
  ·
   rw [if_pos c12] at H; have c12b0 : (t169 == 0) = true := beq_iff_eq.mpr c12
   have c12b1 : (t169 != 0) = false := bne_eq_false_iff_eq.mpr c12
   clear c12; (first | rw [c12b0] | (simp only [i64_w, i32_w]; rw [c12b0]) | skip)
   replace H := Option.bind_eq_some_iff.mp H
   obtain ⟨t170, A130, H⟩ := H
   have A13 := Aside0.mk A130
   clear A130; by_cases c14 : t170 = 1
   ·
    rw [if_pos c14] at H; have c14b0 : (t170 == 1) = true := beq_iff_eq.mpr c14
    have c14b1 : (t170 != 1) = false := bne_eq_false_iff_eq.mpr c14
    clear c14; replace H := Option.bind_eq_some_iff.mp H
    obtain ⟨t171, A150, H⟩ := H
    have A15 := Aside0.mk A150
    clear A150; by_cases c16 : t171 = 52
    ·
     rw [if_pos c16] at H; have c16b0 : (t171 == 52) = true := beq_iff_eq.mpr c16
     have c16b1 : (t171 != 52) = false := bne_eq_false_iff_eq.mpr c16
     clear c16; replace H := Option.bind_eq_some_iff.mp H
     obtain ⟨t172, A170, H⟩ := H
     have A17 := Aside0.mk A170
     clear A170; have H' := Aside0.mk H
     clear H; go_wp2_with (first | ((with_reducible refine gate_callee (f := 13) rfl ?_); refine goesL_ (some 30) rfl rfl Try.func13 (by kernel_rfl) rfl #[.slice Ao7 y160.length co7, .int .i64 (-3)] rfl (by (try simp only [List.map_toArray, List.map_cons, List.map_nil]); first | done | rfl | (simp only [List.length_drop, List.length_take]; rfl)) ?_; (with_reducible refine (curve_At.calls k _ _ y160 (-3) t169 _ ?side1 ?side2 A11.out).mono ?_); (case side1 => repeat (first | exact (Kd.R_reads' HO162.out).2.2 | (with_reducible refine Kd.C_alloc ?_ _) | (with_reducible refine Kd.C_drewN ?_ _) | (with_reducible refine Kd.C_drew ?_))); (case side2 => exact (Kd.R_reads' HO162.out).2.1); rintro e w18 ⟨rfl, hb⟩; refine ⟨_, rfl, ?_⟩; have n0_ := Aside0.mk (Kd.R_below (by (with_reducible repeat (first | apply Kd.R_alloc | apply Kd.R_drewN | apply Kd.R_drew)); exact HO162.out) hb); have n1_ := Aside0.mk (bP (by repeat (first | (with_reducible first | exact HB.out | apply bL | apply bW | apply b1) | exact HB.out)) hb); clear HO162; clear HB; have HO162 := n0_; have HB := n1_; clear n0_ n1_; (try clear hb); (try clear hb2); (try clear hk); (try clear hi)) | (go_at_call 13; (with_reducible refine (curve_At.calls k _ _ y160 3 t170 _ ?side1 ?side2 A13.out).mono ?_); (case side1 => repeat (first | exact (Kd.R_reads' HO162.out).2.2 | (with_reducible refine Kd.C_alloc ?_ _) | (with_reducible refine Kd.C_drewN ?_ _) | (with_reducible refine Kd.C_drew ?_))); (case side2 => exact (Kd.R_reads' HO162.out).2.1); rintro e w19 ⟨rfl, hb⟩; (try clear A13); have n0_ := Aside0.mk (Kd.R_below (by (with_reducible repeat (first | apply Kd.R_alloc | apply Kd.R_drewN | apply Kd.R_drew)); exact HO162.out) hb); have n1_ := Aside0.mk (bP (by repeat (first | (with_reducible first | exact HB.out | apply bL | apply bW | apply b1) | exact HB.out)) hb); clear HO162; clear HB; have HO162 := n0_; have HB := n1_; clear n0_ n1_; (try clear hb); (try clear hb2); (try clear hk); (try clear hi)) | (go_at_call 13; (with_reducible refine (curve_At.calls k _ _ y160 15 t171 _ ?side1 ?side2 A15.out).mono ?_); (case side1 => repeat (first | exact (Kd.R_reads' HO162.out).2.2 | (with_reducible refine Kd.C_alloc ?_ _) | (with_reducible refine Kd.C_drewN ?_ _) | (with_reducible refine Kd.C_drew ?_))); (case side2 => exact (Kd.R_reads' HO162.out).2.1); rintro e w20 ⟨rfl, hb⟩; (try clear A15); have n0_ := Aside0.mk (Kd.R_below (by (with_reducible repeat (first | apply Kd.R_alloc | apply Kd.R_drewN | apply Kd.R_drew)); exact HO162.out) hb); have n1_ := Aside0.mk (bP (by repeat (first | (with_reducible first | exact HB.out | apply bL | apply bW | apply b1) | exact HB.out)) hb); clear HO162; clear HB; have HO162 := n0_; have HB := n1_; clear n0_ n1_; (try clear hb); (try clear hb2); (try clear hk); (try clear hi)) | (go_at_call 13; (with_reducible refine (curve_At.calls k _ _ y160 99 t172 _ ?side1 ?side2 A17.out).mono ?_); (case side1 => repeat (first | exact (Kd.R_reads' HO162.out).2.2 | (with_reducible refine Kd.C_alloc ?_ _) | (with_reducible refine Kd.C_drewN ?_ _) | (with_reducible refine Kd.C_drew ?_))); (case side2 => exact (Kd.R_reads' HO162.out).2.1); rintro e w21 ⟨rfl, hb⟩; (try clear A17); have n0_ := Aside0.mk (Kd.R_below (by (with_reducible repeat (first | apply Kd.R_alloc | apply Kd.R_drewN | apply Kd.R_drew)); exact HO162.out) hb); have n1_ := Aside0.mk (bP (by repeat (first | (with_reducible first | exact HB.out | apply bL | apply bW | apply b1) | exact HB.out)) hb); clear HO162; clear HB; have HO162 := n0_; have HB := n1_; clear n0_ n1_; (try clear hb); (try clear hb2); (try clear hk); (try clear hi)))
     go_meet
     case rel => exact ⟨_, ((t172 == 100)), (by first | rfl | (simp; done) | (simp [*]; done)), H', ⟨by first | omega | exact Nat.le_refl _⟩, ⟨by (with_reducible repeat (first | apply Kd.R_alloc | apply Kd.R_drewN | apply Kd.R_drew)); exact HO162.out⟩, ⟨by repeat (first | (with_reducible first | exact HB.out | apply bL | apply bW | apply b1) | exact HB.out)⟩⟩
    ·
     rw [if_neg c16] at H; have c16b0 : (t171 == 52) = false := beq_eq_false_iff_ne.mpr c16
     have c16b1 : (t171 != 52) = true := bne_iff_ne.mpr c16
     have H' := Aside0.mk H
     clear H; go_wp2_with (first | ((with_reducible refine gate_callee (f := 13) rfl ?_); refine goesL_ (some 30) rfl rfl Try.func13 (by kernel_rfl) rfl #[.slice Ao7 y160.length co7, .int .i64 (-3)] rfl (by (try simp only [List.map_toArray, List.map_cons, List.map_nil]); first | done | rfl | (simp only [List.length_drop, List.length_take]; rfl)) ?_; (with_reducible refine (curve_At.calls k _ _ y160 (-3) t169 _ ?side1 ?side2 A11.out).mono ?_); (case side1 => repeat (first | exact (Kd.R_reads' HO162.out).2.2 | (with_reducible refine Kd.C_alloc ?_ _) | (with_reducible refine Kd.C_drewN ?_ _) | (with_reducible refine Kd.C_drew ?_))); (case side2 => exact (Kd.R_reads' HO162.out).2.1); rintro e w22 ⟨rfl, hb⟩; refine ⟨_, rfl, ?_⟩; have n0_ := Aside0.mk (Kd.R_below (by (with_reducible repeat (first | apply Kd.R_alloc | apply Kd.R_drewN | apply Kd.R_drew)); exact HO162.out) hb); have n1_ := Aside0.mk (bP (by repeat (first | (with_reducible first | exact HB.out | apply bL | apply bW | apply b1) | exact HB.out)) hb); clear HO162; clear HB; have HO162 := n0_; have HB := n1_; clear n0_ n1_; (try clear hb); (try clear hb2); (try clear hk); (try clear hi)) | (go_at_call 13; (with_reducible refine (curve_At.calls k _ _ y160 3 t170 _ ?side1 ?side2 A13.out).mono ?_); (case side1 => repeat (first | exact (Kd.R_reads' HO162.out).2.2 | (with_reducible refine Kd.C_alloc ?_ _) | (with_reducible refine Kd.C_drewN ?_ _) | (with_reducible refine Kd.C_drew ?_))); (case side2 => exact (Kd.R_reads' HO162.out).2.1); rintro e w23 ⟨rfl, hb⟩; (try clear A13); have n0_ := Aside0.mk (Kd.R_below (by (with_reducible repeat (first | apply Kd.R_alloc | apply Kd.R_drewN | apply Kd.R_drew)); exact HO162.out) hb); have n1_ := Aside0.mk (bP (by repeat (first | (with_reducible first | exact HB.out | apply bL | apply bW | apply b1) | exact HB.out)) hb); clear HO162; clear HB; have HO162 := n0_; have HB := n1_; clear n0_ n1_; (try clear hb); (try clear hb2); (try clear hk); (try clear hi)) | (go_at_call 13; (with_reducible refine (curve_At.calls k _ _ y160 15 t171 _ ?side1 ?side2 A15.out).mono ?_); (case side1 => repeat (first | exact (Kd.R_reads' HO162.out).2.2 | (with_reducible refine Kd.C_alloc ?_ _) | (with_reducible refine Kd.C_drewN ?_ _) | (with_reducible refine Kd.C_drew ?_))); (case side2 => exact (Kd.R_reads' HO162.out).2.1); rintro e w24 ⟨rfl, hb⟩; (try clear A15); have n0_ := Aside0.mk (Kd.R_below (by (with_reducible repeat (first | apply Kd.R_alloc | apply Kd.R_drewN | apply Kd.R_drew)); exact HO162.out) hb); have n1_ := Aside0.mk (bP (by repeat (first | (with_reducible first | exact HB.out | apply bL | apply bW | apply b1) | exact HB.out)) hb); clear HO162; clear HB; have HO162 := n0_; have HB := n1_; clear n0_ n1_; (try clear hb); (try clear hb2); (try clear hk); (try clear hi)))
     go_meet
     case rel => exact ⟨_, (false), (by first | rfl | (simp; done) | (simp [*]; done)), H', ⟨by first | omega | exact Nat.le_refl _⟩, ⟨by (with_reducible repeat (first | apply Kd.R_alloc | apply Kd.R_drewN | apply Kd.R_drew)); exact HO162.out⟩, ⟨by repeat (first | (with_reducible first | exact HB.out | apply bL | apply bW | apply b1) | exact HB.out)⟩⟩
   ·
    rw [if_neg c14] at H; have c14b0 : (t170 == 1) = false := beq_eq_false_iff_ne.mpr c14
    have c14b1 : (t170 != 1) = true := bne_iff_ne.mpr c14
    have H' := Aside0.mk H
    clear H; go_wp2_with (first | ((with_reducible refine gate_callee (f := 13) rfl ?_); refine goesL_ (some 30) rfl rfl Try.func13 (by kernel_rfl) rfl #[.slice Ao7 y160.length co7, .int .i64 (-3)] rfl (by (try simp only [List.map_toArray, List.map_cons, List.map_nil]); first | done | rfl | (simp only [List.length_drop, List.length_take]; rfl)) ?_; (with_reducible refine (curve_At.calls k _ _ y160 (-3) t169 _ ?side1 ?side2 A11.out).mono ?_); (case side1 => repeat (first | exact (Kd.R_reads' HO162.out).2.2 | (with_reducible refine Kd.C_alloc ?_ _) | (with_reducible refine Kd.C_drewN ?_ _) | (with_reducible refine Kd.C_drew ?_))); (case side2 => exact (Kd.R_reads' HO162.out).2.1); rintro e w25 ⟨rfl, hb⟩; refine ⟨_, rfl, ?_⟩; have n0_ := Aside0.mk (Kd.R_below (by (with_reducible repeat (first | apply Kd.R_alloc | apply Kd.R_drewN | apply Kd.R_drew)); exact HO162.out) hb); have n1_ := Aside0.mk (bP (by repeat (first | (with_reducible first | exact HB.out | apply bL | apply bW | apply b1) | exact HB.out)) hb); clear HO162; clear HB; have HO162 := n0_; have HB := n1_; clear n0_ n1_; (try clear hb); (try clear hb2); (try clear hk); (try clear hi)) | (go_at_call 13; (with_reducible refine (curve_At.calls k _ _ y160 3 t170 _ ?side1 ?side2 A13.out).mono ?_); (case side1 => repeat (first | exact (Kd.R_reads' HO162.out).2.2 | (with_reducible refine Kd.C_alloc ?_ _) | (with_reducible refine Kd.C_drewN ?_ _) | (with_reducible refine Kd.C_drew ?_))); (case side2 => exact (Kd.R_reads' HO162.out).2.1); rintro e w26 ⟨rfl, hb⟩; (try clear A13); have n0_ := Aside0.mk (Kd.R_below (by (with_reducible repeat (first | apply Kd.R_alloc | apply Kd.R_drewN | apply Kd.R_drew)); exact HO162.out) hb); have n1_ := Aside0.mk (bP (by repeat (first | (with_reducible first | exact HB.out | apply bL | apply bW | apply b1) | exact HB.out)) hb); clear HO162; clear HB; have HO162 := n0_; have HB := n1_; clear n0_ n1_; (try clear hb); (try clear hb2); (try clear hk); (try clear hi)))
    go_meet
    case rel => exact ⟨_, (false), (by first | rfl | (simp; done) | (simp [*]; done)), H', ⟨by first | omega | exact Nat.le_refl _⟩, ⟨by (with_reducible repeat (first | apply Kd.R_alloc | apply Kd.R_drewN | apply Kd.R_drew)); exact HO162.out⟩, ⟨by repeat (first | (with_reducible first | exact HB.out | apply bL | apply bW | apply b1) | exact HB.out)⟩⟩
  ·
   rw [if_neg c12] at H; have c12b0 : (t169 == 0) = false := beq_eq_false_iff_ne.mpr c12
   have c12b1 : (t169 != 0) = true := bne_iff_ne.mpr c12
   (first | rw [c12b0] | (simp only [i64_w, i32_w]; rw [c12b0]) | skip)
   have H' := Aside0.mk H
   clear H; go_wp2_with (first | ((with_reducible refine gate_callee (f := 13) rfl ?_); refine goesL_ (some 30) rfl rfl Try.func13 (by kernel_rfl) rfl #[.slice Ao7 y160.length co7, .int .i64 (-3)] rfl (by (try simp only [List.map_toArray, List.map_cons, List.map_nil]); first | done | rfl | (simp only [List.length_drop, List.length_take]; rfl)) ?_; (with_reducible refine (curve_At.calls k _ _ y160 (-3) t169 _ ?side1 ?side2 A11.out).mono ?_); (case side1 => repeat (first | exact (Kd.R_reads' HO162.out).2.2 | (with_reducible refine Kd.C_alloc ?_ _) | (with_reducible refine Kd.C_drewN ?_ _) | (with_reducible refine Kd.C_drew ?_))); (case side2 => exact (Kd.R_reads' HO162.out).2.1); rintro e w27 ⟨rfl, hb⟩; refine ⟨_, rfl, ?_⟩; have n0_ := Aside0.mk (Kd.R_below (by (with_reducible repeat (first | apply Kd.R_alloc | apply Kd.R_drewN | apply Kd.R_drew)); exact HO162.out) hb); have n1_ := Aside0.mk (bP (by repeat (first | (with_reducible first | exact HB.out | apply bL | apply bW | apply b1) | exact HB.out)) hb); clear HO162; clear HB; have HO162 := n0_; have HB := n1_; clear n0_ n1_; (try clear hb); (try clear hb2); (try clear hk); (try clear hi)))
   go_meet
   case rel => exact ⟨_, (false), (by first | rfl | (simp; done) | (simp [*]; done)), H', ⟨by first | omega | exact Nat.le_refl _⟩, ⟨by (with_reducible repeat (first | apply Kd.R_alloc | apply Kd.R_drewN | apply Kd.R_drew)); exact HO162.out⟩, ⟨by repeat (first | (with_reducible first | exact HB.out | apply bL | apply bW | apply b1) | exact HB.out)⟩⟩
 case rest =>
  clear HC4; try clear c1
  try clear c2
  try clear p2
  try clear c8
  try clear c9
  try clear c12
  try clear c12b0
  try clear c12b1
  try clear c13
  try clear c14
  try clear c14b0
  try clear c14b1
  try clear c16
  try clear c16b0
  try clear c16b1
  obtain ⟨kq, x8_3, rfl, HA, HJ3, HO_1, HB⟩ := hcut
  cases kq with
  | zero => exact absurd HA.out (by simp [bournelaw10_small0.j0])
  | succ kj3 =>
   have H := HA.out
   clear HA; simp only [bournelaw10_small0.j0] at H; have HC28 := Aside0.mk H
   clear H; go_upto_region 6 with (fail)
   go_cut [9] (fun v9 wc => ∃ (kq : Nat) (x9_27 : Bool), v9 = .bool x9_27 ∧ Aside0 (bournelaw10_small0.j1 kq y160 t163 t164 t165 t166 t168 x8_3 x9_27 = some r) ∧ Aside0 (kq ≤ kj3) ∧ Aside0 (Kd.R k37 37 wc w.heap.size (fun _ => True) (.slice Ao7 y160.length co7) y160) ∧ Aside0 (Below w.heap.size w wc))
   case first =>
    have H := HC28.out
    clear HC28; replace H := Option.bind_eq_some_iff.mp H
    obtain ⟨t173, A290, H⟩ := H
    have A29 := Aside0.mk A290
    clear A290; by_cases c30 : t173 = true
    ·
     subst c30; have H1 : ((curve_Right.f kj3 ([] : List (S37))).bind fun t174 => (if t174 = true then (bournelaw10_small0.j1 kj3 y160 t163 t164 t165 t166 t168 x8_3 false) else ((curve_Right.f kj3 (([(⟨0, 2⟩ : S37), (⟨1, 1⟩ : S37)] : List (S37)))).bind fun t178 => (if t178 = true then (bournelaw10_small0.j1 kj3 y160 t163 t164 t165 t166 t168 x8_3 false) else ((curve_Right.f kj3 (([(⟨5, 7⟩ : S37)] : List (S37)))).bind fun t182 => (bournelaw10_small0.j1 kj3 y160 t163 t164 t165 t166 t168 x8_3 t182)))))) = some r := by rw [if_pos rfl] at H; exact H
     clear H; have H := H1
     clear H1; replace H := Option.bind_eq_some_iff.mp H
     obtain ⟨t174, A310, H⟩ := H
     have A31 := Aside0.mk A310
     clear A310; by_cases c32 : t174 = true
     ·
      subst c32; have H1 : (bournelaw10_small0.j1 kj3 y160 t163 t164 t165 t166 t168 x8_3 false) = some r := by rw [if_pos rfl] at H; exact H
      clear H; have H := H1
      clear H1; have H' := Aside0.mk H
      clear H; go_wp2_with (first | ((with_reducible refine gate_callee (f := 11) rfl ?_); refine goesL_ (some 48) rfl rfl Try.func11 (by kernel_rfl) rfl #[.slice Ao7 y160.length co7] rfl (by (try simp only [List.map_toArray, List.map_cons, List.map_nil]); first | done | rfl | (simp only [List.length_drop, List.length_take]; rfl)) ?_; (with_reducible refine (curve_Right.calls kj3 _ _ y160 true _ ?side1 ?side2 A29.out).mono ?_); (case side1 => repeat (first | exact (Kd.R_reads' HO_1.out).2.2 | (with_reducible refine Kd.C_alloc ?_ _) | (with_reducible refine Kd.C_drewN ?_ _) | (with_reducible refine Kd.C_drew ?_))); (case side2 => exact (Kd.R_reads' HO_1.out).2.1); rintro e w33 ⟨rfl, hb⟩; refine ⟨_, rfl, ?_⟩; have n0_ := Aside0.mk (Kd.R_below (by (with_reducible repeat (first | apply Kd.R_alloc | apply Kd.R_drewN | apply Kd.R_drew)); exact HO_1.out) hb); have n1_ := Aside0.mk (bP (by repeat (first | (with_reducible first | exact HB.out | apply bL | apply bW | apply b1) | exact HB.out)) hb); clear HO_1; clear HB; have HO_1 := n0_; have HB := n1_; clear n0_ n1_; (try clear hb); (try clear hb2); (try clear hk); (try clear hi)) | (go_at_call 11; (refine (curve_Right.calls kj3 _ _ ([] : List (S37)) true _ ?side1 ?side2 A31.out).mono ?_); (case side1 => exact Kd.C_nil _ _); (case side2 => exact Nat.le_refl _); rintro e w34 ⟨rfl, hb⟩; (try clear A31); have n0_ := Aside0.mk (Kd.R_below (by (with_reducible repeat (first | apply Kd.R_alloc | apply Kd.R_drewN | apply Kd.R_drew)); exact HO_1.out) hb); have n1_ := Aside0.mk (bP (by repeat (first | (with_reducible first | exact HB.out | apply bL | apply bW | apply b1) | exact HB.out)) hb); clear HO_1; clear HB; have HO_1 := n0_; have HB := n1_; clear n0_ n1_; (try clear hb); (try clear hb2); (try clear hk); (try clear hi)))
      go_meet
      case rel => exact ⟨_, (false), (by first | rfl | (simp; done) | (simp [*]; done)), H', ⟨by have := HJ3.out; first | omega | exact Nat.le_refl _⟩, ⟨by (with_reducible repeat (first | apply Kd.R_alloc | apply Kd.R_drewN | apply Kd.R_drew)); exact HO_1.out⟩, ⟨by repeat (first | (with_reducible first | exact HB.out | apply bL | apply bW | apply b1) | exact HB.out)⟩⟩
     ·
      replace c32 := Bool.eq_false_iff.mpr c32
      subst c32; have H1 : ((curve_Right.f kj3 (([(⟨0, 2⟩ : S37), (⟨1, 1⟩ : S37)] : List (S37)))).bind fun t178 => (if t178 = true then (bournelaw10_small0.j1 kj3 y160 t163 t164 t165 t166 t168 x8_3 false) else ((curve_Right.f kj3 (([(⟨5, 7⟩ : S37)] : List (S37)))).bind fun t182 => (bournelaw10_small0.j1 kj3 y160 t163 t164 t165 t166 t168 x8_3 t182)))) = some r := by rw [if_neg (show ¬ (false = true) by decide)] at H; exact H
      clear H; have H := H1
      clear H1; obtain ⟨y175, hy175⟩ : ∃ y_ : List (S37), y_ = (([(⟨0, 2⟩ : S37), (⟨1, 1⟩ : S37)] : List (S37))) := ⟨_, rfl⟩
      replace H : ((curve_Right.f kj3 y175).bind fun t178 => (if t178 = true then (bournelaw10_small0.j1 kj3 y160 t163 t164 t165 t166 t168 x8_3 false) else ((curve_Right.f kj3 (([(⟨5, 7⟩ : S37)] : List (S37)))).bind fun t182 => (bournelaw10_small0.j1 kj3 y160 t163 t164 t165 t166 t168 x8_3 t182)))) = some r := by first | (rw [hy175]; with_reducible exact H) | (have H2_ := (Option.bind_some _ _).symm.trans H; rw [hy175]; with_reducible exact H2_) | (have H2_ := (Option.bind_some _ _).symm.trans H; with_reducible exact H2_) | with_reducible exact H | (rw [hy175]; exact H) | exact H
      have Ny175 := Aside0.mk hy175
      clear hy175; replace H := Option.bind_eq_some_iff.mp H
      obtain ⟨t178, A350, H⟩ := H
      have A35 := Aside0.mk A350
      clear A350; by_cases c36 : t178 = true
      ·
       subst c36; have H1 : (bournelaw10_small0.j1 kj3 y160 t163 t164 t165 t166 t168 x8_3 false) = some r := by rw [if_pos rfl] at H; exact H
       clear H; have H := H1
       clear H1; have H' := Aside0.mk H
       clear H; go_wp2_with (first | ((with_reducible refine gate_callee (f := 11) rfl ?_); refine goesL_ (some 48) rfl rfl Try.func11 (by kernel_rfl) rfl #[.slice Ao7 y160.length co7] rfl (by (try simp only [List.map_toArray, List.map_cons, List.map_nil]); first | done | rfl | (simp only [List.length_drop, List.length_take]; rfl)) ?_; (with_reducible refine (curve_Right.calls kj3 _ _ y160 true _ ?side1 ?side2 A29.out).mono ?_); (case side1 => repeat (first | exact (Kd.R_reads' HO_1.out).2.2 | (with_reducible refine Kd.C_alloc ?_ _) | (with_reducible refine Kd.C_drewN ?_ _) | (with_reducible refine Kd.C_drew ?_))); (case side2 => exact (Kd.R_reads' HO_1.out).2.1); rintro e w37 ⟨rfl, hb⟩; refine ⟨_, rfl, ?_⟩; have n0_ := Aside0.mk (Kd.R_below (by (with_reducible repeat (first | apply Kd.R_alloc | apply Kd.R_drewN | apply Kd.R_drew)); exact HO_1.out) hb); have n1_ := Aside0.mk (bP (by repeat (first | (with_reducible first | exact HB.out | apply bL | apply bW | apply b1) | exact HB.out)) hb); clear HO_1; clear HB; have HO_1 := n0_; have HB := n1_; clear n0_ n1_; (try clear hb); (try clear hb2); (try clear hk); (try clear hi)) | (go_at_call 11; (refine (curve_Right.calls kj3 _ _ ([] : List (S37)) false _ ?side1 ?side2 A31.out).mono ?_); (case side1 => exact Kd.C_nil _ _); (case side2 => exact Nat.le_refl _); rintro e w38 ⟨rfl, hb⟩; (try clear A31); have n0_ := Aside0.mk (Kd.R_below (by (with_reducible repeat (first | apply Kd.R_alloc | apply Kd.R_drewN | apply Kd.R_drew)); exact HO_1.out) hb); have n1_ := Aside0.mk (bP (by repeat (first | (with_reducible first | exact HB.out | apply bL | apply bW | apply b1) | exact HB.out)) hb); clear HO_1; clear HB; have HO_1 := n0_; have HB := n1_; clear n0_ n1_; (try clear hb); (try clear hb2); (try clear hk); (try clear hi)) | ((with_reducible refine gate_dst (N := 56) rfl ?_); (try (refine gate_guard (by rfl) ?_; dsimp only)); refine Kd.R_lit k37 _ 37 ?hg (N := 56) ?hd (xs := ([(⟨0, 2⟩ : S37), (⟨1, 1⟩ : S37)] : List (S37))) (inner := [.int .i64 0, .int .i64 2, .int .i64 1, .int .i64 1]) (ok := fun _ => True) (okp := fun _ => True) ?hr ?hp (fun _ hk => hk) trivial (Below.refl _ _) (Nat.le_refl _) (by simp) ?_; (case hd => rfl); (case hg => rfl); (case hr => first | (go_simp; done) | (go_simp; rfl)); (case hp => exact (Reps.c2 (show Kd.M k37 _ _ _ (⟨0, 2⟩ : S37) [.int .i64 0, .int .i64 2] from (k37_mkM _ _ _ (⟨0, 2⟩ : S37) )) (Reps.c2 (show Kd.M k37 _ _ _ (⟨1, 1⟩ : S37) [.int .i64 1, .int .i64 1] from (k37_mkM _ _ _ (⟨1, 1⟩ : S37) )) (Reps.none _ _)))); intro v176 w39 ho40 hb hg_ hnew_; clear hg_ hnew_; (first | rw [← Ny175.out] at ho40 | (simp only [Int.reduceToNat] at ho40; rw [← Ny175.out] at ho40)); have n0_ := Aside0.mk (Kd.R_elder' (by (with_reducible repeat (first | apply Kd.R_alloc | apply Kd.R_drewN | apply Kd.R_drew)); exact HO_1.out) (Kd.R_base ho40) hb); have n1_ := Aside0.mk (Kd.R_lower (Kd.R_new' ho40 (Kd.R_lt (by (with_reducible repeat (first | apply Kd.R_alloc | apply Kd.R_drewN | apply Kd.R_drew)); exact HO_1.out))) (bZ (by repeat (first | (with_reducible first | exact HB.out | apply bL | apply bW | apply b1) | exact HB.out)))); have n2_ := Aside0.mk (bP (by repeat (first | (with_reducible first | exact HB.out | apply bL | apply bW | apply b1) | exact HB.out)) hb); clear HO_1; clear HB; have HO_1 := n0_; have HO177 := n1_; have HB := n2_; clear n0_ n1_ n2_; clear hb ho40; obtain ⟨Ao41, co41, eo41⟩ := Kd.R_slice HO177.out; subst eo41) | (go_at_call 11; (with_reducible refine (curve_Right.calls kj3 _ _ y175 true _ ?side1 ?side2 A35.out).mono ?_); (case side1 => repeat (first | exact (Kd.R_reads' HO177.out).2.2 | (with_reducible refine Kd.C_alloc ?_ _) | (with_reducible refine Kd.C_drewN ?_ _) | (with_reducible refine Kd.C_drew ?_))); (case side2 => exact (Kd.R_reads' HO177.out).2.1); rintro e w42 ⟨rfl, hb⟩; (try clear A35); have n0_ := Aside0.mk (Kd.R_below (by (with_reducible repeat (first | apply Kd.R_alloc | apply Kd.R_drewN | apply Kd.R_drew)); exact HO_1.out) hb); have n1_ := Aside0.mk (Kd.R_below (by (with_reducible repeat (first | apply Kd.R_alloc | apply Kd.R_drewN | apply Kd.R_drew)); exact HO177.out) hb); have n2_ := Aside0.mk (bP (by repeat (first | (with_reducible first | exact HB.out | apply bL | apply bW | apply b1) | exact HB.out)) hb); clear HO_1; clear HO177; clear HB; have HO_1 := n0_; have HO177 := n1_; have HB := n2_; clear n0_ n1_ n2_; (try clear hb); (try clear hb2); (try clear hk); (try clear hi)))
       go_meet
       case rel => exact ⟨_, (false), (by first | rfl | (simp; done) | (simp [*]; done)), H', ⟨by have := HJ3.out; first | omega | exact Nat.le_refl _⟩, ⟨by (with_reducible repeat (first | apply Kd.R_alloc | apply Kd.R_drewN | apply Kd.R_drew)); exact Kd.R_mono HO_1.out (fun _ hk => trivial)⟩, ⟨by repeat (first | (with_reducible first | exact HB.out | apply bL | apply bW | apply b1) | exact HB.out)⟩⟩
      ·
       replace c36 := Bool.eq_false_iff.mpr c36
       subst c36; have H1 : ((curve_Right.f kj3 (([(⟨5, 7⟩ : S37)] : List (S37)))).bind fun t182 => (bournelaw10_small0.j1 kj3 y160 t163 t164 t165 t166 t168 x8_3 t182)) = some r := by rw [if_neg (show ¬ (false = true) by decide)] at H; exact H
       clear H; have H := H1
       clear H1; obtain ⟨y179, hy179⟩ : ∃ y_ : List (S37), y_ = (([(⟨5, 7⟩ : S37)] : List (S37))) := ⟨_, rfl⟩
       replace H : ((curve_Right.f kj3 y179).bind fun t182 => (bournelaw10_small0.j1 kj3 y160 t163 t164 t165 t166 t168 x8_3 t182)) = some r := by first | (rw [hy179]; with_reducible exact H) | (have H2_ := (Option.bind_some _ _).symm.trans H; rw [hy179]; with_reducible exact H2_) | (have H2_ := (Option.bind_some _ _).symm.trans H; with_reducible exact H2_) | with_reducible exact H | (rw [hy179]; exact H) | exact H
       have Ny179 := Aside0.mk hy179
       clear hy179; replace H := Option.bind_eq_some_iff.mp H
       obtain ⟨t182, A430, H⟩ := H
       have A43 := Aside0.mk A430
       clear A430; have H' := Aside0.mk H
       clear H; go_wp2_with (first | ((with_reducible refine gate_callee (f := 11) rfl ?_); refine goesL_ (some 48) rfl rfl Try.func11 (by kernel_rfl) rfl #[.slice Ao7 y160.length co7] rfl (by (try simp only [List.map_toArray, List.map_cons, List.map_nil]); first | done | rfl | (simp only [List.length_drop, List.length_take]; rfl)) ?_; (with_reducible refine (curve_Right.calls kj3 _ _ y160 true _ ?side1 ?side2 A29.out).mono ?_); (case side1 => repeat (first | exact (Kd.R_reads' HO_1.out).2.2 | (with_reducible refine Kd.C_alloc ?_ _) | (with_reducible refine Kd.C_drewN ?_ _) | (with_reducible refine Kd.C_drew ?_))); (case side2 => exact (Kd.R_reads' HO_1.out).2.1); rintro e w44 ⟨rfl, hb⟩; refine ⟨_, rfl, ?_⟩; have n0_ := Aside0.mk (Kd.R_below (by (with_reducible repeat (first | apply Kd.R_alloc | apply Kd.R_drewN | apply Kd.R_drew)); exact HO_1.out) hb); have n1_ := Aside0.mk (bP (by repeat (first | (with_reducible first | exact HB.out | apply bL | apply bW | apply b1) | exact HB.out)) hb); clear HO_1; clear HB; have HO_1 := n0_; have HB := n1_; clear n0_ n1_; (try clear hb); (try clear hb2); (try clear hk); (try clear hi)) | (go_at_call 11; (refine (curve_Right.calls kj3 _ _ ([] : List (S37)) false _ ?side1 ?side2 A31.out).mono ?_); (case side1 => exact Kd.C_nil _ _); (case side2 => exact Nat.le_refl _); rintro e w45 ⟨rfl, hb⟩; (try clear A31); have n0_ := Aside0.mk (Kd.R_below (by (with_reducible repeat (first | apply Kd.R_alloc | apply Kd.R_drewN | apply Kd.R_drew)); exact HO_1.out) hb); have n1_ := Aside0.mk (bP (by repeat (first | (with_reducible first | exact HB.out | apply bL | apply bW | apply b1) | exact HB.out)) hb); clear HO_1; clear HB; have HO_1 := n0_; have HB := n1_; clear n0_ n1_; (try clear hb); (try clear hb2); (try clear hk); (try clear hi)) | ((with_reducible refine gate_dst (N := 56) rfl ?_); (try (refine gate_guard (by rfl) ?_; dsimp only)); refine Kd.R_lit k37 _ 37 ?hg (N := 56) ?hd (xs := ([(⟨0, 2⟩ : S37), (⟨1, 1⟩ : S37)] : List (S37))) (inner := [.int .i64 0, .int .i64 2, .int .i64 1, .int .i64 1]) (ok := fun _ => True) (okp := fun _ => True) ?hr ?hp (fun _ hk => hk) trivial (Below.refl _ _) (Nat.le_refl _) (by simp) ?_; (case hd => rfl); (case hg => rfl); (case hr => first | (go_simp; done) | (go_simp; rfl)); (case hp => exact (Reps.c2 (show Kd.M k37 _ _ _ (⟨0, 2⟩ : S37) [.int .i64 0, .int .i64 2] from (k37_mkM _ _ _ (⟨0, 2⟩ : S37) )) (Reps.c2 (show Kd.M k37 _ _ _ (⟨1, 1⟩ : S37) [.int .i64 1, .int .i64 1] from (k37_mkM _ _ _ (⟨1, 1⟩ : S37) )) (Reps.none _ _)))); intro v176 w46 ho47 hb hg_ hnew_; clear hg_ hnew_; (first | rw [← Ny175.out] at ho47 | (simp only [Int.reduceToNat] at ho47; rw [← Ny175.out] at ho47)); have n0_ := Aside0.mk (Kd.R_elder' (by (with_reducible repeat (first | apply Kd.R_alloc | apply Kd.R_drewN | apply Kd.R_drew)); exact HO_1.out) (Kd.R_base ho47) hb); have n1_ := Aside0.mk (Kd.R_lower (Kd.R_new' ho47 (Kd.R_lt (by (with_reducible repeat (first | apply Kd.R_alloc | apply Kd.R_drewN | apply Kd.R_drew)); exact HO_1.out))) (bZ (by repeat (first | (with_reducible first | exact HB.out | apply bL | apply bW | apply b1) | exact HB.out)))); have n2_ := Aside0.mk (bP (by repeat (first | (with_reducible first | exact HB.out | apply bL | apply bW | apply b1) | exact HB.out)) hb); clear HO_1; clear HB; have HO_1 := n0_; have HO177 := n1_; have HB := n2_; clear n0_ n1_ n2_; clear hb ho47; obtain ⟨Ao48, co48, eo48⟩ := Kd.R_slice HO177.out; subst eo48) | (go_at_call 11; (with_reducible refine (curve_Right.calls kj3 _ _ y175 false _ ?side1 ?side2 A35.out).mono ?_); (case side1 => repeat (first | exact (Kd.R_reads' HO177.out).2.2 | (with_reducible refine Kd.C_alloc ?_ _) | (with_reducible refine Kd.C_drewN ?_ _) | (with_reducible refine Kd.C_drew ?_))); (case side2 => exact (Kd.R_reads' HO177.out).2.1); rintro e w49 ⟨rfl, hb⟩; (try clear A35); have n0_ := Aside0.mk (Kd.R_below (by (with_reducible repeat (first | apply Kd.R_alloc | apply Kd.R_drewN | apply Kd.R_drew)); exact HO_1.out) hb); have n1_ := Aside0.mk (Kd.R_below (by (with_reducible repeat (first | apply Kd.R_alloc | apply Kd.R_drewN | apply Kd.R_drew)); exact HO177.out) hb); have n2_ := Aside0.mk (bP (by repeat (first | (with_reducible first | exact HB.out | apply bL | apply bW | apply b1) | exact HB.out)) hb); clear HO_1; clear HO177; clear HB; have HO_1 := n0_; have HO177 := n1_; have HB := n2_; clear n0_ n1_ n2_; (try clear hb); (try clear hb2); (try clear hk); (try clear hi)) | ((with_reducible refine gate_dst (N := 62) rfl ?_); (try (refine gate_guard (by rfl) ?_; dsimp only)); refine Kd.R_lit k37 _ 37 ?hg (N := 62) ?hd (xs := ([(⟨5, 7⟩ : S37)] : List (S37))) (inner := [.int .i64 5, .int .i64 7]) (ok := fun _ => True) (okp := fun _ => True) ?hr ?hp (fun _ hk => hk) trivial (Below.refl _ _) (Nat.le_refl _) (by simp) ?_; (case hd => rfl); (case hg => rfl); (case hr => first | (go_simp; done) | (go_simp; rfl)); (case hp => exact (Reps.c2 (show Kd.M k37 _ _ _ (⟨5, 7⟩ : S37) [.int .i64 5, .int .i64 7] from (k37_mkM _ _ _ (⟨5, 7⟩ : S37) )) (Reps.none _ _))); intro v180 w50 ho51 hb hg_ hnew_; clear hg_ hnew_; (first | rw [← Ny179.out] at ho51 | (simp only [Int.reduceToNat] at ho51; rw [← Ny179.out] at ho51)); have n0_ := Aside0.mk (Kd.R_elder' (by (with_reducible repeat (first | apply Kd.R_alloc | apply Kd.R_drewN | apply Kd.R_drew)); exact HO_1.out) (Kd.R_base ho51) hb); have n1_ := Aside0.mk (Kd.R_elder' (by (with_reducible repeat (first | apply Kd.R_alloc | apply Kd.R_drewN | apply Kd.R_drew)); exact HO177.out) (Kd.R_base ho51) hb); have n2_ := Aside0.mk (Kd.R_lower (Kd.R_new' (Kd.R_new' ho51 (Kd.R_lt (by (with_reducible repeat (first | apply Kd.R_alloc | apply Kd.R_drewN | apply Kd.R_drew)); exact HO_1.out))) (Kd.R_lt (by (with_reducible repeat (first | apply Kd.R_alloc | apply Kd.R_drewN | apply Kd.R_drew)); exact HO177.out))) (bZ (by repeat (first | (with_reducible first | exact HB.out | apply bL | apply bW | apply b1) | exact HB.out)))); have n3_ := Aside0.mk (bP (by repeat (first | (with_reducible first | exact HB.out | apply bL | apply bW | apply b1) | exact HB.out)) hb); clear HO_1; clear HO177; clear HB; have HO_1 := n0_; have HO177 := n1_; have HO181 := n2_; have HB := n3_; clear n0_ n1_ n2_ n3_; clear hb ho51; obtain ⟨Ao52, co52, eo52⟩ := Kd.R_slice HO181.out; subst eo52) | (go_at_call 11; (with_reducible refine (curve_Right.calls kj3 _ _ y179 t182 _ ?side1 ?side2 A43.out).mono ?_); (case side1 => repeat (first | exact (Kd.R_reads' HO181.out).2.2 | (with_reducible refine Kd.C_alloc ?_ _) | (with_reducible refine Kd.C_drewN ?_ _) | (with_reducible refine Kd.C_drew ?_))); (case side2 => exact (Kd.R_reads' HO181.out).2.1); rintro e w53 ⟨rfl, hb⟩; (try clear A43); have n0_ := Aside0.mk (Kd.R_below (by (with_reducible repeat (first | apply Kd.R_alloc | apply Kd.R_drewN | apply Kd.R_drew)); exact HO_1.out) hb); have n1_ := Aside0.mk (Kd.R_below (by (with_reducible repeat (first | apply Kd.R_alloc | apply Kd.R_drewN | apply Kd.R_drew)); exact HO177.out) hb); have n2_ := Aside0.mk (Kd.R_below (by (with_reducible repeat (first | apply Kd.R_alloc | apply Kd.R_drewN | apply Kd.R_drew)); exact HO181.out) hb); have n3_ := Aside0.mk (bP (by repeat (first | (with_reducible first | exact HB.out | apply bL | apply bW | apply b1) | exact HB.out)) hb); clear HO_1; clear HO177; clear HO181; clear HB; have HO_1 := n0_; have HO177 := n1_; have HO181 := n2_; have HB := n3_; clear n0_ n1_ n2_ n3_; (try clear hb); (try clear hb2); (try clear hk); (try clear hi)))
       go_meet
       case rel => exact ⟨_, (t182), (by first | rfl | (simp; done) | (simp [*]; done)), H', ⟨by have := HJ3.out; first | omega | exact Nat.le_refl _⟩, ⟨by (with_reducible repeat (first | apply Kd.R_alloc | apply Kd.R_drewN | apply Kd.R_drew)); exact Kd.R_mono HO_1.out (fun _ hk => trivial)⟩, ⟨by repeat (first | (with_reducible first | exact HB.out | apply bL | apply bW | apply b1) | exact HB.out)⟩⟩
    ·
     replace c30 := Bool.eq_false_iff.mpr c30
     subst c30; have H1 : (bournelaw10_small0.j1 kj3 y160 t163 t164 t165 t166 t168 x8_3 false) = some r := by rw [if_neg (show ¬ (false = true) by decide)] at H; exact H
     clear H; have H := H1
     clear H1; have H' := Aside0.mk H
     clear H; go_wp2_with (first | ((with_reducible refine gate_callee (f := 11) rfl ?_); refine goesL_ (some 48) rfl rfl Try.func11 (by kernel_rfl) rfl #[.slice Ao7 y160.length co7] rfl (by (try simp only [List.map_toArray, List.map_cons, List.map_nil]); first | done | rfl | (simp only [List.length_drop, List.length_take]; rfl)) ?_; (with_reducible refine (curve_Right.calls kj3 _ _ y160 false _ ?side1 ?side2 A29.out).mono ?_); (case side1 => repeat (first | exact (Kd.R_reads' HO_1.out).2.2 | (with_reducible refine Kd.C_alloc ?_ _) | (with_reducible refine Kd.C_drewN ?_ _) | (with_reducible refine Kd.C_drew ?_))); (case side2 => exact (Kd.R_reads' HO_1.out).2.1); rintro e w54 ⟨rfl, hb⟩; refine ⟨_, rfl, ?_⟩; have n0_ := Aside0.mk (Kd.R_below (by (with_reducible repeat (first | apply Kd.R_alloc | apply Kd.R_drewN | apply Kd.R_drew)); exact HO_1.out) hb); have n1_ := Aside0.mk (bP (by repeat (first | (with_reducible first | exact HB.out | apply bL | apply bW | apply b1) | exact HB.out)) hb); clear HO_1; clear HB; have HO_1 := n0_; have HB := n1_; clear n0_ n1_; (try clear hb); (try clear hb2); (try clear hk); (try clear hi)))
     go_meet
     case rel => exact ⟨_, (false), (by first | rfl | (simp; done) | (simp [*]; done)), H', ⟨by have := HJ3.out; first | omega | exact Nat.le_refl _⟩, ⟨by (with_reducible repeat (first | apply Kd.R_alloc | apply Kd.R_drewN | apply Kd.R_drew)); exact HO_1.out⟩, ⟨by repeat (first | (with_reducible first | exact HB.out | apply bL | apply bW | apply b1) | exact HB.out)⟩⟩
   case rest =>
    clear HC28; try clear c1
    try clear c2
    try clear p2
    try clear c3
    try clear c8
    try clear c9
    try clear c11
    try clear c12
    try clear c12b0
    try clear c12b1
    try clear c13
    try clear c14
    try clear c14b0
    try clear c14b1
    try clear c16
    try clear c16b0
    try clear c16b1
    try clear c30
    try clear c32
    try clear c36
    try clear p2
    obtain ⟨kq, x9_27, rfl, HA, HJ27, HO_1, HB⟩ := hcut
    cases kq with
    | zero => exact absurd HA.out (by simp [bournelaw10_small0.j1])
    | succ kj27 =>
     have H := HA.out
     clear HA; simp only [bournelaw10_small0.j1] at H; by_cases c55 : x8_3 = true
     ·
      subst c55; have H1 : (if t163 = 2 then (if t164 = true then (if t165 = 11 then (if t166 = true then (if t168 = true then (some false) else ((curve_Slope.f kj27 y160 19 2).bind fun t183 => (if t183 = true then ((curve_Slope.f kj27 y160 9 1).bind fun t184 => (if t184 = true then (some false) else ((curve_Under.f kj27 y160 y160).bind fun t185 => (if t185 = true then ((curve_Under.f kj27 y160 (([(⟨0, 50⟩ : S37)] : List (S37)))).bind fun t189 => (if t189 = true then (some false) else (if x9_27 = true then ((curve_Band.f kj27 y160 y160 15).bind fun bt190 => (some (bt190.1 == 52 && (bt190.2 == 52)))) else (some false)))) else (some false))))) else (some false)))) else (some false)) else (some false)) else (some false)) else (some false)) = some r := by rw [if_pos rfl] at H; exact H
      clear H; have H := H1
      clear H1; by_cases c56 : t163 = 2
      ·
       rw [if_pos c56] at H; have c56b0 : (t163 == 2) = true := beq_iff_eq.mpr c56
       have c56b1 : (t163 != 2) = false := bne_eq_false_iff_eq.mpr c56
       clear c56; by_cases c57 : t164 = true
       ·
        subst c57; have H1 : (if t165 = 11 then (if t166 = true then (if t168 = true then (some false) else ((curve_Slope.f kj27 y160 19 2).bind fun t183 => (if t183 = true then ((curve_Slope.f kj27 y160 9 1).bind fun t184 => (if t184 = true then (some false) else ((curve_Under.f kj27 y160 y160).bind fun t185 => (if t185 = true then ((curve_Under.f kj27 y160 (([(⟨0, 50⟩ : S37)] : List (S37)))).bind fun t189 => (if t189 = true then (some false) else (if x9_27 = true then ((curve_Band.f kj27 y160 y160 15).bind fun bt190 => (some (bt190.1 == 52 && (bt190.2 == 52)))) else (some false)))) else (some false))))) else (some false)))) else (some false)) else (some false)) = some r := by rw [if_pos rfl] at H; exact H
        clear H; have H := H1
        clear H1; by_cases c58 : t165 = 11
        ·
         rw [if_pos c58] at H; have c58b0 : (t165 == 11) = true := beq_iff_eq.mpr c58
         have c58b1 : (t165 != 11) = false := bne_eq_false_iff_eq.mpr c58
         clear c58; by_cases c59 : t166 = true
         ·
          subst c59; have H1 : (if t168 = true then (some false) else ((curve_Slope.f kj27 y160 19 2).bind fun t183 => (if t183 = true then ((curve_Slope.f kj27 y160 9 1).bind fun t184 => (if t184 = true then (some false) else ((curve_Under.f kj27 y160 y160).bind fun t185 => (if t185 = true then ((curve_Under.f kj27 y160 (([(⟨0, 50⟩ : S37)] : List (S37)))).bind fun t189 => (if t189 = true then (some false) else (if x9_27 = true then ((curve_Band.f kj27 y160 y160 15).bind fun bt190 => (some (bt190.1 == 52 && (bt190.2 == 52)))) else (some false)))) else (some false))))) else (some false)))) = some r := by rw [if_pos rfl] at H; exact H
          clear H; have H := H1
          clear H1; by_cases c60 : t168 = true
          ·
           subst c60; have H1 : (some false) = some r := by rw [if_pos rfl] at H; exact H
           clear H; have H := H1
           clear H1; exact absurd (H.trans (congrArg some hT.out)) (by simp)
          ·
           replace c60 := Bool.eq_false_iff.mpr c60
           subst c60; have H1 : ((curve_Slope.f kj27 y160 19 2).bind fun t183 => (if t183 = true then ((curve_Slope.f kj27 y160 9 1).bind fun t184 => (if t184 = true then (some false) else ((curve_Under.f kj27 y160 y160).bind fun t185 => (if t185 = true then ((curve_Under.f kj27 y160 (([(⟨0, 50⟩ : S37)] : List (S37)))).bind fun t189 => (if t189 = true then (some false) else (if x9_27 = true then ((curve_Band.f kj27 y160 y160 15).bind fun bt190 => (some (bt190.1 == 52 && (bt190.2 == 52)))) else (some false)))) else (some false))))) else (some false))) = some r := by rw [if_neg (show ¬ (false = true) by decide)] at H; exact H
           clear H; have H := H1
           clear H1; replace H := Option.bind_eq_some_iff.mp H
           obtain ⟨t183, A610, H⟩ := H
           have A61 := Aside0.mk A610
           clear A610; by_cases c62 : t183 = true
           ·
            subst c62; have H1 : ((curve_Slope.f kj27 y160 9 1).bind fun t184 => (if t184 = true then (some false) else ((curve_Under.f kj27 y160 y160).bind fun t185 => (if t185 = true then ((curve_Under.f kj27 y160 (([(⟨0, 50⟩ : S37)] : List (S37)))).bind fun t189 => (if t189 = true then (some false) else (if x9_27 = true then ((curve_Band.f kj27 y160 y160 15).bind fun bt190 => (some (bt190.1 == 52 && (bt190.2 == 52)))) else (some false)))) else (some false))))) = some r := by rw [if_pos rfl] at H; exact H
            clear H; have H := H1
            clear H1; replace H := Option.bind_eq_some_iff.mp H
            obtain ⟨t184, A630, H⟩ := H
            have A63 := Aside0.mk A630
            clear A630; by_cases c64 : t184 = true
            ·
             subst c64; have H1 : (some false) = some r := by rw [if_pos rfl] at H; exact H
             clear H; have H := H1
             clear H1; exact absurd (H.trans (congrArg some hT.out)) (by simp)
            ·
             replace c64 := Bool.eq_false_iff.mpr c64
             subst c64; have H1 : ((curve_Under.f kj27 y160 y160).bind fun t185 => (if t185 = true then ((curve_Under.f kj27 y160 (([(⟨0, 50⟩ : S37)] : List (S37)))).bind fun t189 => (if t189 = true then (some false) else (if x9_27 = true then ((curve_Band.f kj27 y160 y160 15).bind fun bt190 => (some (bt190.1 == 52 && (bt190.2 == 52)))) else (some false)))) else (some false))) = some r := by rw [if_neg (show ¬ (false = true) by decide)] at H; exact H
             clear H; have H := H1
             clear H1; replace H := Option.bind_eq_some_iff.mp H
             obtain ⟨t185, A650, H⟩ := H
             have A65 := Aside0.mk A650
             clear A650; by_cases c66 : t185 = true
             ·
              subst c66; have H1 : ((curve_Under.f kj27 y160 (([(⟨0, 50⟩ : S37)] : List (S37)))).bind fun t189 => (if t189 = true then (some false) else (if x9_27 = true then ((curve_Band.f kj27 y160 y160 15).bind fun bt190 => (some (bt190.1 == 52 && (bt190.2 == 52)))) else (some false)))) = some r := by rw [if_pos rfl] at H; exact H
              clear H; have H := H1
              clear H1; obtain ⟨y186, hy186⟩ : ∃ y_ : List (S37), y_ = (([(⟨0, 50⟩ : S37)] : List (S37))) := ⟨_, rfl⟩
              replace H : ((curve_Under.f kj27 y160 y186).bind fun t189 => (if t189 = true then (some false) else (if x9_27 = true then ((curve_Band.f kj27 y160 y160 15).bind fun bt190 => (some (bt190.1 == 52 && (bt190.2 == 52)))) else (some false)))) = some r := by first | (rw [hy186]; with_reducible exact H) | (have H2_ := (Option.bind_some _ _).symm.trans H; rw [hy186]; with_reducible exact H2_) | (have H2_ := (Option.bind_some _ _).symm.trans H; with_reducible exact H2_) | with_reducible exact H | (rw [hy186]; exact H) | exact H
              have Ny186 := Aside0.mk hy186
              clear hy186; replace H := Option.bind_eq_some_iff.mp H
              obtain ⟨t189, A670, H⟩ := H
              have A67 := Aside0.mk A670
              clear A670; by_cases c68 : t189 = true
              ·
               subst c68; have H1 : (some false) = some r := by rw [if_pos rfl] at H; exact H
               clear H; have H := H1
               clear H1; exact absurd (H.trans (congrArg some hT.out)) (by simp)
              ·
               replace c68 := Bool.eq_false_iff.mpr c68
               subst c68; have H1 : (if x9_27 = true then ((curve_Band.f kj27 y160 y160 15).bind fun bt190 => (some (bt190.1 == 52 && (bt190.2 == 52)))) else (some false)) = some r := by rw [if_neg (show ¬ (false = true) by decide)] at H; exact H
               clear H; have H := H1
               clear H1; by_cases c69 : x9_27 = true
               ·
                subst c69; have H1 : ((curve_Band.f kj27 y160 y160 15).bind fun bt190 => (some (bt190.1 == 52 && (bt190.2 == 52)))) = some r := by rw [if_pos rfl] at H; exact H
                clear H; have H := H1
                clear H1; replace H := Option.bind_eq_some_iff.mp H
                obtain ⟨⟨t190, t191⟩, A700, H⟩ := H
                dsimp only at H
                have A70 := Aside0.mk A700
                clear A700; obtain rfl := Option.some.inj H
                go_wp2_with (first | (go_at_call 15; (with_reducible refine (curve_Slope.calls kj27 _ _ y160 19 2 true _ ?side1 ?side2 A61.out).mono ?_); (case side1 => repeat (first | exact (Kd.R_reads' HO_1.out).2.2 | (with_reducible refine Kd.C_alloc ?_ _) | (with_reducible refine Kd.C_drewN ?_ _) | (with_reducible refine Kd.C_drew ?_))); (case side2 => exact (Kd.R_reads' HO_1.out).2.1); rintro e w71 ⟨rfl, hb⟩; (try clear A61); have n0_ := Aside0.mk (Kd.R_below (by (with_reducible repeat (first | apply Kd.R_alloc | apply Kd.R_drewN | apply Kd.R_drew)); exact HO_1.out) hb); have n1_ := Aside0.mk (bP (by repeat (first | (with_reducible first | exact HB.out | apply bL | apply bW | apply b1) | exact HB.out)) hb); clear HO_1; clear HB; have HO_1 := n0_; have HB := n1_; clear n0_ n1_; (try clear hb); (try clear hb2); (try clear hk); (try clear hi)) | (go_at_call 15; (with_reducible refine (curve_Slope.calls kj27 _ _ y160 9 1 false _ ?side1 ?side2 A63.out).mono ?_); (case side1 => repeat (first | exact (Kd.R_reads' HO_1.out).2.2 | (with_reducible refine Kd.C_alloc ?_ _) | (with_reducible refine Kd.C_drewN ?_ _) | (with_reducible refine Kd.C_drew ?_))); (case side2 => exact (Kd.R_reads' HO_1.out).2.1); rintro e w72 ⟨rfl, hb⟩; (try clear A63); have n0_ := Aside0.mk (Kd.R_below (by (with_reducible repeat (first | apply Kd.R_alloc | apply Kd.R_drewN | apply Kd.R_drew)); exact HO_1.out) hb); have n1_ := Aside0.mk (bP (by repeat (first | (with_reducible first | exact HB.out | apply bL | apply bW | apply b1) | exact HB.out)) hb); clear HO_1; clear HB; have HO_1 := n0_; have HB := n1_; clear n0_ n1_; (try clear hb); (try clear hb2); (try clear hk); (try clear hi)) | (go_at_call 17; (with_reducible refine (curve_Under.calls kj27 _ _ y160 _ _ y160 true _ ?side1 ?side2 ?side3 ?side4 A65.out).mono ?_); (case side1 => repeat (first | exact (Kd.R_reads' HO_1.out).2.2 | (with_reducible refine Kd.C_alloc ?_ _) | (with_reducible refine Kd.C_drewN ?_ _) | (with_reducible refine Kd.C_drew ?_))); (case side2 => exact (Kd.R_reads' HO_1.out).2.1); (case side3 => repeat (first | exact (Kd.R_reads' HO_1.out).2.2 | (with_reducible refine Kd.C_alloc ?_ _) | (with_reducible refine Kd.C_drewN ?_ _) | (with_reducible refine Kd.C_drew ?_))); (case side4 => exact (Kd.R_reads' HO_1.out).2.1); rintro e w73 ⟨rfl, hb⟩; (try clear A65); have n0_ := Aside0.mk (Kd.R_below (by (with_reducible repeat (first | apply Kd.R_alloc | apply Kd.R_drewN | apply Kd.R_drew)); exact HO_1.out) hb); have n1_ := Aside0.mk (bP (by repeat (first | (with_reducible first | exact HB.out | apply bL | apply bW | apply b1) | exact HB.out)) hb); clear HO_1; clear HB; have HO_1 := n0_; have HB := n1_; clear n0_ n1_; (try clear hb); (try clear hb2); (try clear hk); (try clear hi)) | ((with_reducible refine gate_dst (N := 101) rfl ?_); (try (refine gate_guard (by rfl) ?_; dsimp only)); refine Kd.R_lit k37 _ 37 ?hg (N := 101) ?hd (xs := ([(⟨0, 50⟩ : S37)] : List (S37))) (inner := [.int .i64 0, .int .i64 50]) (ok := fun _ => True) (okp := fun _ => True) ?hr ?hp (fun _ hk => hk) trivial (Below.refl _ _) (Nat.le_refl _) (by simp) ?_; (case hd => rfl); (case hg => rfl); (case hr => first | (go_simp; done) | (go_simp; rfl)); (case hp => exact (Reps.c2 (show Kd.M k37 _ _ _ (⟨0, 50⟩ : S37) [.int .i64 0, .int .i64 50] from (k37_mkM _ _ _ (⟨0, 50⟩ : S37) )) (Reps.none _ _))); intro v187 w74 ho75 hb hg_ hnew_; clear hg_ hnew_; (first | rw [← Ny186.out] at ho75 | (simp only [Int.reduceToNat] at ho75; rw [← Ny186.out] at ho75)); have n0_ := Aside0.mk (Kd.R_elder' (by (with_reducible repeat (first | apply Kd.R_alloc | apply Kd.R_drewN | apply Kd.R_drew)); exact HO_1.out) (Kd.R_base ho75) hb); have n1_ := Aside0.mk (Kd.R_lower (Kd.R_new' ho75 (Kd.R_lt (by (with_reducible repeat (first | apply Kd.R_alloc | apply Kd.R_drewN | apply Kd.R_drew)); exact HO_1.out))) (bZ (by repeat (first | (with_reducible first | exact HB.out | apply bL | apply bW | apply b1) | exact HB.out)))); have n2_ := Aside0.mk (bP (by repeat (first | (with_reducible first | exact HB.out | apply bL | apply bW | apply b1) | exact HB.out)) hb); clear HO_1; clear HB; have HO_1 := n0_; have HO188 := n1_; have HB := n2_; clear n0_ n1_ n2_; clear hb ho75; obtain ⟨Ao76, co76, eo76⟩ := Kd.R_slice HO188.out; subst eo76) | (go_at_call 17; (with_reducible refine (curve_Under.calls kj27 _ _ y160 _ _ y186 false _ ?side1 ?side2 ?side3 ?side4 A67.out).mono ?_); (case side1 => repeat (first | exact (Kd.R_reads' HO_1.out).2.2 | (with_reducible refine Kd.C_alloc ?_ _) | (with_reducible refine Kd.C_drewN ?_ _) | (with_reducible refine Kd.C_drew ?_))); (case side2 => exact (Kd.R_reads' HO_1.out).2.1); (case side3 => repeat (first | exact (Kd.R_reads' HO188.out).2.2 | (with_reducible refine Kd.C_alloc ?_ _) | (with_reducible refine Kd.C_drewN ?_ _) | (with_reducible refine Kd.C_drew ?_))); (case side4 => exact (Kd.R_reads' HO188.out).2.1); rintro e w77 ⟨rfl, hb⟩; (try clear A67); have n0_ := Aside0.mk (Kd.R_below (by (with_reducible repeat (first | apply Kd.R_alloc | apply Kd.R_drewN | apply Kd.R_drew)); exact HO_1.out) hb); have n1_ := Aside0.mk (Kd.R_below (by (with_reducible repeat (first | apply Kd.R_alloc | apply Kd.R_drewN | apply Kd.R_drew)); exact HO188.out) hb); have n2_ := Aside0.mk (bP (by repeat (first | (with_reducible first | exact HB.out | apply bL | apply bW | apply b1) | exact HB.out)) hb); clear HO_1; clear HO188; clear HB; have HO_1 := n0_; have HO188 := n1_; have HB := n2_; clear n0_ n1_ n2_; (try clear hb); (try clear hb2); (try clear hk); (try clear hi)) | (go_at_call 19; (with_reducible refine (curve_Band.calls kj27 _ _ y160 _ _ y160 15 t190 t191 _ ?side1 ?side2 ?side3 ?side4 A70.out).mono ?_); (case side1 => repeat (first | exact (Kd.R_reads' HO_1.out).2.2 | (with_reducible refine Kd.C_alloc ?_ _) | (with_reducible refine Kd.C_drewN ?_ _) | (with_reducible refine Kd.C_drew ?_))); (case side2 => exact (Kd.R_reads' HO_1.out).2.1); (case side3 => repeat (first | exact (Kd.R_reads' HO_1.out).2.2 | (with_reducible refine Kd.C_alloc ?_ _) | (with_reducible refine Kd.C_drewN ?_ _) | (with_reducible refine Kd.C_drew ?_))); (case side4 => exact (Kd.R_reads' HO_1.out).2.1); rintro e w78 ⟨rfl, hb⟩; (try clear A70); have n0_ := Aside0.mk (Kd.R_below (by (with_reducible repeat (first | apply Kd.R_alloc | apply Kd.R_drewN | apply Kd.R_drew)); exact HO_1.out) hb); have n1_ := Aside0.mk (Kd.R_below (by (with_reducible repeat (first | apply Kd.R_alloc | apply Kd.R_drewN | apply Kd.R_drew)); exact HO188.out) hb); have n2_ := Aside0.mk (bP (by repeat (first | (with_reducible first | exact HB.out | apply bL | apply bW | apply b1) | exact HB.out)) hb); clear HO_1; clear HO188; clear HB; have HO_1 := n0_; have HO188 := n1_; have HB := n2_; clear n0_ n1_ n2_; (try clear hb); (try clear hb2); (try clear hk); (try clear hi)))
                go_ret
                exact ⟨by first | rfl | (simp [errW_none, errW_some] <;> rfl) | (simp [*, errW_none, errW_some] <;> rfl), by repeat (first | (with_reducible first | exact HB.out | apply bL | apply bW | apply b1) | exact HB.out)⟩
               ·
                replace c69 := Bool.eq_false_iff.mpr c69
                subst c69; have H1 : (some false) = some r := by rw [if_neg (show ¬ (false = true) by decide)] at H; exact H
                clear H; have H := H1
                clear H1; exact absurd (H.trans (congrArg some hT.out)) (by simp)
             ·
              replace c66 := Bool.eq_false_iff.mpr c66
              subst c66; have H1 : (some false) = some r := by rw [if_neg (show ¬ (false = true) by decide)] at H; exact H
              clear H; have H := H1
              clear H1; exact absurd (H.trans (congrArg some hT.out)) (by simp)
           ·
            replace c62 := Bool.eq_false_iff.mpr c62
            subst c62; have H1 : (some false) = some r := by rw [if_neg (show ¬ (false = true) by decide)] at H; exact H
            clear H; have H := H1
            clear H1; exact absurd (H.trans (congrArg some hT.out)) (by simp)
         ·
          replace c59 := Bool.eq_false_iff.mpr c59
          subst c59; have H1 : (some false) = some r := by rw [if_neg (show ¬ (false = true) by decide)] at H; exact H
          clear H; have H := H1
          clear H1; exact absurd (H.trans (congrArg some hT.out)) (by simp)
        ·
         rw [if_neg c58] at H; have c58b0 : (t165 == 11) = false := beq_eq_false_iff_ne.mpr c58
         have c58b1 : (t165 != 11) = true := bne_iff_ne.mpr c58
         exact absurd (H.trans (congrArg some hT.out)) (by simp)
       ·
        replace c57 := Bool.eq_false_iff.mpr c57
        subst c57; have H1 : (some false) = some r := by rw [if_neg (show ¬ (false = true) by decide)] at H; exact H
        clear H; have H := H1
        clear H1; exact absurd (H.trans (congrArg some hT.out)) (by simp)
      ·
       rw [if_neg c56] at H; have c56b0 : (t163 == 2) = false := beq_eq_false_iff_ne.mpr c56
       have c56b1 : (t163 != 2) = true := bne_iff_ne.mpr c56
       exact absurd (H.trans (congrArg some hT.out)) (by simp)
     ·
      replace c55 := Bool.eq_false_iff.mpr c55
      subst c55; have H1 : (some false) = some r := by rw [if_neg (show ¬ (false = true) by decide)] at H; exact H
      clear H; have H := H1
      clear H1; exact absurd (H.trans (congrArg some hT.out)) (by simp)
theorem bournelaw10_small0.holds : bournelaw10_small0.f 400 = some true := by decide +kernel
def bournelaw10_small.f (k : Nat) : Option Bool := some true
theorem bournelaw10_small.mono : ∀ k, LeO (bournelaw10_small.f k) (bournelaw10_small.f (k + 1)) := fun _ => LeO.refl _
theorem bournelaw10_small.calls (k : Nat)  (r : Bool) (w : World) (h : bournelaw10_small.f k = some r) :
  Calls Try.prog 8 #[] w fun e w' => e = .returned (.bool r) ∧ Below w.heap.size w w' := by
 obtain rfl : true = r := Option.some.inj h
 exact bournelaw10_small0.calls 400 true w ⟨rfl⟩ bournelaw10_small0.holds
def bourneref10_vol.f (a0 : Int) : Option (Bool) := if a0 ≥ 0 then (some (decide (a0 ≤ 1125899906842624))) else (some false)
set_option maxHeartbeats 8000000 in
set_option maxRecDepth 100000 in
theorem bourneref10_vol.calls (a0 : Int) (r : Bool) (w : World) (h : bourneref10_vol.f a0 = some r) :
  Calls Try.prog 24 #[.int .i64 a0] w fun e w' => e = .returned (.bool r) ∧ Drawn0 w w' := by
 have H : (if a0 ≥ 0 then (some (decide (a0 ≤ 1125899906842624))) else (some false)) = some r := h
 clear h; by_cases c2 : a0 ≥ 0
 ·
  rw [if_pos c2] at H; have c2b0 : decide (0 ≤ a0) = true := decide_eq_true c2
  clear c2; obtain rfl := Option.some.inj H
  go_enter Try.func24, Try.ntmps24
  go_wp2
  go_ret
  exact ⟨by first | rfl | (simp; done) | (simp [*]; done), by repeat (first | exact Drawn0.refl _ | apply Drawn0.step)⟩
 ·
  rw [if_neg c2] at H; have c2b0 : decide (0 ≤ a0) = false := decide_eq_false c2
  clear c2; obtain rfl := Option.some.inj H
  go_enter Try.func24, Try.ntmps24
  go_wp2
  go_ret
  exact ⟨by first | rfl | (simp; done) | (simp [*]; done), by repeat (first | exact Drawn0.refl _ | apply Drawn0.step)⟩
end Go.Proofs.Ytmkekbehipaopaa.Fn
