-- written by this session's program myprint.py out of the translation; Lean checks it
import Derived.Test.YtpklgbnihgljmaaFn0
import Derived.Test.YtpklgbnihgljmaaFn11
namespace Go.Proofs.Ytpklgbnihgljmaa.Fn
open Go.RowKit Go.Proofs.YtpklgbnihgljmaaW.PrintWords Go.Proofs.YtpklgbnihgljmaaW.PrintLast Go.Proofs.YtpklgbnihgljmaaW.PrintMore
open World renaming block_lt_of_cell? → wL
open Bool renaming true → T, false → F
open List renaming setIfInBounds_toArray → lA, set_cons_zero → lZ, set_cons_succ → lS
open Go.Proofs.YtpklgbnihgljmaaW.PrintWords renaming blk_drewN → bN, blk_drew → bD, blk_alloc → bA, below_set → bS, blk_cell → bC, blk_below → bB, blk_frozen → bF, pw_below_drewN → bW, below_drew1 → b1, below_alloc → bL, below_step → bP, below_size → bZ, blk_far → bR, blk_put → bU, blk_lt → bT
attribute [local go_sem] max2_int min2_int max_two min_two max_three min_three max_four min_four
set_option linter.unusedVariables false
set_option linter.unusedSimpArgs false
mutual
def bourneref26_Mesh.l0 : Nat → List (S40) → List (S40) → Int → ByteArray → List ByteArray → Int → List (S56) → List (S104) → List (S106) → List (S67) → List (S108) → List (S110) → List Int → Int → Option ((List (S40)))
 | 0, _, _, _, _, _, _, _, _, _, _, _, _, _, _ => none
 | k + 1, x1, x5, x6, x245000, x245001, x245002, x245003, x245004, x245005, x245006, x245007, x245008, x245009, x245010 => if x6 < (x245003.length : Int) then (if 0 ≤ x6 then (bourneref26_Mesh.l1 k x1 x5 x6 0 0 ((rd_T56 x245003 x6).f11) 0 x245000 x245001 x245002 x245003 x245004 x245005 x245006 x245007 x245008 x245009 x245010) else (none)) else (some x5)
def bourneref26_Mesh.l1 : Nat → List (S40) → List (S40) → Int → Int → Int → List (S63) → Int → ByteArray → List ByteArray → Int → List (S56) → List (S104) → List (S106) → List (S67) → List (S108) → List (S110) → List Int → Int → Option ((List (S40)))
 | 0, _, _, _, _, _, _, _, _, _, _, _, _, _, _, _, _, _, _ => none
 | k + 1, x1, x5, x6, x7, x8, x9, x10, x245000, x245001, x245002, x245003, x245004, x245005, x245006, x245007, x245008, x245009, x245010 => if x10 < (x9.length : Int) then (if 0 ≤ x10 then (if ((rd_T63 x9 x10).f0) < 0 then (bourneref26_Mesh.j2 k x1 x5 x6 x7 x8 x9 x10 true x245000 x245001 x245002 x245003 x245004 x245005 x245006 x245007 x245008 x245009 x245010) else (bourneref26_Mesh.j2 k x1 x5 x6 x7 x8 x9 x10 (decide (((rd_T63 x9 x10).f0) ≥ (x1.length : Int))) x245000 x245001 x245002 x245003 x245004 x245005 x245006 x245007 x245008 x245009 x245010)) else (none)) else (if x5.length < 8796093022208 then (bourneref26_Mesh.l0 k x1 (x5 ++ [(⟨mn x7 1125899906842624, mn x8 1125899906842624⟩ : S40)]) (wrap64 (x6 + 1)) x245000 x245001 x245002 x245003 x245004 x245005 x245006 x245007 x245008 x245009 x245010) else (none))
def bourneref26_Mesh.j2 : Nat → List (S40) → List (S40) → Int → Int → Int → List (S63) → Int → Bool → ByteArray → List ByteArray → Int → List (S56) → List (S104) → List (S106) → List (S67) → List (S108) → List (S110) → List Int → Int → Option ((List (S40)))
 | 0, _, _, _, _, _, _, _, _, _, _, _, _, _, _, _, _, _, _, _ => none
 | k + 1, x1, x5, x6, x7, x8, x9, x10, x45, x245000, x245001, x245002, x245003, x245004, x245005, x245006, x245007, x245008, x245009, x245010 => if x45 = true then (bourneref26_Mesh.l1 k x1 x5 x6 x7 x8 x9 (wrap64 (x10 + 1)) x245000 x245001 x245002 x245003 x245004 x245005 x245006 x245007 x245008 x245009 x245010) else (if 0 ≤ x10 then (if x10 < (x9.length : Int) then (if 0 ≤ ((rd_T63 x9 x10).f0) then (if ((rd_T63 x9 x10).f0) < (x1.length : Int) then ((bourneref26_Litres.f k ((rd_T40 x1 ((rd_T63 x9 x10).f0)).f0) ((rd_T63 x9 x10).f1)).bind fun t254 => ((bourneref01_Add.f k x7 t254).bind fun t255 => ((bourneref26_Litres.f k ((rd_T40 x1 ((rd_T63 x9 x10).f0)).f1) ((rd_T63 x9 x10).f1)).bind fun t259 => ((bourneref01_Add.f k x8 t259).bind fun t260 => (bourneref26_Mesh.l1 k x1 x5 x6 t255 t260 x9 (wrap64 (x10 + 1)) x245000 x245001 x245002 x245003 x245004 x245005 x245006 x245007 x245008 x245009 x245010))))) else (none)) else (none)) else (none)) else (none))
end
def bourneref26_Mesh.f (k : Nat) (a0_0 : ByteArray) (l0_1 : List ByteArray) (a0_2 : Int) (l0_3 : List (S56)) (l0_4 : List (S104)) (l0_5 : List (S106)) (l0_6 : List (S67)) (l0_7 : List (S108)) (l0_8 : List (S110)) (l0_9 : List Int) (a0_10 : Int) (l1 : List (S40)) : Option ((List (S40))) := bourneref26_Mesh.l0 k l1 ([] : List (S40)) 0 a0_0 l0_1 a0_2 l0_3 l0_4 l0_5 l0_6 l0_7 l0_8 l0_9 a0_10
theorem bourneref26_Mesh.mono_l : ∀ k, (∀ y0 y1 y2 y3 y4 y5 y6 y7 y8 y9 y10 y11 y12 y13, LeO (bourneref26_Mesh.l0 k y0 y1 y2 y3 y4 y5 y6 y7 y8 y9 y10 y11 y12 y13) (bourneref26_Mesh.l0 (k + 1) y0 y1 y2 y3 y4 y5 y6 y7 y8 y9 y10 y11 y12 y13)) ∧ (∀ y0 y1 y2 y3 y4 y5 y6 y7 y8 y9 y10 y11 y12 y13 y14 y15 y16 y17, LeO (bourneref26_Mesh.l1 k y0 y1 y2 y3 y4 y5 y6 y7 y8 y9 y10 y11 y12 y13 y14 y15 y16 y17) (bourneref26_Mesh.l1 (k + 1) y0 y1 y2 y3 y4 y5 y6 y7 y8 y9 y10 y11 y12 y13 y14 y15 y16 y17)) ∧ (∀ y0 y1 y2 y3 y4 y5 y6 y7 y8 y9 y10 y11 y12 y13 y14 y15 y16 y17 y18, LeO (bourneref26_Mesh.j2 k y0 y1 y2 y3 y4 y5 y6 y7 y8 y9 y10 y11 y12 y13 y14 y15 y16 y17 y18) (bourneref26_Mesh.j2 (k + 1) y0 y1 y2 y3 y4 y5 y6 y7 y8 y9 y10 y11 y12 y13 y14 y15 y16 y17 y18))
 | 0 => ⟨fun _ _ _ _ _ _ _ _ _ _ _ _ _ _ r h => by simp [bourneref26_Mesh.l0] at h, fun _ _ _ _ _ _ _ _ _ _ _ _ _ _ _ _ _ _ r h => by simp [bourneref26_Mesh.l1] at h, fun _ _ _ _ _ _ _ _ _ _ _ _ _ _ _ _ _ _ _ r h => by simp [bourneref26_Mesh.j2] at h⟩
 | k + 1 => by
  obtain ⟨ih0, ih1, ih2⟩ := bourneref26_Mesh.mono_l k
  refine ⟨?_, ?_, ?_⟩
  ·
   intro y0 y1 y2 y3 y4 y5 y6 y7 y8 y9 y10 y11 y12 y13; unfold bourneref26_Mesh.l0
   repeat' first
   | (with_reducible exact ih0 _ _ _ _ _ _ _ _ _ _ _ _ _ _)
   | (with_reducible exact ih1 _ _ _ _ _ _ _ _ _ _ _ _ _ _ _ _ _ _)
   | (with_reducible exact ih2 _ _ _ _ _ _ _ _ _ _ _ _ _ _ _ _ _ _ _)
   | (with_reducible exact bourneref01_Add.mono _ _ _)
   | (with_reducible exact bourneref26_Litres.mono _ _ _)
   | (with_reducible exact LeO.refl _)
   | (with_reducible exact LeO.none _)
   | (with_reducible refine LeO.ite ?_ ?_)
   | (with_reducible refine LeO.bind ?_ (fun _ => ?_))
   | exact ih0 _ _ _ _ _ _ _ _ _ _ _ _ _ _
   | exact ih1 _ _ _ _ _ _ _ _ _ _ _ _ _ _ _ _ _ _
   | exact ih2 _ _ _ _ _ _ _ _ _ _ _ _ _ _ _ _ _ _ _
   | exact bourneref01_Add.mono _ _ _
   | exact bourneref26_Litres.mono _ _ _
   | exact LeO.none _
   | refine LeO.ite ?_ ?_
   | refine LeO.bind ?_ (fun _ => ?_)
  ·
   intro y0 y1 y2 y3 y4 y5 y6 y7 y8 y9 y10 y11 y12 y13 y14 y15 y16 y17; unfold bourneref26_Mesh.l1
   repeat' first
   | (with_reducible exact ih0 _ _ _ _ _ _ _ _ _ _ _ _ _ _)
   | (with_reducible exact ih1 _ _ _ _ _ _ _ _ _ _ _ _ _ _ _ _ _ _)
   | (with_reducible exact ih2 _ _ _ _ _ _ _ _ _ _ _ _ _ _ _ _ _ _ _)
   | (with_reducible exact bourneref01_Add.mono _ _ _)
   | (with_reducible exact bourneref26_Litres.mono _ _ _)
   | (with_reducible exact LeO.refl _)
   | (with_reducible exact LeO.none _)
   | (with_reducible refine LeO.ite ?_ ?_)
   | (with_reducible refine LeO.bind ?_ (fun _ => ?_))
   | exact ih0 _ _ _ _ _ _ _ _ _ _ _ _ _ _
   | exact ih1 _ _ _ _ _ _ _ _ _ _ _ _ _ _ _ _ _ _
   | exact ih2 _ _ _ _ _ _ _ _ _ _ _ _ _ _ _ _ _ _ _
   | exact bourneref01_Add.mono _ _ _
   | exact bourneref26_Litres.mono _ _ _
   | exact LeO.none _
   | refine LeO.ite ?_ ?_
   | refine LeO.bind ?_ (fun _ => ?_)
  ·
   intro y0 y1 y2 y3 y4 y5 y6 y7 y8 y9 y10 y11 y12 y13 y14 y15 y16 y17 y18; unfold bourneref26_Mesh.j2
   repeat' first
   | (with_reducible exact ih0 _ _ _ _ _ _ _ _ _ _ _ _ _ _)
   | (with_reducible exact ih1 _ _ _ _ _ _ _ _ _ _ _ _ _ _ _ _ _ _)
   | (with_reducible exact ih2 _ _ _ _ _ _ _ _ _ _ _ _ _ _ _ _ _ _ _)
   | (with_reducible exact bourneref01_Add.mono _ _ _)
   | (with_reducible exact bourneref26_Litres.mono _ _ _)
   | (with_reducible exact LeO.refl _)
   | (with_reducible exact LeO.none _)
   | (with_reducible refine LeO.ite ?_ ?_)
   | (with_reducible refine LeO.bind ?_ (fun _ => ?_))
   | exact ih0 _ _ _ _ _ _ _ _ _ _ _ _ _ _
   | exact ih1 _ _ _ _ _ _ _ _ _ _ _ _ _ _ _ _ _ _
   | exact ih2 _ _ _ _ _ _ _ _ _ _ _ _ _ _ _ _ _ _ _
   | exact bourneref01_Add.mono _ _ _
   | exact bourneref26_Litres.mono _ _ _
   | exact LeO.none _
   | refine LeO.ite ?_ ?_
   | refine LeO.bind ?_ (fun _ => ?_)
theorem bourneref26_Mesh.mono : ∀ a0 a1 a2 a3 a4 a5 a6 a7 a8 a9 a10 a11 k, LeO (bourneref26_Mesh.f k a0 a1 a2 a3 a4 a5 a6 a7 a8 a9 a10 a11) (bourneref26_Mesh.f (k + 1) a0 a1 a2 a3 a4 a5 a6 a7 a8 a9 a10 a11) := by
 intro a0 a1 a2 a3 a4 a5 a6 a7 a8 a9 a10 a11 k; obtain ⟨ih0, ih1, ih2⟩ := bourneref26_Mesh.mono_l k
 unfold bourneref26_Mesh.f
 repeat' first
   | (with_reducible exact ih0 _ _ _ _ _ _ _ _ _ _ _ _ _ _)
   | (with_reducible exact ih1 _ _ _ _ _ _ _ _ _ _ _ _ _ _ _ _ _ _)
   | (with_reducible exact ih2 _ _ _ _ _ _ _ _ _ _ _ _ _ _ _ _ _ _ _)
   | (with_reducible exact bourneref01_Add.mono _ _ _)
   | (with_reducible exact bourneref26_Litres.mono _ _ _)
   | (with_reducible exact LeO.refl _)
   | (with_reducible exact LeO.none _)
   | (with_reducible refine LeO.ite ?_ ?_)
   | (with_reducible refine LeO.bind ?_ (fun _ => ?_))
   | exact ih0 _ _ _ _ _ _ _ _ _ _ _ _ _ _
   | exact ih1 _ _ _ _ _ _ _ _ _ _ _ _ _ _ _ _ _ _
   | exact ih2 _ _ _ _ _ _ _ _ _ _ _ _ _ _ _ _ _ _ _
   | exact bourneref01_Add.mono _ _ _
   | exact bourneref26_Litres.mono _ _ _
   | exact LeO.none _
   | refine LeO.ite ?_ ?_
   | refine LeO.bind ?_ (fun _ => ?_)
set_option maxHeartbeats 8000000 in
set_option maxRecDepth 100000 in
theorem bourneref26_Mesh.calls (k : Nat) (a0_0 : ByteArray) (A0_1 : Option Addr) (c0_1 : Nat) (l0_1 : List ByteArray) (a0_2 : Int) (A0_3 : Option Addr) (c0_3 : Nat) (l0_3 : List (S56)) (A0_4 : Option Addr) (c0_4 : Nat) (l0_4 : List (S104)) (A0_5 : Option Addr) (c0_5 : Nat) (l0_5 : List (S106)) (A0_6 : Option Addr) (c0_6 : Nat) (l0_6 : List (S67)) (A0_7 : Option Addr) (c0_7 : Nat) (l0_7 : List (S108)) (A0_8 : Option Addr) (c0_8 : Nat) (l0_8 : List (S110)) (A0_9 : Option Addr) (c0_9 : Nat) (l0_9 : List Int) (a0_10 : Int) (A1 : Option Addr) (c1 : Nat) (l1 : List (S40)) (r : List (S40)) (w : World) (hr0_1 : Kd.C Kd.string w A0_1 l0_1.length l0_1) (hc0_1 : l0_1.length ≤ c0_1) (hr0_3 : Kd.C k56 w A0_3 l0_3.length l0_3) (hc0_3 : l0_3.length ≤ c0_3) (hr0_4 : Kd.C k104 w A0_4 l0_4.length l0_4) (hc0_4 : l0_4.length ≤ c0_4) (hr0_5 : Kd.C k106 w A0_5 l0_5.length l0_5) (hc0_5 : l0_5.length ≤ c0_5) (hr0_6 : Kd.C k67 w A0_6 l0_6.length l0_6) (hc0_6 : l0_6.length ≤ c0_6) (hr0_7 : Kd.C k108 w A0_7 l0_7.length l0_7) (hc0_7 : l0_7.length ≤ c0_7) (hr0_8 : Kd.C k110 w A0_8 l0_8.length l0_8) (hc0_8 : l0_8.length ≤ c0_8) (hr0_9 : Kd.C (Kd.int .i64) w A0_9 l0_9.length l0_9) (hc0_9 : l0_9.length ≤ c0_9) (hr1 : Kd.C k40 w A1 l1.length l1) (hc1 : l1.length ≤ c1) (h : bourneref26_Mesh.f k a0_0 l0_1 a0_2 l0_3 l0_4 l0_5 l0_6 l0_7 l0_8 l0_9 a0_10 l1 = some r) :
  Calls Try.prog 14 #[.agg #[.string a0_0, .slice A0_1 l0_1.length c0_1, .int .i64 a0_2, .slice A0_3 l0_3.length c0_3, .slice A0_4 l0_4.length c0_4, .slice A0_5 l0_5.length c0_5, .slice A0_6 l0_6.length c0_6, .slice A0_7 l0_7.length c0_7, .slice A0_8 l0_8.length c0_8, .slice A0_9 l0_9.length c0_9, .int .i64 a0_10], .slice A1 l1.length c1] w fun e w' => ∃ v0_ : Value, e = .returned (v0_) ∧ Kd.R k40 40 w' w.heap.size (fun _ => True) v0_ r ∧ Below w.heap.size w w' := by
 have hu31 := Try.underlying31
 have hu40 := Try.underlying40
 have HR0_1 := Aside0.mk hr0_1
 have HC0_1 := Aside0.mk hc0_1
 clear hr0_1 hc0_1; have HR0_3 := Aside0.mk hr0_3
 have HC0_3 := Aside0.mk hc0_3
 clear hr0_3 hc0_3; have HR0_4 := Aside0.mk hr0_4
 have HC0_4 := Aside0.mk hc0_4
 clear hr0_4 hc0_4; have HR0_5 := Aside0.mk hr0_5
 have HC0_5 := Aside0.mk hc0_5
 clear hr0_5 hc0_5; have HR0_6 := Aside0.mk hr0_6
 have HC0_6 := Aside0.mk hc0_6
 clear hr0_6 hc0_6; have HR0_7 := Aside0.mk hr0_7
 have HC0_7 := Aside0.mk hc0_7
 clear hr0_7 hc0_7; have HR0_8 := Aside0.mk hr0_8
 have HC0_8 := Aside0.mk hc0_8
 clear hr0_8 hc0_8; have HR0_9 := Aside0.mk hr0_9
 have HC0_9 := Aside0.mk hc0_9
 clear hr0_9 hc0_9; have HR1 := Aside0.mk hr1
 have HC1 := Aside0.mk hc1
 clear hr1 hc1; have HB := Aside0.mk (Below.refl w.heap.size w)
 have H : (bourneref26_Mesh.l0 k l1 ([] : List (S40)) 0 a0_0 l0_1 a0_2 l0_3 l0_4 l0_5 l0_6 l0_7 l0_8 l0_9 a0_10) = some r := h
 clear h; have H' := Aside0.mk H
 clear H; go_enter Try.func14, Try.ntmps14
 (try simp only [List.append_eq, List.cons_append, List.nil_append]); go_wp2_with (first | ((with_reducible refine gate_dst (N := 2) rfl ?_); (try (refine gate_guard (by rfl) ?_; dsimp only)); refine box_event ?hg (N := 2) ?hd (cs := #[.string a0_0, .slice A0_1 l0_1.length c0_1, .int .i64 a0_2, .slice A0_3 l0_3.length c0_3, .slice A0_4 l0_4.length c0_4, .slice A0_5 l0_5.length c0_5, .slice A0_6 l0_6.length c0_6, .slice A0_7 l0_7.length c0_7, .slice A0_8 l0_8.length c0_8, .slice A0_9 l0_9.length c0_9, .int .i64 a0_10]) (t := 31) ?hr ?_; (case hd => rfl); (case hg => rfl); (case hr => first | (go_simp; done) | (go_simp; rfl)); intro gb244 hg w3 hbox hb; have n0_ := Aside0.mk (bP (by repeat (first | (with_reducible first | exact HB.out | apply bL | apply bW | apply b1) | exact HB.out)) hb); have n1_ := Aside0.mk (hbox); have n2_ := Aside0.mk ((by rw [hg]; exact (bZ (by repeat (first | (with_reducible first | exact HB.out | apply bL | apply bW | apply b1) | exact HB.out))) : w.heap.size ≤ gb244)); have n3_ := Aside0.mk ((by rw [hg]; exact (bZ (by repeat (first | (with_reducible first | exact HB.out | apply bL | apply bW | apply b1) | exact HB.out))) : w.heap.size ≤ gb244)); clear HB; have HB := n0_; have BK244 := n1_; have GW244 := n2_; have GE244 := n3_; clear n0_ n1_ n2_ n3_; clear hb hbox hg))
 repeat (go_quiet (first | ((with_reducible refine gate_dst (N := 2) rfl ?_); (try (refine gate_guard (by rfl) ?_; dsimp only)); refine box_event ?hg (N := 2) ?hd (cs := #[.string a0_0, .slice A0_1 l0_1.length c0_1, .int .i64 a0_2, .slice A0_3 l0_3.length c0_3, .slice A0_4 l0_4.length c0_4, .slice A0_5 l0_5.length c0_5, .slice A0_6 l0_6.length c0_6, .slice A0_7 l0_7.length c0_7, .slice A0_8 l0_8.length c0_8, .slice A0_9 l0_9.length c0_9, .int .i64 a0_10]) (t := 31) ?hr ?_; (case hd => rfl); (case hg => rfl); (case hr => first | (go_simp; done) | (go_simp; rfl)); intro gb244 hg w3 hbox hb; have n0_ := Aside0.mk (bP (by repeat (first | (with_reducible first | exact HB.out | apply bL | apply bW | apply b1) | exact HB.out)) hb); have n1_ := Aside0.mk (hbox); have n2_ := Aside0.mk ((by rw [hg]; exact (bZ (by repeat (first | (with_reducible first | exact HB.out | apply bL | apply bW | apply b1) | exact HB.out))) : w.heap.size ≤ gb244)); have n3_ := Aside0.mk ((by rw [hg]; exact (bZ (by repeat (first | (with_reducible first | exact HB.out | apply bL | apply bW | apply b1) | exact HB.out))) : w.heap.size ≤ gb244)); clear HB; have HB := n0_; have BK244 := n1_; have GW244 := n2_; have GE244 := n3_; clear n0_ n1_ n2_ n3_; clear hb hbox hg)); try go_wp2_with (first | ((with_reducible refine gate_dst (N := 2) rfl ?_); (try (refine gate_guard (by rfl) ?_; dsimp only)); refine box_event ?hg (N := 2) ?hd (cs := #[.string a0_0, .slice A0_1 l0_1.length c0_1, .int .i64 a0_2, .slice A0_3 l0_3.length c0_3, .slice A0_4 l0_4.length c0_4, .slice A0_5 l0_5.length c0_5, .slice A0_6 l0_6.length c0_6, .slice A0_7 l0_7.length c0_7, .slice A0_8 l0_8.length c0_8, .slice A0_9 l0_9.length c0_9, .int .i64 a0_10]) (t := 31) ?hr ?_; (case hd => rfl); (case hg => rfl); (case hr => first | (go_simp; done) | (go_simp; rfl)); intro gb244 hg w3 hbox hb; have n0_ := Aside0.mk (bP (by repeat (first | (with_reducible first | exact HB.out | apply bL | apply bW | apply b1) | exact HB.out)) hb); have n1_ := Aside0.mk (hbox); have n2_ := Aside0.mk ((by rw [hg]; exact (bZ (by repeat (first | (with_reducible first | exact HB.out | apply bL | apply bW | apply b1) | exact HB.out))) : w.heap.size ≤ gb244)); have n3_ := Aside0.mk ((by rw [hg]; exact (bZ (by repeat (first | (with_reducible first | exact HB.out | apply bL | apply bW | apply b1) | exact HB.out))) : w.heap.size ≤ gb244)); clear HB; have HB := n0_; have BK244 := n1_; have GW244 := n2_; have GE244 := n3_; clear n0_ n1_ n2_ n3_; clear hb hbox hg)))
 go_loopg [5, 6] k (fun kq v5 v6 w' => ∃ (x5_1 : List (S40)) (x6_1 : Int), v6 = .int .i64 x6_1 ∧ Aside0 (bourneref26_Mesh.l0 kq l1 x5_1 x6_1 a0_0 l0_1 a0_2 l0_3 l0_4 l0_5 l0_6 l0_7 l0_8 l0_9 a0_10 = some r) ∧ Aside0 (kq ≤ k) ∧ Aside0 (Kd.R k40 40 w' w.heap.size (fun _ => True) v5 x5_1) ∧ Aside0 (w'.heap[gb244]? = some (.cells #[.string a0_0, (.slice A0_1 l0_1.length c0_1), .int .i64 a0_2, (.slice A0_3 l0_3.length c0_3), (.slice A0_4 l0_4.length c0_4), (.slice A0_5 l0_5.length c0_5), (.slice A0_6 l0_6.length c0_6), (.slice A0_7 l0_7.length c0_7), (.slice A0_8 l0_8.length c0_8), (.slice A0_9 l0_9.length c0_9), .int .i64 a0_10] 31 (0, 0))) ∧ Aside0 (Below w.heap.size w w'))
 case atStart => exact ⟨(([] : List (S40))), (0), (by first | rfl | (simp; done) | (simp [*]; done)), H', ⟨Nat.le_refl _⟩, ⟨by first | exact Kd.R_nil _ _ _ _ _ | exact Kd.N_nil _ _ _ _ _ | exact Kd.V_nil _ _ _ _ _ | exact Kd.Q_nil _ _ _ _ _ | exact Kd.S_nil _ _ _ _ _⟩, ⟨by (with_reducible repeat (first | refine bN ?_ _ | refine bD ?_ | refine bA ?_ _)); exact BK244.out⟩, ⟨by repeat (first | (with_reducible first | exact HB.out | apply bL | apply bW | apply b1 | refine bS ?_ GE244.out) | exact HB.out)⟩⟩
 case round =>
  clear H'; try clear c1
  try clear p2
  obtain ⟨x5_1, x6_1, rfl, HA, HK1, HO_5, BK244, HB⟩ := hrel
  cases gk with
  | zero => exact absurd HA.out (by simp [bourneref26_Mesh.l0])
  | succ k1 =>
   have H := HA.out
   clear HA; simp only [bourneref26_Mesh.l0] at H; by_cases c4 : x6_1 < (l0_3.length : Int)
   ·
    rw [if_pos c4] at H; have c4b0 : decide (x6_1 < (l0_3.length : Int)) = true := decide_eq_true c4
    clear c4; by_cases c5 : 0 ≤ x6_1
    ·
     rw [if_pos c5] at H; have c5b0 : decide (0 ≤ x6_1) = true := decide_eq_true c5
     clear c5; have H' := Aside0.mk H
     clear H; have hcz6_0 : wr.cell? ⟨gb244, 0, none⟩ = some (.string a0_0) := (bC BK244.out 0).trans rfl
     have hcz6_1 : wr.cell? ⟨gb244, 1, none⟩ = some (.slice A0_1 l0_1.length c0_1) := (bC BK244.out 1).trans rfl
     have hcz6_2 : wr.cell? ⟨gb244, 2, none⟩ = some (.int .i64 a0_2) := (bC BK244.out 2).trans rfl
     have hcz6_3 : wr.cell? ⟨gb244, 3, none⟩ = some (.slice A0_3 l0_3.length c0_3) := (bC BK244.out 3).trans rfl
     have hcz6_4 : wr.cell? ⟨gb244, 4, none⟩ = some (.slice A0_4 l0_4.length c0_4) := (bC BK244.out 4).trans rfl
     have hcz6_5 : wr.cell? ⟨gb244, 5, none⟩ = some (.slice A0_5 l0_5.length c0_5) := (bC BK244.out 5).trans rfl
     have hcz6_6 : wr.cell? ⟨gb244, 6, none⟩ = some (.slice A0_6 l0_6.length c0_6) := (bC BK244.out 6).trans rfl
     have hcz6_7 : wr.cell? ⟨gb244, 7, none⟩ = some (.slice A0_7 l0_7.length c0_7) := (bC BK244.out 7).trans rfl
     have hcz6_8 : wr.cell? ⟨gb244, 8, none⟩ = some (.slice A0_8 l0_8.length c0_8) := (bC BK244.out 8).trans rfl
     have hcz6_9 : wr.cell? ⟨gb244, 9, none⟩ = some (.slice A0_9 l0_9.length c0_9) := (bC BK244.out 9).trans rfl
     have hcz6_10 : wr.cell? ⟨gb244, 10, none⟩ = some (.int .i64 a0_10) := (bC BK244.out 10).trans rfl
     have hfz6_0 := bF BK244.out 0
     have hfz6_1 := bF BK244.out 1
     have hfz6_2 := bF BK244.out 2
     have hfz6_3 := bF BK244.out 3
     have hfz6_4 := bF BK244.out 4
     have hfz6_5 := bF BK244.out 5
     have hfz6_6 := bF BK244.out 6
     have hfz6_7 := bF BK244.out 7
     have hfz6_8 := bF BK244.out 8
     have hfz6_9 := bF BK244.out 9
     have hfz6_10 := bF BK244.out 10
     have p245 : 0 ≤ (x6_1 : Int) := of_decide_eq_true (by first | (with_reducible assumption) | assumption)
     have q245 : x6_1 < (l0_3.length : Int) := of_decide_eq_true (by first | (with_reducible assumption) | assumption)
     obtain ⟨ad245, A245_4, c245_4, A245_5, c245_5, A245_11, c245_11, e245, hx245_0, hx245_1, hx245_2, hx245_3, hx245_4, hx245_5, hx245_6, hx245_7, hx245_8, hx245_9, hx245_10, hx245_11, hl245_4, hi245_4, hl245_5, hi245_5, hl245_11, hi245_11⟩ := at_T56 HR0_3.out x6_1 p245 q245
     cases e245
     replace hx245_0 := (HB.out.cell (wL w _ hx245_0)).trans hx245_0
     replace hx245_1 := (HB.out.cell (wL w _ hx245_1)).trans hx245_1
     replace hx245_2 := (HB.out.cell (wL w _ hx245_2)).trans hx245_2
     replace hx245_3 := (HB.out.cell (wL w _ hx245_3)).trans hx245_3
     replace hx245_4 := (HB.out.cell (wL w _ hx245_4)).trans hx245_4
     replace hx245_5 := (HB.out.cell (wL w _ hx245_5)).trans hx245_5
     replace hx245_6 := (HB.out.cell (wL w _ hx245_6)).trans hx245_6
     replace hx245_7 := (HB.out.cell (wL w _ hx245_7)).trans hx245_7
     replace hx245_8 := (HB.out.cell (wL w _ hx245_8)).trans hx245_8
     replace hx245_9 := (HB.out.cell (wL w _ hx245_9)).trans hx245_9
     replace hx245_10 := (HB.out.cell (wL w _ hx245_10)).trans hx245_10
     replace hx245_11 := (HB.out.cell (wL w _ hx245_11)).trans hx245_11
     have HR245_4 := Aside0.mk hi245_4
     have HC245_4 := Aside0.mk hl245_4
     clear hi245_4 hl245_4; have HR245_5 := Aside0.mk hi245_5
     have HC245_5 := Aside0.mk hl245_5
     clear hi245_5 hl245_5; have HR245_11 := Aside0.mk hi245_11
     have HC245_11 := Aside0.mk hl245_11
     clear hi245_11 hl245_11; replace p245 := eq_true p245
     replace q245 := eq_true q245
     go_wp2
     repeat (go_quiet (fail); try go_wp2)
     go_loopg [7, 8, 10] k1 (fun kq v7 v8 v10 w' => ∃ (x7_2 : Int) (x8_2 : Int) (x10_2 : Int), v7 = .int .i64 x7_2 ∧ v8 = .int .i64 x8_2 ∧ v10 = .int .i64 x10_2 ∧ Aside0 (bourneref26_Mesh.l1 kq l1 x5_1 x6_1 x7_2 x8_2 ((rd_T56 l0_3 x6_1).f11) x10_2 a0_0 l0_1 a0_2 l0_3 l0_4 l0_5 l0_6 l0_7 l0_8 l0_9 a0_10 = some r) ∧ Aside0 (kq ≤ k1) ∧ Aside0 (Kd.R k40 40 w' w.heap.size (fun _ => True) u5 x5_1) ∧ Aside0 (w'.heap[gb244]? = some (.cells #[.string a0_0, (.slice A0_1 l0_1.length c0_1), .int .i64 a0_2, (.slice (some ad245) l0_3.length c0_3), (.slice A0_4 l0_4.length c0_4), (.slice A0_5 l0_5.length c0_5), (.slice A0_6 l0_6.length c0_6), (.slice A0_7 l0_7.length c0_7), (.slice A0_8 l0_8.length c0_8), (.slice A0_9 l0_9.length c0_9), .int .i64 a0_10] 31 (0, 0))) ∧ Aside0 (Below w.heap.size w w'))
     case atStart => exact ⟨(0), (0), (0), (by first | rfl | (simp; done) | (simp [*]; done)), (by first | rfl | (simp; done) | (simp [*]; done)), (by first | rfl | (simp; done) | (simp [*]; done)), H', ⟨Nat.le_refl _⟩, ⟨by (with_reducible repeat (first | apply Kd.R_alloc | apply Kd.R_drewN | apply Kd.R_drew)); exact HO_5.out⟩, ⟨by (with_reducible repeat (first | refine bN ?_ _ | refine bD ?_ | refine bA ?_ _)); exact BK244.out⟩, ⟨by repeat (first | (with_reducible first | exact HB.out | apply bL | apply bW | apply b1 | refine bS ?_ GE244.out) | exact HB.out)⟩⟩
     case round =>
      clear H'; try clear c1
      try clear c2
      try clear p2
      try clear q2
      try clear hx2
      try clear c4
      try clear c4b0
      try clear c5
      try clear c5b0
      try clear hcz6_0
      try clear hcz6_1
      try clear hcz6_10
      try clear hcz6_2
      try clear hcz6_3
      try clear hcz6_4
      try clear hcz6_5
      try clear hcz6_6
      try clear hcz6_7
      try clear hcz6_8
      try clear hcz6_9
      try clear hfz6_0
      try clear hfz6_1
      try clear hfz6_10
      try clear hfz6_2
      try clear hfz6_3
      try clear hfz6_4
      try clear hfz6_5
      try clear hfz6_6
      try clear hfz6_7
      try clear hfz6_8
      try clear hfz6_9
      try clear hx245_0
      try clear hx245_1
      try clear hx245_10
      try clear hx245_11
      try clear hx245_2
      try clear hx245_3
      try clear hx245_4
      try clear hx245_5
      try clear hx245_6
      try clear hx245_7
      try clear hx245_8
      try clear hx245_9
      try clear p2
      try clear p245
      try clear q245
      obtain ⟨x7_2, x8_2, x10_2, rfl, rfl, rfl, HA, HK2, HO_5, BK244, HB⟩ := hrel
      cases gk with
      | zero => exact absurd HA.out (by simp [bourneref26_Mesh.l1])
      | succ k2 =>
       have H := HA.out
       clear HA; simp only [bourneref26_Mesh.l1] at H; by_cases c7 : x10_2 < (((rd_T56 l0_3 x6_1).f11).length : Int)
       ·
        rw [if_pos c7] at H; have c7b0 : decide (x10_2 < (((rd_T56 l0_3 x6_1).f11).length : Int)) = true := decide_eq_true c7
        clear c7; have HC8 := Aside0.mk H
        clear H; go_upto_region 11 with (fail)
        repeat (go_quiet (fail); go_upto_region 11 with (fail))
        go_cut [45] (fun v45 wc => ∃ (kq : Nat) (x45_7 : Bool), v45 = .bool x45_7 ∧ Aside0 (bourneref26_Mesh.j2 kq l1 x5_1 x6_1 x7_2 x8_2 ((rd_T56 l0_3 x6_1).f11) x10_2 x45_7 a0_0 l0_1 a0_2 l0_3 l0_4 l0_5 l0_6 l0_7 l0_8 l0_9 a0_10 = some r) ∧ Aside0 (kq ≤ k2) ∧ Aside0 (Kd.R k40 40 wc w.heap.size (fun _ => True) u5 x5_1) ∧ Aside0 (wc.heap[gb244]? = some (.cells #[.string a0_0, (.slice A0_1 l0_1.length c0_1), .int .i64 a0_2, (.slice (some ad245) l0_3.length c0_3), (.slice A0_4 l0_4.length c0_4), (.slice A0_5 l0_5.length c0_5), (.slice A0_6 l0_6.length c0_6), (.slice A0_7 l0_7.length c0_7), (.slice A0_8 l0_8.length c0_8), (.slice A0_9 l0_9.length c0_9), .int .i64 a0_10] 31 (0, 0))) ∧ Aside0 (Below w.heap.size w wc))
        case first =>
         have H := HC8.out
         clear HC8; by_cases c9 : 0 ≤ x10_2
         ·
          rw [if_pos c9] at H; have c9b0 : decide (0 ≤ x10_2) = true := decide_eq_true c9
          clear c9; (first | rw [c9b0] | (simp only [i64_w, i32_w]; rw [c9b0]) | skip)
          by_cases c10 : ((rd_T63 ((rd_T56 l0_3 x6_1).f11) x10_2).f0) < 0
          ·
           rw [if_pos c10] at H; have c10b0 : decide (((rd_T63 ((rd_T56 l0_3 x6_1).f11) x10_2).f0) < 0) = true := decide_eq_true c10
           clear c10; have H' := Aside0.mk H
           clear H; have p249 : 0 ≤ (x10_2 : Int) := of_decide_eq_true (by first | (with_reducible assumption) | assumption)
           have q249 : x10_2 < (((rd_T56 l0_3 x6_1).f11).length : Int) := of_decide_eq_true (by first | (with_reducible assumption) | assumption)
           obtain ⟨ad249, e249, hx249_0, hx249_1⟩ := at_T63 HR245_11.out x10_2 p249 q249
           cases e249
           replace hx249_0 := (HB.out.cell (wL w _ hx249_0)).trans hx249_0
           replace hx249_1 := (HB.out.cell (wL w _ hx249_1)).trans hx249_1
           replace p249 := eq_true p249
           replace q249 := eq_true q249
           go_wp2
           repeat (go_quiet (fail); try go_wp2)
           go_meet
           case rel => exact ⟨_, (true), (by first | rfl | (simp; done) | (simp [*]; done)), H', ⟨by have := HK1.out; have := HK2.out; first | omega | exact Nat.le_refl _⟩, ⟨by (with_reducible repeat (first | apply Kd.R_alloc | apply Kd.R_drewN | apply Kd.R_drew)); exact HO_5.out⟩, ⟨by (with_reducible repeat (first | refine bN ?_ _ | refine bD ?_ | refine bA ?_ _)); exact BK244.out⟩, ⟨by repeat (first | (with_reducible first | exact HB.out | apply bL | apply bW | apply b1 | refine bS ?_ GE244.out) | exact HB.out)⟩⟩
          ·
           rw [if_neg c10] at H; have c10b0 : decide (((rd_T63 ((rd_T56 l0_3 x6_1).f11) x10_2).f0) < 0) = false := decide_eq_false c10
           clear c10; have H' := Aside0.mk H
           clear H; have p249 : 0 ≤ (x10_2 : Int) := of_decide_eq_true (by first | (with_reducible assumption) | assumption)
           have q249 : x10_2 < (((rd_T56 l0_3 x6_1).f11).length : Int) := of_decide_eq_true (by first | (with_reducible assumption) | assumption)
           obtain ⟨ad249, e249, hx249_0, hx249_1⟩ := at_T63 HR245_11.out x10_2 p249 q249
           cases e249
           replace hx249_0 := (HB.out.cell (wL w _ hx249_0)).trans hx249_0
           replace hx249_1 := (HB.out.cell (wL w _ hx249_1)).trans hx249_1
           replace p249 := eq_true p249
           replace q249 := eq_true q249
           have p250 : 0 ≤ (x10_2 : Int) := of_decide_eq_true (by first | (with_reducible assumption) | assumption)
           have q250 : x10_2 < (((rd_T56 l0_3 x6_1).f11).length : Int) := of_decide_eq_true (by first | (with_reducible assumption) | assumption)
           obtain ⟨ad250, e250, hx250_0, hx250_1⟩ := at_T63 HR245_11.out x10_2 p250 q250
           obtain rfl : ad249 = ad250 := (by injection e250)
           replace hx250_0 := (HB.out.cell (wL w _ hx250_0)).trans hx250_0
           replace hx250_1 := (HB.out.cell (wL w _ hx250_1)).trans hx250_1
           replace p250 := eq_true p250
           replace q250 := eq_true q250
           go_wp2
           repeat (go_quiet (fail); try go_wp2)
           go_meet
           case rel => exact ⟨_, (decide (((rd_T63 ((rd_T56 l0_3 x6_1).f11) x10_2).f0) ≥ (l1.length : Int))), (by first | rfl | (simp; done) | (simp [*]; done)), H', ⟨by have := HK1.out; have := HK2.out; first | omega | exact Nat.le_refl _⟩, ⟨by (with_reducible repeat (first | apply Kd.R_alloc | apply Kd.R_drewN | apply Kd.R_drew)); exact HO_5.out⟩, ⟨by (with_reducible repeat (first | refine bN ?_ _ | refine bD ?_ | refine bA ?_ _)); exact BK244.out⟩, ⟨by repeat (first | (with_reducible first | exact HB.out | apply bL | apply bW | apply b1 | refine bS ?_ GE244.out) | exact HB.out)⟩⟩
         ·
          rw [if_neg c9] at H; exact absurd H (by simp)
        case rest =>
         clear HC8; try clear c1
         try clear c2
         try clear p2
         try clear q2
         try clear hx2
         try clear c4
         try clear c4b0
         try clear c5
         try clear c5b0
         try clear c7
         try clear c7b0
         try clear c9
         try clear c9b0
         try clear c10
         try clear c10b0
         try clear hcz6_0
         try clear hcz6_1
         try clear hcz6_10
         try clear hcz6_2
         try clear hcz6_3
         try clear hcz6_4
         try clear hcz6_5
         try clear hcz6_6
         try clear hcz6_7
         try clear hcz6_8
         try clear hcz6_9
         try clear hfz6_0
         try clear hfz6_1
         try clear hfz6_10
         try clear hfz6_2
         try clear hfz6_3
         try clear hfz6_4
         try clear hfz6_5
         try clear hfz6_6
         try clear hfz6_7
         try clear hfz6_8
         try clear hfz6_9
         try clear hx245_0
         try clear hx245_1
         try clear hx245_10
         try clear hx245_11
         try clear hx245_2
         try clear hx245_3
         try clear hx245_4
         try clear hx245_5
         try clear hx245_6
         try clear hx245_7
         try clear hx245_8
         try clear hx245_9
         try clear hx249_0
         try clear hx249_1
         try clear hx250_0
         try clear hx250_1
         try clear p2
         try clear p245
         try clear p249
         try clear p250
         try clear q2
         try clear q245
         try clear q249
         try clear q250
         obtain ⟨kq, x45_7, rfl, HA, HJ7, HO_5, BK244, HB⟩ := hcut
         cases kq with
         | zero => exact absurd HA.out (by simp [bourneref26_Mesh.j2])
         | succ kj7 =>
          have H := HA.out
          clear HA; simp only [bourneref26_Mesh.j2] at H; by_cases c11 : x45_7 = true
          ·
           subst c11; have H1 : (bourneref26_Mesh.l1 kj7 l1 x5_1 x6_1 x7_2 x8_2 ((rd_T56 l0_3 x6_1).f11) (wrap64 (x10_2 + 1)) a0_0 l0_1 a0_2 l0_3 l0_4 l0_5 l0_6 l0_7 l0_8 l0_9 a0_10) = some r := by rw [if_pos rfl] at H; exact H
           clear H; have H := H1
           clear H1; have H' := Aside0.mk H
           clear H; go_wp2
           repeat (go_quiet (fail); try go_wp2)
           go_roundg kj7
           case measure => have := HK1.out; have := HK2.out; have := HJ7.out; omega
           case rel => exact ⟨(x7_2), (x8_2), (wrap64 (x10_2 + 1)), (by first | rfl | (simp; done) | (simp [*]; done)), (by first | rfl | (simp; done) | (simp [*]; done)), (by first | rfl | (simp; done) | (simp [*]; done)), H', ⟨by have := HK1.out; have := HK2.out; have := HJ7.out; omega⟩, ⟨by (with_reducible repeat (first | apply Kd.R_alloc | apply Kd.R_drewN | apply Kd.R_drew)); exact HO_5.out⟩, ⟨by (with_reducible repeat (first | refine bN ?_ _ | refine bD ?_ | refine bA ?_ _)); exact BK244.out⟩, ⟨by repeat (first | (with_reducible first | exact HB.out | apply bL | apply bW | apply b1 | refine bS ?_ GE244.out) | exact HB.out)⟩⟩
          ·
           replace c11 := Bool.eq_false_iff.mpr c11
           subst c11; have H1 : (if 0 ≤ x10_2 then (if x10_2 < (((rd_T56 l0_3 x6_1).f11).length : Int) then (if 0 ≤ ((rd_T63 ((rd_T56 l0_3 x6_1).f11) x10_2).f0) then (if ((rd_T63 ((rd_T56 l0_3 x6_1).f11) x10_2).f0) < (l1.length : Int) then ((bourneref26_Litres.f kj7 ((rd_T40 l1 ((rd_T63 ((rd_T56 l0_3 x6_1).f11) x10_2).f0)).f0) ((rd_T63 ((rd_T56 l0_3 x6_1).f11) x10_2).f1)).bind fun t254 => ((bourneref01_Add.f kj7 x7_2 t254).bind fun t255 => ((bourneref26_Litres.f kj7 ((rd_T40 l1 ((rd_T63 ((rd_T56 l0_3 x6_1).f11) x10_2).f0)).f1) ((rd_T63 ((rd_T56 l0_3 x6_1).f11) x10_2).f1)).bind fun t259 => ((bourneref01_Add.f kj7 x8_2 t259).bind fun t260 => (bourneref26_Mesh.l1 kj7 l1 x5_1 x6_1 t255 t260 ((rd_T56 l0_3 x6_1).f11) (wrap64 (x10_2 + 1)) a0_0 l0_1 a0_2 l0_3 l0_4 l0_5 l0_6 l0_7 l0_8 l0_9 a0_10))))) else (none)) else (none)) else (none)) else (none)) = some r := by rw [if_neg (show ¬ (false = true) by decide)] at H; exact H
           clear H; have H := H1
           clear H1; by_cases c12 : 0 ≤ x10_2
           ·
            rw [if_pos c12] at H; have c12b0 : decide (0 ≤ x10_2) = true := decide_eq_true c12
            clear c12; by_cases c13 : x10_2 < (((rd_T56 l0_3 x6_1).f11).length : Int)
            ·
             rw [if_pos c13] at H; have c13b0 : decide (x10_2 < (((rd_T56 l0_3 x6_1).f11).length : Int)) = true := decide_eq_true c13
             clear c13; by_cases c14 : 0 ≤ ((rd_T63 ((rd_T56 l0_3 x6_1).f11) x10_2).f0)
             ·
              rw [if_pos c14] at H; have c14b0 : decide (0 ≤ ((rd_T63 ((rd_T56 l0_3 x6_1).f11) x10_2).f0)) = true := decide_eq_true c14
              clear c14; by_cases c15 : ((rd_T63 ((rd_T56 l0_3 x6_1).f11) x10_2).f0) < (l1.length : Int)
              ·
               rw [if_pos c15] at H; have c15b0 : decide (((rd_T63 ((rd_T56 l0_3 x6_1).f11) x10_2).f0) < (l1.length : Int)) = true := decide_eq_true c15
               clear c15; replace H := Option.bind_eq_some_iff.mp H
               obtain ⟨t254, A160, H⟩ := H
               have A16 := Aside0.mk A160
               clear A160; replace H := Option.bind_eq_some_iff.mp H
               obtain ⟨t255, A170, H⟩ := H
               have A17 := Aside0.mk A170
               clear A170; replace H := Option.bind_eq_some_iff.mp H
               obtain ⟨t259, A180, H⟩ := H
               have A18 := Aside0.mk A180
               clear A180; replace H := Option.bind_eq_some_iff.mp H
               obtain ⟨t260, A190, H⟩ := H
               have A19 := Aside0.mk A190
               clear A190; have H' := Aside0.mk H
               clear H; have p251 : 0 ≤ (x10_2 : Int) := of_decide_eq_true (by first | (with_reducible assumption) | assumption)
               have q251 : x10_2 < (((rd_T56 l0_3 x6_1).f11).length : Int) := of_decide_eq_true (by first | (with_reducible assumption) | assumption)
               obtain ⟨ad251, e251, hx251_0, hx251_1⟩ := at_T63 HR245_11.out x10_2 p251 q251
               cases e251
               replace hx251_0 := (HB.out.cell (wL w _ hx251_0)).trans hx251_0
               replace hx251_1 := (HB.out.cell (wL w _ hx251_1)).trans hx251_1
               replace p251 := eq_true p251
               replace q251 := eq_true q251
               have p252 : 0 ≤ (((rd_T63 ((rd_T56 l0_3 x6_1).f11) x10_2).f0) : Int) := of_decide_eq_true (by first | (with_reducible assumption) | assumption)
               have q252 : ((rd_T63 ((rd_T56 l0_3 x6_1).f11) x10_2).f0) < (l1.length : Int) := of_decide_eq_true (by first | (with_reducible assumption) | assumption)
               obtain ⟨ad252, e252, hx252_0, hx252_1⟩ := at_T40 HR1.out ((rd_T63 ((rd_T56 l0_3 x6_1).f11) x10_2).f0) p252 q252
               cases e252
               replace hx252_0 := (HB.out.cell (wL w _ hx252_0)).trans hx252_0
               replace hx252_1 := (HB.out.cell (wL w _ hx252_1)).trans hx252_1
               replace p252 := eq_true p252
               replace q252 := eq_true q252
               have p253 : 0 ≤ (x10_2 : Int) := of_decide_eq_true (by first | (with_reducible assumption) | assumption)
               have q253 : x10_2 < (((rd_T56 l0_3 x6_1).f11).length : Int) := of_decide_eq_true (by first | (with_reducible assumption) | assumption)
               obtain ⟨ad253, e253, hx253_0, hx253_1⟩ := at_T63 HR245_11.out x10_2 p253 q253
               obtain rfl : ad251 = ad253 := (by injection e253)
               replace hx253_0 := (HB.out.cell (wL w _ hx253_0)).trans hx253_0
               replace hx253_1 := (HB.out.cell (wL w _ hx253_1)).trans hx253_1
               replace p253 := eq_true p253
               replace q253 := eq_true q253
               go_wp2_with (first | (go_at_call 35; (with_reducible refine (bourneref26_Litres.calls kj7 ((rd_T40 l1 ((rd_T63 ((rd_T56 l0_3 x6_1).f11) x10_2).f0)).f0) ((rd_T63 ((rd_T56 l0_3 x6_1).f11) x10_2).f1) t254 _ A16.out).mono ?_); rintro e w' ⟨rfl, ⟨nd, rfl⟩⟩; (try first | exact ⟨rfl, _, World.drewN_drewN _ _ _⟩ | exact ⟨rfl, _, Eq.trans (World.drewN_drewN _ _ _) (congrArg (World.drewN _) (Nat.add_assoc _ _ _))⟩)) | (go_at_call 34; (with_reducible refine (bourneref01_Add.calls kj7 x7_2 t254 t255 _ A17.out).mono ?_); rintro e w' ⟨rfl, ⟨nd, rfl⟩⟩; (try first | exact ⟨rfl, _, World.drewN_drewN _ _ _⟩ | exact ⟨rfl, _, Eq.trans (World.drewN_drewN _ _ _) (congrArg (World.drewN _) (Nat.add_assoc _ _ _))⟩); have p256 : 0 ≤ (x10_2 : Int) := of_decide_eq_true (by first | (with_reducible assumption) | assumption); have q256 : x10_2 < (((rd_T56 l0_3 x6_1).f11).length : Int) := of_decide_eq_true (by first | (with_reducible assumption) | assumption); obtain ⟨ad256, e256, hx256_0, hx256_1⟩ := at_T63 HR245_11.out x10_2 p256 q256; obtain rfl : ad251 = ad256 := (by injection e256); replace hx256_0 := (HB.out.cell (wL w _ hx256_0)).trans hx256_0; replace hx256_1 := (HB.out.cell (wL w _ hx256_1)).trans hx256_1; replace p256 := eq_true p256; replace q256 := eq_true q256; have p257 : 0 ≤ (((rd_T63 ((rd_T56 l0_3 x6_1).f11) x10_2).f0) : Int) := of_decide_eq_true (by first | (with_reducible assumption) | assumption); have q257 : ((rd_T63 ((rd_T56 l0_3 x6_1).f11) x10_2).f0) < (l1.length : Int) := of_decide_eq_true (by first | (with_reducible assumption) | assumption); obtain ⟨ad257, e257, hx257_0, hx257_1⟩ := at_T40 HR1.out ((rd_T63 ((rd_T56 l0_3 x6_1).f11) x10_2).f0) p257 q257; obtain rfl : ad252 = ad257 := (by injection e257); replace hx257_0 := (HB.out.cell (wL w _ hx257_0)).trans hx257_0; replace hx257_1 := (HB.out.cell (wL w _ hx257_1)).trans hx257_1; replace p257 := eq_true p257; replace q257 := eq_true q257; have p258 : 0 ≤ (x10_2 : Int) := of_decide_eq_true (by first | (with_reducible assumption) | assumption); have q258 : x10_2 < (((rd_T56 l0_3 x6_1).f11).length : Int) := of_decide_eq_true (by first | (with_reducible assumption) | assumption); obtain ⟨ad258, e258, hx258_0, hx258_1⟩ := at_T63 HR245_11.out x10_2 p258 q258; obtain rfl : ad251 = ad258 := (by injection e258); replace hx258_0 := (HB.out.cell (wL w _ hx258_0)).trans hx258_0; replace hx258_1 := (HB.out.cell (wL w _ hx258_1)).trans hx258_1; replace p258 := eq_true p258; replace q258 := eq_true q258) | (go_at_call 35; (with_reducible refine (bourneref26_Litres.calls kj7 ((rd_T40 l1 ((rd_T63 ((rd_T56 l0_3 x6_1).f11) x10_2).f0)).f1) ((rd_T63 ((rd_T56 l0_3 x6_1).f11) x10_2).f1) t259 _ A18.out).mono ?_); rintro e w' ⟨rfl, ⟨nd, rfl⟩⟩; (try first | exact ⟨rfl, _, World.drewN_drewN _ _ _⟩ | exact ⟨rfl, _, Eq.trans (World.drewN_drewN _ _ _) (congrArg (World.drewN _) (Nat.add_assoc _ _ _))⟩)) | (go_at_call 34; (with_reducible refine (bourneref01_Add.calls kj7 x8_2 t259 t260 _ A19.out).mono ?_); rintro e w' ⟨rfl, ⟨nd, rfl⟩⟩; (try first | exact ⟨rfl, _, World.drewN_drewN _ _ _⟩ | exact ⟨rfl, _, Eq.trans (World.drewN_drewN _ _ _) (congrArg (World.drewN _) (Nat.add_assoc _ _ _))⟩)))
               repeat (go_quiet (first | (go_at_call 35; (try simp only [i64_w, i32_w]); (with_reducible refine (bourneref26_Litres.calls kj7 ((rd_T40 l1 ((rd_T63 ((rd_T56 l0_3 x6_1).f11) x10_2).f0)).f0) ((rd_T63 ((rd_T56 l0_3 x6_1).f11) x10_2).f1) t254 _ A16.out).mono ?_); rintro e w' ⟨rfl, ⟨nd, rfl⟩⟩; (try first | exact ⟨rfl, _, World.drewN_drewN _ _ _⟩ | exact ⟨rfl, _, Eq.trans (World.drewN_drewN _ _ _) (congrArg (World.drewN _) (Nat.add_assoc _ _ _))⟩)) | (go_at_call 34; (try simp only [i64_w, i32_w]); (with_reducible refine (bourneref01_Add.calls kj7 x7_2 t254 t255 _ A17.out).mono ?_); rintro e w' ⟨rfl, ⟨nd, rfl⟩⟩; (try first | exact ⟨rfl, _, World.drewN_drewN _ _ _⟩ | exact ⟨rfl, _, Eq.trans (World.drewN_drewN _ _ _) (congrArg (World.drewN _) (Nat.add_assoc _ _ _))⟩); have p256 : 0 ≤ (x10_2 : Int) := of_decide_eq_true (by first | (with_reducible assumption) | assumption); have q256 : x10_2 < (((rd_T56 l0_3 x6_1).f11).length : Int) := of_decide_eq_true (by first | (with_reducible assumption) | assumption); obtain ⟨ad256, e256, hx256_0, hx256_1⟩ := at_T63 HR245_11.out x10_2 p256 q256; obtain rfl : ad251 = ad256 := (by injection e256); replace hx256_0 := (HB.out.cell (wL w _ hx256_0)).trans hx256_0; replace hx256_1 := (HB.out.cell (wL w _ hx256_1)).trans hx256_1; replace p256 := eq_true p256; replace q256 := eq_true q256; have p257 : 0 ≤ (((rd_T63 ((rd_T56 l0_3 x6_1).f11) x10_2).f0) : Int) := of_decide_eq_true (by first | (with_reducible assumption) | assumption); have q257 : ((rd_T63 ((rd_T56 l0_3 x6_1).f11) x10_2).f0) < (l1.length : Int) := of_decide_eq_true (by first | (with_reducible assumption) | assumption); obtain ⟨ad257, e257, hx257_0, hx257_1⟩ := at_T40 HR1.out ((rd_T63 ((rd_T56 l0_3 x6_1).f11) x10_2).f0) p257 q257; obtain rfl : ad252 = ad257 := (by injection e257); replace hx257_0 := (HB.out.cell (wL w _ hx257_0)).trans hx257_0; replace hx257_1 := (HB.out.cell (wL w _ hx257_1)).trans hx257_1; replace p257 := eq_true p257; replace q257 := eq_true q257; have p258 : 0 ≤ (x10_2 : Int) := of_decide_eq_true (by first | (with_reducible assumption) | assumption); have q258 : x10_2 < (((rd_T56 l0_3 x6_1).f11).length : Int) := of_decide_eq_true (by first | (with_reducible assumption) | assumption); obtain ⟨ad258, e258, hx258_0, hx258_1⟩ := at_T63 HR245_11.out x10_2 p258 q258; obtain rfl : ad251 = ad258 := (by injection e258); replace hx258_0 := (HB.out.cell (wL w _ hx258_0)).trans hx258_0; replace hx258_1 := (HB.out.cell (wL w _ hx258_1)).trans hx258_1; replace p258 := eq_true p258; replace q258 := eq_true q258) | (go_at_call 35; (try simp only [i64_w, i32_w]); (with_reducible refine (bourneref26_Litres.calls kj7 ((rd_T40 l1 ((rd_T63 ((rd_T56 l0_3 x6_1).f11) x10_2).f0)).f1) ((rd_T63 ((rd_T56 l0_3 x6_1).f11) x10_2).f1) t259 _ A18.out).mono ?_); rintro e w' ⟨rfl, ⟨nd, rfl⟩⟩; (try first | exact ⟨rfl, _, World.drewN_drewN _ _ _⟩ | exact ⟨rfl, _, Eq.trans (World.drewN_drewN _ _ _) (congrArg (World.drewN _) (Nat.add_assoc _ _ _))⟩)) | (go_at_call 34; (try simp only [i64_w, i32_w]); (with_reducible refine (bourneref01_Add.calls kj7 x8_2 t259 t260 _ A19.out).mono ?_); rintro e w' ⟨rfl, ⟨nd, rfl⟩⟩; (try first | exact ⟨rfl, _, World.drewN_drewN _ _ _⟩ | exact ⟨rfl, _, Eq.trans (World.drewN_drewN _ _ _) (congrArg (World.drewN _) (Nat.add_assoc _ _ _))⟩))); try go_wp2_with (first | (go_at_call 35; (try simp only [i64_w, i32_w]); (with_reducible refine (bourneref26_Litres.calls kj7 ((rd_T40 l1 ((rd_T63 ((rd_T56 l0_3 x6_1).f11) x10_2).f0)).f0) ((rd_T63 ((rd_T56 l0_3 x6_1).f11) x10_2).f1) t254 _ A16.out).mono ?_); rintro e w' ⟨rfl, ⟨nd, rfl⟩⟩; (try first | exact ⟨rfl, _, World.drewN_drewN _ _ _⟩ | exact ⟨rfl, _, Eq.trans (World.drewN_drewN _ _ _) (congrArg (World.drewN _) (Nat.add_assoc _ _ _))⟩)) | (go_at_call 34; (try simp only [i64_w, i32_w]); (with_reducible refine (bourneref01_Add.calls kj7 x7_2 t254 t255 _ A17.out).mono ?_); rintro e w' ⟨rfl, ⟨nd, rfl⟩⟩; (try first | exact ⟨rfl, _, World.drewN_drewN _ _ _⟩ | exact ⟨rfl, _, Eq.trans (World.drewN_drewN _ _ _) (congrArg (World.drewN _) (Nat.add_assoc _ _ _))⟩); have p256 : 0 ≤ (x10_2 : Int) := of_decide_eq_true (by first | (with_reducible assumption) | assumption); have q256 : x10_2 < (((rd_T56 l0_3 x6_1).f11).length : Int) := of_decide_eq_true (by first | (with_reducible assumption) | assumption); obtain ⟨ad256, e256, hx256_0, hx256_1⟩ := at_T63 HR245_11.out x10_2 p256 q256; obtain rfl : ad251 = ad256 := (by injection e256); replace hx256_0 := (HB.out.cell (wL w _ hx256_0)).trans hx256_0; replace hx256_1 := (HB.out.cell (wL w _ hx256_1)).trans hx256_1; replace p256 := eq_true p256; replace q256 := eq_true q256; have p257 : 0 ≤ (((rd_T63 ((rd_T56 l0_3 x6_1).f11) x10_2).f0) : Int) := of_decide_eq_true (by first | (with_reducible assumption) | assumption); have q257 : ((rd_T63 ((rd_T56 l0_3 x6_1).f11) x10_2).f0) < (l1.length : Int) := of_decide_eq_true (by first | (with_reducible assumption) | assumption); obtain ⟨ad257, e257, hx257_0, hx257_1⟩ := at_T40 HR1.out ((rd_T63 ((rd_T56 l0_3 x6_1).f11) x10_2).f0) p257 q257; obtain rfl : ad252 = ad257 := (by injection e257); replace hx257_0 := (HB.out.cell (wL w _ hx257_0)).trans hx257_0; replace hx257_1 := (HB.out.cell (wL w _ hx257_1)).trans hx257_1; replace p257 := eq_true p257; replace q257 := eq_true q257; have p258 : 0 ≤ (x10_2 : Int) := of_decide_eq_true (by first | (with_reducible assumption) | assumption); have q258 : x10_2 < (((rd_T56 l0_3 x6_1).f11).length : Int) := of_decide_eq_true (by first | (with_reducible assumption) | assumption); obtain ⟨ad258, e258, hx258_0, hx258_1⟩ := at_T63 HR245_11.out x10_2 p258 q258; obtain rfl : ad251 = ad258 := (by injection e258); replace hx258_0 := (HB.out.cell (wL w _ hx258_0)).trans hx258_0; replace hx258_1 := (HB.out.cell (wL w _ hx258_1)).trans hx258_1; replace p258 := eq_true p258; replace q258 := eq_true q258) | (go_at_call 35; (try simp only [i64_w, i32_w]); (with_reducible refine (bourneref26_Litres.calls kj7 ((rd_T40 l1 ((rd_T63 ((rd_T56 l0_3 x6_1).f11) x10_2).f0)).f1) ((rd_T63 ((rd_T56 l0_3 x6_1).f11) x10_2).f1) t259 _ A18.out).mono ?_); rintro e w' ⟨rfl, ⟨nd, rfl⟩⟩; (try first | exact ⟨rfl, _, World.drewN_drewN _ _ _⟩ | exact ⟨rfl, _, Eq.trans (World.drewN_drewN _ _ _) (congrArg (World.drewN _) (Nat.add_assoc _ _ _))⟩)) | (go_at_call 34; (try simp only [i64_w, i32_w]); (with_reducible refine (bourneref01_Add.calls kj7 x8_2 t259 t260 _ A19.out).mono ?_); rintro e w' ⟨rfl, ⟨nd, rfl⟩⟩; (try first | exact ⟨rfl, _, World.drewN_drewN _ _ _⟩ | exact ⟨rfl, _, Eq.trans (World.drewN_drewN _ _ _) (congrArg (World.drewN _) (Nat.add_assoc _ _ _))⟩))))
               go_roundg kj7
               case measure => have := HK1.out; have := HK2.out; have := HJ7.out; omega
               case rel => exact ⟨(t255), (t260), (wrap64 (x10_2 + 1)), (by first | rfl | (simp; done) | (simp [*]; done)), (by first | rfl | (simp; done) | (simp [*]; done)), (by first | rfl | (simp; done) | (simp [*]; done)), H', ⟨by have := HK1.out; have := HK2.out; have := HJ7.out; omega⟩, ⟨by (with_reducible repeat (first | apply Kd.R_alloc | apply Kd.R_drewN | apply Kd.R_drew)); exact HO_5.out⟩, ⟨by (with_reducible repeat (first | refine bN ?_ _ | refine bD ?_ | refine bA ?_ _)); exact BK244.out⟩, ⟨by repeat (first | (with_reducible first | exact HB.out | apply bL | apply bW | apply b1 | refine bS ?_ GE244.out) | exact HB.out)⟩⟩
              ·
               rw [if_neg c15] at H; exact absurd H (by simp)
             ·
              rw [if_neg c14] at H; exact absurd H (by simp)
            ·
             rw [if_neg c13] at H; exact absurd H (by simp)
           ·
            rw [if_neg c12] at H; exact absurd H (by simp)
       ·
        rw [if_neg c7] at H; have c7b0 : decide (x10_2 < (((rd_T56 l0_3 x6_1).f11).length : Int)) = false := decide_eq_false c7
        clear c7; obtain ⟨ji20, hji20⟩ : ∃ j_ : Int, (mn x7_2 1125899906842624) = j_ := ⟨_, rfl⟩
        replace H : (if x5_1.length < 8796093022208 then (bourneref26_Mesh.l0 k2 l1 (x5_1 ++ [(⟨ji20, mn x8_2 1125899906842624⟩ : S40)]) (wrap64 (x6_1 + 1)) a0_0 l0_1 a0_2 l0_3 l0_4 l0_5 l0_6 l0_7 l0_8 l0_9 a0_10) else (none)) = some r := by first | (rw [hji20] at H; exact H) | (simp only [hji20] at H ⊢; exact H)
        have hji20_ : (if 1125899906842624 < x7_2 then 1125899906842624 else x7_2) = ji20 := hji20
        obtain ⟨ji21, hji21⟩ : ∃ j_ : Int, (mn x8_2 1125899906842624) = j_ := ⟨_, rfl⟩
        replace H : (if x5_1.length < 8796093022208 then (bourneref26_Mesh.l0 k2 l1 (x5_1 ++ [(⟨ji20, ji21⟩ : S40)]) (wrap64 (x6_1 + 1)) a0_0 l0_1 a0_2 l0_3 l0_4 l0_5 l0_6 l0_7 l0_8 l0_9 a0_10) else (none)) = some r := by first | (rw [hji21] at H; exact H) | (simp only [hji21] at H ⊢; exact H)
        have hji21_ : (if 1125899906842624 < x8_2 then 1125899906842624 else x8_2) = ji21 := hji21
        by_cases c22 : x5_1.length < 8796093022208
        ·
         rw [if_pos c22] at H; have LMc22 := Aside0.mk c22
         clear c22; obtain ⟨y246, hy246⟩ : ∃ y_ : List (S40), y_ = (x5_1 ++ [(⟨ji20, ji21⟩ : S40)]) := ⟨_, rfl⟩
         replace H : (bourneref26_Mesh.l0 k2 l1 y246 (wrap64 (x6_1 + 1)) a0_0 l0_1 a0_2 l0_3 l0_4 l0_5 l0_6 l0_7 l0_8 l0_9 a0_10) = some r := by first | (rw [hy246]; with_reducible exact H) | (have H2_ := (Option.bind_some _ _).symm.trans H; rw [hy246]; with_reducible exact H2_) | (have H2_ := (Option.bind_some _ _).symm.trans H; with_reducible exact H2_) | with_reducible exact H | (rw [hy246]; exact H) | exact H
         have Ny246 := Aside0.mk hy246
         clear hy246; have H' := Aside0.mk H
         clear H; go_wp2_with (first | ((with_reducible refine gate_builtin (b := .append) (xs := #[.tmp 80, .tmp 86]) rfl ?_); (try (refine gate_guard (by rfl) ?_; dsimp only)); at_builtin; refine Kd.R_append k40 (w0 := w) w.heap.size rfl (.tmp 80) (.tmp 86) 33 40 (.agg #[(.int .i64 0), (.int .i64 0)]) 16 rfl Try.underlying33 info40 rfl (by decide) (by omega) u5 x5_1 (⟨ji20, ji21⟩ : S40) [.int .i64 ji20, .int .i64 ji21] (fun _ => True) (fun _ => False) rfl rfl ?aP (fun _ hk => hk.elim) ?aF ?aO ?aB ?aS ?aL ?_; (case aP => exact k40_mkM _ _ _ (⟨ji20, ji21⟩ : S40)); (case aB => exact (by repeat (first | (with_reducible first | exact HB.out | apply bL | apply bW | apply b1 | refine bS ?_ GE244.out) | exact HB.out))); (case aF => exact (fun _ _ => trivial)); (case aO => exact (by (with_reducible repeat (first | apply Kd.R_alloc | apply Kd.R_drewN | apply Kd.R_drew)); exact HO_5.out)); (case aS => exact (bZ (by repeat (first | (with_reducible first | exact HB.out | apply bL | apply bW | apply b1 | refine bS ?_ GE244.out) | exact HB.out)))); (case aL => have := LMc22.out; omega); intro v247 w23 ho hb hg hat; rw [← Ny246.out] at ho; have n0_ := Aside0.mk (blk_grown (g := gb244) (o := .cells #[.string a0_0, .slice A0_1 l0_1.length c0_1, .int .i64 a0_2, .slice (some ad245) l0_3.length c0_3, .slice A0_4 l0_4.length c0_4, .slice A0_5 l0_5.length c0_5, .slice A0_6 l0_6.length c0_6, .slice A0_7 l0_7.length c0_7, .slice A0_8 l0_8.length c0_8, .slice A0_9 l0_9.length c0_9, .int .i64 a0_10] 31 (0, 0)) (by (with_reducible repeat (first | refine bN ?_ _ | refine bD ?_ | refine bA ?_ _)); exact BK244.out) hg (Kd.R_ne HO_5.out BK244.out (by decide))); have n1_ := Aside0.mk (hb); have n2_ := Aside0.mk (ho); clear BK244; clear HB; clear HO_5; have BK244 := n0_; have HB := n1_; have HO248 := n2_; clear n0_ n1_ n2_; clear ho hb hg hat))
         repeat (go_quiet (first | ((with_reducible refine gate_builtin (b := .append) (xs := #[.tmp 80, .tmp 86]) rfl ?_); (try (refine gate_guard (by rfl) ?_; dsimp only)); at_builtin; refine Kd.R_append k40 (w0 := w) w.heap.size rfl (.tmp 80) (.tmp 86) 33 40 (.agg #[(.int .i64 0), (.int .i64 0)]) 16 rfl Try.underlying33 info40 rfl (by decide) (by omega) u5 x5_1 (⟨ji20, ji21⟩ : S40) [.int .i64 ji20, .int .i64 ji21] (fun _ => True) (fun _ => False) rfl rfl ?aP (fun _ hk => hk.elim) ?aF ?aO ?aB ?aS ?aL ?_; (case aP => exact k40_mkM _ _ _ (⟨ji20, ji21⟩ : S40)); (case aB => exact (by repeat (first | (with_reducible first | exact HB.out | apply bL | apply bW | apply b1 | refine bS ?_ GE244.out) | exact HB.out))); (case aF => exact (fun _ _ => trivial)); (case aO => exact (by (with_reducible repeat (first | apply Kd.R_alloc | apply Kd.R_drewN | apply Kd.R_drew)); exact HO_5.out)); (case aS => exact (bZ (by repeat (first | (with_reducible first | exact HB.out | apply bL | apply bW | apply b1 | refine bS ?_ GE244.out) | exact HB.out)))); (case aL => have := LMc22.out; omega); intro v247 w23 ho hb hg hat; rw [← Ny246.out] at ho; have n0_ := Aside0.mk (blk_grown (g := gb244) (o := .cells #[.string a0_0, .slice A0_1 l0_1.length c0_1, .int .i64 a0_2, .slice (some ad245) l0_3.length c0_3, .slice A0_4 l0_4.length c0_4, .slice A0_5 l0_5.length c0_5, .slice A0_6 l0_6.length c0_6, .slice A0_7 l0_7.length c0_7, .slice A0_8 l0_8.length c0_8, .slice A0_9 l0_9.length c0_9, .int .i64 a0_10] 31 (0, 0)) (by (with_reducible repeat (first | refine bN ?_ _ | refine bD ?_ | refine bA ?_ _)); exact BK244.out) hg (Kd.R_ne HO_5.out BK244.out (by decide))); have n1_ := Aside0.mk (hb); have n2_ := Aside0.mk (ho); clear BK244; clear HB; clear HO_5; have BK244 := n0_; have HB := n1_; have HO248 := n2_; clear n0_ n1_ n2_; clear ho hb hg hat)); try go_wp2_with (first | ((with_reducible refine gate_builtin (b := .append) (xs := #[.tmp 80, .tmp 86]) rfl ?_); (try (refine gate_guard (by rfl) ?_; dsimp only)); at_builtin; refine Kd.R_append k40 (w0 := w) w.heap.size rfl (.tmp 80) (.tmp 86) 33 40 (.agg #[(.int .i64 0), (.int .i64 0)]) 16 rfl Try.underlying33 info40 rfl (by decide) (by omega) u5 x5_1 (⟨ji20, ji21⟩ : S40) [.int .i64 ji20, .int .i64 ji21] (fun _ => True) (fun _ => False) rfl rfl ?aP (fun _ hk => hk.elim) ?aF ?aO ?aB ?aS ?aL ?_; (case aP => exact k40_mkM _ _ _ (⟨ji20, ji21⟩ : S40)); (case aB => exact (by repeat (first | (with_reducible first | exact HB.out | apply bL | apply bW | apply b1 | refine bS ?_ GE244.out) | exact HB.out))); (case aF => exact (fun _ _ => trivial)); (case aO => exact (by (with_reducible repeat (first | apply Kd.R_alloc | apply Kd.R_drewN | apply Kd.R_drew)); exact HO_5.out)); (case aS => exact (bZ (by repeat (first | (with_reducible first | exact HB.out | apply bL | apply bW | apply b1 | refine bS ?_ GE244.out) | exact HB.out)))); (case aL => have := LMc22.out; omega); intro v247 w23 ho hb hg hat; rw [← Ny246.out] at ho; have n0_ := Aside0.mk (blk_grown (g := gb244) (o := .cells #[.string a0_0, .slice A0_1 l0_1.length c0_1, .int .i64 a0_2, .slice (some ad245) l0_3.length c0_3, .slice A0_4 l0_4.length c0_4, .slice A0_5 l0_5.length c0_5, .slice A0_6 l0_6.length c0_6, .slice A0_7 l0_7.length c0_7, .slice A0_8 l0_8.length c0_8, .slice A0_9 l0_9.length c0_9, .int .i64 a0_10] 31 (0, 0)) (by (with_reducible repeat (first | refine bN ?_ _ | refine bD ?_ | refine bA ?_ _)); exact BK244.out) hg (Kd.R_ne HO_5.out BK244.out (by decide))); have n1_ := Aside0.mk (hb); have n2_ := Aside0.mk (ho); clear BK244; clear HB; clear HO_5; have BK244 := n0_; have HB := n1_; have HO248 := n2_; clear n0_ n1_ n2_; clear ho hb hg hat)))
         go_roundg k2
         case measure => have := HK1.out; have := HK2.out; omega
         case rel => exact ⟨(y246), (wrap64 (x6_1 + 1)), (by first | rfl | (simp; done) | (simp [*]; done)), H', ⟨by have := HK1.out; have := HK2.out; omega⟩, ⟨by (with_reducible repeat (first | apply Kd.R_alloc | apply Kd.R_drewN | apply Kd.R_drew)); exact HO248.out⟩, ⟨by (with_reducible repeat (first | refine bN ?_ _ | refine bD ?_ | refine bA ?_ _)); exact BK244.out⟩, ⟨by repeat (first | (with_reducible first | exact HB.out | apply bL | apply bW | apply b1 | refine bS ?_ GE244.out) | exact HB.out)⟩⟩
        ·
         rw [if_neg c22] at H; exact absurd H (by simp)
    ·
     rw [if_neg c5] at H; exact absurd H (by simp)
   ·
    rw [if_neg c4] at H; have c4b0 : decide (x6_1 < (l0_3.length : Int)) = false := decide_eq_false c4
    clear c4; obtain rfl := Option.some.inj H
    have hcz24_0 : wr.cell? ⟨gb244, 0, none⟩ = some (.string a0_0) := (bC BK244.out 0).trans rfl
    have hcz24_1 : wr.cell? ⟨gb244, 1, none⟩ = some (.slice A0_1 l0_1.length c0_1) := (bC BK244.out 1).trans rfl
    have hcz24_2 : wr.cell? ⟨gb244, 2, none⟩ = some (.int .i64 a0_2) := (bC BK244.out 2).trans rfl
    have hcz24_3 : wr.cell? ⟨gb244, 3, none⟩ = some (.slice A0_3 l0_3.length c0_3) := (bC BK244.out 3).trans rfl
    have hcz24_4 : wr.cell? ⟨gb244, 4, none⟩ = some (.slice A0_4 l0_4.length c0_4) := (bC BK244.out 4).trans rfl
    have hcz24_5 : wr.cell? ⟨gb244, 5, none⟩ = some (.slice A0_5 l0_5.length c0_5) := (bC BK244.out 5).trans rfl
    have hcz24_6 : wr.cell? ⟨gb244, 6, none⟩ = some (.slice A0_6 l0_6.length c0_6) := (bC BK244.out 6).trans rfl
    have hcz24_7 : wr.cell? ⟨gb244, 7, none⟩ = some (.slice A0_7 l0_7.length c0_7) := (bC BK244.out 7).trans rfl
    have hcz24_8 : wr.cell? ⟨gb244, 8, none⟩ = some (.slice A0_8 l0_8.length c0_8) := (bC BK244.out 8).trans rfl
    have hcz24_9 : wr.cell? ⟨gb244, 9, none⟩ = some (.slice A0_9 l0_9.length c0_9) := (bC BK244.out 9).trans rfl
    have hcz24_10 : wr.cell? ⟨gb244, 10, none⟩ = some (.int .i64 a0_10) := (bC BK244.out 10).trans rfl
    have hfz24_0 := bF BK244.out 0
    have hfz24_1 := bF BK244.out 1
    have hfz24_2 := bF BK244.out 2
    have hfz24_3 := bF BK244.out 3
    have hfz24_4 := bF BK244.out 4
    have hfz24_5 := bF BK244.out 5
    have hfz24_6 := bF BK244.out 6
    have hfz24_7 := bF BK244.out 7
    have hfz24_8 := bF BK244.out 8
    have hfz24_9 := bF BK244.out 9
    have hfz24_10 := bF BK244.out 10
    go_wp2
    repeat (go_quiet (fail); try go_wp2)
    go_ret
    exact ⟨_, by first | rfl | (simp [errW_none, errW_some] <;> rfl) | (simp [*, errW_none, errW_some] <;> rfl), by (with_reducible repeat (first | apply Kd.R_alloc | apply Kd.R_drewN | apply Kd.R_drew)); exact HO_5.out, by repeat (first | (with_reducible first | exact HB.out | apply bL | apply bW | apply b1 | refine bS ?_ GE244.out) | exact HB.out)⟩
def bourneref09_Add.f (k : Nat) (a0_0 : Int) (a0_1 : Int) (a1_0 : Int) (a1_1 : Int) : Option (Int × Int) := (bourneref01_Add.f k a0_0 a1_0).bind fun t264 => ((bourneref01_Add.f k a0_1 a1_1).bind fun t265 => (some (t264, t265)))
theorem bourneref09_Add.mono : ∀ a0 a1 a2 a3 k, LeO (bourneref09_Add.f k a0 a1 a2 a3) (bourneref09_Add.f (k + 1) a0 a1 a2 a3) := by
 intro a0 a1 a2 a3 k; unfold bourneref09_Add.f
 repeat' first
   | (with_reducible exact bourneref01_Add.mono _ _ _)
   | (with_reducible exact LeO.refl _)
   | (with_reducible exact LeO.none _)
   | (with_reducible refine LeO.ite ?_ ?_)
   | (with_reducible refine LeO.bind ?_ (fun _ => ?_))
   | exact bourneref01_Add.mono _ _ _
   | exact LeO.none _
   | refine LeO.ite ?_ ?_
   | refine LeO.bind ?_ (fun _ => ?_)
set_option maxHeartbeats 8000000 in
set_option maxRecDepth 100000 in
theorem bourneref09_Add.calls (k : Nat) (a0_0 : Int) (a0_1 : Int) (a1_0 : Int) (a1_1 : Int) (r1 : Int) (r2 : Int) (w : World) (h : bourneref09_Add.f k a0_0 a0_1 a1_0 a1_1 = some (r1, r2)) :
  Calls Try.prog 36 #[.agg #[.int .i64 a0_0, .int .i64 a0_1], .agg #[.int .i64 a1_0, .int .i64 a1_1]] w fun e w' => e = .returned (.agg #[.int .i64 r1, .int .i64 r2]) ∧ Below w.heap.size w w' := by
 have hu40 := Try.underlying40
 have HB := Aside0.mk (Below.refl w.heap.size w)
 have H : ((bourneref01_Add.f k a0_0 a1_0).bind fun t264 => ((bourneref01_Add.f k a0_1 a1_1).bind fun t265 => (some (t264, t265)))) = some (r1, r2) := h
 clear h; replace H := Option.bind_eq_some_iff.mp H
 obtain ⟨t264, A30, H⟩ := H
 have A3 := Aside0.mk A30
 clear A30; replace H := Option.bind_eq_some_iff.mp H
 obtain ⟨t265, A40, H⟩ := H
 have A4 := Aside0.mk A40
 clear A40; simp only [Option.some.injEq, Prod.mk.injEq] at H; obtain ⟨rfl, rfl⟩ := H
 go_enter Try.func36, Try.ntmps36
 go_wp2_with (first | ((with_reducible refine gate_dst (N := 2) rfl ?_); refine box_event ?hg (N := 2) ?hd (cs := #[.int .i64 a0_0, .int .i64 a0_1]) (t := 40) ?hr ?_; (case hd => rfl); (case hg => rfl); (case hr => first | (go_simp; done) | (go_simp; rfl)); intro gb261 hg w5 hbox hb; have n0_ := Aside0.mk (bP (by repeat (first | (with_reducible first | exact HB.out | apply bL | apply bW | apply b1) | exact HB.out)) hb); have n1_ := Aside0.mk (hbox); have n2_ := Aside0.mk ((by rw [hg]; exact (bZ (by repeat (first | (with_reducible first | exact HB.out | apply bL | apply bW | apply b1) | exact HB.out))) : w.heap.size ≤ gb261)); have n3_ := Aside0.mk ((by rw [hg]; exact (bZ (by repeat (first | (with_reducible first | exact HB.out | apply bL | apply bW | apply b1) | exact HB.out))) : w.heap.size ≤ gb261)); clear HB; have HB := n0_; have BK261 := n1_; have GW261 := n2_; have GE261 := n3_; clear n0_ n1_ n2_ n3_; clear hb hbox hg) | ((with_reducible refine gate_dst (N := 3) rfl ?_); refine box_event ?hg (N := 3) ?hd (cs := #[.int .i64 a1_0, .int .i64 a1_1]) (t := 40) ?hr ?_; (case hd => rfl); (case hg => rfl); (case hr => first | (go_simp; done) | (go_simp; rfl)); intro gb262 hg w6 hbox hb; have n0_ := Aside0.mk (bB (g := gb261) (o := .cells #[.int .i64 a0_0, .int .i64 a0_1] 40 (0, 0)) (by (with_reducible repeat (first | refine bN ?_ _ | refine bD ?_ | refine bA ?_ _)); exact BK261.out) hb); have n1_ := Aside0.mk (bP (by repeat (first | (with_reducible first | exact HB.out | apply bL | apply bW | apply b1 | refine bS ?_ GE261.out) | exact HB.out)) hb); have n2_ := Aside0.mk (hbox); have n3_ := Aside0.mk ((by rw [hg]; exact (bZ (by repeat (first | (with_reducible first | exact HB.out | apply bL | apply bW | apply b1 | refine bS ?_ GE261.out) | exact HB.out))) : w.heap.size ≤ gb262)); have n4_ := Aside0.mk ((by rw [hg]; exact (bZ (by repeat (first | (with_reducible first | exact HB.out | apply bL | apply bW | apply b1 | refine bS ?_ GE261.out) | exact HB.out))) : w.heap.size ≤ gb262)); have n5_ := Aside0.mk ((by rw [hg]; exact Nat.ne_of_lt (bT (g := gb261) (o := .cells #[.int .i64 a0_0, .int .i64 a0_1] 40 (0, 0)) (by (with_reducible repeat (first | refine bN ?_ _ | refine bD ?_ | refine bA ?_ _)); exact BK261.out)) : gb261 ≠ gb262)); have n6_ := Aside0.mk ((by rw [hg]; exact Nat.ne_of_gt (bT (g := gb261) (o := .cells #[.int .i64 a0_0, .int .i64 a0_1] 40 (0, 0)) (by (with_reducible repeat (first | refine bN ?_ _ | refine bD ?_ | refine bA ?_ _)); exact BK261.out)) : gb262 ≠ gb261)); clear BK261; clear HB; have BK261 := n0_; have HB := n1_; have BK262 := n2_; have GW262 := n3_; have GE262 := n4_; have NB261_262 := n5_; have NB262_261 := n6_; clear n0_ n1_ n2_ n3_ n4_ n5_ n6_; clear hb hbox hg) | ((with_reducible refine gate_dst (N := 4) rfl ?_); refine box_event ?hg (N := 4) ?hd (cs := #[.int .i64 0, .int .i64 0]) (t := 40) ?hr ?_; (case hd => rfl); (case hg => rfl); (case hr => first | (go_simp; done) | (go_simp; rfl)); intro gb263 hg w7 hbox hb; have n0_ := Aside0.mk (bB (g := gb261) (o := .cells #[.int .i64 a0_0, .int .i64 a0_1] 40 (0, 0)) (by (with_reducible repeat (first | refine bN ?_ _ | refine bD ?_ | refine bA ?_ _)); exact BK261.out) hb); have n1_ := Aside0.mk (bB (g := gb262) (o := .cells #[.int .i64 a1_0, .int .i64 a1_1] 40 (0, 0)) (by (with_reducible repeat (first | refine bN ?_ _ | refine bD ?_ | refine bA ?_ _)); exact BK262.out) hb); have n2_ := Aside0.mk (bP (by repeat (first | (with_reducible first | exact HB.out | apply bL | apply bW | apply b1 | refine bS ?_ GE261.out | refine bS ?_ GE262.out) | exact HB.out)) hb); have n3_ := Aside0.mk (hbox); have n4_ := Aside0.mk ((by rw [hg]; exact (bZ (by repeat (first | (with_reducible first | exact HB.out | apply bL | apply bW | apply b1 | refine bS ?_ GE261.out | refine bS ?_ GE262.out) | exact HB.out))) : w.heap.size ≤ gb263)); have n5_ := Aside0.mk ((by rw [hg]; exact (bZ (by repeat (first | (with_reducible first | exact HB.out | apply bL | apply bW | apply b1 | refine bS ?_ GE261.out | refine bS ?_ GE262.out) | exact HB.out))) : w.heap.size ≤ gb263)); have n6_ := Aside0.mk ((by rw [hg]; exact Nat.ne_of_lt (bT (g := gb261) (o := .cells #[.int .i64 a0_0, .int .i64 a0_1] 40 (0, 0)) (by (with_reducible repeat (first | refine bN ?_ _ | refine bD ?_ | refine bA ?_ _)); exact BK261.out)) : gb261 ≠ gb263)); have n7_ := Aside0.mk ((by rw [hg]; exact Nat.ne_of_gt (bT (g := gb261) (o := .cells #[.int .i64 a0_0, .int .i64 a0_1] 40 (0, 0)) (by (with_reducible repeat (first | refine bN ?_ _ | refine bD ?_ | refine bA ?_ _)); exact BK261.out)) : gb263 ≠ gb261)); have n8_ := Aside0.mk ((by rw [hg]; exact Nat.ne_of_lt (bT (g := gb262) (o := .cells #[.int .i64 a1_0, .int .i64 a1_1] 40 (0, 0)) (by (with_reducible repeat (first | refine bN ?_ _ | refine bD ?_ | refine bA ?_ _)); exact BK262.out)) : gb262 ≠ gb263)); have n9_ := Aside0.mk ((by rw [hg]; exact Nat.ne_of_gt (bT (g := gb262) (o := .cells #[.int .i64 a1_0, .int .i64 a1_1] 40 (0, 0)) (by (with_reducible repeat (first | refine bN ?_ _ | refine bD ?_ | refine bA ?_ _)); exact BK262.out)) : gb263 ≠ gb262)); clear BK261; clear BK262; clear HB; have BK261 := n0_; have BK262 := n1_; have HB := n2_; have BK263 := n3_; have GW263 := n4_; have GE263 := n5_; have NB261_263 := n6_; have NB263_261 := n7_; have NB262_263 := n8_; have NB263_262 := n9_; clear n0_ n1_ n2_ n3_ n4_ n5_ n6_ n7_ n8_ n9_; clear hb hbox hg; have hnb8 := NB261_262.out; have hnc8 := NB262_261.out; have hnb9 := NB261_263.out; have hnc9 := NB263_261.out; have hcz10_0 : w7.cell? ⟨gb261, 0, none⟩ = some (.int .i64 a0_0) := (bC BK261.out 0).trans rfl; have hcz10_1 : w7.cell? ⟨gb261, 1, none⟩ = some (.int .i64 a0_1) := (bC BK261.out 1).trans rfl; have hfz10_0 := bF BK261.out 0; have hfz10_1 := bF BK261.out 1; have hnb11 := NB262_263.out; have hnc11 := NB263_262.out; have hcz12_0 : w7.cell? ⟨gb262, 0, none⟩ = some (.int .i64 a1_0) := (bC BK262.out 0).trans rfl; have hcz12_1 : w7.cell? ⟨gb262, 1, none⟩ = some (.int .i64 a1_1) := (bC BK262.out 1).trans rfl; have hfz12_0 := bF BK262.out 0; have hfz12_1 := bF BK262.out 1) | ((with_reducible refine gate_callee (f := 34) rfl ?_); refine goesL_ (some 11) rfl rfl Try.func34 (by kernel_rfl) rfl #[.int .i64 a0_0, .int .i64 a1_0] rfl (by (try simp only [List.map_toArray, List.map_cons, List.map_nil]); first | done | rfl | (simp only [List.length_drop, List.length_take]; rfl)) ?_; (with_reducible refine (bourneref01_Add.calls k a0_0 a1_0 t264 _ A3.out).mono ?_); rintro e w' ⟨rfl, ⟨nd, rfl⟩⟩; refine ⟨_, rfl, ?_⟩; (try (rw [drewN_self w7]; generalize hq_ : World.drewN w7 _ = w7; have n0_ : Aside0 (w7.heap[gb261]? = some (.cells #[.int .i64 a0_0, .int .i64 a0_1] 40 (0, 0))) := ⟨by rw [← hq_]; exact (by (with_reducible repeat (first | refine bN ?_ _ | refine bD ?_ | refine bA ?_ _)); exact BK261.out)⟩; have n1_ : Aside0 (w7.heap[gb262]? = some (.cells #[.int .i64 a1_0, .int .i64 a1_1] 40 (0, 0))) := ⟨by rw [← hq_]; exact (by (with_reducible repeat (first | refine bN ?_ _ | refine bD ?_ | refine bA ?_ _)); exact BK262.out)⟩; have n2_ : Aside0 (w7.heap[gb263]? = some (.cells #[.int .i64 0, .int .i64 0] 40 (0, 0))) := ⟨by rw [← hq_]; exact (by (with_reducible repeat (first | refine bN ?_ _ | refine bD ?_ | refine bA ?_ _)); exact BK263.out)⟩; have n3_ : Aside0 (Below w.heap.size w w7) := ⟨by rw [← hq_]; exact (by repeat (first | (with_reducible first | exact HB.out | apply bL | apply bW | apply b1 | refine bS ?_ GE261.out | refine bS ?_ GE262.out | refine bS ?_ GE263.out) | exact HB.out))⟩; clear BK261 BK262 BK263 HB hq_; have BK261 := n0_; have BK262 := n1_; have BK263 := n2_; have HB := n3_; clear n0_ n1_ n2_ n3_)); (try (have hcz10_0 : w7.cell? ⟨gb261, 0, none⟩ = some (.int .i64 a0_0) := (bC BK261.out 0).trans rfl; have hcz10_1 : w7.cell? ⟨gb261, 1, none⟩ = some (.int .i64 a0_1) := (bC BK261.out 1).trans rfl; have hfz10_0 := bF BK261.out 0; have hfz10_1 := bF BK261.out 1)); (try (have hcz12_0 : w7.cell? ⟨gb262, 0, none⟩ = some (.int .i64 a1_0) := (bC BK262.out 0).trans rfl; have hcz12_1 : w7.cell? ⟨gb262, 1, none⟩ = some (.int .i64 a1_1) := (bC BK262.out 1).trans rfl; have hfz12_0 := bF BK262.out 0; have hfz12_1 := bF BK262.out 1))) | ((with_reducible refine gate_callee (f := 34) rfl ?_); refine goesL_ (some 16) rfl rfl Try.func34 (by kernel_rfl) rfl #[.int .i64 a0_1, .int .i64 a1_1] rfl (by (try simp only [List.map_toArray, List.map_cons, List.map_nil]); first | done | rfl | (simp only [List.length_drop, List.length_take]; rfl)) ?_; (with_reducible refine (bourneref01_Add.calls k a0_1 a1_1 t265 _ A4.out).mono ?_); rintro e w' ⟨rfl, ⟨nd, rfl⟩⟩; refine ⟨_, rfl, ?_⟩; (try (rw [drewN_self w7]; generalize hq_ : World.drewN w7 _ = w7; have n0_ : Aside0 (w7.heap[gb261]? = some (.cells #[.int .i64 a0_0, .int .i64 a0_1] 40 (0, 0))) := ⟨by rw [← hq_]; exact (by (with_reducible repeat (first | refine bN ?_ _ | refine bD ?_ | refine bA ?_ _)); exact BK261.out)⟩; have n1_ : Aside0 (w7.heap[gb262]? = some (.cells #[.int .i64 a1_0, .int .i64 a1_1] 40 (0, 0))) := ⟨by rw [← hq_]; exact (by (with_reducible repeat (first | refine bN ?_ _ | refine bD ?_ | refine bA ?_ _)); exact BK262.out)⟩; have n2_ : Aside0 (w7.heap[gb263]? = some (.cells #[.int .i64 0, .int .i64 0] 40 (0, 0))) := ⟨by rw [← hq_]; exact (by (with_reducible repeat (first | refine bN ?_ _ | refine bD ?_ | refine bA ?_ _)); exact BK263.out)⟩; have n3_ : Aside0 (Below w.heap.size w w7) := ⟨by rw [← hq_]; exact (by repeat (first | (with_reducible first | exact HB.out | apply bL | apply bW | apply b1 | refine bS ?_ GE261.out | refine bS ?_ GE262.out | refine bS ?_ GE263.out) | exact HB.out))⟩; clear BK261 BK262 BK263 HB hq_; have BK261 := n0_; have BK262 := n1_; have BK263 := n2_; have HB := n3_; clear n0_ n1_ n2_ n3_)); (try (have hcz10_0 : w7.cell? ⟨gb261, 0, none⟩ = some (.int .i64 a0_0) := (bC BK261.out 0).trans rfl; have hcz10_1 : w7.cell? ⟨gb261, 1, none⟩ = some (.int .i64 a0_1) := (bC BK261.out 1).trans rfl; have hfz10_0 := bF BK261.out 0; have hfz10_1 := bF BK261.out 1)); (try (have hcz12_0 : w7.cell? ⟨gb262, 0, none⟩ = some (.int .i64 a1_0) := (bC BK262.out 0).trans rfl; have hcz12_1 : w7.cell? ⟨gb262, 1, none⟩ = some (.int .i64 a1_1) := (bC BK262.out 1).trans rfl; have hfz12_0 := bF BK262.out 0; have hfz12_1 := bF BK262.out 1)); have hcz13_0 : w7.cell? ⟨gb263, 0, none⟩ = some (.int .i64 0) := (bC BK263.out 0).trans rfl; have hcz13_1 : w7.cell? ⟨gb263, 1, none⟩ = some (.int .i64 0) := (bC BK263.out 1).trans rfl; have hfz13_0 := bF BK263.out 0; have hfz13_1 := bF BK263.out 1))
 refine bodyPost_ret (results_cell_row rfl _ _ gb263 40 #[.int .i64 t264, .int .i64 t265] (0, 0) _ rfl (by (with_reducible repeat (first | refine bN ?_ _ | refine bD ?_ | refine bA ?_ _)); refine bU (cs := #[.int .i64 t264, .int .i64 0]) ?_ 1 _ rfl; (with_reducible repeat (first | refine bN ?_ _ | refine bD ?_ | refine bA ?_ _)); refine bU (cs := #[.int .i64 0, .int .i64 0]) ?_ 0 _ rfl; (with_reducible repeat (first | refine bN ?_ _ | refine bD ?_ | refine bA ?_ _)); exact BK263.out) Try.underlying40 rfl (by kernel_rfl)) rfl ?_
 exact ⟨by first | rfl | (simp [errW_none, errW_some] <;> rfl) | (simp [*, errW_none, errW_some] <;> rfl), by repeat (first | (with_reducible first | exact HB.out | apply bL | apply bW | apply b1 | refine bS ?_ GE261.out | refine bS ?_ GE262.out | refine bS ?_ GE263.out) | exact HB.out)⟩
def bourneref26_Sum.l0 : Nat → List (S40) → Int → Int → Int → Option (Int × Int)
 | 0, _, _, _, _ => none
 | k + 1, x0, x4, x268000, x268001 => if x4 < (x0.length : Int) then (if 0 ≤ x4 then ((bourneref09_Add.f k x268000 x268001 ((rd_T40 x0 x4).f0) ((rd_T40 x0 x4).f1)).bind fun bt269 => (bourneref26_Sum.l0 k x0 (wrap64 (x4 + 1)) bt269.1 bt269.2)) else (none)) else (some (x268000, x268001))
def bourneref26_Sum.f (k : Nat) (l0 : List (S40)) : Option (Int × Int) := bourneref26_Sum.l0 k l0 0 0 0
theorem bourneref26_Sum.mono_l : ∀ k, (∀ y0 y1 y2 y3, LeO (bourneref26_Sum.l0 k y0 y1 y2 y3) (bourneref26_Sum.l0 (k + 1) y0 y1 y2 y3))
 | 0 => fun _ _ _ _ r h => by simp [bourneref26_Sum.l0] at h
 | k + 1 => by
  have ih0 := bourneref26_Sum.mono_l k
  ·
   intro y0 y1 y2 y3; unfold bourneref26_Sum.l0
   repeat' first
   | (with_reducible exact ih0 _ _ _ _)
   | (with_reducible exact bourneref09_Add.mono _ _ _ _ _)
   | (with_reducible exact LeO.refl _)
   | (with_reducible exact LeO.none _)
   | (with_reducible refine LeO.ite ?_ ?_)
   | (with_reducible refine LeO.bind ?_ (fun _ => ?_))
   | exact ih0 _ _ _ _
   | exact bourneref09_Add.mono _ _ _ _ _
   | exact LeO.none _
   | refine LeO.ite ?_ ?_
   | refine LeO.bind ?_ (fun _ => ?_)
theorem bourneref26_Sum.mono : ∀ a0 k, LeO (bourneref26_Sum.f k a0) (bourneref26_Sum.f (k + 1) a0) := by
 intro a0 k; have ih0 := bourneref26_Sum.mono_l k
 unfold bourneref26_Sum.f
 repeat' first
   | (with_reducible exact ih0 _ _ _ _)
   | (with_reducible exact bourneref09_Add.mono _ _ _ _ _)
   | (with_reducible exact LeO.refl _)
   | (with_reducible exact LeO.none _)
   | (with_reducible refine LeO.ite ?_ ?_)
   | (with_reducible refine LeO.bind ?_ (fun _ => ?_))
   | exact ih0 _ _ _ _
   | exact bourneref09_Add.mono _ _ _ _ _
   | exact LeO.none _
   | refine LeO.ite ?_ ?_
   | refine LeO.bind ?_ (fun _ => ?_)
set_option maxHeartbeats 8000000 in
set_option maxRecDepth 100000 in
theorem bourneref26_Sum.calls (k : Nat) (A0 : Option Addr) (c0 : Nat) (l0 : List (S40)) (r1 : Int) (r2 : Int) (w : World) (hr0 : Kd.C k40 w A0 l0.length l0) (hc0 : l0.length ≤ c0) (h : bourneref26_Sum.f k l0 = some (r1, r2)) :
  Calls Try.prog 16 #[.slice A0 l0.length c0] w fun e w' => e = .returned (.agg #[.int .i64 r1, .int .i64 r2]) ∧ Below w.heap.size w w' := by
 have hu40 := Try.underlying40
 have HR0 := Aside0.mk hr0
 have HC0 := Aside0.mk hc0
 clear hr0 hc0; have HB := Aside0.mk (Below.refl w.heap.size w)
 have H : (bourneref26_Sum.l0 k l0 0 0 0) = some (r1, r2) := h
 clear h; have H' := Aside0.mk H
 clear H; go_enter Try.func16, Try.ntmps16
 go_wp2_with (first | ((with_reducible refine gate_dst (N := 2) rfl ?_); refine box_event ?hg (N := 2) ?hd (cs := #[.int .i64 0, .int .i64 0]) (t := 40) ?hr ?_; (case hd => rfl); (case hg => rfl); (case hr => first | (go_simp; done) | (go_simp; rfl)); intro gb266 hg w2 hbox hb; have n0_ := Aside0.mk (bP (by repeat (first | (with_reducible first | exact HB.out | apply bL | apply bW | apply b1) | exact HB.out)) hb); have n1_ := Aside0.mk (hbox); have n2_ := Aside0.mk ((by rw [hg]; exact (bZ (by repeat (first | (with_reducible first | exact HB.out | apply bL | apply bW | apply b1) | exact HB.out))) : w.heap.size ≤ gb266)); have n3_ := Aside0.mk ((by rw [hg]; exact (bZ (by repeat (first | (with_reducible first | exact HB.out | apply bL | apply bW | apply b1) | exact HB.out))) : w.heap.size ≤ gb266)); clear HB; have HB := n0_; have BK266 := n1_; have GW266 := n2_; have GE266 := n3_; clear n0_ n1_ n2_ n3_; clear hb hbox hg) | ((with_reducible refine gate_dst (N := 3) rfl ?_); refine box_event ?hg (N := 3) ?hd (cs := #[.int .i64 0, .int .i64 0]) (t := 40) ?hr ?_; (case hd => rfl); (case hg => rfl); (case hr => first | (go_simp; done) | (go_simp; rfl)); intro gb267 hg w3 hbox hb; have n0_ := Aside0.mk (bB (g := gb266) (o := .cells #[.int .i64 0, .int .i64 0] 40 (0, 0)) (by (with_reducible repeat (first | refine bN ?_ _ | refine bD ?_ | refine bA ?_ _)); exact BK266.out) hb); have n1_ := Aside0.mk (bP (by repeat (first | (with_reducible first | exact HB.out | apply bL | apply bW | apply b1 | refine bS ?_ GE266.out) | exact HB.out)) hb); have n2_ := Aside0.mk (hbox); have n3_ := Aside0.mk ((by rw [hg]; exact (bZ (by repeat (first | (with_reducible first | exact HB.out | apply bL | apply bW | apply b1 | refine bS ?_ GE266.out) | exact HB.out))) : w.heap.size ≤ gb267)); have n4_ := Aside0.mk ((by rw [hg]; exact (bZ (by repeat (first | (with_reducible first | exact HB.out | apply bL | apply bW | apply b1 | refine bS ?_ GE266.out) | exact HB.out))) : w.heap.size ≤ gb267)); have n5_ := Aside0.mk ((by rw [hg]; exact Nat.ne_of_lt (bT (g := gb266) (o := .cells #[.int .i64 0, .int .i64 0] 40 (0, 0)) (by (with_reducible repeat (first | refine bN ?_ _ | refine bD ?_ | refine bA ?_ _)); exact BK266.out)) : gb266 ≠ gb267)); have n6_ := Aside0.mk ((by rw [hg]; exact Nat.ne_of_gt (bT (g := gb266) (o := .cells #[.int .i64 0, .int .i64 0] 40 (0, 0)) (by (with_reducible repeat (first | refine bN ?_ _ | refine bD ?_ | refine bA ?_ _)); exact BK266.out)) : gb267 ≠ gb266)); clear BK266; clear HB; have BK266 := n0_; have HB := n1_; have BK267 := n2_; have GW267 := n3_; have GE267 := n4_; have NB266_267 := n5_; have NB267_266 := n6_; clear n0_ n1_ n2_ n3_ n4_ n5_ n6_; clear hb hbox hg))
 go_loopg [4] k (fun kq v4 w' => ∃ (x4_1 : Int) (x268000_1 : Int) (x268001_1 : Int), v4 = .int .i64 x4_1 ∧ Aside0 (bourneref26_Sum.l0 kq l0 x4_1 x268000_1 x268001_1 = some (r1, r2)) ∧ Aside0 (kq ≤ k) ∧ Aside0 (w'.heap[gb266]? = some (.cells #[.int .i64 0, .int .i64 0] 40 (0, 0))) ∧ Aside0 (w'.heap[gb267]? = some (.cells #[.int .i64 x268000_1, .int .i64 x268001_1] 40 (0, 0))) ∧ Aside0 (Below w.heap.size w w'))
 case atStart => exact ⟨(0), (0), (0), (by first | rfl | (simp; done) | (simp [*]; done)), H', ⟨Nat.le_refl _⟩, ⟨by (with_reducible repeat (first | refine bN ?_ _ | refine bD ?_ | refine bA ?_ _)); exact BK266.out⟩, ⟨by (with_reducible repeat (first | refine bN ?_ _ | refine bD ?_ | refine bA ?_ _)); exact BK267.out⟩, ⟨by repeat (first | (with_reducible first | exact HB.out | apply bL | apply bW | apply b1 | refine bS ?_ GE266.out | refine bS ?_ GE267.out) | exact HB.out)⟩⟩
 case round =>
  clear H'; try clear c1
  try clear p2
  obtain ⟨x4_1, x268000_1, x268001_1, rfl, HA, HK1, BK266, BK267, HB⟩ := hrel
  cases gk with
  | zero => exact absurd HA.out (by simp [bourneref26_Sum.l0])
  | succ k1 =>
   have H := HA.out
   clear HA; simp only [bourneref26_Sum.l0] at H; by_cases c4 : x4_1 < (l0.length : Int)
   ·
    rw [if_pos c4] at H; have c4b0 : decide (x4_1 < (l0.length : Int)) = true := decide_eq_true c4
    clear c4; by_cases c5 : 0 ≤ x4_1
    ·
     rw [if_pos c5] at H; have c5b0 : decide (0 ≤ x4_1) = true := decide_eq_true c5
     clear c5; replace H := Option.bind_eq_some_iff.mp H
     obtain ⟨⟨t269, t270⟩, A60, H⟩ := H
     dsimp only at H
     have A6 := Aside0.mk A60
     clear A60; have H' := Aside0.mk H
     clear H; try go_wp2
     have n0_ := Aside0.mk (bD BK266.out)
     have n1_ := Aside0.mk (bD BK267.out)
     have n2_ := Aside0.mk (b1 HB.out)
     clear BK266; clear BK267; clear HB; have BK266 := n0_
     have BK267 := n1_
     have HB := n2_
     clear n0_ n1_ n2_; have p268 : 0 ≤ (x4_1 : Int) := of_decide_eq_true (by first | (with_reducible assumption) | assumption)
     have q268 : x4_1 < (l0.length : Int) := of_decide_eq_true (by first | (with_reducible assumption) | assumption)
     obtain ⟨ad268, e268, hx268_0, hx268_1⟩ := at_T40 HR0.out x4_1 p268 q268
     have hw268_1 := hx268_1
     have hw268_0 := hx268_0
     cases e268
     replace hx268_0 := (HB.out.cell (wL w _ hx268_0)).trans hx268_0
     replace hx268_1 := (HB.out.cell (wL w _ hx268_1)).trans hx268_1
     replace p268 := eq_true p268
     replace q268 := eq_true q268
     refine start_ (n := 7) (S := fun w' => w'.cell? ⟨gb267, 0, none⟩ = some (.int .i64 x268000_1) ∧ w'.cell? ⟨gb267, 1, none⟩ = some (.int .i64 x268001_1) ∧ w'.cell? (ad268.add ((x4_1).toNat * 2)) = some (.int .i64 ((rd_T40 l0 x4_1).f0)) ∧ w'.cell? ⟨(ad268.add ((x4_1).toNat * 2)).block, (ad268.add ((x4_1).toNat * 2)).off + 1, none⟩ = some (.int .i64 ((rd_T40 l0 x4_1).f1))) (ds := [6]) #[false, false, false, false, false, false, false] (by kernel_rfl) rfl rfl ⟨(bC BK267.out 0).trans rfl, (bC BK267.out 1).trans rfl, ((HB.out.cell (wL w _ hw268_0)).trans hw268_0), ((HB.out.cell (wL w _ hw268_1)).trans hw268_1)⟩ (fun hHeld => ?_)
     generalize wr.drew = w7 at BK266 BK267 HB hx268_0 hx268_1 hHeld ⊢
     refine pure_ (i := 1) (N := some 12) (v := ?_) (a' := ?_) #[false, true, false, false, false, false, false] rfl rfl (by kernel_rfl) (fun _ _ _ h => h) (Or.inl ⟨by rfl, ?_⟩) ?_ ?_
     rotate_left
     ·
      intro w'; go_simp; with_reducible rfl
     rotate_left
     ·
      simp only [Act.put, lA, lZ, lS, i64_w, i32_w]; rfl
     refine pure_ (i := 2) (N := some 13) (v := ?_) (a' := ?_) #[false, true, true, false, false, false, false] rfl rfl (by kernel_rfl) (fun _ _ _ h => h) (Or.inl ⟨by rfl, ?_⟩) ?_ ?_
     rotate_left
     ·
      intro w'; go_simp; with_reducible rfl
     rotate_left
     ·
      simp only [Act.put, lA, lZ, lS, i64_w, i32_w]; rfl
     refine pure_ (i := 3) (N := some 14) (v := ?_) (a' := ?_) #[false, true, true, true, false, false, false] rfl rfl (by kernel_rfl) (fun _ _ _ h => h) (Or.inl ⟨by rfl, ?_⟩) ?_ ?_
     rotate_left
     ·
      intro w'; go_simp; with_reducible rfl
     rotate_left
     ·
      simp only [Act.put, lA, lZ, lS, i64_w, i32_w]; rfl
     refine take_ (i := 0) (N := some 11) (v := ?_) (a' := ?_) #[true, true, true, true, false, false, false] rfl rfl (by kernel_rfl) (fun _ _ _ h => h) (Or.inl ⟨by rfl, ?_⟩) hHeld ?_ ?_
     rotate_left
     ·
      rintro w' ⟨s0, s1, s2, s3⟩
      go_simp; with_reducible rfl
     rotate_left
     ·
      simp only [Act.put, lA, lZ, lS, i64_w, i32_w]; rfl
     refine take_ (i := 4) (N := some 15) (v := ?_) (a' := ?_) #[true, true, true, true, true, false, false] rfl rfl (by kernel_rfl) (fun _ _ _ h => h) (Or.inl ⟨by rfl, ?_⟩) hHeld ?_ ?_
     rotate_left
     ·
      rintro w' ⟨s0, s1, s2, s3⟩
      go_simp; with_reducible rfl
     rotate_left
     ·
      simp only [Act.put, lA, lZ, lS, i64_w, i32_w]; rfl
     refine one_ (i := 5) (N := some 16) #[true, true, true, true, true, true, false] rfl rfl (by kernel_rfl) (by decide) (fun K hK => ?_)
     refine goes_ Try.func36 (by kernel_rfl) rfl #[.agg #[.int .i64 x268000_1, .int .i64 x268001_1], .agg #[.int .i64 ((rd_T40 l0 x4_1).f0), .int .i64 ((rd_T40 l0 x4_1).f1)]] (by rfl) rfl rfl (by (try simp only [List.map_toArray, List.map_cons, List.map_nil]); first | done | rfl | (simp only [List.length_drop, List.length_take]; rfl)) ?_
     with_reducible refine (bourneref09_Add.calls k1 x268000_1 x268001_1 ((rd_T40 l0 x4_1).f0) ((rd_T40 l0 x4_1).f1) t269 t270 _ A6.out).mono ?_
     rintro e w8 ⟨rfl, hb⟩
     refine ⟨_, rfl, ?_⟩
     have n0_ := Aside0.mk (bB (g := gb266) (o := .cells #[.int .i64 0, .int .i64 0] 40 (0, 0)) (by (with_reducible repeat (first | refine bN ?_ _ | refine bD ?_ | refine bA ?_ _)); exact BK266.out) hb)
     have n1_ := Aside0.mk (bB (g := gb267) (o := .cells #[.int .i64 x268000_1, .int .i64 x268001_1] 40 (0, 0)) (by (with_reducible repeat (first | refine bN ?_ _ | refine bD ?_ | refine bA ?_ _)); exact BK267.out) hb)
     have n2_ := Aside0.mk (bP (by repeat (first | (with_reducible first | exact HB.out | apply bL | apply bW | apply b1 | refine bS ?_ GE266.out | refine bS ?_ GE267.out) | exact HB.out)) hb)
     clear BK266; clear BK267; clear HB; have BK266 := n0_
     have BK267 := n1_
     have HB := n2_
     clear n0_ n1_ n2_; (try clear hb); (try clear hb2); (try clear hk); (try clear hi); refine hK.out _ _ ⟨(bC BK267.out 0).trans rfl, (bC BK267.out 1).trans rfl, ((HB.out.cell (wL w _ hw268_0)).trans hw268_0), ((HB.out.cell (wL w _ hw268_1)).trans hw268_1)⟩ (fun hHeld => ?_)
     clear hK K; refine norm_ (a' := ?_) ?_ ?_
     rotate_left
     ·
      show Act.put _ (some 16) _ = _
      simp only [Act.put, lA, lZ, lS, i64_w, i32_w]; rfl
     refine last_ (i := 6) (N := none) #[true, true, true, true, true, true, true] rfl rfl (by kernel_rfl) (by decide) (fun K hK => ?_)
     have hs9 : w8.cell? ⟨gb267, 0, none⟩ = some (.int .i64 x268000_1) := (bC BK267.out 0).trans rfl
     have hfs9 := bF BK267.out 0
     have hns9_0 := NB266_267.out
     have hms9_0 := NB267_266.out
     have hs10 : w8.cell? ⟨gb267, 1, none⟩ = some (.int .i64 x268001_1) := (bC BK267.out 1).trans rfl
     have hfs10 := bF BK267.out 1
     have hns10_0 := NB266_267.out
     have hms10_0 := NB267_266.out
     refine skip_ (w1 := ?_) (by rfl) rfl ?_ ?_
     rotate_left
     ·
      go_simp; rfl
     refine hK.out _ _ ?_
     clear hK K; refine done_ (by kernel_rfl) ?_
     try go_wp2
     go_roundg k1
     case measure => have := HK1.out; omega
     case rel => exact ⟨(wrap64 (x4_1 + 1)), (t269), (t270), (by first | rfl | (simp; done) | (simp [*]; done)), H', ⟨by have := HK1.out; omega⟩, ⟨by (with_reducible repeat (first | refine bN ?_ _ | refine bD ?_ | refine bA ?_ _)); refine bR ?_ NB266_267.out _; (with_reducible repeat (first | refine bN ?_ _ | refine bD ?_ | refine bA ?_ _)); refine bR ?_ NB266_267.out _; (with_reducible repeat (first | refine bN ?_ _ | refine bD ?_ | refine bA ?_ _)); exact BK266.out⟩, ⟨by (with_reducible repeat (first | refine bN ?_ _ | refine bD ?_ | refine bA ?_ _)); refine bU (cs := #[.int .i64 t269, .int .i64 x268001_1]) ?_ 1 _ rfl; (with_reducible repeat (first | refine bN ?_ _ | refine bD ?_ | refine bA ?_ _)); refine bU (cs := #[.int .i64 x268000_1, .int .i64 x268001_1]) ?_ 0 _ rfl; (with_reducible repeat (first | refine bN ?_ _ | refine bD ?_ | refine bA ?_ _)); exact BK267.out⟩, ⟨by repeat (first | (with_reducible first | exact HB.out | apply bL | apply bW | apply b1 | refine bS ?_ GE266.out | refine bS ?_ GE267.out) | exact HB.out)⟩⟩
    ·
     rw [if_neg c5] at H; exact absurd H (by simp)
   ·
    rw [if_neg c4] at H; have c4b0 : decide (x4_1 < (l0.length : Int)) = false := decide_eq_false c4
    clear c4; simp only [Option.some.injEq, Prod.mk.injEq] at H; obtain ⟨rfl, rfl⟩ := H
    have hnb11 := NB267_266.out
    have hnc11 := NB266_267.out
    have hcz12_0 : wr.cell? ⟨gb267, 0, none⟩ = some (.int .i64 x268000_1) := (bC BK267.out 0).trans rfl
    have hcz12_1 : wr.cell? ⟨gb267, 1, none⟩ = some (.int .i64 x268001_1) := (bC BK267.out 1).trans rfl
    have hfz12_0 := bF BK267.out 0
    have hfz12_1 := bF BK267.out 1
    have hcz13_0 : wr.cell? ⟨gb266, 0, none⟩ = some (.int .i64 0) := (bC BK266.out 0).trans rfl
    have hcz13_1 : wr.cell? ⟨gb266, 1, none⟩ = some (.int .i64 0) := (bC BK266.out 1).trans rfl
    have hfz13_0 := bF BK266.out 0
    have hfz13_1 := bF BK266.out 1
    go_wp2
    refine bodyPost_ret (results_cell_row rfl _ _ gb266 40 #[.int .i64 x268000_1, .int .i64 x268001_1] (0, 0) _ rfl (by (with_reducible repeat (first | refine bN ?_ _ | refine bD ?_ | refine bA ?_ _)); refine bU (cs := #[.int .i64 x268000_1, .int .i64 0]) ?_ 1 _ rfl; (with_reducible repeat (first | refine bN ?_ _ | refine bD ?_ | refine bA ?_ _)); refine bU (cs := #[.int .i64 0, .int .i64 0]) ?_ 0 _ rfl; (with_reducible repeat (first | refine bN ?_ _ | refine bD ?_ | refine bA ?_ _)); exact BK266.out) Try.underlying40 rfl (by kernel_rfl)) rfl ?_
    exact ⟨by first | rfl | (simp [errW_none, errW_some] <;> rfl) | (simp [*, errW_none, errW_some] <;> rfl), by repeat (first | (with_reducible first | exact HB.out | apply bL | apply bW | apply b1 | refine bS ?_ GE266.out | refine bS ?_ GE267.out) | exact HB.out)⟩
end Go.Proofs.Ytpklgbnihgljmaa.Fn
