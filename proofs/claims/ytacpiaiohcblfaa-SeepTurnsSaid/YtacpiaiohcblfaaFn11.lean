-- written by this session's program myprint.py out of the translation; Lean checks it
import Derived.Test.YtacpiaiohcblfaaFn0
import Derived.Test.YtacpiaiohcblfaaBox
import Derived.Test.YtacpiaiohcblfaaRdT
import Derived.Test.YtacpiaiohcblfaaFn5
import Derived.Test.YtacpiaiohcblfaaFn7
namespace Go.Proofs.Ytacpiaiohcblfaa.Fn
open Go.Proofs.Ytacpiaiohcblfaa.Rd (w90)
open Go.RowKit Go.Proofs.YtacpiaiohcblfaaW.PrintWords Go.Proofs.YtacpiaiohcblfaaW.PrintLast Go.Proofs.YtacpiaiohcblfaaW.PrintMore
attribute [local go_sem] max2_int min2_int max_two min_two max_three min_three max_four min_four   -- for this text's walks alone
set_option linter.unusedVariables false
set_option linter.unusedSimpArgs false

/-! ### bournelaw20_SeepTurns: function 4 -/
def bournelaw20_SeepTurns.j0 : Nat → Int → Int → Bool → Int → Bool → Option (Bool)
  | 0, _, _, _, _, _ => none
  | k + 1, x1, x2, x7, x9, x54 => if x54 = true then (some x7) else (if x7 = true then (if x9 ≤ x1 then (some (decide ((wrap64 (-x9)) ≤ x2))) else (some false)) else (some false))
def bournelaw20_SeepTurns.f (k : Nat) (a0_0 : ByteArray) (a0_1 : Int) (a0_2 : Int) (a0_3 : Int) (l0_4 : List (S90)) (l0_5 : List (S90)) (l0_6 : List (S90)) (a0_7 : Int) (a0_8 : Int) (a0_9 : Int) (a0_10 : Int) (a0_11 : Int) (a0_12 : Int) (a0_13 : Int) (a0_14 : Int) (a0_15 : Int) (a0_16 : Int) (a0_17 : Int) (a1 : Int) (a2 : Int) : Option (Bool) := (bournelaw20_small.f k).bind fun t217 => ((seep_Ask.f k a0_0 a0_1 a0_2 a0_3 l0_4 l0_5 l0_6 a0_7 a0_8 a0_9 a0_10 a0_11 a0_12 a0_13 a0_14 a0_15 a0_16 a0_17 a1 a2).bind fun t219 => ((seep_Ask.f k a0_0 a0_1 a0_2 a0_3 l0_4 l0_5 l0_6 a0_7 a0_8 a0_9 a0_10 a0_15 a0_16 a0_13 a0_14 a0_11 a0_12 a0_17 a2 a1).bind fun t220 => (if t220 = (wrap64 (-t219)) then (if a0_11 > a0_12 then (bournelaw20_SeepTurns.j0 k a1 a2 t217 t219 true) else (if a0_15 > a0_16 then (bournelaw20_SeepTurns.j0 k a1 a2 t217 t219 true) else (if a1 < 0 then (bournelaw20_SeepTurns.j0 k a1 a2 t217 t219 true) else (bournelaw20_SeepTurns.j0 k a1 a2 t217 t219 (decide (a2 < 0)))))) else (some false))))
theorem bournelaw20_SeepTurns.mono_l : ∀ k, (∀ y0 y1 y2 y3 y4, LeO (bournelaw20_SeepTurns.j0 k y0 y1 y2 y3 y4) (bournelaw20_SeepTurns.j0 (k + 1) y0 y1 y2 y3 y4))
  | 0 => fun _ _ _ _ _ r h => by simp [bournelaw20_SeepTurns.j0] at h
  | k + 1 => by
    have ih0 := bournelaw20_SeepTurns.mono_l k
    · intro y0 y1 y2 y3 y4
      unfold bournelaw20_SeepTurns.j0
      repeat' first
      | (with_reducible exact ih0 _ _ _ _ _)
      | (with_reducible exact bournelaw20_small.mono _)
      | (with_reducible exact seep_Ask.mono _ _ _ _ _ _ _ _ _ _ _ _ _ _ _ _ _ _ _ _ _)
      | (with_reducible exact LeO.refl _)
      | (with_reducible exact LeO.none _)
      | (with_reducible refine LeO.ite ?_ ?_)
      | (with_reducible refine LeO.bind ?_ (fun _ => ?_))
      | exact ih0 _ _ _ _ _
      | exact bournelaw20_small.mono _
      | exact seep_Ask.mono _ _ _ _ _ _ _ _ _ _ _ _ _ _ _ _ _ _ _ _ _
      | exact LeO.none _
      | refine LeO.ite ?_ ?_
      | refine LeO.bind ?_ (fun _ => ?_)
theorem bournelaw20_SeepTurns.mono : ∀ a0 a1 a2 a3 a4 a5 a6 a7 a8 a9 a10 a11 a12 a13 a14 a15 a16 a17 a18 a19 k, LeO (bournelaw20_SeepTurns.f k a0 a1 a2 a3 a4 a5 a6 a7 a8 a9 a10 a11 a12 a13 a14 a15 a16 a17 a18 a19) (bournelaw20_SeepTurns.f (k + 1) a0 a1 a2 a3 a4 a5 a6 a7 a8 a9 a10 a11 a12 a13 a14 a15 a16 a17 a18 a19) := by
  intro a0 a1 a2 a3 a4 a5 a6 a7 a8 a9 a10 a11 a12 a13 a14 a15 a16 a17 a18 a19 k
  have ih0 := bournelaw20_SeepTurns.mono_l k
  unfold bournelaw20_SeepTurns.f
  repeat' first
      | (with_reducible exact ih0 _ _ _ _ _)
      | (with_reducible exact bournelaw20_small.mono _)
      | (with_reducible exact seep_Ask.mono _ _ _ _ _ _ _ _ _ _ _ _ _ _ _ _ _ _ _ _ _)
      | (with_reducible exact LeO.refl _)
      | (with_reducible exact LeO.none _)
      | (with_reducible refine LeO.ite ?_ ?_)
      | (with_reducible refine LeO.bind ?_ (fun _ => ?_))
      | exact ih0 _ _ _ _ _
      | exact bournelaw20_small.mono _
      | exact seep_Ask.mono _ _ _ _ _ _ _ _ _ _ _ _ _ _ _ _ _ _ _ _ _
      | exact LeO.none _
      | refine LeO.ite ?_ ?_
      | refine LeO.bind ?_ (fun _ => ?_)
set_option maxHeartbeats 8000000 in
set_option maxRecDepth 100000 in
theorem bournelaw20_SeepTurns.calls (k : Nat) (a0_0 : ByteArray) (a0_1 : Int) (a0_2 : Int) (a0_3 : Int) (A0_4 : Option Addr) (c0_4 : Nat) (l0_4 : List (S90)) (A0_5 : Option Addr) (c0_5 : Nat) (l0_5 : List (S90)) (A0_6 : Option Addr) (c0_6 : Nat) (l0_6 : List (S90)) (a0_7 : Int) (a0_8 : Int) (a0_9 : Int) (a0_10 : Int) (a0_11 : Int) (a0_12 : Int) (a0_13 : Int) (a0_14 : Int) (a0_15 : Int) (a0_16 : Int) (a0_17 : Int) (a1 : Int) (a2 : Int) (r : Bool) (w : World) (hr0_4 : Kd.C k90 w A0_4 l0_4.length l0_4) (hc0_4 : l0_4.length ≤ c0_4) (hr0_5 : Kd.C k90 w A0_5 l0_5.length l0_5) (hc0_5 : l0_5.length ≤ c0_5) (hr0_6 : Kd.C k90 w A0_6 l0_6.length l0_6) (hc0_6 : l0_6.length ≤ c0_6) (hT : Aside0 (r = true)) (h : bournelaw20_SeepTurns.f k a0_0 a0_1 a0_2 a0_3 l0_4 l0_5 l0_6 a0_7 a0_8 a0_9 a0_10 a0_11 a0_12 a0_13 a0_14 a0_15 a0_16 a0_17 a1 a2 = some r) :
    Calls Try.prog 4 #[.agg #[.string a0_0, .int .i64 a0_1, .int .i64 a0_2, .int .i64 a0_3, .slice A0_4 l0_4.length c0_4, .slice A0_5 l0_5.length c0_5, .slice A0_6 l0_6.length c0_6, .int .i64 a0_7, .int .i64 a0_8, .int .i64 a0_9, .int .i64 a0_10, .int .i64 a0_11, .int .i64 a0_12, .int .i64 a0_13, .int .i64 a0_14, .int .i64 a0_15, .int .i64 a0_16, .int .i64 a0_17], .int .i64 a1, .int .i64 a2] w fun e w' => e = .returned (.bool r) ∧ Below w.heap.size w w' := by
  have hu26 := Try.underlying26
  have HR0_4 := Aside0.mk hr0_4
  have HC0_4 := Aside0.mk hc0_4
  clear hr0_4 hc0_4
  have HR0_5 := Aside0.mk hr0_5
  have HC0_5 := Aside0.mk hc0_5
  clear hr0_5 hc0_5
  have HR0_6 := Aside0.mk hr0_6
  have HC0_6 := Aside0.mk hc0_6
  clear hr0_6 hc0_6
  have HB := Aside0.mk (Below.refl w.heap.size w)
  have H : ((bournelaw20_small.f k).bind fun t217 => ((seep_Ask.f k a0_0 a0_1 a0_2 a0_3 l0_4 l0_5 l0_6 a0_7 a0_8 a0_9 a0_10 a0_11 a0_12 a0_13 a0_14 a0_15 a0_16 a0_17 a1 a2).bind fun t219 => ((seep_Ask.f k a0_0 a0_1 a0_2 a0_3 l0_4 l0_5 l0_6 a0_7 a0_8 a0_9 a0_10 a0_15 a0_16 a0_13 a0_14 a0_11 a0_12 a0_17 a2 a1).bind fun t220 => (if t220 = (wrap64 (-t219)) then (if a0_11 > a0_12 then (bournelaw20_SeepTurns.j0 k a1 a2 t217 t219 true) else (if a0_15 > a0_16 then (bournelaw20_SeepTurns.j0 k a1 a2 t217 t219 true) else (if a1 < 0 then (bournelaw20_SeepTurns.j0 k a1 a2 t217 t219 true) else (bournelaw20_SeepTurns.j0 k a1 a2 t217 t219 (decide (a2 < 0)))))) else (some false))))) = some r := h
  clear h
  replace H := Option.bind_eq_some_iff.mp H
  obtain ⟨t217, A40, H⟩ := H
  have A4 := Aside0.mk A40
  clear A40
  replace H := Option.bind_eq_some_iff.mp H
  obtain ⟨t219, A50, H⟩ := H
  have A5 := Aside0.mk A50
  clear A50
  replace H := Option.bind_eq_some_iff.mp H
  obtain ⟨t220, A60, H⟩ := H
  have A6 := Aside0.mk A60
  clear A60
  by_cases c7 : t220 = (wrap64 (-t219))
  · rw [if_pos c7] at H
    have c7b0 : (t220 == (wrap64 (-t219))) = true := beq_iff_eq.mpr c7
    have c7b1 : (t220 != (wrap64 (-t219))) = false := bne_eq_false_iff_eq.mpr c7
    clear c7
    have HC8 := Aside0.mk H
    clear H
    go_enter Try.func4, Try.ntmps4
    (try simp only [List.append_eq, List.cons_append, List.nil_append])
    go_upto_region 10 with (first | ((with_reducible refine gate_dst (N := 3) rfl ?_); refine box_event ?hg (N := 3) ?hd (cs := #[.string a0_0, .int .i64 a0_1, .int .i64 a0_2, .int .i64 a0_3, .slice A0_4 l0_4.length c0_4, .slice A0_5 l0_5.length c0_5, .slice A0_6 l0_6.length c0_6, .int .i64 a0_7, .int .i64 a0_8, .int .i64 a0_9, .int .i64 a0_10, .int .i64 a0_11, .int .i64 a0_12, .int .i64 a0_13, .int .i64 a0_14, .int .i64 a0_15, .int .i64 a0_16, .int .i64 a0_17]) (t := 26) ?hr ?_; (case hd => rfl); (case hg => rfl); (case hr => first | (go_simp; done) | (go_simp; rfl)); intro gb216 hg w9 hbox hb; have n0_ := Aside0.mk (below_step (by repeat (first | (with_reducible first | exact HB.out | apply below_alloc | apply pw_below_drewN | apply below_drew1) | exact HB.out)) hb); have n1_ := Aside0.mk (hbox); have n2_ := Aside0.mk ((by rw [hg]; exact (below_size (by repeat (first | (with_reducible first | exact HB.out | apply below_alloc | apply pw_below_drewN | apply below_drew1) | exact HB.out))) : w.heap.size ≤ gb216)); have n3_ := Aside0.mk ((by rw [hg]; exact (below_size (by repeat (first | (with_reducible first | exact HB.out | apply below_alloc | apply pw_below_drewN | apply below_drew1) | exact HB.out))) : w.heap.size ≤ gb216)); clear HB; have HB := n0_; have BK216 := n1_; have GW216 := n2_; have GE216 := n3_; clear n0_ n1_ n2_ n3_; clear hb hbox hg) | ((with_reducible refine gate_callee (f := 9) rfl ?_); refine goesL_ (some 10) rfl rfl Try.func9 (by kernel_rfl) rfl #[] rfl (by (try simp only [List.map_toArray, List.map_cons, List.map_nil]); first | done | rfl | (simp only [List.length_drop, List.length_take]; rfl)) ?_; (with_reducible refine (bournelaw20_small.calls k  t217 _ A4.out).mono ?_); rintro e w10 ⟨rfl, hb⟩; refine ⟨_, rfl, ?_⟩; have n0_ := Aside0.mk (blk_below (g := gb216) (o := .cells #[.string a0_0, .int .i64 a0_1, .int .i64 a0_2, .int .i64 a0_3, .slice A0_4 l0_4.length c0_4, .slice A0_5 l0_5.length c0_5, .slice A0_6 l0_6.length c0_6, .int .i64 a0_7, .int .i64 a0_8, .int .i64 a0_9, .int .i64 a0_10, .int .i64 a0_11, .int .i64 a0_12, .int .i64 a0_13, .int .i64 a0_14, .int .i64 a0_15, .int .i64 a0_16, .int .i64 a0_17] 26 (0, 0)) (by (with_reducible repeat (first | refine blk_drewN ?_ _ | refine blk_drew ?_ | refine blk_alloc ?_ _)); exact BK216.out) hb); have n1_ := Aside0.mk (below_step (by repeat (first | (with_reducible first | exact HB.out | apply below_alloc | apply pw_below_drewN | apply below_drew1 | refine below_set ?_ GE216.out) | exact HB.out)) hb); clear BK216; clear HB; have BK216 := n0_; have HB := n1_; clear n0_ n1_; (try clear hb); (try clear hb2); (try clear hk); (try clear hi); have hcz11_0 : w10.cell? ⟨gb216, 0, none⟩ = some (.string a0_0) := (blk_cell BK216.out 0).trans rfl; have hcz11_1 : w10.cell? ⟨gb216, 1, none⟩ = some (.int .i64 a0_1) := (blk_cell BK216.out 1).trans rfl; have hcz11_2 : w10.cell? ⟨gb216, 2, none⟩ = some (.int .i64 a0_2) := (blk_cell BK216.out 2).trans rfl; have hcz11_3 : w10.cell? ⟨gb216, 3, none⟩ = some (.int .i64 a0_3) := (blk_cell BK216.out 3).trans rfl; have hcz11_4 : w10.cell? ⟨gb216, 4, none⟩ = some (.slice A0_4 l0_4.length c0_4) := (blk_cell BK216.out 4).trans rfl; have hcz11_5 : w10.cell? ⟨gb216, 5, none⟩ = some (.slice A0_5 l0_5.length c0_5) := (blk_cell BK216.out 5).trans rfl; have hcz11_6 : w10.cell? ⟨gb216, 6, none⟩ = some (.slice A0_6 l0_6.length c0_6) := (blk_cell BK216.out 6).trans rfl; have hcz11_7 : w10.cell? ⟨gb216, 7, none⟩ = some (.int .i64 a0_7) := (blk_cell BK216.out 7).trans rfl; have hcz11_8 : w10.cell? ⟨gb216, 8, none⟩ = some (.int .i64 a0_8) := (blk_cell BK216.out 8).trans rfl; have hcz11_9 : w10.cell? ⟨gb216, 9, none⟩ = some (.int .i64 a0_9) := (blk_cell BK216.out 9).trans rfl; have hcz11_10 : w10.cell? ⟨gb216, 10, none⟩ = some (.int .i64 a0_10) := (blk_cell BK216.out 10).trans rfl; have hcz11_11 : w10.cell? ⟨gb216, 11, none⟩ = some (.int .i64 a0_11) := (blk_cell BK216.out 11).trans rfl; have hcz11_12 : w10.cell? ⟨gb216, 12, none⟩ = some (.int .i64 a0_12) := (blk_cell BK216.out 12).trans rfl; have hcz11_13 : w10.cell? ⟨gb216, 13, none⟩ = some (.int .i64 a0_13) := (blk_cell BK216.out 13).trans rfl; have hcz11_14 : w10.cell? ⟨gb216, 14, none⟩ = some (.int .i64 a0_14) := (blk_cell BK216.out 14).trans rfl; have hcz11_15 : w10.cell? ⟨gb216, 15, none⟩ = some (.int .i64 a0_15) := (blk_cell BK216.out 15).trans rfl; have hcz11_16 : w10.cell? ⟨gb216, 16, none⟩ = some (.int .i64 a0_16) := (blk_cell BK216.out 16).trans rfl; have hcz11_17 : w10.cell? ⟨gb216, 17, none⟩ = some (.int .i64 a0_17) := (blk_cell BK216.out 17).trans rfl; have hfz11_0 := blk_frozen BK216.out 0; have hfz11_1 := blk_frozen BK216.out 1; have hfz11_2 := blk_frozen BK216.out 2; have hfz11_3 := blk_frozen BK216.out 3; have hfz11_4 := blk_frozen BK216.out 4; have hfz11_5 := blk_frozen BK216.out 5; have hfz11_6 := blk_frozen BK216.out 6; have hfz11_7 := blk_frozen BK216.out 7; have hfz11_8 := blk_frozen BK216.out 8; have hfz11_9 := blk_frozen BK216.out 9; have hfz11_10 := blk_frozen BK216.out 10; have hfz11_11 := blk_frozen BK216.out 11; have hfz11_12 := blk_frozen BK216.out 12; have hfz11_13 := blk_frozen BK216.out 13; have hfz11_14 := blk_frozen BK216.out 14; have hfz11_15 := blk_frozen BK216.out 15; have hfz11_16 := blk_frozen BK216.out 16; have hfz11_17 := blk_frozen BK216.out 17) | ((with_reducible refine gate_dst (N := 8) rfl ?_); refine box_event ?hg (N := 8) ?hd (cs := #[.string (⟨#[]⟩ : ByteArray), .int .i64 0, .int .i64 0, .int .i64 0, .slice none 0 0, .slice none 0 0, .slice none 0 0, .int .i64 0, .int .i64 0, .int .i64 0, .int .i64 0, .int .i64 0, .int .i64 0, .int .i64 0, .int .i64 0, .int .i64 0, .int .i64 0, .int .i64 0]) (t := 26) ?hr ?_; (case hd => rfl); (case hg => rfl); (case hr => first | (go_simp; done) | (go_simp; rfl)); intro gb218 hg w12 hbox hb; have n0_ := Aside0.mk (blk_below (g := gb216) (o := .cells #[.string a0_0, .int .i64 a0_1, .int .i64 a0_2, .int .i64 a0_3, .slice A0_4 l0_4.length c0_4, .slice A0_5 l0_5.length c0_5, .slice A0_6 l0_6.length c0_6, .int .i64 a0_7, .int .i64 a0_8, .int .i64 a0_9, .int .i64 a0_10, .int .i64 a0_11, .int .i64 a0_12, .int .i64 a0_13, .int .i64 a0_14, .int .i64 a0_15, .int .i64 a0_16, .int .i64 a0_17] 26 (0, 0)) (by (with_reducible repeat (first | refine blk_drewN ?_ _ | refine blk_drew ?_ | refine blk_alloc ?_ _)); exact BK216.out) hb); have n1_ := Aside0.mk (below_step (by repeat (first | (with_reducible first | exact HB.out | apply below_alloc | apply pw_below_drewN | apply below_drew1 | refine below_set ?_ GE216.out) | exact HB.out)) hb); have n2_ := Aside0.mk (hbox); have n3_ := Aside0.mk ((by rw [hg]; exact (below_size (by repeat (first | (with_reducible first | exact HB.out | apply below_alloc | apply pw_below_drewN | apply below_drew1 | refine below_set ?_ GE216.out) | exact HB.out))) : w.heap.size ≤ gb218)); have n4_ := Aside0.mk ((by rw [hg]; exact (below_size (by repeat (first | (with_reducible first | exact HB.out | apply below_alloc | apply pw_below_drewN | apply below_drew1 | refine below_set ?_ GE216.out) | exact HB.out))) : w.heap.size ≤ gb218)); have n5_ := Aside0.mk ((by rw [hg]; exact Nat.ne_of_lt (blk_lt (g := gb216) (o := .cells #[.string a0_0, .int .i64 a0_1, .int .i64 a0_2, .int .i64 a0_3, .slice A0_4 l0_4.length c0_4, .slice A0_5 l0_5.length c0_5, .slice A0_6 l0_6.length c0_6, .int .i64 a0_7, .int .i64 a0_8, .int .i64 a0_9, .int .i64 a0_10, .int .i64 a0_11, .int .i64 a0_12, .int .i64 a0_13, .int .i64 a0_14, .int .i64 a0_15, .int .i64 a0_16, .int .i64 a0_17] 26 (0, 0)) (by (with_reducible repeat (first | refine blk_drewN ?_ _ | refine blk_drew ?_ | refine blk_alloc ?_ _)); exact BK216.out)) : gb216 ≠ gb218)); have n6_ := Aside0.mk ((by rw [hg]; exact Nat.ne_of_gt (blk_lt (g := gb216) (o := .cells #[.string a0_0, .int .i64 a0_1, .int .i64 a0_2, .int .i64 a0_3, .slice A0_4 l0_4.length c0_4, .slice A0_5 l0_5.length c0_5, .slice A0_6 l0_6.length c0_6, .int .i64 a0_7, .int .i64 a0_8, .int .i64 a0_9, .int .i64 a0_10, .int .i64 a0_11, .int .i64 a0_12, .int .i64 a0_13, .int .i64 a0_14, .int .i64 a0_15, .int .i64 a0_16, .int .i64 a0_17] 26 (0, 0)) (by (with_reducible repeat (first | refine blk_drewN ?_ _ | refine blk_drew ?_ | refine blk_alloc ?_ _)); exact BK216.out)) : gb218 ≠ gb216)); clear BK216; clear HB; have BK216 := n0_; have HB := n1_; have BK218 := n2_; have GW218 := n3_; have GE218 := n4_; have NB216_218 := n5_; have NB218_216 := n6_; clear n0_ n1_ n2_ n3_ n4_ n5_ n6_; clear hb hbox hg; have hnb13 := NB218_216.out; have hnc13 := NB216_218.out; have hcz14_0 : w12.cell? ⟨gb218, 0, none⟩ = some (.string (⟨#[]⟩ : ByteArray)) := (blk_cell BK218.out 0).trans rfl; have hcz14_1 : w12.cell? ⟨gb218, 1, none⟩ = some (.int .i64 0) := (blk_cell BK218.out 1).trans rfl; have hcz14_2 : w12.cell? ⟨gb218, 2, none⟩ = some (.int .i64 0) := (blk_cell BK218.out 2).trans rfl; have hcz14_3 : w12.cell? ⟨gb218, 3, none⟩ = some (.int .i64 0) := (blk_cell BK218.out 3).trans rfl; have hcz14_4 : w12.cell? ⟨gb218, 4, none⟩ = some (.slice none 0 0) := (blk_cell BK218.out 4).trans rfl; have hcz14_5 : w12.cell? ⟨gb218, 5, none⟩ = some (.slice none 0 0) := (blk_cell BK218.out 5).trans rfl; have hcz14_6 : w12.cell? ⟨gb218, 6, none⟩ = some (.slice none 0 0) := (blk_cell BK218.out 6).trans rfl; have hcz14_7 : w12.cell? ⟨gb218, 7, none⟩ = some (.int .i64 0) := (blk_cell BK218.out 7).trans rfl; have hcz14_8 : w12.cell? ⟨gb218, 8, none⟩ = some (.int .i64 0) := (blk_cell BK218.out 8).trans rfl; have hcz14_9 : w12.cell? ⟨gb218, 9, none⟩ = some (.int .i64 0) := (blk_cell BK218.out 9).trans rfl; have hcz14_10 : w12.cell? ⟨gb218, 10, none⟩ = some (.int .i64 0) := (blk_cell BK218.out 10).trans rfl; have hcz14_11 : w12.cell? ⟨gb218, 11, none⟩ = some (.int .i64 0) := (blk_cell BK218.out 11).trans rfl; have hcz14_12 : w12.cell? ⟨gb218, 12, none⟩ = some (.int .i64 0) := (blk_cell BK218.out 12).trans rfl; have hcz14_13 : w12.cell? ⟨gb218, 13, none⟩ = some (.int .i64 0) := (blk_cell BK218.out 13).trans rfl; have hcz14_14 : w12.cell? ⟨gb218, 14, none⟩ = some (.int .i64 0) := (blk_cell BK218.out 14).trans rfl; have hcz14_15 : w12.cell? ⟨gb218, 15, none⟩ = some (.int .i64 0) := (blk_cell BK218.out 15).trans rfl; have hcz14_16 : w12.cell? ⟨gb218, 16, none⟩ = some (.int .i64 0) := (blk_cell BK218.out 16).trans rfl; have hcz14_17 : w12.cell? ⟨gb218, 17, none⟩ = some (.int .i64 0) := (blk_cell BK218.out 17).trans rfl; have hfz14_0 := blk_frozen BK218.out 0; have hfz14_1 := blk_frozen BK218.out 1; have hfz14_2 := blk_frozen BK218.out 2; have hfz14_3 := blk_frozen BK218.out 3; have hfz14_4 := blk_frozen BK218.out 4; have hfz14_5 := blk_frozen BK218.out 5; have hfz14_6 := blk_frozen BK218.out 6; have hfz14_7 := blk_frozen BK218.out 7; have hfz14_8 := blk_frozen BK218.out 8; have hfz14_9 := blk_frozen BK218.out 9; have hfz14_10 := blk_frozen BK218.out 10; have hfz14_11 := blk_frozen BK218.out 11; have hfz14_12 := blk_frozen BK218.out 12; have hfz14_13 := blk_frozen BK218.out 13; have hfz14_14 := blk_frozen BK218.out 14; have hfz14_15 := blk_frozen BK218.out 15; have hfz14_16 := blk_frozen BK218.out 16; have hfz14_17 := blk_frozen BK218.out 17; have hcz15_0 : w12.cell? ⟨gb216, 0, none⟩ = some (.string a0_0) := (blk_cell BK216.out 0).trans rfl; have hcz15_1 : w12.cell? ⟨gb216, 1, none⟩ = some (.int .i64 a0_1) := (blk_cell BK216.out 1).trans rfl; have hcz15_2 : w12.cell? ⟨gb216, 2, none⟩ = some (.int .i64 a0_2) := (blk_cell BK216.out 2).trans rfl; have hcz15_3 : w12.cell? ⟨gb216, 3, none⟩ = some (.int .i64 a0_3) := (blk_cell BK216.out 3).trans rfl; have hcz15_4 : w12.cell? ⟨gb216, 4, none⟩ = some (.slice A0_4 l0_4.length c0_4) := (blk_cell BK216.out 4).trans rfl; have hcz15_5 : w12.cell? ⟨gb216, 5, none⟩ = some (.slice A0_5 l0_5.length c0_5) := (blk_cell BK216.out 5).trans rfl; have hcz15_6 : w12.cell? ⟨gb216, 6, none⟩ = some (.slice A0_6 l0_6.length c0_6) := (blk_cell BK216.out 6).trans rfl; have hcz15_7 : w12.cell? ⟨gb216, 7, none⟩ = some (.int .i64 a0_7) := (blk_cell BK216.out 7).trans rfl; have hcz15_8 : w12.cell? ⟨gb216, 8, none⟩ = some (.int .i64 a0_8) := (blk_cell BK216.out 8).trans rfl; have hcz15_9 : w12.cell? ⟨gb216, 9, none⟩ = some (.int .i64 a0_9) := (blk_cell BK216.out 9).trans rfl; have hcz15_10 : w12.cell? ⟨gb216, 10, none⟩ = some (.int .i64 a0_10) := (blk_cell BK216.out 10).trans rfl; have hcz15_11 : w12.cell? ⟨gb216, 11, none⟩ = some (.int .i64 a0_11) := (blk_cell BK216.out 11).trans rfl; have hcz15_12 : w12.cell? ⟨gb216, 12, none⟩ = some (.int .i64 a0_12) := (blk_cell BK216.out 12).trans rfl; have hcz15_13 : w12.cell? ⟨gb216, 13, none⟩ = some (.int .i64 a0_13) := (blk_cell BK216.out 13).trans rfl; have hcz15_14 : w12.cell? ⟨gb216, 14, none⟩ = some (.int .i64 a0_14) := (blk_cell BK216.out 14).trans rfl; have hcz15_15 : w12.cell? ⟨gb216, 15, none⟩ = some (.int .i64 a0_15) := (blk_cell BK216.out 15).trans rfl; have hcz15_16 : w12.cell? ⟨gb216, 16, none⟩ = some (.int .i64 a0_16) := (blk_cell BK216.out 16).trans rfl; have hcz15_17 : w12.cell? ⟨gb216, 17, none⟩ = some (.int .i64 a0_17) := (blk_cell BK216.out 17).trans rfl; have hfz15_0 := blk_frozen BK216.out 0; have hfz15_1 := blk_frozen BK216.out 1; have hfz15_2 := blk_frozen BK216.out 2; have hfz15_3 := blk_frozen BK216.out 3; have hfz15_4 := blk_frozen BK216.out 4; have hfz15_5 := blk_frozen BK216.out 5; have hfz15_6 := blk_frozen BK216.out 6; have hfz15_7 := blk_frozen BK216.out 7; have hfz15_8 := blk_frozen BK216.out 8; have hfz15_9 := blk_frozen BK216.out 9; have hfz15_10 := blk_frozen BK216.out 10; have hfz15_11 := blk_frozen BK216.out 11; have hfz15_12 := blk_frozen BK216.out 12; have hfz15_13 := blk_frozen BK216.out 13; have hfz15_14 := blk_frozen BK216.out 14; have hfz15_15 := blk_frozen BK216.out 15; have hfz15_16 := blk_frozen BK216.out 16; have hfz15_17 := blk_frozen BK216.out 17) | ((with_reducible refine gate_store 26 8 rfl ?_); refine box_store (cs := #[.string (⟨#[]⟩ : ByteArray), .int .i64 0, .int .i64 0, .int .i64 0, .slice none 0 0, .slice none 0 0, .slice none 0 0, .int .i64 0, .int .i64 0, .int .i64 0, .int .i64 0, .int .i64 0, .int .i64 0, .int .i64 0, .int .i64 0, .int .i64 0, .int .i64 0, .int .i64 0]) (cs' := #[.string a0_0, .int .i64 a0_1, .int .i64 a0_2, .int .i64 a0_3, .slice A0_4 l0_4.length c0_4, .slice A0_5 l0_5.length c0_5, .slice A0_6 l0_6.length c0_6, .int .i64 a0_7, .int .i64 a0_8, .int .i64 a0_9, .int .i64 a0_10, .int .i64 a0_11, .int .i64 a0_12, .int .i64 a0_13, .int .i64 a0_14, .int .i64 a0_15, .int .i64 a0_16, .int .i64 a0_17]) (u := .agg #[.string a0_0, .int .i64 a0_1, .int .i64 a0_2, .int .i64 a0_3, .slice A0_4 l0_4.length c0_4, .slice A0_5 l0_5.length c0_5, .slice A0_6 l0_6.length c0_6, .int .i64 a0_7, .int .i64 a0_8, .int .i64 a0_9, .int .i64 a0_10, .int .i64 a0_11, .int .i64 a0_12, .int .i64 a0_13, .int .i64 a0_14, .int .i64 a0_15, .int .i64 a0_16, .int .i64 a0_17]) ?hgd ?hN rfl (by (with_reducible repeat (first | refine blk_drewN ?_ _ | refine blk_drew ?_ | refine blk_alloc ?_ _)); exact BK218.out) ?ha ?hx ?hu ?ht ?hl ?h1 (by repeat (first | (with_reducible first | exact HB.out | apply below_alloc | apply pw_below_drewN | apply below_drew1) | exact HB.out)) GE218.out ?_; (case hgd => rfl); (case hN => rfl); (case ha => first | rfl | (go_simp; done)); (case hx => first | rfl | (go_simp; done)); (case hu => rfl); (case ht => first | rfl | kernel_rfl); (case hl => rfl); (case h1 => simp [Value.oneCell']); intro w12s hbox hb hfar; have n0_ := Aside0.mk hbox; have n1_ := Aside0.mk hb; have m0_ := Aside0.mk ((hfar gb216 NB216_218.out).trans (by (with_reducible repeat (first | refine blk_drewN ?_ _ | refine blk_drew ?_ | refine blk_alloc ?_ _)); exact BK216.out)); clear BK216; have BK216 := m0_; clear m0_; clear BK218; clear HB; clear hfar; clear hbox hb; have BK218 := n0_; have HB := n1_; clear n0_ n1_; have hcs218_0 : w12s.cell? ⟨gb218, 0, none⟩ = some (.string a0_0) := (blk_cell BK218.out 0).trans rfl; have hcs218_1 : w12s.cell? ⟨gb218, 1, none⟩ = some (.int .i64 a0_1) := (blk_cell BK218.out 1).trans rfl; have hcs218_2 : w12s.cell? ⟨gb218, 2, none⟩ = some (.int .i64 a0_2) := (blk_cell BK218.out 2).trans rfl; have hcs218_3 : w12s.cell? ⟨gb218, 3, none⟩ = some (.int .i64 a0_3) := (blk_cell BK218.out 3).trans rfl; have hcs218_4 : w12s.cell? ⟨gb218, 4, none⟩ = some (.slice A0_4 l0_4.length c0_4) := (blk_cell BK218.out 4).trans rfl; have hcs218_5 : w12s.cell? ⟨gb218, 5, none⟩ = some (.slice A0_5 l0_5.length c0_5) := (blk_cell BK218.out 5).trans rfl; have hcs218_6 : w12s.cell? ⟨gb218, 6, none⟩ = some (.slice A0_6 l0_6.length c0_6) := (blk_cell BK218.out 6).trans rfl; have hcs218_7 : w12s.cell? ⟨gb218, 7, none⟩ = some (.int .i64 a0_7) := (blk_cell BK218.out 7).trans rfl; have hcs218_8 : w12s.cell? ⟨gb218, 8, none⟩ = some (.int .i64 a0_8) := (blk_cell BK218.out 8).trans rfl; have hcs218_9 : w12s.cell? ⟨gb218, 9, none⟩ = some (.int .i64 a0_9) := (blk_cell BK218.out 9).trans rfl; have hcs218_10 : w12s.cell? ⟨gb218, 10, none⟩ = some (.int .i64 a0_10) := (blk_cell BK218.out 10).trans rfl; have hcs218_11 : w12s.cell? ⟨gb218, 11, none⟩ = some (.int .i64 a0_11) := (blk_cell BK218.out 11).trans rfl; have hcs218_12 : w12s.cell? ⟨gb218, 12, none⟩ = some (.int .i64 a0_12) := (blk_cell BK218.out 12).trans rfl; have hcs218_13 : w12s.cell? ⟨gb218, 13, none⟩ = some (.int .i64 a0_13) := (blk_cell BK218.out 13).trans rfl; have hcs218_14 : w12s.cell? ⟨gb218, 14, none⟩ = some (.int .i64 a0_14) := (blk_cell BK218.out 14).trans rfl; have hcs218_15 : w12s.cell? ⟨gb218, 15, none⟩ = some (.int .i64 a0_15) := (blk_cell BK218.out 15).trans rfl; have hcs218_16 : w12s.cell? ⟨gb218, 16, none⟩ = some (.int .i64 a0_16) := (blk_cell BK218.out 16).trans rfl; have hcs218_17 : w12s.cell? ⟨gb218, 17, none⟩ = some (.int .i64 a0_17) := (blk_cell BK218.out 17).trans rfl; have hfs218_0 := blk_frozen BK218.out 0; have hfs218_1 := blk_frozen BK218.out 1; have hfs218_2 := blk_frozen BK218.out 2; have hfs218_3 := blk_frozen BK218.out 3; have hfs218_4 := blk_frozen BK218.out 4; have hfs218_5 := blk_frozen BK218.out 5; have hfs218_6 := blk_frozen BK218.out 6; have hfs218_7 := blk_frozen BK218.out 7; have hfs218_8 := blk_frozen BK218.out 8; have hfs218_9 := blk_frozen BK218.out 9; have hfs218_10 := blk_frozen BK218.out 10; have hfs218_11 := blk_frozen BK218.out 11; have hfs218_12 := blk_frozen BK218.out 12; have hfs218_13 := blk_frozen BK218.out 13; have hfs218_14 := blk_frozen BK218.out 14; have hfs218_15 := blk_frozen BK218.out 15; have hfs218_16 := blk_frozen BK218.out 16; have hfs218_17 := blk_frozen BK218.out 17; have hcs218_216_0 : w12s.cell? ⟨gb216, 0, none⟩ = some (.string a0_0) := (blk_cell BK216.out 0).trans rfl; have hfs218_216_0 := blk_frozen BK216.out 0; have hcs218_216_1 : w12s.cell? ⟨gb216, 1, none⟩ = some (.int .i64 a0_1) := (blk_cell BK216.out 1).trans rfl; have hfs218_216_1 := blk_frozen BK216.out 1; have hcs218_216_2 : w12s.cell? ⟨gb216, 2, none⟩ = some (.int .i64 a0_2) := (blk_cell BK216.out 2).trans rfl; have hfs218_216_2 := blk_frozen BK216.out 2; have hcs218_216_3 : w12s.cell? ⟨gb216, 3, none⟩ = some (.int .i64 a0_3) := (blk_cell BK216.out 3).trans rfl; have hfs218_216_3 := blk_frozen BK216.out 3; have hcs218_216_4 : w12s.cell? ⟨gb216, 4, none⟩ = some (.slice A0_4 l0_4.length c0_4) := (blk_cell BK216.out 4).trans rfl; have hfs218_216_4 := blk_frozen BK216.out 4; have hcs218_216_5 : w12s.cell? ⟨gb216, 5, none⟩ = some (.slice A0_5 l0_5.length c0_5) := (blk_cell BK216.out 5).trans rfl; have hfs218_216_5 := blk_frozen BK216.out 5; have hcs218_216_6 : w12s.cell? ⟨gb216, 6, none⟩ = some (.slice A0_6 l0_6.length c0_6) := (blk_cell BK216.out 6).trans rfl; have hfs218_216_6 := blk_frozen BK216.out 6; have hcs218_216_7 : w12s.cell? ⟨gb216, 7, none⟩ = some (.int .i64 a0_7) := (blk_cell BK216.out 7).trans rfl; have hfs218_216_7 := blk_frozen BK216.out 7; have hcs218_216_8 : w12s.cell? ⟨gb216, 8, none⟩ = some (.int .i64 a0_8) := (blk_cell BK216.out 8).trans rfl; have hfs218_216_8 := blk_frozen BK216.out 8; have hcs218_216_9 : w12s.cell? ⟨gb216, 9, none⟩ = some (.int .i64 a0_9) := (blk_cell BK216.out 9).trans rfl; have hfs218_216_9 := blk_frozen BK216.out 9; have hcs218_216_10 : w12s.cell? ⟨gb216, 10, none⟩ = some (.int .i64 a0_10) := (blk_cell BK216.out 10).trans rfl; have hfs218_216_10 := blk_frozen BK216.out 10; have hcs218_216_11 : w12s.cell? ⟨gb216, 11, none⟩ = some (.int .i64 a0_11) := (blk_cell BK216.out 11).trans rfl; have hfs218_216_11 := blk_frozen BK216.out 11; have hcs218_216_12 : w12s.cell? ⟨gb216, 12, none⟩ = some (.int .i64 a0_12) := (blk_cell BK216.out 12).trans rfl; have hfs218_216_12 := blk_frozen BK216.out 12; have hcs218_216_13 : w12s.cell? ⟨gb216, 13, none⟩ = some (.int .i64 a0_13) := (blk_cell BK216.out 13).trans rfl; have hfs218_216_13 := blk_frozen BK216.out 13; have hcs218_216_14 : w12s.cell? ⟨gb216, 14, none⟩ = some (.int .i64 a0_14) := (blk_cell BK216.out 14).trans rfl; have hfs218_216_14 := blk_frozen BK216.out 14; have hcs218_216_15 : w12s.cell? ⟨gb216, 15, none⟩ = some (.int .i64 a0_15) := (blk_cell BK216.out 15).trans rfl; have hfs218_216_15 := blk_frozen BK216.out 15; have hcs218_216_16 : w12s.cell? ⟨gb216, 16, none⟩ = some (.int .i64 a0_16) := (blk_cell BK216.out 16).trans rfl; have hfs218_216_16 := blk_frozen BK216.out 16; have hcs218_216_17 : w12s.cell? ⟨gb216, 17, none⟩ = some (.int .i64 a0_17) := (blk_cell BK216.out 17).trans rfl; have hfs218_216_17 := blk_frozen BK216.out 17) | ((with_reducible refine gate_callee (f := 10) rfl ?_); refine goesL_ (some 27) rfl rfl Try.func10 (by kernel_rfl) rfl #[.agg #[.string a0_0, .int .i64 a0_1, .int .i64 a0_2, .int .i64 a0_3, .slice A0_4 l0_4.length c0_4, .slice A0_5 l0_5.length c0_5, .slice A0_6 l0_6.length c0_6, .int .i64 a0_7, .int .i64 a0_8, .int .i64 a0_9, .int .i64 a0_10, .int .i64 a0_11, .int .i64 a0_12, .int .i64 a0_13, .int .i64 a0_14, .int .i64 a0_15, .int .i64 a0_16, .int .i64 a0_17], .int .i64 a1, .int .i64 a2] rfl (by (try simp only [List.map_toArray, List.map_cons, List.map_nil]); first | done | rfl | (simp only [List.length_drop, List.length_take]; rfl)) ?_; (with_reducible refine (seep_Ask.calls k a0_0 a0_1 a0_2 a0_3 _ _ l0_4 _ _ l0_5 _ _ l0_6 a0_7 a0_8 a0_9 a0_10 a0_11 a0_12 a0_13 a0_14 a0_15 a0_16 a0_17 a1 a2 t219 _ ?side1 ?side2 ?side3 ?side4 ?side5 ?side6 A5.out).mono ?_); (case side1 => exact Kd.C_below HR0_4.out (by repeat (first | (with_reducible first | exact HB.out | apply below_alloc | apply pw_below_drewN | apply below_drew1 | refine below_set ?_ GE216.out | refine below_set ?_ GE218.out) | exact HB.out))); (case side2 => exact HC0_4.out); (case side3 => exact Kd.C_below HR0_5.out (by repeat (first | (with_reducible first | exact HB.out | apply below_alloc | apply pw_below_drewN | apply below_drew1 | refine below_set ?_ GE216.out | refine below_set ?_ GE218.out) | exact HB.out))); (case side4 => exact HC0_5.out); (case side5 => exact Kd.C_below HR0_6.out (by repeat (first | (with_reducible first | exact HB.out | apply below_alloc | apply pw_below_drewN | apply below_drew1 | refine below_set ?_ GE216.out | refine below_set ?_ GE218.out) | exact HB.out))); (case side6 => exact HC0_6.out); rintro e w16 ⟨rfl, hb⟩; refine ⟨_, rfl, ?_⟩; have n0_ := Aside0.mk (blk_below (g := gb216) (o := .cells #[.string a0_0, .int .i64 a0_1, .int .i64 a0_2, .int .i64 a0_3, .slice A0_4 l0_4.length c0_4, .slice A0_5 l0_5.length c0_5, .slice A0_6 l0_6.length c0_6, .int .i64 a0_7, .int .i64 a0_8, .int .i64 a0_9, .int .i64 a0_10, .int .i64 a0_11, .int .i64 a0_12, .int .i64 a0_13, .int .i64 a0_14, .int .i64 a0_15, .int .i64 a0_16, .int .i64 a0_17] 26 (0, 0)) (by (with_reducible repeat (first | refine blk_drewN ?_ _ | refine blk_drew ?_ | refine blk_alloc ?_ _)); refine blk_far ?_ NB216_218.out _; (with_reducible repeat (first | refine blk_drewN ?_ _ | refine blk_drew ?_ | refine blk_alloc ?_ _)); refine blk_far ?_ NB216_218.out _; (with_reducible repeat (first | refine blk_drewN ?_ _ | refine blk_drew ?_ | refine blk_alloc ?_ _)); refine blk_far ?_ NB216_218.out _; (with_reducible repeat (first | refine blk_drewN ?_ _ | refine blk_drew ?_ | refine blk_alloc ?_ _)); refine blk_far ?_ NB216_218.out _; (with_reducible repeat (first | refine blk_drewN ?_ _ | refine blk_drew ?_ | refine blk_alloc ?_ _)); exact BK216.out) hb); have n1_ := Aside0.mk (blk_below (g := gb218) (o := .cells #[.string a0_0, .int .i64 a0_1, .int .i64 a0_2, .int .i64 a0_3, .slice A0_4 l0_4.length c0_4, .slice A0_5 l0_5.length c0_5, .slice A0_6 l0_6.length c0_6, .int .i64 a0_7, .int .i64 a0_8, .int .i64 a0_9, .int .i64 a0_10, .int .i64 a0_15, .int .i64 a0_16, .int .i64 a0_13, .int .i64 a0_14, .int .i64 a0_11, .int .i64 a0_12, .int .i64 a0_17] 26 (0, 0)) (by (with_reducible repeat (first | refine blk_drewN ?_ _ | refine blk_drew ?_ | refine blk_alloc ?_ _)); refine blk_put (cs := #[.string a0_0, .int .i64 a0_1, .int .i64 a0_2, .int .i64 a0_3, .slice A0_4 l0_4.length c0_4, .slice A0_5 l0_5.length c0_5, .slice A0_6 l0_6.length c0_6, .int .i64 a0_7, .int .i64 a0_8, .int .i64 a0_9, .int .i64 a0_10, .int .i64 a0_15, .int .i64 a0_16, .int .i64 a0_13, .int .i64 a0_14, .int .i64 a0_11, .int .i64 a0_16, .int .i64 a0_17]) ?_ 16 _ rfl; (with_reducible repeat (first | refine blk_drewN ?_ _ | refine blk_drew ?_ | refine blk_alloc ?_ _)); refine blk_put (cs := #[.string a0_0, .int .i64 a0_1, .int .i64 a0_2, .int .i64 a0_3, .slice A0_4 l0_4.length c0_4, .slice A0_5 l0_5.length c0_5, .slice A0_6 l0_6.length c0_6, .int .i64 a0_7, .int .i64 a0_8, .int .i64 a0_9, .int .i64 a0_10, .int .i64 a0_15, .int .i64 a0_16, .int .i64 a0_13, .int .i64 a0_14, .int .i64 a0_15, .int .i64 a0_16, .int .i64 a0_17]) ?_ 15 _ rfl; (with_reducible repeat (first | refine blk_drewN ?_ _ | refine blk_drew ?_ | refine blk_alloc ?_ _)); refine blk_put (cs := #[.string a0_0, .int .i64 a0_1, .int .i64 a0_2, .int .i64 a0_3, .slice A0_4 l0_4.length c0_4, .slice A0_5 l0_5.length c0_5, .slice A0_6 l0_6.length c0_6, .int .i64 a0_7, .int .i64 a0_8, .int .i64 a0_9, .int .i64 a0_10, .int .i64 a0_15, .int .i64 a0_12, .int .i64 a0_13, .int .i64 a0_14, .int .i64 a0_15, .int .i64 a0_16, .int .i64 a0_17]) ?_ 12 _ rfl; (with_reducible repeat (first | refine blk_drewN ?_ _ | refine blk_drew ?_ | refine blk_alloc ?_ _)); refine blk_put (cs := #[.string a0_0, .int .i64 a0_1, .int .i64 a0_2, .int .i64 a0_3, .slice A0_4 l0_4.length c0_4, .slice A0_5 l0_5.length c0_5, .slice A0_6 l0_6.length c0_6, .int .i64 a0_7, .int .i64 a0_8, .int .i64 a0_9, .int .i64 a0_10, .int .i64 a0_11, .int .i64 a0_12, .int .i64 a0_13, .int .i64 a0_14, .int .i64 a0_15, .int .i64 a0_16, .int .i64 a0_17]) ?_ 11 _ rfl; (with_reducible repeat (first | refine blk_drewN ?_ _ | refine blk_drew ?_ | refine blk_alloc ?_ _)); exact BK218.out) hb); have n2_ := Aside0.mk (below_step (by repeat (first | (with_reducible first | exact HB.out | apply below_alloc | apply pw_below_drewN | apply below_drew1 | refine below_set ?_ GE216.out | refine below_set ?_ GE218.out) | exact HB.out)) hb); clear BK216; clear BK218; clear HB; have BK216 := n0_; have BK218 := n1_; have HB := n2_; clear n0_ n1_ n2_; (try clear hb); (try clear hb2); (try clear hk); (try clear hi); have hcz17_0 : w16.cell? ⟨gb218, 0, none⟩ = some (.string a0_0) := (blk_cell BK218.out 0).trans rfl; have hcz17_1 : w16.cell? ⟨gb218, 1, none⟩ = some (.int .i64 a0_1) := (blk_cell BK218.out 1).trans rfl; have hcz17_2 : w16.cell? ⟨gb218, 2, none⟩ = some (.int .i64 a0_2) := (blk_cell BK218.out 2).trans rfl; have hcz17_3 : w16.cell? ⟨gb218, 3, none⟩ = some (.int .i64 a0_3) := (blk_cell BK218.out 3).trans rfl; have hcz17_4 : w16.cell? ⟨gb218, 4, none⟩ = some (.slice A0_4 l0_4.length c0_4) := (blk_cell BK218.out 4).trans rfl; have hcz17_5 : w16.cell? ⟨gb218, 5, none⟩ = some (.slice A0_5 l0_5.length c0_5) := (blk_cell BK218.out 5).trans rfl; have hcz17_6 : w16.cell? ⟨gb218, 6, none⟩ = some (.slice A0_6 l0_6.length c0_6) := (blk_cell BK218.out 6).trans rfl; have hcz17_7 : w16.cell? ⟨gb218, 7, none⟩ = some (.int .i64 a0_7) := (blk_cell BK218.out 7).trans rfl; have hcz17_8 : w16.cell? ⟨gb218, 8, none⟩ = some (.int .i64 a0_8) := (blk_cell BK218.out 8).trans rfl; have hcz17_9 : w16.cell? ⟨gb218, 9, none⟩ = some (.int .i64 a0_9) := (blk_cell BK218.out 9).trans rfl; have hcz17_10 : w16.cell? ⟨gb218, 10, none⟩ = some (.int .i64 a0_10) := (blk_cell BK218.out 10).trans rfl; have hcz17_11 : w16.cell? ⟨gb218, 11, none⟩ = some (.int .i64 a0_15) := (blk_cell BK218.out 11).trans rfl; have hcz17_12 : w16.cell? ⟨gb218, 12, none⟩ = some (.int .i64 a0_16) := (blk_cell BK218.out 12).trans rfl; have hcz17_13 : w16.cell? ⟨gb218, 13, none⟩ = some (.int .i64 a0_13) := (blk_cell BK218.out 13).trans rfl; have hcz17_14 : w16.cell? ⟨gb218, 14, none⟩ = some (.int .i64 a0_14) := (blk_cell BK218.out 14).trans rfl; have hcz17_15 : w16.cell? ⟨gb218, 15, none⟩ = some (.int .i64 a0_11) := (blk_cell BK218.out 15).trans rfl; have hcz17_16 : w16.cell? ⟨gb218, 16, none⟩ = some (.int .i64 a0_12) := (blk_cell BK218.out 16).trans rfl; have hcz17_17 : w16.cell? ⟨gb218, 17, none⟩ = some (.int .i64 a0_17) := (blk_cell BK218.out 17).trans rfl; have hfz17_0 := blk_frozen BK218.out 0; have hfz17_1 := blk_frozen BK218.out 1; have hfz17_2 := blk_frozen BK218.out 2; have hfz17_3 := blk_frozen BK218.out 3; have hfz17_4 := blk_frozen BK218.out 4; have hfz17_5 := blk_frozen BK218.out 5; have hfz17_6 := blk_frozen BK218.out 6; have hfz17_7 := blk_frozen BK218.out 7; have hfz17_8 := blk_frozen BK218.out 8; have hfz17_9 := blk_frozen BK218.out 9; have hfz17_10 := blk_frozen BK218.out 10; have hfz17_11 := blk_frozen BK218.out 11; have hfz17_12 := blk_frozen BK218.out 12; have hfz17_13 := blk_frozen BK218.out 13; have hfz17_14 := blk_frozen BK218.out 14; have hfz17_15 := blk_frozen BK218.out 15; have hfz17_16 := blk_frozen BK218.out 16; have hfz17_17 := blk_frozen BK218.out 17) | ((with_reducible refine gate_callee (f := 10) rfl ?_); refine goesL_ (some 31) rfl rfl Try.func10 (by kernel_rfl) rfl #[.agg #[.string a0_0, .int .i64 a0_1, .int .i64 a0_2, .int .i64 a0_3, .slice A0_4 l0_4.length c0_4, .slice A0_5 l0_5.length c0_5, .slice A0_6 l0_6.length c0_6, .int .i64 a0_7, .int .i64 a0_8, .int .i64 a0_9, .int .i64 a0_10, .int .i64 a0_15, .int .i64 a0_16, .int .i64 a0_13, .int .i64 a0_14, .int .i64 a0_11, .int .i64 a0_12, .int .i64 a0_17], .int .i64 a2, .int .i64 a1] rfl (by (try simp only [List.map_toArray, List.map_cons, List.map_nil]); first | done | rfl | (simp only [List.length_drop, List.length_take]; rfl)) ?_; (with_reducible refine (seep_Ask.calls k a0_0 a0_1 a0_2 a0_3 _ _ l0_4 _ _ l0_5 _ _ l0_6 a0_7 a0_8 a0_9 a0_10 a0_15 a0_16 a0_13 a0_14 a0_11 a0_12 a0_17 a2 a1 t220 _ ?side1 ?side2 ?side3 ?side4 ?side5 ?side6 A6.out).mono ?_); (case side1 => repeat (first | exact (Kd.C_below HR0_4.out HB.out) | (with_reducible refine Kd.C_alloc ?_ _) | (with_reducible refine Kd.C_drewN ?_ _) | (with_reducible refine Kd.C_drew ?_))); (case side2 => exact HC0_4.out); (case side3 => repeat (first | exact (Kd.C_below HR0_5.out HB.out) | (with_reducible refine Kd.C_alloc ?_ _) | (with_reducible refine Kd.C_drewN ?_ _) | (with_reducible refine Kd.C_drew ?_))); (case side4 => exact HC0_5.out); (case side5 => repeat (first | exact (Kd.C_below HR0_6.out HB.out) | (with_reducible refine Kd.C_alloc ?_ _) | (with_reducible refine Kd.C_drewN ?_ _) | (with_reducible refine Kd.C_drew ?_))); (case side6 => exact HC0_6.out); rintro e w18 ⟨rfl, hb⟩; refine ⟨_, rfl, ?_⟩; have n0_ := Aside0.mk (blk_below (g := gb216) (o := .cells #[.string a0_0, .int .i64 a0_1, .int .i64 a0_2, .int .i64 a0_3, .slice A0_4 l0_4.length c0_4, .slice A0_5 l0_5.length c0_5, .slice A0_6 l0_6.length c0_6, .int .i64 a0_7, .int .i64 a0_8, .int .i64 a0_9, .int .i64 a0_10, .int .i64 a0_11, .int .i64 a0_12, .int .i64 a0_13, .int .i64 a0_14, .int .i64 a0_15, .int .i64 a0_16, .int .i64 a0_17] 26 (0, 0)) (by (with_reducible repeat (first | refine blk_drewN ?_ _ | refine blk_drew ?_ | refine blk_alloc ?_ _)); exact BK216.out) hb); have n1_ := Aside0.mk (blk_below (g := gb218) (o := .cells #[.string a0_0, .int .i64 a0_1, .int .i64 a0_2, .int .i64 a0_3, .slice A0_4 l0_4.length c0_4, .slice A0_5 l0_5.length c0_5, .slice A0_6 l0_6.length c0_6, .int .i64 a0_7, .int .i64 a0_8, .int .i64 a0_9, .int .i64 a0_10, .int .i64 a0_15, .int .i64 a0_16, .int .i64 a0_13, .int .i64 a0_14, .int .i64 a0_11, .int .i64 a0_12, .int .i64 a0_17] 26 (0, 0)) (by (with_reducible repeat (first | refine blk_drewN ?_ _ | refine blk_drew ?_ | refine blk_alloc ?_ _)); exact BK218.out) hb); have n2_ := Aside0.mk (below_step (by repeat (first | (with_reducible first | exact HB.out | apply below_alloc | apply pw_below_drewN | apply below_drew1 | refine below_set ?_ GE216.out | refine below_set ?_ GE218.out) | exact HB.out)) hb); clear BK216; clear BK218; clear HB; have BK216 := n0_; have BK218 := n1_; have HB := n2_; clear n0_ n1_ n2_; (try clear hb); (try clear hb2); (try clear hk); (try clear hi)) | ((with_reducible refine gate_load 26 3 rfl ?_); refine box_load (g := gb216) (cs := #[.string a0_0, .int .i64 a0_1, .int .i64 a0_2, .int .i64 a0_3, .slice A0_4 l0_4.length c0_4, .slice A0_5 l0_5.length c0_5, .slice A0_6 l0_6.length c0_6, .int .i64 a0_7, .int .i64 a0_8, .int .i64 a0_9, .int .i64 a0_10, .int .i64 a0_11, .int .i64 a0_12, .int .i64 a0_13, .int .i64 a0_14, .int .i64 a0_15, .int .i64 a0_16, .int .i64 a0_17]) ?hw rfl (by (with_reducible repeat (first | refine blk_drewN ?_ _ | refine blk_drew ?_ | refine blk_alloc ?_ _)); with_reducible exact BK216.out) ?ha hu26 rfl ?hi ?_; (case hw => first | exact wanted_none rfl | rfl); (case ha => first | rfl | (go_simp; done)); (case hi => first | rfl | kernel_rfl)) | ((with_reducible refine gate_load 26 3 rfl ?_); refine box_load (g := gb216) (cs := #[.string a0_0, .int .i64 a0_1, .int .i64 a0_2, .int .i64 a0_3, .slice A0_4 l0_4.length c0_4, .slice A0_5 l0_5.length c0_5, .slice A0_6 l0_6.length c0_6, .int .i64 a0_7, .int .i64 a0_8, .int .i64 a0_9, .int .i64 a0_10, .int .i64 a0_11, .int .i64 a0_12, .int .i64 a0_13, .int .i64 a0_14, .int .i64 a0_15, .int .i64 a0_16, .int .i64 a0_17]) ?hw rfl (by (with_reducible repeat (first | refine blk_drewN ?_ _ | refine blk_drew ?_ | refine blk_alloc ?_ _)); refine blk_far ?_ NB216_218.out _; (with_reducible repeat (first | refine blk_drewN ?_ _ | refine blk_drew ?_ | refine blk_alloc ?_ _)); refine blk_far ?_ NB216_218.out _; (with_reducible repeat (first | refine blk_drewN ?_ _ | refine blk_drew ?_ | refine blk_alloc ?_ _)); refine blk_far ?_ NB216_218.out _; (with_reducible repeat (first | refine blk_drewN ?_ _ | refine blk_drew ?_ | refine blk_alloc ?_ _)); refine blk_far ?_ NB216_218.out _; (with_reducible repeat (first | refine blk_drewN ?_ _ | refine blk_drew ?_ | refine blk_alloc ?_ _)); with_reducible exact BK216.out) ?ha hu26 rfl ?hi ?_; (case hw => first | exact wanted_none rfl | rfl); (case ha => first | rfl | (go_simp; done)); (case hi => first | rfl | kernel_rfl)) | ((with_reducible refine gate_load 26 8 rfl ?_); refine box_load (g := gb218) (cs := #[.string a0_0, .int .i64 a0_1, .int .i64 a0_2, .int .i64 a0_3, .slice A0_4 l0_4.length c0_4, .slice A0_5 l0_5.length c0_5, .slice A0_6 l0_6.length c0_6, .int .i64 a0_7, .int .i64 a0_8, .int .i64 a0_9, .int .i64 a0_10, .int .i64 a0_15, .int .i64 a0_16, .int .i64 a0_13, .int .i64 a0_14, .int .i64 a0_11, .int .i64 a0_12, .int .i64 a0_17]) ?hw rfl (by (with_reducible repeat (first | refine blk_drewN ?_ _ | refine blk_drew ?_ | refine blk_alloc ?_ _)); refine blk_put (cs := #[.string a0_0, .int .i64 a0_1, .int .i64 a0_2, .int .i64 a0_3, .slice A0_4 l0_4.length c0_4, .slice A0_5 l0_5.length c0_5, .slice A0_6 l0_6.length c0_6, .int .i64 a0_7, .int .i64 a0_8, .int .i64 a0_9, .int .i64 a0_10, .int .i64 a0_15, .int .i64 a0_16, .int .i64 a0_13, .int .i64 a0_14, .int .i64 a0_11, .int .i64 a0_16, .int .i64 a0_17]) ?_ 16 _ rfl; (with_reducible repeat (first | refine blk_drewN ?_ _ | refine blk_drew ?_ | refine blk_alloc ?_ _)); refine blk_put (cs := #[.string a0_0, .int .i64 a0_1, .int .i64 a0_2, .int .i64 a0_3, .slice A0_4 l0_4.length c0_4, .slice A0_5 l0_5.length c0_5, .slice A0_6 l0_6.length c0_6, .int .i64 a0_7, .int .i64 a0_8, .int .i64 a0_9, .int .i64 a0_10, .int .i64 a0_15, .int .i64 a0_16, .int .i64 a0_13, .int .i64 a0_14, .int .i64 a0_15, .int .i64 a0_16, .int .i64 a0_17]) ?_ 15 _ rfl; (with_reducible repeat (first | refine blk_drewN ?_ _ | refine blk_drew ?_ | refine blk_alloc ?_ _)); refine blk_put (cs := #[.string a0_0, .int .i64 a0_1, .int .i64 a0_2, .int .i64 a0_3, .slice A0_4 l0_4.length c0_4, .slice A0_5 l0_5.length c0_5, .slice A0_6 l0_6.length c0_6, .int .i64 a0_7, .int .i64 a0_8, .int .i64 a0_9, .int .i64 a0_10, .int .i64 a0_15, .int .i64 a0_12, .int .i64 a0_13, .int .i64 a0_14, .int .i64 a0_15, .int .i64 a0_16, .int .i64 a0_17]) ?_ 12 _ rfl; (with_reducible repeat (first | refine blk_drewN ?_ _ | refine blk_drew ?_ | refine blk_alloc ?_ _)); refine blk_put (cs := #[.string a0_0, .int .i64 a0_1, .int .i64 a0_2, .int .i64 a0_3, .slice A0_4 l0_4.length c0_4, .slice A0_5 l0_5.length c0_5, .slice A0_6 l0_6.length c0_6, .int .i64 a0_7, .int .i64 a0_8, .int .i64 a0_9, .int .i64 a0_10, .int .i64 a0_11, .int .i64 a0_12, .int .i64 a0_13, .int .i64 a0_14, .int .i64 a0_15, .int .i64 a0_16, .int .i64 a0_17]) ?_ 11 _ rfl; (with_reducible repeat (first | refine blk_drewN ?_ _ | refine blk_drew ?_ | refine blk_alloc ?_ _)); with_reducible exact BK218.out) ?ha hu26 rfl ?hi ?_; (case hw => first | exact wanted_none rfl | rfl); (case ha => first | rfl | (go_simp; done)); (case hi => first | rfl | kernel_rfl)) | ((with_reducible refine gate_load 26 8 rfl ?_); refine box_load (g := gb218) (cs := #[.string a0_0, .int .i64 a0_1, .int .i64 a0_2, .int .i64 a0_3, .slice A0_4 l0_4.length c0_4, .slice A0_5 l0_5.length c0_5, .slice A0_6 l0_6.length c0_6, .int .i64 a0_7, .int .i64 a0_8, .int .i64 a0_9, .int .i64 a0_10, .int .i64 a0_15, .int .i64 a0_16, .int .i64 a0_13, .int .i64 a0_14, .int .i64 a0_11, .int .i64 a0_12, .int .i64 a0_17]) ?hw rfl (by (with_reducible repeat (first | refine blk_drewN ?_ _ | refine blk_drew ?_ | refine blk_alloc ?_ _)); with_reducible exact BK218.out) ?ha hu26 rfl ?hi ?_; (case hw => first | exact wanted_none rfl | rfl); (case ha => first | rfl | (go_simp; done)); (case hi => first | rfl | kernel_rfl)))
    (try simp only [Act.put, List.setIfInBounds_toArray, List.set_cons_zero, List.set_cons_succ])
    go_cut [54] (fun v54 wc => ∃ (kq : Nat) (x54_7 : Bool), v54 = .bool x54_7 ∧ Aside0 (bournelaw20_SeepTurns.j0 kq a1 a2 t217 t219 x54_7 = some r) ∧ Aside0 (kq ≤ k) ∧ Aside0 (wc.heap[gb216]? = some (.cells #[.string a0_0, .int .i64 a0_1, .int .i64 a0_2, .int .i64 a0_3, (.slice A0_4 l0_4.length c0_4), (.slice A0_5 l0_5.length c0_5), (.slice A0_6 l0_6.length c0_6), .int .i64 a0_7, .int .i64 a0_8, .int .i64 a0_9, .int .i64 a0_10, .int .i64 a0_11, .int .i64 a0_12, .int .i64 a0_13, .int .i64 a0_14, .int .i64 a0_15, .int .i64 a0_16, .int .i64 a0_17] 26 (0, 0))) ∧ Aside0 (wc.heap[gb218]? = some (.cells #[.string a0_0, .int .i64 a0_1, .int .i64 a0_2, .int .i64 a0_3, (.slice A0_4 l0_4.length c0_4), (.slice A0_5 l0_5.length c0_5), (.slice A0_6 l0_6.length c0_6), .int .i64 a0_7, .int .i64 a0_8, .int .i64 a0_9, .int .i64 a0_10, .int .i64 a0_15, .int .i64 a0_16, .int .i64 a0_13, .int .i64 a0_14, .int .i64 a0_11, .int .i64 a0_12, .int .i64 a0_17] 26 (0, 0))) ∧ Aside0 (Below w.heap.size w wc))
    case first =>
      have H := HC8.out
      clear HC8
      by_cases c19 : a0_11 > a0_12
      · rw [if_pos c19] at H
        have c19b0 : decide (a0_12 < a0_11) = true := decide_eq_true c19
        clear c19
        (first | rw [c19b0] | (simp only [i64_w, i32_w]; rw [c19b0]) | skip)
        have H' := Aside0.mk H
        clear H
        have hnb20 := NB216_218.out
        have hnc20 := NB218_216.out
        have hcz21_0 : w18.cell? ⟨gb216, 0, none⟩ = some (.string a0_0) := (blk_cell BK216.out 0).trans rfl
        have hcz21_1 : w18.cell? ⟨gb216, 1, none⟩ = some (.int .i64 a0_1) := (blk_cell BK216.out 1).trans rfl
        have hcz21_2 : w18.cell? ⟨gb216, 2, none⟩ = some (.int .i64 a0_2) := (blk_cell BK216.out 2).trans rfl
        have hcz21_3 : w18.cell? ⟨gb216, 3, none⟩ = some (.int .i64 a0_3) := (blk_cell BK216.out 3).trans rfl
        have hcz21_4 : w18.cell? ⟨gb216, 4, none⟩ = some (.slice A0_4 l0_4.length c0_4) := (blk_cell BK216.out 4).trans rfl
        have hcz21_5 : w18.cell? ⟨gb216, 5, none⟩ = some (.slice A0_5 l0_5.length c0_5) := (blk_cell BK216.out 5).trans rfl
        have hcz21_6 : w18.cell? ⟨gb216, 6, none⟩ = some (.slice A0_6 l0_6.length c0_6) := (blk_cell BK216.out 6).trans rfl
        have hcz21_7 : w18.cell? ⟨gb216, 7, none⟩ = some (.int .i64 a0_7) := (blk_cell BK216.out 7).trans rfl
        have hcz21_8 : w18.cell? ⟨gb216, 8, none⟩ = some (.int .i64 a0_8) := (blk_cell BK216.out 8).trans rfl
        have hcz21_9 : w18.cell? ⟨gb216, 9, none⟩ = some (.int .i64 a0_9) := (blk_cell BK216.out 9).trans rfl
        have hcz21_10 : w18.cell? ⟨gb216, 10, none⟩ = some (.int .i64 a0_10) := (blk_cell BK216.out 10).trans rfl
        have hcz21_11 : w18.cell? ⟨gb216, 11, none⟩ = some (.int .i64 a0_11) := (blk_cell BK216.out 11).trans rfl
        have hcz21_12 : w18.cell? ⟨gb216, 12, none⟩ = some (.int .i64 a0_12) := (blk_cell BK216.out 12).trans rfl
        have hcz21_13 : w18.cell? ⟨gb216, 13, none⟩ = some (.int .i64 a0_13) := (blk_cell BK216.out 13).trans rfl
        have hcz21_14 : w18.cell? ⟨gb216, 14, none⟩ = some (.int .i64 a0_14) := (blk_cell BK216.out 14).trans rfl
        have hcz21_15 : w18.cell? ⟨gb216, 15, none⟩ = some (.int .i64 a0_15) := (blk_cell BK216.out 15).trans rfl
        have hcz21_16 : w18.cell? ⟨gb216, 16, none⟩ = some (.int .i64 a0_16) := (blk_cell BK216.out 16).trans rfl
        have hcz21_17 : w18.cell? ⟨gb216, 17, none⟩ = some (.int .i64 a0_17) := (blk_cell BK216.out 17).trans rfl
        have hfz21_0 := blk_frozen BK216.out 0
        have hfz21_1 := blk_frozen BK216.out 1
        have hfz21_2 := blk_frozen BK216.out 2
        have hfz21_3 := blk_frozen BK216.out 3
        have hfz21_4 := blk_frozen BK216.out 4
        have hfz21_5 := blk_frozen BK216.out 5
        have hfz21_6 := blk_frozen BK216.out 6
        have hfz21_7 := blk_frozen BK216.out 7
        have hfz21_8 := blk_frozen BK216.out 8
        have hfz21_9 := blk_frozen BK216.out 9
        have hfz21_10 := blk_frozen BK216.out 10
        have hfz21_11 := blk_frozen BK216.out 11
        have hfz21_12 := blk_frozen BK216.out 12
        have hfz21_13 := blk_frozen BK216.out 13
        have hfz21_14 := blk_frozen BK216.out 14
        have hfz21_15 := blk_frozen BK216.out 15
        have hfz21_16 := blk_frozen BK216.out 16
        have hfz21_17 := blk_frozen BK216.out 17
        as_aux_lemma =>
          go_wp2
          go_meet
          case rel => exact ⟨_, (true), (by first | rfl | (simp; done) | (simp [*]; done)), H', ⟨by first | omega | exact Nat.le_refl _⟩, ⟨by (with_reducible repeat (first | refine blk_drewN ?_ _ | refine blk_drew ?_ | refine blk_alloc ?_ _)); exact BK216.out⟩, ⟨by (with_reducible repeat (first | refine blk_drewN ?_ _ | refine blk_drew ?_ | refine blk_alloc ?_ _)); exact BK218.out⟩, ⟨by repeat (first | (with_reducible first | exact HB.out | apply below_alloc | apply pw_below_drewN | apply below_drew1 | refine below_set ?_ GE216.out | refine below_set ?_ GE218.out) | exact HB.out)⟩⟩
      · rw [if_neg c19] at H
        have c19b0 : decide (a0_12 < a0_11) = false := decide_eq_false c19
        clear c19
        (first | rw [c19b0] | (simp only [i64_w, i32_w]; rw [c19b0]) | skip)
        by_cases c22 : a0_15 > a0_16
        · rw [if_pos c22] at H
          have c22b0 : decide (a0_16 < a0_15) = true := decide_eq_true c22
          clear c22
          have H' := Aside0.mk H
          clear H
          have hnb23 := NB216_218.out
          have hnc23 := NB218_216.out
          have hcz24_0 : w18.cell? ⟨gb216, 0, none⟩ = some (.string a0_0) := (blk_cell BK216.out 0).trans rfl
          have hcz24_1 : w18.cell? ⟨gb216, 1, none⟩ = some (.int .i64 a0_1) := (blk_cell BK216.out 1).trans rfl
          have hcz24_2 : w18.cell? ⟨gb216, 2, none⟩ = some (.int .i64 a0_2) := (blk_cell BK216.out 2).trans rfl
          have hcz24_3 : w18.cell? ⟨gb216, 3, none⟩ = some (.int .i64 a0_3) := (blk_cell BK216.out 3).trans rfl
          have hcz24_4 : w18.cell? ⟨gb216, 4, none⟩ = some (.slice A0_4 l0_4.length c0_4) := (blk_cell BK216.out 4).trans rfl
          have hcz24_5 : w18.cell? ⟨gb216, 5, none⟩ = some (.slice A0_5 l0_5.length c0_5) := (blk_cell BK216.out 5).trans rfl
          have hcz24_6 : w18.cell? ⟨gb216, 6, none⟩ = some (.slice A0_6 l0_6.length c0_6) := (blk_cell BK216.out 6).trans rfl
          have hcz24_7 : w18.cell? ⟨gb216, 7, none⟩ = some (.int .i64 a0_7) := (blk_cell BK216.out 7).trans rfl
          have hcz24_8 : w18.cell? ⟨gb216, 8, none⟩ = some (.int .i64 a0_8) := (blk_cell BK216.out 8).trans rfl
          have hcz24_9 : w18.cell? ⟨gb216, 9, none⟩ = some (.int .i64 a0_9) := (blk_cell BK216.out 9).trans rfl
          have hcz24_10 : w18.cell? ⟨gb216, 10, none⟩ = some (.int .i64 a0_10) := (blk_cell BK216.out 10).trans rfl
          have hcz24_11 : w18.cell? ⟨gb216, 11, none⟩ = some (.int .i64 a0_11) := (blk_cell BK216.out 11).trans rfl
          have hcz24_12 : w18.cell? ⟨gb216, 12, none⟩ = some (.int .i64 a0_12) := (blk_cell BK216.out 12).trans rfl
          have hcz24_13 : w18.cell? ⟨gb216, 13, none⟩ = some (.int .i64 a0_13) := (blk_cell BK216.out 13).trans rfl
          have hcz24_14 : w18.cell? ⟨gb216, 14, none⟩ = some (.int .i64 a0_14) := (blk_cell BK216.out 14).trans rfl
          have hcz24_15 : w18.cell? ⟨gb216, 15, none⟩ = some (.int .i64 a0_15) := (blk_cell BK216.out 15).trans rfl
          have hcz24_16 : w18.cell? ⟨gb216, 16, none⟩ = some (.int .i64 a0_16) := (blk_cell BK216.out 16).trans rfl
          have hcz24_17 : w18.cell? ⟨gb216, 17, none⟩ = some (.int .i64 a0_17) := (blk_cell BK216.out 17).trans rfl
          have hfz24_0 := blk_frozen BK216.out 0
          have hfz24_1 := blk_frozen BK216.out 1
          have hfz24_2 := blk_frozen BK216.out 2
          have hfz24_3 := blk_frozen BK216.out 3
          have hfz24_4 := blk_frozen BK216.out 4
          have hfz24_5 := blk_frozen BK216.out 5
          have hfz24_6 := blk_frozen BK216.out 6
          have hfz24_7 := blk_frozen BK216.out 7
          have hfz24_8 := blk_frozen BK216.out 8
          have hfz24_9 := blk_frozen BK216.out 9
          have hfz24_10 := blk_frozen BK216.out 10
          have hfz24_11 := blk_frozen BK216.out 11
          have hfz24_12 := blk_frozen BK216.out 12
          have hfz24_13 := blk_frozen BK216.out 13
          have hfz24_14 := blk_frozen BK216.out 14
          have hfz24_15 := blk_frozen BK216.out 15
          have hfz24_16 := blk_frozen BK216.out 16
          have hfz24_17 := blk_frozen BK216.out 17
          as_aux_lemma =>
            go_wp2
            go_meet
            case rel => exact ⟨_, (true), (by first | rfl | (simp; done) | (simp [*]; done)), H', ⟨by first | omega | exact Nat.le_refl _⟩, ⟨by (with_reducible repeat (first | refine blk_drewN ?_ _ | refine blk_drew ?_ | refine blk_alloc ?_ _)); exact BK216.out⟩, ⟨by (with_reducible repeat (first | refine blk_drewN ?_ _ | refine blk_drew ?_ | refine blk_alloc ?_ _)); exact BK218.out⟩, ⟨by repeat (first | (with_reducible first | exact HB.out | apply below_alloc | apply pw_below_drewN | apply below_drew1 | refine below_set ?_ GE216.out | refine below_set ?_ GE218.out) | exact HB.out)⟩⟩
        · rw [if_neg c22] at H
          have c22b0 : decide (a0_16 < a0_15) = false := decide_eq_false c22
          clear c22
          by_cases c25 : a1 < 0
          · rw [if_pos c25] at H
            have c25b0 : decide (a1 < 0) = true := decide_eq_true c25
            clear c25
            have H' := Aside0.mk H
            clear H
            have hnb26 := NB216_218.out
            have hnc26 := NB218_216.out
            have hcz27_0 : w18.cell? ⟨gb216, 0, none⟩ = some (.string a0_0) := (blk_cell BK216.out 0).trans rfl
            have hcz27_1 : w18.cell? ⟨gb216, 1, none⟩ = some (.int .i64 a0_1) := (blk_cell BK216.out 1).trans rfl
            have hcz27_2 : w18.cell? ⟨gb216, 2, none⟩ = some (.int .i64 a0_2) := (blk_cell BK216.out 2).trans rfl
            have hcz27_3 : w18.cell? ⟨gb216, 3, none⟩ = some (.int .i64 a0_3) := (blk_cell BK216.out 3).trans rfl
            have hcz27_4 : w18.cell? ⟨gb216, 4, none⟩ = some (.slice A0_4 l0_4.length c0_4) := (blk_cell BK216.out 4).trans rfl
            have hcz27_5 : w18.cell? ⟨gb216, 5, none⟩ = some (.slice A0_5 l0_5.length c0_5) := (blk_cell BK216.out 5).trans rfl
            have hcz27_6 : w18.cell? ⟨gb216, 6, none⟩ = some (.slice A0_6 l0_6.length c0_6) := (blk_cell BK216.out 6).trans rfl
            have hcz27_7 : w18.cell? ⟨gb216, 7, none⟩ = some (.int .i64 a0_7) := (blk_cell BK216.out 7).trans rfl
            have hcz27_8 : w18.cell? ⟨gb216, 8, none⟩ = some (.int .i64 a0_8) := (blk_cell BK216.out 8).trans rfl
            have hcz27_9 : w18.cell? ⟨gb216, 9, none⟩ = some (.int .i64 a0_9) := (blk_cell BK216.out 9).trans rfl
            have hcz27_10 : w18.cell? ⟨gb216, 10, none⟩ = some (.int .i64 a0_10) := (blk_cell BK216.out 10).trans rfl
            have hcz27_11 : w18.cell? ⟨gb216, 11, none⟩ = some (.int .i64 a0_11) := (blk_cell BK216.out 11).trans rfl
            have hcz27_12 : w18.cell? ⟨gb216, 12, none⟩ = some (.int .i64 a0_12) := (blk_cell BK216.out 12).trans rfl
            have hcz27_13 : w18.cell? ⟨gb216, 13, none⟩ = some (.int .i64 a0_13) := (blk_cell BK216.out 13).trans rfl
            have hcz27_14 : w18.cell? ⟨gb216, 14, none⟩ = some (.int .i64 a0_14) := (blk_cell BK216.out 14).trans rfl
            have hcz27_15 : w18.cell? ⟨gb216, 15, none⟩ = some (.int .i64 a0_15) := (blk_cell BK216.out 15).trans rfl
            have hcz27_16 : w18.cell? ⟨gb216, 16, none⟩ = some (.int .i64 a0_16) := (blk_cell BK216.out 16).trans rfl
            have hcz27_17 : w18.cell? ⟨gb216, 17, none⟩ = some (.int .i64 a0_17) := (blk_cell BK216.out 17).trans rfl
            have hfz27_0 := blk_frozen BK216.out 0
            have hfz27_1 := blk_frozen BK216.out 1
            have hfz27_2 := blk_frozen BK216.out 2
            have hfz27_3 := blk_frozen BK216.out 3
            have hfz27_4 := blk_frozen BK216.out 4
            have hfz27_5 := blk_frozen BK216.out 5
            have hfz27_6 := blk_frozen BK216.out 6
            have hfz27_7 := blk_frozen BK216.out 7
            have hfz27_8 := blk_frozen BK216.out 8
            have hfz27_9 := blk_frozen BK216.out 9
            have hfz27_10 := blk_frozen BK216.out 10
            have hfz27_11 := blk_frozen BK216.out 11
            have hfz27_12 := blk_frozen BK216.out 12
            have hfz27_13 := blk_frozen BK216.out 13
            have hfz27_14 := blk_frozen BK216.out 14
            have hfz27_15 := blk_frozen BK216.out 15
            have hfz27_16 := blk_frozen BK216.out 16
            have hfz27_17 := blk_frozen BK216.out 17
            as_aux_lemma =>
              go_wp2
              go_meet
              case rel => exact ⟨_, (true), (by first | rfl | (simp; done) | (simp [*]; done)), H', ⟨by first | omega | exact Nat.le_refl _⟩, ⟨by (with_reducible repeat (first | refine blk_drewN ?_ _ | refine blk_drew ?_ | refine blk_alloc ?_ _)); exact BK216.out⟩, ⟨by (with_reducible repeat (first | refine blk_drewN ?_ _ | refine blk_drew ?_ | refine blk_alloc ?_ _)); exact BK218.out⟩, ⟨by repeat (first | (with_reducible first | exact HB.out | apply below_alloc | apply pw_below_drewN | apply below_drew1 | refine below_set ?_ GE216.out | refine below_set ?_ GE218.out) | exact HB.out)⟩⟩
          · rw [if_neg c25] at H
            have c25b0 : decide (a1 < 0) = false := decide_eq_false c25
            clear c25
            have H' := Aside0.mk H
            clear H
            have hnb28 := NB216_218.out
            have hnc28 := NB218_216.out
            have hcz29_0 : w18.cell? ⟨gb216, 0, none⟩ = some (.string a0_0) := (blk_cell BK216.out 0).trans rfl
            have hcz29_1 : w18.cell? ⟨gb216, 1, none⟩ = some (.int .i64 a0_1) := (blk_cell BK216.out 1).trans rfl
            have hcz29_2 : w18.cell? ⟨gb216, 2, none⟩ = some (.int .i64 a0_2) := (blk_cell BK216.out 2).trans rfl
            have hcz29_3 : w18.cell? ⟨gb216, 3, none⟩ = some (.int .i64 a0_3) := (blk_cell BK216.out 3).trans rfl
            have hcz29_4 : w18.cell? ⟨gb216, 4, none⟩ = some (.slice A0_4 l0_4.length c0_4) := (blk_cell BK216.out 4).trans rfl
            have hcz29_5 : w18.cell? ⟨gb216, 5, none⟩ = some (.slice A0_5 l0_5.length c0_5) := (blk_cell BK216.out 5).trans rfl
            have hcz29_6 : w18.cell? ⟨gb216, 6, none⟩ = some (.slice A0_6 l0_6.length c0_6) := (blk_cell BK216.out 6).trans rfl
            have hcz29_7 : w18.cell? ⟨gb216, 7, none⟩ = some (.int .i64 a0_7) := (blk_cell BK216.out 7).trans rfl
            have hcz29_8 : w18.cell? ⟨gb216, 8, none⟩ = some (.int .i64 a0_8) := (blk_cell BK216.out 8).trans rfl
            have hcz29_9 : w18.cell? ⟨gb216, 9, none⟩ = some (.int .i64 a0_9) := (blk_cell BK216.out 9).trans rfl
            have hcz29_10 : w18.cell? ⟨gb216, 10, none⟩ = some (.int .i64 a0_10) := (blk_cell BK216.out 10).trans rfl
            have hcz29_11 : w18.cell? ⟨gb216, 11, none⟩ = some (.int .i64 a0_11) := (blk_cell BK216.out 11).trans rfl
            have hcz29_12 : w18.cell? ⟨gb216, 12, none⟩ = some (.int .i64 a0_12) := (blk_cell BK216.out 12).trans rfl
            have hcz29_13 : w18.cell? ⟨gb216, 13, none⟩ = some (.int .i64 a0_13) := (blk_cell BK216.out 13).trans rfl
            have hcz29_14 : w18.cell? ⟨gb216, 14, none⟩ = some (.int .i64 a0_14) := (blk_cell BK216.out 14).trans rfl
            have hcz29_15 : w18.cell? ⟨gb216, 15, none⟩ = some (.int .i64 a0_15) := (blk_cell BK216.out 15).trans rfl
            have hcz29_16 : w18.cell? ⟨gb216, 16, none⟩ = some (.int .i64 a0_16) := (blk_cell BK216.out 16).trans rfl
            have hcz29_17 : w18.cell? ⟨gb216, 17, none⟩ = some (.int .i64 a0_17) := (blk_cell BK216.out 17).trans rfl
            have hfz29_0 := blk_frozen BK216.out 0
            have hfz29_1 := blk_frozen BK216.out 1
            have hfz29_2 := blk_frozen BK216.out 2
            have hfz29_3 := blk_frozen BK216.out 3
            have hfz29_4 := blk_frozen BK216.out 4
            have hfz29_5 := blk_frozen BK216.out 5
            have hfz29_6 := blk_frozen BK216.out 6
            have hfz29_7 := blk_frozen BK216.out 7
            have hfz29_8 := blk_frozen BK216.out 8
            have hfz29_9 := blk_frozen BK216.out 9
            have hfz29_10 := blk_frozen BK216.out 10
            have hfz29_11 := blk_frozen BK216.out 11
            have hfz29_12 := blk_frozen BK216.out 12
            have hfz29_13 := blk_frozen BK216.out 13
            have hfz29_14 := blk_frozen BK216.out 14
            have hfz29_15 := blk_frozen BK216.out 15
            have hfz29_16 := blk_frozen BK216.out 16
            have hfz29_17 := blk_frozen BK216.out 17
            as_aux_lemma =>
              go_wp2
              go_meet
              case rel => exact ⟨_, (decide (a2 < 0)), (by first | rfl | (simp; done) | (simp [*]; done)), H', ⟨by first | omega | exact Nat.le_refl _⟩, ⟨by (with_reducible repeat (first | refine blk_drewN ?_ _ | refine blk_drew ?_ | refine blk_alloc ?_ _)); exact BK216.out⟩, ⟨by (with_reducible repeat (first | refine blk_drewN ?_ _ | refine blk_drew ?_ | refine blk_alloc ?_ _)); exact BK218.out⟩, ⟨by repeat (first | (with_reducible first | exact HB.out | apply below_alloc | apply pw_below_drewN | apply below_drew1 | refine below_set ?_ GE216.out | refine below_set ?_ GE218.out) | exact HB.out)⟩⟩
    case rest =>
      clear HC8
      try clear c1
      try clear c2
      try clear p2
      try clear c4
      try clear p6
      try clear c7
      try clear c7b0
      try clear c7b1
      try clear c9
      try clear c10
      try clear c13
      try clear c19
      try clear c19b0
      try clear c20
      try clear c22
      try clear c22b0
      try clear c23
      try clear c25
      try clear c25b0
      try clear c26
      try clear c28
      try clear hcz11_0
      try clear hcz11_1
      try clear hcz11_10
      try clear hcz11_11
      try clear hcz11_12
      try clear hcz11_13
      try clear hcz11_14
      try clear hcz11_15
      try clear hcz11_16
      try clear hcz11_17
      try clear hcz11_2
      try clear hcz11_3
      try clear hcz11_4
      try clear hcz11_5
      try clear hcz11_6
      try clear hcz11_7
      try clear hcz11_8
      try clear hcz11_9
      try clear hcz14_0
      try clear hcz14_1
      try clear hcz14_10
      try clear hcz14_11
      try clear hcz14_12
      try clear hcz14_13
      try clear hcz14_14
      try clear hcz14_15
      try clear hcz14_16
      try clear hcz14_17
      try clear hcz14_2
      try clear hcz14_3
      try clear hcz14_4
      try clear hcz14_5
      try clear hcz14_6
      try clear hcz14_7
      try clear hcz14_8
      try clear hcz14_9
      try clear hcz15_0
      try clear hcz15_1
      try clear hcz15_10
      try clear hcz15_11
      try clear hcz15_12
      try clear hcz15_13
      try clear hcz15_14
      try clear hcz15_15
      try clear hcz15_16
      try clear hcz15_17
      try clear hcz15_2
      try clear hcz15_3
      try clear hcz15_4
      try clear hcz15_5
      try clear hcz15_6
      try clear hcz15_7
      try clear hcz15_8
      try clear hcz15_9
      try clear hcz17_0
      try clear hcz17_1
      try clear hcz17_10
      try clear hcz17_11
      try clear hcz17_12
      try clear hcz17_13
      try clear hcz17_14
      try clear hcz17_15
      try clear hcz17_16
      try clear hcz17_17
      try clear hcz17_2
      try clear hcz17_3
      try clear hcz17_4
      try clear hcz17_5
      try clear hcz17_6
      try clear hcz17_7
      try clear hcz17_8
      try clear hcz17_9
      try clear hcz21_0
      try clear hcz21_1
      try clear hcz21_10
      try clear hcz21_11
      try clear hcz21_12
      try clear hcz21_13
      try clear hcz21_14
      try clear hcz21_15
      try clear hcz21_16
      try clear hcz21_17
      try clear hcz21_2
      try clear hcz21_3
      try clear hcz21_4
      try clear hcz21_5
      try clear hcz21_6
      try clear hcz21_7
      try clear hcz21_8
      try clear hcz21_9
      try clear hcz24_0
      try clear hcz24_1
      try clear hcz24_10
      try clear hcz24_11
      try clear hcz24_12
      try clear hcz24_13
      try clear hcz24_14
      try clear hcz24_15
      try clear hcz24_16
      try clear hcz24_17
      try clear hcz24_2
      try clear hcz24_3
      try clear hcz24_4
      try clear hcz24_5
      try clear hcz24_6
      try clear hcz24_7
      try clear hcz24_8
      try clear hcz24_9
      try clear hcz27_0
      try clear hcz27_1
      try clear hcz27_10
      try clear hcz27_11
      try clear hcz27_12
      try clear hcz27_13
      try clear hcz27_14
      try clear hcz27_15
      try clear hcz27_16
      try clear hcz27_17
      try clear hcz27_2
      try clear hcz27_3
      try clear hcz27_4
      try clear hcz27_5
      try clear hcz27_6
      try clear hcz27_7
      try clear hcz27_8
      try clear hcz27_9
      try clear hcz29_0
      try clear hcz29_1
      try clear hcz29_10
      try clear hcz29_11
      try clear hcz29_12
      try clear hcz29_13
      try clear hcz29_14
      try clear hcz29_15
      try clear hcz29_16
      try clear hcz29_17
      try clear hcz29_2
      try clear hcz29_3
      try clear hcz29_4
      try clear hcz29_5
      try clear hcz29_6
      try clear hcz29_7
      try clear hcz29_8
      try clear hcz29_9
      try clear hfz11_0
      try clear hfz11_1
      try clear hfz11_10
      try clear hfz11_11
      try clear hfz11_12
      try clear hfz11_13
      try clear hfz11_14
      try clear hfz11_15
      try clear hfz11_16
      try clear hfz11_17
      try clear hfz11_2
      try clear hfz11_3
      try clear hfz11_4
      try clear hfz11_5
      try clear hfz11_6
      try clear hfz11_7
      try clear hfz11_8
      try clear hfz11_9
      try clear hfz14_0
      try clear hfz14_1
      try clear hfz14_10
      try clear hfz14_11
      try clear hfz14_12
      try clear hfz14_13
      try clear hfz14_14
      try clear hfz14_15
      try clear hfz14_16
      try clear hfz14_17
      try clear hfz14_2
      try clear hfz14_3
      try clear hfz14_4
      try clear hfz14_5
      try clear hfz14_6
      try clear hfz14_7
      try clear hfz14_8
      try clear hfz14_9
      try clear hfz15_0
      try clear hfz15_1
      try clear hfz15_10
      try clear hfz15_11
      try clear hfz15_12
      try clear hfz15_13
      try clear hfz15_14
      try clear hfz15_15
      try clear hfz15_16
      try clear hfz15_17
      try clear hfz15_2
      try clear hfz15_3
      try clear hfz15_4
      try clear hfz15_5
      try clear hfz15_6
      try clear hfz15_7
      try clear hfz15_8
      try clear hfz15_9
      try clear hfz17_0
      try clear hfz17_1
      try clear hfz17_10
      try clear hfz17_11
      try clear hfz17_12
      try clear hfz17_13
      try clear hfz17_14
      try clear hfz17_15
      try clear hfz17_16
      try clear hfz17_17
      try clear hfz17_2
      try clear hfz17_3
      try clear hfz17_4
      try clear hfz17_5
      try clear hfz17_6
      try clear hfz17_7
      try clear hfz17_8
      try clear hfz17_9
      try clear hfz21_0
      try clear hfz21_1
      try clear hfz21_10
      try clear hfz21_11
      try clear hfz21_12
      try clear hfz21_13
      try clear hfz21_14
      try clear hfz21_15
      try clear hfz21_16
      try clear hfz21_17
      try clear hfz21_2
      try clear hfz21_3
      try clear hfz21_4
      try clear hfz21_5
      try clear hfz21_6
      try clear hfz21_7
      try clear hfz21_8
      try clear hfz21_9
      try clear hfz24_0
      try clear hfz24_1
      try clear hfz24_10
      try clear hfz24_11
      try clear hfz24_12
      try clear hfz24_13
      try clear hfz24_14
      try clear hfz24_15
      try clear hfz24_16
      try clear hfz24_17
      try clear hfz24_2
      try clear hfz24_3
      try clear hfz24_4
      try clear hfz24_5
      try clear hfz24_6
      try clear hfz24_7
      try clear hfz24_8
      try clear hfz24_9
      try clear hfz27_0
      try clear hfz27_1
      try clear hfz27_10
      try clear hfz27_11
      try clear hfz27_12
      try clear hfz27_13
      try clear hfz27_14
      try clear hfz27_15
      try clear hfz27_16
      try clear hfz27_17
      try clear hfz27_2
      try clear hfz27_3
      try clear hfz27_4
      try clear hfz27_5
      try clear hfz27_6
      try clear hfz27_7
      try clear hfz27_8
      try clear hfz27_9
      try clear hfz29_0
      try clear hfz29_1
      try clear hfz29_10
      try clear hfz29_11
      try clear hfz29_12
      try clear hfz29_13
      try clear hfz29_14
      try clear hfz29_15
      try clear hfz29_16
      try clear hfz29_17
      try clear hfz29_2
      try clear hfz29_3
      try clear hfz29_4
      try clear hfz29_5
      try clear hfz29_6
      try clear hfz29_7
      try clear hfz29_8
      try clear hfz29_9
      obtain ⟨kq, x54_7, rfl, HA, HJ7, BK216, BK218, HB⟩ := hcut
      cases kq with
      | zero => exact absurd HA.out (by simp [bournelaw20_SeepTurns.j0])
      | succ kj7 =>
        have H := HA.out
        clear HA
        simp only [bournelaw20_SeepTurns.j0] at H
        by_cases c30 : x54_7 = true
        · subst c30
          have H1 : (some t217) = some r := by rw [if_pos rfl] at H; exact H
          clear H
          have H := H1
          clear H1
          obtain rfl := Option.some.inj H
          as_aux_lemma =>
            go_wp2
            go_ret
            exact ⟨by first | rfl | (simp [errW_none, errW_some] <;> rfl) | (simp [*, errW_none, errW_some] <;> rfl), by repeat (first | (with_reducible first | exact HB.out | apply below_alloc | apply pw_below_drewN | apply below_drew1 | refine below_set ?_ GE216.out | refine below_set ?_ GE218.out) | exact HB.out)⟩
        · replace c30 := Bool.eq_false_iff.mpr c30
          subst c30
          have H1 : (if t217 = true then (if t219 ≤ a1 then (some (decide ((wrap64 (-t219)) ≤ a2))) else (some false)) else (some false)) = some r := by rw [if_neg (show ¬ (false = true) by decide)] at H; exact H
          clear H
          have H := H1
          clear H1
          by_cases c31 : t217 = true
          · subst c31
            have H1 : (if t219 ≤ a1 then (some (decide ((wrap64 (-t219)) ≤ a2))) else (some false)) = some r := by rw [if_pos rfl] at H; exact H
            clear H
            have H := H1
            clear H1
            by_cases c32 : t219 ≤ a1
            · rw [if_pos c32] at H
              have c32b0 : decide (t219 ≤ a1) = true := decide_eq_true c32
              clear c32
              obtain rfl := Option.some.inj H
              as_aux_lemma =>
                go_wp2
                go_ret
                exact ⟨by first | rfl | (simp [errW_none, errW_some] <;> rfl) | (simp [*, errW_none, errW_some] <;> rfl), by repeat (first | (with_reducible first | exact HB.out | apply below_alloc | apply pw_below_drewN | apply below_drew1 | refine below_set ?_ GE216.out | refine below_set ?_ GE218.out) | exact HB.out)⟩
            · rw [if_neg c32] at H
              have c32b0 : decide (t219 ≤ a1) = false := decide_eq_false c32
              clear c32
              exact absurd (H.trans (congrArg some hT.out)) (by simp)
          · replace c31 := Bool.eq_false_iff.mpr c31
            subst c31
            have H1 : (some false) = some r := by rw [if_neg (show ¬ (false = true) by decide)] at H; exact H
            clear H
            have H := H1
            clear H1
            exact absurd (H.trans (congrArg some hT.out)) (by simp)
  · rw [if_neg c7] at H
    have c7b0 : (t220 == (wrap64 (-t219))) = false := beq_eq_false_iff_ne.mpr c7
    have c7b1 : (t220 != (wrap64 (-t219))) = true := bne_iff_ne.mpr c7
    exact absurd (H.trans (congrArg some hT.out)) (by simp)
def bournelaw20_SeepTurns.Pure : Prop := ∀ (a0_0 : ByteArray) (a0_1 : Int) (a0_2 : Int) (a0_3 : Int) (l0_4 : List (S90)) (l0_5 : List (S90)) (l0_6 : List (S90)) (a0_7 : Int) (a0_8 : Int) (a0_9 : Int) (a0_10 : Int) (a0_11 : Int) (a0_12 : Int) (a0_13 : Int) (a0_14 : Int) (a0_15 : Int) (a0_16 : Int) (a0_17 : Int) (a1 : Int) (a2 : Int), a0_0.size ≤ maxLen → (Lit.int .i64 a0_1).wf = true → (Lit.int .i64 a0_2).wf = true → (Lit.int .i64 a0_3).wf = true → l0_4.length ≤ maxLen → (∀ y, y ∈ l0_4 → w90 y) → l0_5.length ≤ maxLen → (∀ y, y ∈ l0_5 → w90 y) → l0_6.length ≤ maxLen → (∀ y, y ∈ l0_6 → w90 y) → (Lit.int .i64 a0_7).wf = true → (Lit.int .i64 a0_8).wf = true → (Lit.int .i64 a0_9).wf = true → (Lit.int .i64 a0_10).wf = true → (Lit.int .i64 a0_11).wf = true → (Lit.int .i64 a0_12).wf = true → (Lit.int .i64 a0_13).wf = true → (Lit.int .i64 a0_14).wf = true → (Lit.int .i64 a0_15).wf = true → (Lit.int .i64 a0_16).wf = true → (Lit.int .i64 a0_17).wf = true → (Lit.int .i64 a1).wf = true → (Lit.int .i64 a2).wf = true → ∃ k, bournelaw20_SeepTurns.f k a0_0 a0_1 a0_2 a0_3 l0_4 l0_5 l0_6 a0_7 a0_8 a0_9 a0_10 a0_11 a0_12 a0_13 a0_14 a0_15 a0_16 a0_17 a1 a2 = some true
theorem bournelaw20_SeepTurns.walk (P_ : bournelaw20_SeepTurns.Pure) (a0_0 : ByteArray) (a0_1 : Int) (a0_2 : Int) (a0_3 : Int) (A0_4 : Option Addr) (c0_4 : Nat) (l0_4 : List (S90)) (A0_5 : Option Addr) (c0_5 : Nat) (l0_5 : List (S90)) (A0_6 : Option Addr) (c0_6 : Nat) (l0_6 : List (S90)) (a0_7 : Int) (a0_8 : Int) (a0_9 : Int) (a0_10 : Int) (a0_11 : Int) (a0_12 : Int) (a0_13 : Int) (a0_14 : Int) (a0_15 : Int) (a0_16 : Int) (a0_17 : Int) (a1 : Int) (a2 : Int) (w : World) (hr0_4 : Kd.C k90 w A0_4 l0_4.length l0_4) (hc0_4 : l0_4.length ≤ c0_4) (hr0_5 : Kd.C k90 w A0_5 l0_5.length l0_5) (hc0_5 : l0_5.length ≤ c0_5) (hr0_6 : Kd.C k90 w A0_6 l0_6.length l0_6) (hc0_6 : l0_6.length ≤ c0_6) (y0 : a0_0.size ≤ maxLen) (y1 : (Lit.int .i64 a0_1).wf = true) (y2 : (Lit.int .i64 a0_2).wf = true) (y3 : (Lit.int .i64 a0_3).wf = true) (y4 : l0_4.length ≤ maxLen) (y5 : (∀ y, y ∈ l0_4 → w90 y)) (y6 : l0_5.length ≤ maxLen) (y7 : (∀ y, y ∈ l0_5 → w90 y)) (y8 : l0_6.length ≤ maxLen) (y9 : (∀ y, y ∈ l0_6 → w90 y)) (y10 : (Lit.int .i64 a0_7).wf = true) (y11 : (Lit.int .i64 a0_8).wf = true) (y12 : (Lit.int .i64 a0_9).wf = true) (y13 : (Lit.int .i64 a0_10).wf = true) (y14 : (Lit.int .i64 a0_11).wf = true) (y15 : (Lit.int .i64 a0_12).wf = true) (y16 : (Lit.int .i64 a0_13).wf = true) (y17 : (Lit.int .i64 a0_14).wf = true) (y18 : (Lit.int .i64 a0_15).wf = true) (y19 : (Lit.int .i64 a0_16).wf = true) (y20 : (Lit.int .i64 a0_17).wf = true) (y21 : (Lit.int .i64 a1).wf = true) (y22 : (Lit.int .i64 a2).wf = true) :
    Calls Try.prog 4 #[.agg #[.string a0_0, .int .i64 a0_1, .int .i64 a0_2, .int .i64 a0_3, .slice A0_4 l0_4.length c0_4, .slice A0_5 l0_5.length c0_5, .slice A0_6 l0_6.length c0_6, .int .i64 a0_7, .int .i64 a0_8, .int .i64 a0_9, .int .i64 a0_10, .int .i64 a0_11, .int .i64 a0_12, .int .i64 a0_13, .int .i64 a0_14, .int .i64 a0_15, .int .i64 a0_16, .int .i64 a0_17], .int .i64 a1, .int .i64 a2] w fun e w' => e = .returned (.bool true) ∧ Below w.heap.size w w' := by
  obtain ⟨k, h⟩ := P_ a0_0 a0_1 a0_2 a0_3 l0_4 l0_5 l0_6 a0_7 a0_8 a0_9 a0_10 a0_11 a0_12 a0_13 a0_14 a0_15 a0_16 a0_17 a1 a2 y0 y1 y2 y3 y4 y5 y6 y7 y8 y9 y10 y11 y12 y13 y14 y15 y16 y17 y18 y19 y20 y21 y22
  refine (bournelaw20_SeepTurns.calls k a0_0 a0_1 a0_2 a0_3 A0_4 c0_4 l0_4 A0_5 c0_5 l0_5 A0_6 c0_6 l0_6 a0_7 a0_8 a0_9 a0_10 a0_11 a0_12 a0_13 a0_14 a0_15 a0_16 a0_17 a1 a2 true w hr0_4 hc0_4 hr0_5 hc0_5 hr0_6 hc0_6 ⟨rfl⟩ h).mono ?_
  rintro e w' ⟨rfl, hd⟩
  exact ⟨rfl, hd⟩

end Go.Proofs.Ytacpiaiohcblfaa.Fn
